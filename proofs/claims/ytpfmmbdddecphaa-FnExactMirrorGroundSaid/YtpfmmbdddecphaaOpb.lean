/- More laws of operations over 'St': slices that are built, cut and cleared; a block turned into an owned row; cells rewritten in a row. Plain laws over any program. -/
import Derived.Test.YtpfmmbdddecphaaOps
namespace Go.Proofs.Ytpfmmbdddecphaa
open Go.RowKit Go.Sort
set_option linter.unusedVariables false
set_option linter.unusedSimpArgs false

section
variable {P : Program} {ops : Array Oper} {rest : List Oper} {o : Oper} {a : Act} {Q : Exit → Act → World → Prop} {w0 w : World} {L : List Ent}

theorem grownBy_refl (w : World) (r : Option Nat) : w.grownBy w r := ⟨rfl, rfl, rfl, Nat.le_refl _, fun _ _ _ => rfl⟩
/-- A block whose cells are a row's is an owned row. -/
theorem St.own (S : St w0 w L) (k b : Nat) (t : TypeId) (cs : List Value) (hk : L[k]? = some (EB b t cs)) (sz n c : Nat) (xs : List Value) (hl : cs.length = c * sz) (hn : n ≤ c) (hc : c ≤ maxLen) (hxl : xs.length = n * sz) (hx : xs = cs.take (n * sz)) :
    St w0 w (L.set k (ER t sz (.slice (some ⟨b, 0, none⟩) n c) n xs)) :=
  S.mut k _ _ hk (grownBy_refl w _) ⟨hxl, .inr ⟨b, c, cs.toArray, rfl, Nat.zero_le _, S.get hk, hn, hc, by simpa using hl, by simpa using hx.symm⟩⟩ (.inr (.inl rfl))

/-- A slice built in place. -/
theorem W_bslice (S : St w0 w L) (hw : Region.wanted o (yielded ops a.tmps) = true) (T : TypeId) (len : Nat) (parts : Array (Nat × Operand)) (ho : o.op = .buildSlice T len parts) (e : TypeId) (cs : List Value)
    (hrun : ∀ w : World, (Instr.buildSlice T len (parts.map fun (i, x) => (i, a.eval x))).run P w = .ok (.slice (some ⟨w.heap.size, 0, none⟩) len len) (w.alloc (.cells cs.toArray e)))
    (h : ∀ b w', St w0 w' (EB b e cs :: L) → wpList P ops Q rest (a.put o.dst (.slice (some ⟨b, 0, none⟩) len len)) w') : wpList P ops Q (o :: rest) a w :=
  W_new S hw cs.toArray e (fun b => .slice (some ⟨b, 0, none⟩) len len) (fun w => by
    unfold execOp; simp only [ho]
    rw [Sem.run_bind, hrun w]; rfl) h

theorem run_storeRow (b off : Nat) (t : TypeId) (cs vs : List Value) (h1 : ∀ u ∈ vs, u.oneCell' = true) (hb : w.heap[b]? = some (.cells cs.toArray t (0, 0))) (hle : off + vs.length ≤ cs.length) :
    (storeCells ⟨b, off, none⟩ vs).run P w = .ok () (w.setRow b (cs.take off ++ vs ++ cs.drop (off + vs.length)).toArray) := by
  have := run_storeCells_at (P := P) b off t vs 0 cs.toArray w hb (by simpa using hle) h1
  simpa only [Nat.add_zero, Array.length_toList] using this

theorem setRow_self (w : World) (b : Nat) (t : TypeId) (cs : List Value) (hb : w.heap[b]? = some (.cells cs.toArray t (0, 0))) (w' : World) (h : w' = w) : St w w [] := St.refl w

/-- 'clear' on the tail of a block. -/
theorem W_clear (S : St w0 w L) (hw : Region.wanted o (yielded ops a.tmps) = true) (x : Operand) (T : TypeId) (ho : o.op = .call { callee := .builtin .clear, args := #[x], argTypes := #[T] })
    (k b : Nat) (t : TypeId) (cs : List Value) (hk : L[k]? = some (EB b t cs)) (off offa n c : Nat) (hx : a.eval x = .slice (some ⟨b, offa, none⟩) n c) (hoff : n = 0 ∨ offa = off) (e : TypeId) (hT : P.underlying T = some (.slice e)) (z : Value) (hz : ∀ w, (zeroValue e).run P w = .ok z w)
    (h1 : ∀ u ∈ z.cells.toList, u.oneCell' = true) (hle : off + n * z.cells.size ≤ cs.length)
    (h : ∀ w' cs', cs'.length = cs.length → cs'.take off = cs.take off → St w0 w' (L.set k (EB b t cs')) → wpList P ops Q rest (a.put o.dst (.tuple #[])) w') : wpList P ops Q (o :: rest) a w := by
  cases n with
  | zero =>
    refine wpl_val hw (v := .tuple #[]) (w' := w) ?_ (h w cs rfl rfl ?_)
    · unfold execOp
      simp only [ho, resolve, invoke, builtin, Sem.run_bind, Sem.run_pure, Result.andThen_ok, List.map_toArray, List.map_cons, List.map_nil, hx]
      simp [Builtin.clear_, run_underlying hT, Sem.run_bind]
    · have : L.set k (EB b t cs) = L := by
        apply List.ext_getElem?
        intro i
        by_cases hi : i = k
        · subst hi; rw [List.getElem?_set_self (by rcases Nat.lt_or_ge i L.length with h | h; exact h; rw [List.getElem?_eq_none h] at hk; cases hk), hk]
        · rw [List.getElem?_set_ne (by omega)]
      rw [this]; exact S
  | succ m =>
    obtain rfl : offa = off := by rcases hoff with h | h; cases h; exact h
    have hzl : (Builtin.zeroCells z.cells (m + 1)).toList.length = (m + 1) * z.cells.size := by simp [Builtin.zeroCells]
    have hz1 : ∀ u ∈ (Builtin.zeroCells z.cells (m + 1)).toList, u.oneCell' = true := by
      intro u hu
      simp only [Builtin.zeroCells, Array.toList_map, List.mem_map] at hu
      obtain ⟨i, hi, rfl⟩ := hu
      simp only [Array.toList_range, List.mem_range] at hi
      have h0 : 0 < z.cells.size := by
        rcases Nat.eq_zero_or_pos z.cells.size with h | h
        · rw [h] at hi; simp at hi
        · exact h
      have hlt := Nat.mod_lt i h0
      rw [getElem!_pos z.cells _ hlt]
      exact h1 _ (by simp)
    refine wpl_val hw (v := .tuple #[]) (w' := w.setRow b (cs.take offa ++ (Builtin.zeroCells z.cells (m + 1)).toList ++ cs.drop (offa + (Builtin.zeroCells z.cells (m + 1)).toList.length)).toArray) ?_ (h _ _ ?_ ?_ (S.put k b t cs _ hk))
    · unfold execOp
      simp only [ho, resolve, invoke, builtin, Sem.run_bind, Sem.run_pure, Result.andThen_ok, List.map_toArray, List.map_cons, List.map_nil, hx]
      have := run_storeRow (P := P) b offa t cs (Builtin.zeroCells z.cells (m + 1)).toList hz1 (S.get hk) (by rw [hzl]; exact hle)
      simp [Builtin.clear_, run_underlying hT, Sem.run_bind, hz, this]
    · simp only [List.length_append, List.length_take, List.length_drop, hzl]; omega
    · rw [List.append_assoc, List.take_append_of_le_length (by simp; omega), List.take_take, Nat.min_self]
end

theorem flat_set {α : Type} (enc : α → List Value) (sz : Nat) (he : ∀ x, (enc x).length = sz) (xs : List α) (i : Nat) (hi : i < xs.length) (x : α) : (xs.set i x).flatMap enc = (xs.flatMap enc).take (i * sz) ++ enc x ++ (xs.flatMap enc).drop (i * sz + sz) := by
  induction xs generalizing i with
  | nil => simp at hi
  | cons y ys ih =>
    cases i with
    | zero => simp [he, List.drop_append_of_le_length, List.drop_left' (he y)]
    | succ i =>
      have hi' : i < ys.length := by simpa using hi
      simp only [List.set_cons_succ, List.flatMap_cons, ih i hi']
      rw [show (i + 1) * sz = sz + i * sz by rw [Nat.succ_mul]; omega]
      rw [List.take_append, List.drop_append, he, Nat.add_sub_cancel_left, List.take_of_length_le (l := enc y) (by rw [he]; omega), (List.drop_eq_nil_of_le (by rw [he]; omega) : (enc y).drop (sz + i * sz + sz) = []), show sz + i * sz + sz - sz = i * sz + sz by omega]
      simp
theorem flat_take {α : Type} (enc : α → List Value) (sz : Nat) (he : ∀ x, (enc x).length = sz) (xs : List α) (i : Nat) : (xs.take i).flatMap enc = (xs.flatMap enc).take (i * sz) := by
  induction xs generalizing i with
  | nil => simp
  | cons y ys ih =>
    cases i with
    | zero => simp
    | succ i =>
      simp only [List.take_succ_cons, List.flatMap_cons, ih]
      rw [show (i + 1) * sz = sz + i * sz by rw [Nat.succ_mul]; omega, List.take_append, he, Nat.add_sub_cancel_left, List.take_of_length_le (l := enc y) (by rw [he]; omega)]
theorem Rd.EB {w0 w : World} {L : List Ent} (S : St w0 w L) {k b : Nat} {t : TypeId} {cs xs : List Value} (hk : L[k]? = some (EB b t cs)) (off : Nat) (h : ∀ j u, xs[j]? = some u → cs[off + j]? = some u) : Rd w (some ⟨b, off, none⟩) xs :=
  ⟨fun _ => ⟨b, off, rfl⟩, fun b' o' hA j u hu => by
    injection hA with hA; injection hA with h1 h2; subst h1 h2
    exact EB.cell (S.get hk) (h j u hu)⟩
end Go.Proofs.Ytpfmmbdddecphaa
