/- Regions that draw their order, with loads beside calls that make memory: the loads are taken first, the calls follow in their order. Plain laws over any program. -/
import Derived.Test.YtpfmmbdddecphaaOpb
import Derived.OrdersHeld
namespace Go.Proofs.Ytpfmmbdddecphaa
open Go.RowKit Go.Sort
set_option linter.unusedVariables false
set_option linter.unusedSimpArgs false

section
variable {P : Program} {ops : Array Oper} {o : Oper} {a : Act} {Q : Exit → Act → World → Prop} {w0 w W : World} {L : List Ent}

/-! ### which operation stands next: for the arms of a walk, 'with_reducible' -/
theorem at_load_ {rest : List Oper} (ty : TypeId) {x : Operand} (ho : o.op = .load ty x) (hg : o.guard = none) (h : wpList P ops Q (o :: rest) a w) : wpList P ops Q (o :: rest) a w := h
theorem at_store_ {rest : List Oper} (ty : TypeId) {x y : Operand} (ho : o.op = .store ty x y) (hg : o.guard = none) (h : wpList P ops Q (o :: rest) a w) : wpList P ops Q (o :: rest) a w := h
theorem at_alloc_ {rest : List Oper} (ty : TypeId) (ho : o.op = .alloc ty) (hg : o.guard = none) (h : wpList P ops Q (o :: rest) a w) : wpList P ops Q (o :: rest) a w := h
theorem at_box_ {rest : List Oper} (ty : TypeId) {x : Operand} (ho : o.op = .box ty x) (hg : o.guard = none) (h : wpList P ops Q (o :: rest) a w) : wpList P ops Q (o :: rest) a w := h
theorem at_index_ {rest : List Oper} (ty : TypeId) {x y : Operand} (ho : o.op = .indexAddr ty x y) (hg : o.guard = none) (h : wpList P ops Q (o :: rest) a w) : wpList P ops Q (o :: rest) a w := h

/-- Q, but K at the normal end. -/
def QH (Q : Exit → Act → World → Prop) (K : Act → World → Prop) : Exit → Act → World → Prop
  | .normal, a, w => K a w
  | e, a, w => Q e a w
abbrev bel (W : World) : World → Prop := fun w' => Below W.heap.size W w'

theorem letsOut_QH {K : Act → World → Prop} (h : LetsOut (QH Q K)) : LetsOut Q := by
  obtain ⟨a, w, h⟩ := h
  exact ⟨a, w, h⟩
theorem wpOp_of_list {i : Nat} {K : Act → World → Prop} (ho : ops[i]? = some o) (h : wpList P ops (QH Q K) [o] a w) : wpOp P ops Q i K a w := by
  unfold wpOp
  rw [ho]
  show if Region.wanted o (yielded ops a.tmps) = true then _ else _
  simp only [wpList] at h
  split
  · rename_i hw
    rw [if_pos hw] at h
    rcases h with h | ⟨h1, h2⟩
    · refine .inl ?_
      unfold Oper.wp at *
      generalize (execOp a.eval o).run P w = r at *
      cases r with
      | ok n w' =>
        cases n with
        | enter f args =>
          refine Calls.mono h fun e w'' he => ?_
          cases e with
          | returned v => exact he
          | panicked c => exact he
          | outgrown => exact letsOut_QH he
        | row r args => exact Rows.mono h fun v w'' hv => hv
        | value v => exact h
        | skip => exact h
        | defer d => exact h
        | _ => exact h
      | halt s w' =>
        cases s with
        | panic v => exact h
        | _ => exact h
    · exact .inr ⟨h1, letsOut_QH h2⟩
  · rename_i hw
    rw [if_neg hw] at h
    exact h

theorem H_begin {id : Nat} (hm : P.follows .mixedOrders = true) (h : ∀ w, Below W.heap.size W w → wpAnyH P .any ops Q (bel W) ops.size (Array.replicate ops.size false) a w) : (Code.region id ops true).wp P Q a W :=
  wp_region_held hm (h _ ⟨rfl, rfl, rfl, Nat.le_refl _, fun _ _ => rfl⟩)
theorem H_step {fuel i : Nat} {listed : Array Bool} (hr : Region.ready .any ops listed = [i]) (ho : ops[i]? = some o)
    (h : wpList P ops (QH Q fun a' w' => bel W w' ∧ wpAnyH P .any ops Q (bel W) fuel (listed.setIfInBounds i true) a' w') [o] a w) : wpAnyH P .any ops Q (bel W) (fuel + 1) listed a w :=
  wpAnyH_all hr (by simp) fun j hj => by
    have : j = i := by simpa using hj
    subst this
    exact wpOp_of_list ho h
theorem H_take {fuel i : Nat} {listed : Array Bool} (hi : ops[i]? = some o) (hs : Region.noSelect ops = true) (hf : Region.free .any ops listed i = true) (hr : (Region.ready .any ops listed).contains i = true) (hw : Region.wanted o (yielded ops a.tmps) = true)
    (v : Value) (hQ : ∀ c a w, Q (.panic c) (a.put o.dst v) w → Q (.panic c) a w) (hy : ∀ w', Below W.heap.size W w' → (execOp a.eval o).run P w' = .ok (.value v) w') (hb : Below W.heap.size W w)
    (h : wpAnyH P .any ops Q (bel W) fuel (listed.setIfInBounds i true) (a.put o.dst v) w) : wpAnyH P .any ops Q (bel W) (fuel + 1) listed a w :=
  wpAnyH_take hi hs hf hr hQ (.inl ⟨hw, hy⟩) hb h
/-- A load of some cells of a block, taken first. -/
theorem H_loadN (S : St w0 W L) {fuel : Nat} {listed : Array Bool} (i : Nat) (hi : ops[i]? = some o) (hs : Region.noSelect ops = true) (hf : Region.free .any ops listed i = true) (hr : (Region.ready .any ops listed).contains i = true) (hw : Region.wanted o (yielded ops a.tmps) = true)
    (ty : TypeId) (x : Operand) (ho : o.op = .load ty x) (b off : Nat) (hx : a.eval x = .pointer (some ⟨b, off, none⟩)) (k : Nat) (t : TypeId) (cs : List Value) (hk : L[k]? = some (EB b t cs)) (vs : List Value)
    (hag : ∀ w, (isAgg ty).run P w = .ok true w) (hsz : ∀ w, (sizeOf ty).run P w = .ok vs.length w) (hv : ∀ j u, vs[j]? = some u → cs[off + j]? = some u) (hb : Below W.heap.size W w)
    (hQ : ∀ c a w, Q (.panic c) (a.put o.dst (.agg vs.toArray)) w → Q (.panic c) a w)
    (h : wpAnyH P .any ops Q (bel W) fuel (listed.setIfInBounds i true) (a.put o.dst (.agg vs.toArray)) w) : wpAnyH P .any ops Q (bel W) (fuel + 1) listed a w :=
  H_take hi hs hf hr hw _ hQ (fun w' hw' => exec_loadN ty x ho b off hx vs (hag _) (hsz _) (fun j u hu => EB.cell ((S.callB hw').get hk) (hv j u hu))) hb h
end
end Go.Proofs.Ytpfmmbdddecphaa
