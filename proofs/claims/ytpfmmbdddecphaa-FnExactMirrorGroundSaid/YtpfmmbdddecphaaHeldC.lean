/- Regions that draw their order, with a store at their end: loads first, in a class of worlds of one's own. Plain laws over any program. -/
import Derived.Test.YtpfmmbdddecphaaHeld
namespace Go.Proofs.Ytpfmmbdddecphaa
open Go.RowKit Go.Sort
set_option linter.unusedVariables false
set_option linter.unusedSimpArgs false

section
variable {P : Program} {ops : Array Oper} {o : Oper} {a : Act} {Q : Exit → Act → World → Prop} {w0 w W : World} {L : List Ent}
variable {C : World → Prop}
theorem C_begin {id : Nat} (hm : P.follows .mixedOrders = true) (hC : ∀ w', Below W.heap.size W w' → C w') (h : ∀ w, C w → wpAnyH P .any ops Q C ops.size (Array.replicate ops.size false) a w) : (Code.region id ops true).wp P Q a W :=
  wp_region_held hm (h _ (hC _ ⟨rfl, rfl, rfl, Nat.le_refl _, fun _ _ => rfl⟩))
theorem C_step {fuel i : Nat} {listed : Array Bool} (hr : Region.ready .any ops listed = [i]) (ho : ops[i]? = some o)
    (h : wpList P ops (QH Q fun a' w' => C w' ∧ wpAnyH P .any ops Q C fuel (listed.setIfInBounds i true) a' w') [o] a w) : wpAnyH P .any ops Q C (fuel + 1) listed a w :=
  wpAnyH_all hr (by simp) fun j hj => by
    have : j = i := by simpa using hj
    subst this
    exact wpOp_of_list ho h
theorem C_take {fuel i : Nat} {listed : Array Bool} (hi : ops[i]? = some o) (hs : Region.noSelect ops = true) (hf : Region.free .any ops listed i = true) (hr : (Region.ready .any ops listed).contains i = true) (hw : Region.wanted o (yielded ops a.tmps) = true)
    (v : Value) (hQ : ∀ c a w, Q (.panic c) (a.put o.dst v) w → Q (.panic c) a w) (hy : ∀ w', C w' → (execOp a.eval o).run P w' = .ok (.value v) w') (hb : C w)
    (h : wpAnyH P .any ops Q C fuel (listed.setIfInBounds i true) (a.put o.dst v) w) : wpAnyH P .any ops Q C (fuel + 1) listed a w :=
  wpAnyH_take hi hs hf hr hQ (.inl ⟨hw, hy⟩) hb h
theorem C_loadN {fuel : Nat} {listed : Array Bool} (i : Nat) (hi : ops[i]? = some o) (hs : Region.noSelect ops = true) (hf : Region.free .any ops listed i = true) (hr : (Region.ready .any ops listed).contains i = true) (hw : Region.wanted o (yielded ops a.tmps) = true)
    (ty : TypeId) (x : Operand) (ho : o.op = .load ty x) (b off : Nat) (hx : a.eval x = .pointer (some ⟨b, off, none⟩)) (t : TypeId) (cs : List Value) (hk : ∀ w', C w' → (EB b t cs).holds w') (vs : List Value)
    (hag : ∀ w, (isAgg ty).run P w = .ok true w) (hsz : ∀ w, (sizeOf ty).run P w = .ok vs.length w) (hv : ∀ j u, vs[j]? = some u → cs[off + j]? = some u) (hb : C w)
    (hQ : ∀ c a w, Q (.panic c) (a.put o.dst (.agg vs.toArray)) w → Q (.panic c) a w)
    (h : wpAnyH P .any ops Q C fuel (listed.setIfInBounds i true) (a.put o.dst (.agg vs.toArray)) w) : wpAnyH P .any ops Q C (fuel + 1) listed a w :=
  C_take hi hs hf hr hw _ hQ (fun w' hw' => exec_loadN ty x ho b off hx vs (hag _) (hsz _) (fun j u hu => EB.cell (hk w' hw') (hv j u hu))) hb h
theorem C_load1 {fuel : Nat} {listed : Array Bool} (i : Nat) (hi : ops[i]? = some o) (hs : Region.noSelect ops = true) (hf : Region.free .any ops listed i = true) (hr : (Region.ready .any ops listed).contains i = true) (hw : Region.wanted o (yielded ops a.tmps) = true)
    (ty : TypeId) (x : Operand) (ho : o.op = .load ty x) (b off : Nat) (hx : a.eval x = .pointer (some ⟨b, off, none⟩)) (t : TypeId) (cs : List Value) (hk : ∀ w', C w' → (EB b t cs).holds w') (v : Value)
    (hag : ∀ w, (isAgg ty).run P w = .ok false w) (hv : cs[off]? = some v) (hb : C w)
    (hQ : ∀ c a w, Q (.panic c) (a.put o.dst v) w → Q (.panic c) a w)
    (h : wpAnyH P .any ops Q C fuel (listed.setIfInBounds i true) (a.put o.dst v) w) : wpAnyH P .any ops Q C (fuel + 1) listed a w :=
  C_take hi hs hf hr hw _ hQ (fun w' hw' => exec_load1 ty x ho _ hx (hag _) v (EB.cell (hk w' hw') hv)) hb h
end
end Go.Proofs.Ytpfmmbdddecphaa
