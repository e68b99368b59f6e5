/- Loads behind a guard that is decided; marks on a ground that was returned. -/
import Derived.Test.YtpfmmbdddecphaaBuild
namespace Go.Proofs.Ytpfmmbdddecphaa
open Go.RowKit Go.Sort
set_option linter.unusedVariables false
set_option linter.unusedSimpArgs false

section
variable {P : Program} {o : Oper} {a : Act} {K : Act → World → Prop} {Q : Exit → Act → World → Prop} {w0 w : World} {L : List Ent}
theorem at_oload_ (ty : TypeId) {x : Operand} (ho : o.op = .load ty x) (h : o.wp P a w K Q) : o.wp P a w K Q := h
theorem O_loadN (S : St w0 w L) (ty : TypeId) (x : Operand) (ho : o.op = .load ty x) (b off : Nat) (hx : a.eval x = .pointer (some ⟨b, off, none⟩))
    (k : Nat) (t : TypeId) (cs : List Value) (hk : L[k]? = some (EB b t cs)) (vs : List Value) (hag : ∀ w, (isAgg ty).run P w = .ok true w) (hsz : ∀ w, (sizeOf ty).run P w = .ok vs.length w)
    (hv : ∀ j u, vs[j]? = some u → cs[off + j]? = some u) (h : K (a.put o.dst (.agg vs.toArray)) w) : o.wp P a w K Q := by
  unfold Oper.wp
  rw [exec_loadN ty x ho b off hx vs (hag w) (hsz w) (fun j u hu => EB.cell (S.get hk) (hv j u hu))]
  exact h
end
theorem at_gload_ {P : Program} {ops : Array Oper} {o : Oper} {a : Act} {Q : Exit → Act → World → Prop} {w : World} {rest : List Oper} (ty : TypeId) {x : Operand} (ho : o.op = .load ty x) {g : Nat × Bool} (hg : o.guard = some g) (h : wpList P ops Q (o :: rest) a w) : wpList P ops Q (o :: rest) a w := h
set_option maxRecDepth 100000 in
set_option maxHeartbeats 1000000 in
theorem markGroundR_any (H : Gnd) (hH : H.Ok) (w0 w : World) (L : List Ent) (S : St w0 w L) (j : Nat) (A : Option Addr) (c : Nat) (ys : List Pt) (hj : L[j]? = some (ER 43 2 (.slice A H.gul.length c) H.gul.length (ccs ys))) (k : Int) (hk : 0 ≤ k ∧ k ≤ 1000000000) (hn : H.gul.length ≤ 4000000) :
    Calls Try.prog 20 #[gv H (.slice A H.gul.length c), .int .i64 k] w fun e w' => e = .returned (.int .i64 (k + 2 * H.gul.length)) ∧ St w0 w' (L.set j (ERd A (ccs (markL k H.gul.length)))) := by
  go_enter Try.func20, Try.ntmps20
  go_wp2_with (first
    | ((with_reducible refine at_box_ 34 rfl rfl ?_); ((refine W_box S rfl _ _ rfl (gv H (.slice A H.gul.length c)) rfl ?_; clear S; intro bg w' S; change St _ _ (EB _ _ (gcs H (.slice A H.gul.length c)) :: _) at S)))
    | ((with_reducible refine at_load_ 32 rfl rfl ?_); (refine W_load1 S rfl _ _ rfl bg 83 rfl 0 _ _ rfl (.slice A H.gul.length c) Try.isAgg32 (gcs_gul hH.len _) ?_))
    | (go_at_call 21; refine Calls.mono (markCellS_any _ _ _ S (j + 1) A _ c ys (by rw [List.getElem?_cons_succ]; exact hj) k hk hn) ?_; rintro e w1 ⟨rfl, S2⟩; replace S := S2; clear S2; rw [List.set_cons_succ] at S))
  go_ret
  exact ⟨rfl, S.tail⟩
end Go.Proofs.Ytpfmmbdddecphaa
