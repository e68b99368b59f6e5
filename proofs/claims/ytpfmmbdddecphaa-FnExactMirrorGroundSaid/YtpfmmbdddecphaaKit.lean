/- Words and small laws that the walks of this claim share: cells and rows of cells as values; a class of worlds for regions that draw their order. No condition. -/
import Derived.Test.YtpfmmbdddecphaaRows
import Derived.WalkKit
import Derived.WalkSpells
import Derived.WalkLawsBesides
import Derived.Handy
import Derived.Deep.QuietTactic
import Derived.BigQuiet
import Derived.Deep.OwnRows
import Derived.Deep.AppendLies
import Derived.Sort.Grow
import Derived.Lib.Hide
import Derived.StillTailTactics
import Derived.Deep.DeepFit
import Derived.Deep.RegionWith
import Derived.Deep.DeepCutAuto
import Derived.Deep.LoopGhost
namespace Go.Proofs.Ytpfmmbdddecphaa
open Go.RowKit Go.Sort
set_option linter.unusedVariables false
set_option linter.unusedSimpArgs false

/-! ### plain words -/
abbrev Pt := Int × Int
def cmpI (a b : Int) : Int := if a < b then -1 else if b < a then 1 else 0
def cmpC (a b : Pt) : Int := if a.2 = b.2 then cmpI a.1 b.1 else cmpI a.2 b.2
def cv (c : Pt) : Value := .agg #[.int .i8 c.1, .int .i8 c.2]
def ccs (cs : List Pt) : List Value := cs.flatMap fun c => [.int .i8 c.1, .int .i8 c.2]

theorem ret_i {k : IntKind} {a b : Int} (h : a = b) : Ending.returned (.int k a) = .returned (.int k b) := by rw [h]
theorem ret_b {a b : Bool} (h : a = b) : Ending.returned (.bool a) = .returned (.bool b) := by rw [h]

theorem bcell {W w1 : World} (hb : Below W.heap.size W w1) : (∀ b o, b < W.heap.size → w1.cell? ⟨b, o, none⟩ = W.cell? ⟨b, o, none⟩) ∧ (∀ b o, b < W.heap.size → w1.frozen? ⟨b, o, none⟩ = W.frozen? ⟨b, o, none⟩) :=
  ⟨fun b o h => hb.cell (p := ⟨b, o, none⟩) h, fun b o h => hb.frozen (p := ⟨b, o, none⟩) h⟩

/-! ### the class of the worlds that have grown from one -/
def sd (w : World) (d : Nat) : World := { w with drawn := d }
structure MixBy where
  n : Nat
  os : Array Obj
  deriving Inhabited
theorem below_mix {w w' : World} (h : Below w.heap.size w w') : ∃ p : MixBy, w' = grow (sd w p.n) p.os := by
  refine ⟨⟨w'.drawn, w'.heap.extract w.heap.size w'.heap.size⟩, ?_⟩
  obtain ⟨h1, h2, h3, h4, h5⟩ := h
  have hh : w'.heap = w.heap ++ w'.heap.extract w.heap.size w'.heap.size := by
    apply Array.ext_getElem?
    intro k
    by_cases hk : k < w.heap.size
    · rw [Array.getElem?_append_left hk]; exact h5 k hk
    · rw [Array.getElem?_append_right (by omega)]
      by_cases hk' : k < w'.heap.size
      · rw [Array.getElem?_extract, if_pos (by omega)]; congr 1; omega
      · have e1 : w'.heap[k]? = none := Array.getElem?_eq_none (by omega)
        have e2 : (w'.heap.extract w.heap.size w'.heap.size)[k - w.heap.size]? = none := Array.getElem?_eq_none (by simp; omega)
        rw [e1, e2]
  cases w'
  cases w
  simp only at *
  subst h1 h2 h3
  simp only [grow, sd]
  congr 1
theorem mix_below (w : World) (n : Nat) (os : Array Obj) : Below w.heap.size w (grow (sd w n) os) :=
  ⟨rfl, rfl, rfl, by rw [size_grow]; exact Nat.le_add_right _ _, fun k hk => heap_grow_old _ _ hk⟩
theorem sd_drawn (w : World) (n m : Nat) (os : Array Obj) : sd (grow (sd w n) os) m = grow (sd w m) os := rfl
theorem wp_region_mix {P : Program} {id : Nat} {Q : Exit → Act → World → Prop} {a : Act} {w : World} {l : List Oper} (hm : P.follows .mixedOrders = true) (hB : Region.lexB .any l.toArray = true)
    (h : wpQuiet P l.toArray (fun w' => ∃ p : MixBy, w' = grow (sd w p.n) p.os) (fun a' => ∀ w', (∃ p : MixBy, w' = grow (sd w p.n) p.os) → Q .normal a' w') l a) : (Code.region id l.toArray true).wp P Q a w :=
  wp_region_quiet (C := fun w' => ∃ p : MixBy, w' = grow (sd w p.n) p.os) hm hB ⟨⟨_, #[]⟩, by rw [grow_empty]; rfl⟩ (by simpa using h)
theorem cell_mix {w : World} {n : Nat} {os : Array Obj} {b o : Nat} (hb : b < w.heap.size) : (grow (sd w n) os).cell? ⟨b, o, none⟩ = w.cell? ⟨b, o, none⟩ := cell?_grow (sd w n) _ _ (by exact hb)
theorem calls_mix {P : Program} {f : FuncId} {args : Array Value} {w : World} {n : Nat} {os : Array Obj} {v : Value}
    (h : Calls P f args (grow (sd w n) os) fun e w' => e = .returned v ∧ Below (grow (sd w n) os).heap.size (grow (sd w n) os) w') : Calls P f args (grow (sd w n) os) fun e w'' => e = .returned v ∧ ∃ p : MixBy, w'' = grow (sd w p.n) p.os :=
  h.mono fun _ _ ⟨he, hb⟩ => ⟨he, by
    obtain ⟨p, hp⟩ := below_mix hb
    exact ⟨⟨p.n, os ++ p.os⟩, by rw [hp, sd_drawn, grow_grow]⟩⟩
theorem calls_mix_same {P : Program} {f : FuncId} {args : Array Value} {w : World} {n : Nat} {os : Array Obj} {v : Value}
    (h : Calls P f args (grow (sd w n) os) fun e w' => e = .returned v ∧ grow (sd w n) os = w') : Calls P f args (grow (sd w n) os) fun e w'' => e = .returned v ∧ ∃ p : MixBy, w'' = grow (sd w p.n) p.os :=
  h.mono fun _ _ ⟨he, hb⟩ => ⟨he, ⟨⟨n, os⟩, hb.symm⟩⟩
/-- A region that draws: all but its tail reads or calls quietly, the tail's order is forced. -/
theorem wp_region_tail {P : Program} {id : Nat} {Q : Exit → Act → World → Prop} {a : Act} {w : World} {l : List Oper} (n : Nat) (hm : P.follows .mixedOrders = true) (hB : Region.lexTailB .any l.toArray n = true)
    (h : wpStill P l.toArray w.drew (fun a' => wpList P l.toArray Q (l.drop n) a' w.drew) (l.take n) a) : (Code.region id l.toArray true).wp P Q a w := wp_region_still_tail n hm hB h
end Go.Proofs.Ytpfmmbdddecphaa
