/- What a call owns, kept in one word while the world goes on ('St'), and the operations' laws over it. No condition; plain laws over any program. -/
import Derived.Test.YtpfmmbdddecphaaKit
namespace Go.Proofs.Ytpfmmbdddecphaa
open Go.RowKit Go.Sort
set_option linter.unusedVariables false
set_option linter.unusedSimpArgs false

/-- Something that lies in at most one block. -/
structure Ent where
  foot : Option Nat
  holds : World → Prop
  stable : ∀ w w' : World, (∀ b, foot = some b → w'.heap[b]? = w.heap[b]?) → holds w → holds w'

/-- A block of cells, known whole. -/
def EB (b : Nat) (t : TypeId) (cs : List Value) : Ent :=
  ⟨some b, fun w => w.heap[b]? = some (.cells cs.toArray t (0, 0)), fun w w' h hw => by rw [h b rfl]; exact hw⟩

theorem ownsRow_stable {base : Nat} {e : TypeId} {sz n : Nat} {v : Value} {xs : List Value} (w w' : World) (h : ∀ b, v.ownBlock = some b → w'.heap[b]? = w.heap[b]?) (hw : w.ownsRow base e sz v n xs) : w'.ownsRow base e sz v n xs := by
  obtain ⟨h1, h2⟩ := hw
  refine ⟨h1, ?_⟩
  rcases h2 with h2 | ⟨g, cap, cur, rfl, hb, hh, hr⟩
  · exact .inl h2
  · exact .inr ⟨g, cap, cur, rfl, hb, by rw [h g rfl]; exact hh, hr⟩
/-- A slice that the call owns. -/
def ER (e : TypeId) (sz : Nat) (v : Value) (n : Nat) (xs : List Value) : Ent :=
  ⟨v.ownBlock, fun w => w.ownsRow 0 e sz v n xs, fun w w' h hw => ownsRow_stable w w' h hw⟩

structure St (w0 w : World) (L : List Ent) : Prop where
  below : Below w0.heap.size w0 w
  all : ∀ (i : Nat) (e : Ent), L[i]? = some e → e.holds w ∧ ∀ b, e.foot = some b → w0.heap.size ≤ b ∧ b < w.heap.size
  apart : ∀ (i j : Nat) (e f : Ent), i ≠ j → L[i]? = some e → L[j]? = some f → e.foot = none ∨ e.foot ≠ f.foot

theorem St.refl (w : World) : St w w [] := ⟨Below.refl _ _, fun i e h => by simp at h, fun i j e f _ h => by simp at h⟩
theorem St.of_below {w w' : World} (h : Below w.heap.size w w') : St w w' [] := ⟨h, fun i e h => by simp at h, fun i j e f _ h => by simp at h⟩

/-- The world goes on behind all that was: nothing is lost; what is new is added. -/
theorem St.call {w0 w w' : World} {L L' : List Ent} (S : St w0 w L) (S' : St w w' L') : St w0 w' (L' ++ L) := by
  have hsz := S.below.size
  have old : ∀ (i : Nat) (e : Ent), L[i]? = some e → e.holds w' ∧ ∀ b, e.foot = some b → w0.heap.size ≤ b ∧ b < w'.heap.size := by
    intro i e hi
    obtain ⟨h1, h2⟩ := S.all i e hi
    exact ⟨e.stable w w' (fun b hb => S'.below.block b (h2 b hb).2) h1, fun b hb => ⟨(h2 b hb).1, Nat.lt_of_lt_of_le (h2 b hb).2 S'.below.size⟩⟩
  refine ⟨S.below.trans (S'.below.mono hsz), ?_, ?_⟩
  · intro i e hi
    by_cases hl : i < L'.length
    · rw [List.getElem?_append_left hl] at hi
      obtain ⟨h1, h2⟩ := S'.all i e hi
      exact ⟨h1, fun b hb => ⟨Nat.le_trans hsz (h2 b hb).1, (h2 b hb).2⟩⟩
    · rw [List.getElem?_append_right (by omega)] at hi
      exact old _ e hi
  · intro i j e f hne hi hj
    by_cases hl : i < L'.length
    · rw [List.getElem?_append_left hl] at hi
      by_cases hm : j < L'.length
      · rw [List.getElem?_append_left hm] at hj
        exact S'.apart i j e f hne hi hj
      · rw [List.getElem?_append_right (by omega)] at hj
        cases he : e.foot with
        | none => exact .inl rfl
        | some b =>
          refine .inr fun hc => ?_
          have h1 := ((S'.all i e hi).2 b he).1
          have h2 := ((S.all _ f hj).2 b hc.symm).2
          omega
    · rw [List.getElem?_append_right (by omega)] at hi
      by_cases hm : j < L'.length
      · rw [List.getElem?_append_left hm] at hj
        cases he : e.foot with
        | none => exact .inl rfl
        | some b =>
          refine .inr fun hc => ?_
          have h1 := ((S'.all j f hj).2 b hc.symm).1
          have h2 := ((S.all _ e hi).2 b he).2
          omega
      · rw [List.getElem?_append_right (by omega)] at hj
        exact S.apart _ _ e f (by omega) hi hj

theorem St.callB {w0 w w' : World} {L : List Ent} (S : St w0 w L) (h : Below w.heap.size w w') : St w0 w' L := by
  simpa using S.call (St.of_below h)
theorem St.tail {w0 w : World} {e : Ent} {L : List Ent} (S : St w0 w (e :: L)) : St w0 w L :=
  ⟨S.below, fun i f h => S.all (i + 1) f (by simpa using h), fun i j f g hne h1 h2 => S.apart (i + 1) (j + 1) f g (by omega) (by simpa using h1) (by simpa using h2)⟩
theorem St.head {w0 w : World} {e : Ent} {L : List Ent} (S : St w0 w (e :: L)) : e.holds w := (S.all 0 e rfl).1
theorem St.get {w0 w : World} {L : List Ent} (S : St w0 w L) {k : Nat} {e : Ent} (h : L[k]? = some e) : e.holds w := (S.all k e h).1
/-- Some of the things alone, by their places. -/
theorem St.pick {w0 w : World} {L L' : List Ent} (S : St w0 w L) (f : Nat → Nat) (hf : ∀ i j, f i = f j → i = j) (h : ∀ i, i < L'.length → L'[i]? = L[f i]?) : St w0 w L' := by
  have g : ∀ (i : Nat) (e : Ent), L'[i]? = some e → L[f i]? = some e := by
    intro i e hi
    have hl : i < L'.length := by
      rcases Nat.lt_or_ge i L'.length with hl | hl
      · exact hl
      · rw [List.getElem?_eq_none hl] at hi; cases hi
    rw [← h i hl]; exact hi
  exact ⟨S.below, fun i e hi => S.all _ e (g i e hi), fun i j e f hne hi hj => S.apart _ _ e f (fun hc => hne (hf _ _ hc)) (g i e hi) (g j f hj)⟩
theorem St.keep1 {w0 w : World} {e f : Ent} {L : List Ent} (S : St w0 w (e :: f :: L)) : St w0 w (e :: L) :=
  S.pick (fun i => if i = 0 then 0 else i + 1) (by intro i j h; split at h <;> split at h <;> omega) (by intro i _; cases i <;> simp)
theorem St.only {w0 w : World} {L : List Ent} {k : Nat} {e : Ent} (S : St w0 w L) (h : L[k]? = some e) : St w0 w [e] :=
  ⟨S.below, fun i f hi => by cases i with
    | zero => simp at hi; subst hi; exact S.all k _ h
    | succ i => simp at hi, fun i j f g hne hi hj => by cases i <;> cases j <;> simp_all⟩
theorem St.bare {w0 w : World} {L : List Ent} (S : St w0 w L) : St w0 w [] := .of_below S.below
theorem St.swap {w0 w : World} {e f : Ent} {L : List Ent} (S : St w0 w (e :: f :: L)) : St w0 w (f :: e :: L) :=
  S.pick (fun i => if i = 0 then 1 else if i = 1 then 0 else i) (by intro i j h; (repeat' split at h) <;> omega) (by intro i _; rcases i with _ | _ | i <;> simp)

theorem St.alloc {w0 w : World} {L : List Ent} (S : St w0 w L) (cs : Array Value) (t : TypeId) : St w0 (w.alloc (.cells cs t)) (EB w.heap.size t cs.toList :: L) := by
  have h1 : St w (w.alloc (.cells cs t)) [EB w.heap.size t cs.toList] := by
    refine ⟨(Below.refl _ _).alloc (Nat.le_refl _) _, ?_, ?_⟩
    · intro i e hi
      cases i with
      | zero =>
        simp at hi; subst hi
        refine ⟨by show (w.alloc _).heap[w.heap.size]? = _; rw [heap_alloc_new], fun b hb => ?_⟩
        have : w.heap.size = b := by simpa [EB] using hb
        subst this
        exact ⟨Nat.le_refl _, by show _ < (w.heap.push _).size; simp⟩
      | succ i => simp at hi
    · intro i j e f hne hi hj
      cases i <;> cases j <;> simp_all
  simpa using S.call h1

/-- One thing turns (its own block alone is written, new blocks may be laid), the others stay. -/
theorem St.mut {w0 w w' : World} {L : List Ent} (S : St w0 w L) (k : Nat) (e e' : Ent) (hk : L[k]? = some e) (hg : w.grownBy w' e.foot) (h' : e'.holds w')
    (hf : e'.foot = none ∨ e'.foot = e.foot ∨ ∃ b, e'.foot = some b ∧ w.heap.size ≤ b ∧ b < w'.heap.size) : St w0 w' (L.set k e') := by
  have hkl : k < L.length := by
    rcases Nat.lt_or_ge k L.length with hl | hl
    · exact hl
    · rw [List.getElem?_eq_none hl] at hk; cases hk
  have oth : ∀ (i : Nat) (f : Ent), i ≠ k → L[i]? = some f → f.holds w' ∧ ∀ b, f.foot = some b → w0.heap.size ≤ b ∧ b < w.heap.size := by
    intro i f hne hi
    obtain ⟨h1, h2⟩ := S.all i f hi
    refine ⟨f.stable w w' (fun b hb => hg.block b (h2 b hb).2 (fun hc => ?_)) h1, h2⟩
    rcases S.apart i k f e hne hi hk with h | h
    · rw [h] at hb; cases hb
    · exact h (hb.trans hc)
  have get : ∀ (i : Nat) (f : Ent), (L.set k e')[i]? = some f → (i = k ∧ f = e') ∨ (i ≠ k ∧ L[i]? = some f) := by
    intro i f hi
    by_cases hik : i = k
    · subst hik
      rw [List.getElem?_set_self (by omega)] at hi
      exact .inl ⟨rfl, by simpa using hi.symm⟩
    · rw [List.getElem?_set_ne (by omega)] at hi
      exact .inr ⟨hik, hi⟩
  have hb0 : ∀ b, e.foot = some b → w0.heap.size ≤ b ∧ b < w.heap.size := (S.all k e hk).2
  have eb : ∀ b, e'.foot = some b → w0.heap.size ≤ b ∧ b < w'.heap.size := by
    intro b hb
    rcases hf with h | h | ⟨c, h, h1, h2⟩
    · rw [h] at hb; cases hb
    · have := hb0 b (h ▸ hb)
      exact ⟨this.1, Nat.lt_of_lt_of_le this.2 hg.size⟩
    · have : c = b := by rw [h] at hb; simpa using hb
      subst this
      exact ⟨Nat.le_trans S.below.size h1, h2⟩
  refine ⟨S.below.grown hg S.below.size (fun c hc => (hb0 c hc).1), ?_, ?_⟩
  · intro i f hi
    rcases get i f hi with ⟨rfl, rfl⟩ | ⟨hne, hi⟩
    · exact ⟨h', eb⟩
    · obtain ⟨h1, h2⟩ := oth i f hne hi
      exact ⟨h1, fun b hb => ⟨(h2 b hb).1, Nat.lt_of_lt_of_le (h2 b hb).2 hg.size⟩⟩
  · have key : ∀ (i : Nat) (f : Ent), i ≠ k → L[i]? = some f → e'.foot = none ∨ e'.foot ≠ f.foot := by
      intro i f hne hi
      rcases hf with h | h | ⟨c, h, h1, h2⟩
      · exact .inl h
      · rw [h]; exact S.apart k i e f (Ne.symm hne) hk hi
      · refine .inr fun hc => ?_
        have := ((oth i f hne hi).2 c (by rw [← hc, h])).2
        omega
    intro i j f g hne hi hj
    rcases get i f hi with ⟨rfl, rfl⟩ | ⟨hn, hi'⟩
    · rcases get j g hj with ⟨rfl, rfl⟩ | ⟨hm, hj⟩
      · exact absurd rfl hne
      · exact key j g hm hj
    · rcases get j g hj with ⟨rfl, rfl⟩ | ⟨hm, hj⟩
      · rcases key i f hn hi' with h | h
        · cases hff : f.foot with
          | none => exact .inl rfl
          | some b => exact .inr (by rw [h]; simp)
        · exact .inr (Ne.symm h)
      · exact S.apart i j f g hne hi' hj

theorem grownBy_setRow (w : World) (b : Nat) (cs : Array Value) : w.grownBy (w.setRow b cs) (some b) :=
  ⟨rfl, rfl, rfl, by simp, fun k _ hk => setRow_other w b k cs (fun h => hk (by rw [h]))⟩
/-- A block is written. -/
theorem St.put {w0 w : World} {L : List Ent} (S : St w0 w L) (k b : Nat) (t : TypeId) (cs cs' : List Value) (hk : L[k]? = some (EB b t cs)) : St w0 (w.setRow b cs'.toArray) (L.set k (EB b t cs')) :=
  S.mut k _ _ hk (grownBy_setRow w b _) (setRow_heap w b _ _ t (0, 0) (S.get hk)) (.inr (.inl rfl))

/-! ### rows that are read: in a world, at an address -/
def Rd (w : World) (A : Option Addr) (xs : List Value) : Prop :=
  (xs ≠ [] → ∃ b o, A = some ⟨b, o, none⟩) ∧ ∀ b o, A = some ⟨b, o, none⟩ → ∀ j u, xs[j]? = some u → w.cell? ⟨b, o + j, none⟩ = some u
theorem Rd.below {w w' : World} {A : Option Addr} {xs : List Value} (h : Rd w A xs) (hb : Below w.heap.size w w') : Rd w' A xs :=
  ⟨h.1, fun b o hA j u hu => (hb.cell (p := ⟨b, o + j, none⟩) (block_lt_of_cell (h.2 b o hA j u hu))).trans (h.2 b o hA j u hu)⟩
theorem Rd.st {w w' : World} {L : List Ent} {A : Option Addr} {xs : List Value} (h : Rd w A xs) (S : St w w' L) : Rd w' A xs := h.below S.below
theorem Rd.nil (w : World) (A : Option Addr) : Rd w A [] := ⟨fun h => absurd rfl h, fun b o _ j u hu => by simp at hu⟩
theorem rd_of_owns {w : World} {base : Nat} {e : TypeId} {sz n c : Nat} {A : Option Addr} {xs : List Value} (h : w.ownsRow base e sz (.slice A n c) n xs) : Rd w A xs := by
  refine ⟨fun hne => ?_, fun b o hA j u hu => ?_⟩
  · rcases h.2 with ⟨_, h0⟩ | ⟨g, cap, cur, he, _⟩
    · exfalso; apply hne; have := h.1; subst h0; simpa using this
    · exact ⟨g, 0, by injection he⟩
  · rcases h.2 with ⟨he, _⟩ | ⟨g, cap, cur, he, _, hh, _, _, _, ht⟩
    · injection he with he; rw [hA] at he; cases he
    · injection he with he
      rw [hA] at he
      injection he with he
      injection he with h1 h2
      subst h1 h2
      rw [← ht] at hu
      simp only [World.cell?, hh, Nat.zero_add]
      rw [List.getElem?_take] at hu
      split at hu
      · simpa using hu
      · cases hu
theorem St.rd {w0 w : World} {L : List Ent} (S : St w0 w L) {k : Nat} {e : TypeId} {sz n c : Nat} {A : Option Addr} {xs : List Value} (h : L[k]? = some (ER e sz (.slice A n c) n xs)) : Rd w A xs := rd_of_owns (S.get h)
theorem owns_slice {w : World} {base : Nat} {e : TypeId} {sz n : Nat} {v : Value} {xs : List Value} (h : w.ownsRow base e sz v n xs) : ∃ A c, v = .slice A n c := by
  rcases h.2 with ⟨rfl, rfl⟩ | ⟨g, cap, cur, rfl, _⟩
  · exact ⟨_, _, rfl⟩
  · exact ⟨_, _, rfl⟩

end Go.Proofs.Ytpfmmbdddecphaa
