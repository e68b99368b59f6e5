/- Grounds that are built of their parts; an append of a row that is read. -/
import Derived.Test.YtpfmmbdddecphaaMark
import Derived.Laws.Tables
namespace Go.Proofs.Ytpfmmbdddecphaa
open Go.RowKit Go.Sort
set_option linter.unusedVariables false
set_option linter.unusedSimpArgs false

theorem fold_set (l : List Value) : ∀ (k off : Nat) (cs : Array Value), off + k + l.length ≤ cs.size → (l.zipIdx k).foldl (fun cs p => cs.setIfInBounds (off + p.2) p.1) cs = (cs.toList.take (off + k) ++ l ++ cs.toList.drop (off + k + l.length)).toArray := by
  induction l with
  | nil =>
    intro k off cs h
    apply Array.toList_inj.1
    simp
  | cons x xs ih =>
    intro k off cs h
    simp only [List.length_cons] at h
    rw [List.zipIdx_cons, List.foldl_cons, ih (k + 1) off _ (by simp; omega)]
    congr 1
    simp only [Array.toList_setIfInBounds, List.length_cons]
    rw [show off + (k + 1) = off + k + 1 by omega, List.take_add_one, List.getElem?_set_self (by simpa using (by omega : off + k < cs.size)), List.take_set_of_le (by omega), List.drop_set_of_lt (by omega)]
    simp only [Option.toList_some, List.append_assoc, List.cons_append, List.nil_append]
    rw [show off + k + 1 + xs.length = off + k + (xs.length + 1) by omega]
theorem fill_one {place : Nat → Option (Nat × Nat)} {cells : List Value} {i : Nat} {v : Value} {rest : List (Nat × Value)} (off size : Nat) (hp : place i = some (off, size)) (hs : v.cells.size = size) (hl : off + size ≤ cells.length) :
    Instr.fill place cells.toArray ((i, v) :: rest) = Instr.fill place (cells.take off ++ v.cells.toList ++ cells.drop (off + size)).toArray rest := by
  unfold Instr.fill
  rw [hp]
  simp only []
  rw [if_neg (by simp only [List.size_toArray, hs]; simp; omega)]
  rw [Instr.fill.eq_def place _ rest]
  have e : v.cells.zipIdx.foldl (fun cs x => match x with | (c, j) => cs.setIfInBounds (off + j) c) cells.toArray = (cells.take off ++ v.cells.toList ++ cells.drop (off + size)).toArray := by
    rw [← Array.foldl_toList, Array.toList_zipIdx]
    have := fold_set v.cells.toList 0 off cells.toArray (by simp only [Nat.add_zero, Array.length_toList, hs, List.size_toArray]; exact hl)
    simp only [Nat.add_zero, Array.length_toList, hs] at this
    exact this
  rw [e]

def places84 (i : Nat) : Option (Nat × Nat) := (#[(0, 1), (1, 1), (2, 81), (83, 1)] : Array (Nat × Nat))[i]?
theorem built_G (parts : List (Nat × Value)) (out : List Value) (h : Instr.fill places84 (gcs Gnd.zero (.slice none 0 0)).toArray parts = some out.toArray) : Try.prog.built 34 parts = some out.toArray := by
  have hi : (Try.prog.info? 34).map (fun i => i.zero) = some (some (.agg (gcs Gnd.zero (.slice none 0 0)).toArray)) := by kernel_rfl
  have hpl : ([{ name := "Wide", type := 22, offset := 0, embedded := false, tag := "", pkgPath := "", byteOffset := 0 },
        { name := "High", type := 22, offset := 1, embedded := false, tag := "", pkgPath := "", byteOffset := 1 },
        { name := "Heights", type := 25, offset := 2, embedded := false, tag := "", pkgPath := "", byteOffset := 2 },
        { name := "Gullies", type := 32, offset := 83, embedded := false, tag := "", pkgPath := "", byteOffset := 168 }] : List Field).mapM (fun f => (Try.prog.info? f.type).map fun i => (f.offset, i.size)) = some [(0, 1), (1, 1), (2, 81), (83, 1)] := by kernel_rfl
  unfold Program.built
  rw [Try.underlying34]
  obtain ⟨it, h1, h2⟩ := Option.map_eq_some_iff.1 hi
  rw [h1]
  simp only [h2]
  rw [hpl]
  simp only []
  exact h

def H0 : Gnd := Gnd.zero
theorem gcs_len {G : Gnd} (h : G.hs.length = 81) (v : Value) : (gcs G v).length = 84 := by simp [gcs, h]
theorem run_buildG (d h : Int) (ts : List Int) (hts : ts.length = 81) (gul : List Pt) (v : Value) (hv : v.cells = #[v]) (wd : World) :
    (Instr.build 34 #[(0, .int .i8 d), (1, .int .i8 h), (2, .agg (hvl ts).toArray), (3, v)]).run Try.prog wd = .ok (gv ⟨d, h, ts, gul⟩ v) wd := by
  refine run_build wd 34 _ _ (built_G _ (gcs ⟨d, h, ts, gul⟩ v) ?_)
  have hz : (hvl Gnd.zero.hs).length = 81 := by rw [hvl_length]; rfl
  have ht : (hvl ts).length = 81 := by rw [hvl_length, hts]
  rw [fill_one 0 1 rfl rfl (by rw [gcs_h]; simp [hz])]
  rw [fill_one 1 1 rfl rfl (by rw [gcs_h]; simp [hz, Value.cells])]
  rw [fill_one 2 81 rfl (by simp [Value.cells, ht]) (by rw [gcs_h]; simp [hz, Value.cells])]
  rw [fill_one 83 1 rfl (by rw [hv]; rfl) (by rw [gcs_h]; simp [hz, ht, Value.cells])]
  unfold Instr.fill
  congr 2
  rw [gcs_h, gcs_h, hv]
  have e1 : (hvl Gnd.zero.hs ++ [Value.slice none 0 0]).drop 81 = [Value.slice none 0 0] := by
    rw [List.drop_append_of_le_length (by rw [hz]; omega), List.drop_eq_nil_of_le (by rw [hz]; omega)]; rfl
  simp [Value.cells, e1, ht, List.take_append]
theorem run_buildWH (d h : Int) (wd : World) :
    (Instr.build 34 #[(0, .int .i8 d), (1, .int .i8 h)]).run Try.prog wd = .ok (gv ⟨d, h, List.replicate 81 0, []⟩ (.slice none 0 0)) wd := by
  refine run_build wd 34 _ _ (built_G _ (gcs ⟨d, h, List.replicate 81 0, []⟩ (.slice none 0 0)) ?_)
  have hz : (hvl Gnd.zero.hs).length = 81 := by rw [hvl_length]; rfl
  rw [fill_one 0 1 rfl rfl (by rw [gcs_h]; simp [hz])]
  rw [fill_one 1 1 rfl rfl (by rw [gcs_h]; simp [hz, Value.cells])]
  rfl
theorem run_build0 (wd : World) : (Instr.build 34 #[]).run Try.prog wd = .ok (gv Gnd.zero (.slice none 0 0)) wd := by
  refine run_build wd 34 _ _ (built_G _ (gcs Gnd.zero (.slice none 0 0)) ?_)
  rfl

section
variable {P : Program} {ops : Array Oper} {rest : List Oper} {o : Oper} {a : Act} {Q : Exit → Act → World → Prop} {w0 w : World} {L : List Ent}
theorem at_build_ (ty : TypeId) {ps : Array (Nat × Operand)} (ho : o.op = .build ty ps) (hg : o.guard = none) (h : wpList P ops Q (o :: rest) a w) : wpList P ops Q (o :: rest) a w := h
theorem W_build (hw : Region.wanted o (yielded ops a.tmps) = true) (t : TypeId) (ps : Array (Nat × Operand)) (ho : o.op = .build t ps) (v : Value) (vs : Array (Nat × Value)) (hvs : (ps.map fun (i, x) => (i, a.eval x)) = vs) (hrun : (Instr.build t vs).run P w = .ok v w)
    (h : wpList P ops Q rest (a.put o.dst v) w) : wpList P ops Q (o :: rest) a w := by
  refine wpl_val hw ?_ h
  unfold execOp; simp only [ho]
  rw [hvs, Sem.run_bind, hrun]; rfl
/-- An append of a row that is read, of one element or none or more. -/
theorem W_appendR (S : St w0 w L) (hw : Region.wanted o (yielded ops a.tmps) = true) (s x : Operand) (T : TypeId) (ho : o.op = .call { callee := .builtin .append, args := #[s, x], argTypes := #[T, T] })
    (k : Nat) (e : TypeId) (sz : Nat) (v : Value) (n : Nat) (xs : List Value) (hk : L[k]? = some (ER e sz v n xs)) (hs : a.eval s = v)
    (b off : Nat) (m c : Nat) (hx : a.eval x = .slice (some ⟨b, off, none⟩) m c) (news : List Value) (hR : Rd w (some ⟨b, off, none⟩) news)
    (i : TypeInfo) (z : Value) (bytes : Nat) (hT : P.underlying T = some (.slice e)) (hinfo : (P.info? e).map (fun i => (i.zero, i.size, i.bytes)) = some (some z, sz, bytes)) (hzs : z.cells.size = sz) (h0 : 0 < sz)
    (hl : news.length = m * sz) (h1 : ∀ u ∈ news, u.oneCell' = true) (hn : n + m ≤ maxLen) (hbytes : (n + m) * bytes ≤ 140737488355328)
    (h : ∀ A' c' w', St w0 w' (L.set k (ER e sz (.slice A' (n + m) c') (n + m) (xs ++ news))) → wpList P ops Q rest (a.put o.dst (.slice A' (n + m) c')) w') : wpList P ops Q (o :: rest) a w := by
  obtain ⟨i0, hi, hzz⟩ := Option.map_eq_some_iff.1 hinfo
  simp only [Prod.mk.injEq] at hzz
  obtain ⟨hz0, hz1, hz2⟩ := hzz
  obtain ⟨v', w', hr, h2, h3, _, h5⟩ := run_append_own_at (P := P) w 0 T o.type e i0 z sz bytes hT hi hz0 hz1 hz2 hzs h0 v n xs (S.get hk) ⟨b, off, none⟩ m c news hl
    (fun q u hu => by rw [add_at]; exact hR.2 b off rfl q u hu) h1 hn hbytes (Nat.zero_le _)
  obtain ⟨A', c', rfl⟩ := owns_slice h2
  refine wpl_val hw (v := .slice A' (n + m) c') (w' := w') ?_ (h A' c' w' (S.mut k _ _ hk h3 h2 ?_))
  · unfold execOp
    simp only [ho, resolve, invoke, builtin, Sem.run_bind, Sem.run_pure, Result.andThen_ok, List.map_toArray, List.map_cons, List.map_nil, hs, hx, hr]
  · rcases h5 with h5 | h5
    · exact .inr (.inl h5)
    · refine .inr (.inr ⟨w.heap.size, h5, Nat.le_refl _, ?_⟩)
      exact (h2.lt _ h5).2
end
theorem ccs_one (xs : List Pt) : ∀ u ∈ ccs xs, u.oneCell' = true := by
  intro u hu
  simp only [ccs, List.mem_flatMap] at hu
  obtain ⟨x, _, hu⟩ := hu
  simp only [List.mem_cons, List.not_mem_nil, or_false] at hu
  rcases hu with rfl | rfl <;> rfl

set_option maxRecDepth 100000 in
set_option maxHeartbeats 1000000 in
theorem clone_any (b o n c : Nat) (xs : List Pt) (hl : xs.length = n) (hn : n ≤ 4000000) (w : World) (hR : Rd w (some ⟨b, o, none⟩) (ccs xs)) :
    Calls Try.prog 92 #[.slice (some ⟨b, o, none⟩) n c] w fun e w' => ∃ A' c', e = .returned (.slice A' n c') ∧ St w w' [ER 43 2 (.slice A' n c') n (ccs xs)] := by
  have S := St.refl w
  have hcl := ccs_length xs
  go_enter Try.func92, Try.ntmps92
  have hnil := fun w => Lib.run_eql_slice_nil (P := Try.prog) w 32 43 (some ⟨b, o, none⟩) n c 0 0 Try.underlying32
  simp only [Option.isNone_some] at hnil
  go_wp2_with (first
    | ((fail_if_success have hq := bl); (refine W_bslice S rfl _ (0) _ rfl 43 ([]) ?_ ?_; exact (fun w => by simp [go_sem, Instr.buildSlice, Try.underlying32, Try.sizeOf43, Try.zeroValue43] <;> rfl); clear S; intro bl w' S); replace S := S.own 0 bl _ _ rfl 2 0 0 [] rfl (Nat.le_refl _) (by decide) rfl rfl; simp only [List.set_cons_zero] at S)
    | (refine W_appendR S rfl _ _ _ rfl 0 43 2 _ 0 [] rfl rfl b o n c rfl (ccs xs) (hR.st S) default _ 2 Try.underlying32 cellInfo rfl (by decide) ?_ (ccs_one xs) ?_ ?_ ?_; omega; (unfold maxLen; omega); omega; clear S; intro A' c' w' S; simp only [List.set_cons_zero, List.nil_append, Nat.zero_add] at S))
  go_ret
  exact ⟨A', c', rfl, S⟩
end Go.Proofs.Ytpfmmbdddecphaa
