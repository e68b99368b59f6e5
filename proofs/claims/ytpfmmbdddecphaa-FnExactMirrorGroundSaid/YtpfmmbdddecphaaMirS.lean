/- The reference's MirrorGround. -/
import Derived.Test.YtpfmmbdddecphaaMir
namespace Go.Proofs.Ytpfmmbdddecphaa
open Go.RowKit Go.Sort
set_option linter.unusedVariables false
set_option linter.unusedSimpArgs false

theorem exec_index {P : Program} {o : Oper} {a : Act} {w : World} (ty : TypeId) (x i : Operand) (ho : o.op = .indexAddr ty x i) (b off n c : Nat) (hx : a.eval x = .slice (some ⟨b, off, none⟩) n c) (j : Int) (hi : a.eval i = .int .i64 j)
    (e : TypeId) (hu : P.underlying ty = some (.slice e)) (sz : Nat) (hsz : ∀ w, (sizeOf e).run P w = .ok sz w) (h0 : 0 ≤ j) (h1 : j < n) : (execOp a.eval o).run P w = .ok (.value (.pointer (some ⟨b, off + j.toNat * sz, none⟩))) w := by
  unfold execOp; simp only [ho, hx, hi]
  simp [Instr.indexAt, asIntOf, run_underlying hu, hsz, h0, h1, add_at, Sem.run_bind]
theorem run_buildC (x y : Int) (wd : World) : (Instr.build 43 #[(0, .int .i8 x), (1, .int .i8 y)]).run Try.prog wd = .ok (cv (x, y)) wd :=
  run_build wd 43 _ _ (by kernel_rfl)
theorem exec_buildC {o : Oper} {a : Act} {w : World} (ps : Array (Nat × Operand)) (ho : o.op = .build 43 ps) (x y : Int) (hvs : (ps.map fun (i, x) => (i, a.eval x)) = #[(0, .int .i8 x), (1, .int .i8 y)]) : (execOp a.eval o).run Try.prog w = .ok (.value (cv (x, y))) w := by
  unfold execOp; simp only [ho]
  rw [hvs, Sem.run_bind, run_buildC]; rfl
section
variable {P : Program} {ops : Array Oper} {o o2 : Oper} {a : Act} {Q : Exit → Act → World → Prop} {w : World} {C : World → Prop}
theorem C_step2 {fuel i j : Nat} {listed : Array Bool} (hr : Region.ready .any ops listed = [i, j]) (ho : ops[i]? = some o) (ho2 : ops[j]? = some o2)
    (h : wpList P ops (QH Q fun a' w' => C w' ∧ wpAnyH P .any ops Q C fuel (listed.setIfInBounds i true) a' w') [o] a w)
    (h2 : wpList P ops (QH Q fun a' w' => C w' ∧ wpAnyH P .any ops Q C fuel (listed.setIfInBounds j true) a' w') [o2] a w) : wpAnyH P .any ops Q C (fuel + 1) listed a w :=
  wpAnyH_all hr (by simp) fun k hk => by
    rcases (by simpa using hk : k = i ∨ k = j) with e | e
    · subst e; exact wpOp_of_list ho h
    · subst e; exact wpOp_of_list ho2 h2
end
theorem gul_more {G : Gnd} {k : Nat} {d : Pt} (h : (pts G)[k]? = some d) (hm : mir G d ∈ G.gul) : ((pts G).take (k + 1)).filter (fun c => decide (mir G c ∈ G.gul)) = ((pts G).take k).filter (fun c => decide (mir G c ∈ G.gul)) ++ [d] := by
  rw [take_more h, List.filter_append, List.filter_cons_of_pos (by simpa using hm)]; rfl
theorem gul_not {G : Gnd} {k : Nat} {d : Pt} (h : (pts G)[k]? = some d) (hm : mir G d ∉ G.gul) : ((pts G).take (k + 1)).filter (fun c => decide (mir G c ∈ G.gul)) = ((pts G).take k).filter (fun c => decide (mir G c ∈ G.gul)) := by
  rw [take_more h, List.filter_append, List.filter_cons_of_neg (by simpa using hm)]; simp

set_option maxRecDepth 100000 in
set_option maxHeartbeats 1000000 in
theorem sMirrorGround_any (G : Gnd) (hG : G.Ok) (A : Option Addr) (c : Nat) (w : World) (hR : Rd w A (ccs G.gul)) :
    Calls Try.prog 30 #[gv G (.slice A G.gul.length c)] w fun e w' => ∃ A' c', e = .returned (.tuple #[gv (mirO G) (.slice A' (mirO G).gul.length c'), .int .i64 (mirK G)]) ∧ St w w' [ER 43 2 (.slice A' (mirO G).gul.length c') (mirO G).gul.length (ccs (mirO G).gul)] := by
  have S := St.refl w
  have hvg := fun w' gb h1 h2 => l04Ok_any G hG A c gb w' h1 h2
  cases hv : validB G with
  | true =>
    rw [hv] at hvg
    have V := validB_t.1 hv
    have hm8 := V.many
    have hO : Hid (mirO G = mirG G) := by show _ = _; unfold mirO; rw [if_pos hv]
    have hK : Hid (mirK G = 0) := by show _ = _; unfold mirK; rw [if_pos hv]
    clear hv
    have hl0 : (gcs (G.with (List.replicate 81 0)) (.slice none 0 0)).length = 84 := gcs_len rfl _
    go_enter Try.func30, Try.ntmps30
    go_wp2_with (first
      | ((with_reducible refine at_box_ 34 rfl rfl ?_); (refine W_box S rfl _ _ rfl (gv G (.slice A G.gul.length c)) rfl ?_; clear S; intro bg w' S; change St _ _ (EB _ _ (gcs G (.slice A G.gul.length c)) :: _) at S))
      | ((with_reducible refine at_alloc_ 34 rfl rfl ?_); (first | ((fail_if_success have hq := br); refine W_alloc S rfl 34 rfl _ Try.zeroValue34 ?_; clear S; intro br w' S; change St _ _ (EB _ _ (gcs Gnd.zero (.slice none 0 0)) :: _) at S) | ((fail_if_success have hq := bo); refine W_alloc S rfl 34 rfl _ Try.zeroValue34 ?_; clear S; intro bo w' S; change St _ _ (EB _ _ (gcs Gnd.zero (.slice none 0 0)) :: _) at S)))
      | ((with_reducible refine at_load_ 34 rfl rfl ?_); (first | (refine W_loadN S rfl _ _ rfl bg 0 rfl 0 _ _ rfl (gcs G (.slice A G.gul.length c)) Try.isAgg34 (by rw [gcs_length hG]; exact Try.sizeOf34) (fun jq uq hq => by rw [Nat.zero_add]; exact hq) ?_) | (refine W_loadN S rfl _ _ rfl bg 0 rfl 1 _ _ rfl (gcs G (.slice A G.gul.length c)) Try.isAgg34 (by rw [gcs_length hG]; exact Try.sizeOf34) (fun jq uq hq => by rw [Nat.zero_add]; exact hq) ?_) | (refine W_loadN S rfl _ _ rfl bg 0 rfl 2 _ _ rfl (gcs G (.slice A G.gul.length c)) Try.isAgg34 (by rw [gcs_length hG]; exact Try.sizeOf34) (fun jq uq hq => by rw [Nat.zero_add]; exact hq) ?_) | (refine W_loadN S rfl _ _ rfl bg 0 rfl 3 _ _ rfl (gcs G (.slice A G.gul.length c)) Try.isAgg34 (by rw [gcs_length hG]; exact Try.sizeOf34) (fun jq uq hq => by rw [Nat.zero_add]; exact hq) ?_) | (refine W_loadN S rfl _ _ rfl bg 0 rfl 4 _ _ rfl (gcs G (.slice A G.gul.length c)) Try.isAgg34 (by rw [gcs_length hG]; exact Try.sizeOf34) (fun jq uq hq => by rw [Nat.zero_add]; exact hq) ?_) | (refine W_loadN S rfl _ _ rfl bg 0 rfl 5 _ _ rfl (gcs G (.slice A G.gul.length c)) Try.isAgg34 (by rw [gcs_length hG]; exact Try.sizeOf34) (fun jq uq hq => by rw [Nat.zero_add]; exact hq) ?_) | (refine W_loadN S rfl _ _ rfl bg 0 rfl 6 _ _ rfl (gcs G (.slice A G.gul.length c)) Try.isAgg34 (by rw [gcs_length hG]; exact Try.sizeOf34) (fun jq uq hq => by rw [Nat.zero_add]; exact hq) ?_) | (refine W_loadN S rfl _ _ rfl bg 0 rfl 7 _ _ rfl (gcs G (.slice A G.gul.length c)) Try.isAgg34 (by rw [gcs_length hG]; exact Try.sizeOf34) (fun jq uq hq => by rw [Nat.zero_add]; exact hq) ?_) | (refine W_loadN S rfl _ _ rfl bg 0 rfl 8 _ _ rfl (gcs G (.slice A G.gul.length c)) Try.isAgg34 (by rw [gcs_length hG]; exact Try.sizeOf34) (fun jq uq hq => by rw [Nat.zero_add]; exact hq) ?_) | (refine W_loadN S rfl _ _ rfl bg 0 rfl 9 _ _ rfl (gcs G (.slice A G.gul.length c)) Try.isAgg34 (by rw [gcs_length hG]; exact Try.sizeOf34) (fun jq uq hq => by rw [Nat.zero_add]; exact hq) ?_)))
      | (go_at_call 75; refine Calls.mono (hvg _ bg (rd_EB0 S (k := 1) rfl) (hR.st S)) ?_; rintro e w1 ⟨rfl, hb⟩; replace S := S.callB hb; clear hb)
      | ((with_reducible refine at_build_ 34 rfl rfl ?_); (refine W_build rfl _ _ rfl (gv (G.with (List.replicate 81 0)) (.slice none 0 0)) #[(0, .int .i8 G.wide), (1, .int .i8 G.high)] ?_ (run_buildWH G.wide G.high _) ?_; simp [go_sem]))
      | ((with_reducible refine at_store_ 34 rfl rfl ?_); (first | (refine W_storeW S rfl _ _ _ rfl bo rfl 0 _ _ rfl (gcs (G.with (List.replicate 81 0)) (.slice none 0 0)) rfl (by rw [hl0]; exact Try.sizeOf34) (by rw [hl0]; rfl) (gcs_one rfl) ?_; clear S; intro w' S; simp only [List.set_cons_zero, List.set_cons_succ] at S) | (refine W_storeW S rfl _ _ _ rfl bo rfl 1 _ _ rfl (gcs (G.with (List.replicate 81 0)) (.slice none 0 0)) rfl (by rw [hl0]; exact Try.sizeOf34) (by rw [hl0]; rfl) (gcs_one rfl) ?_; clear S; intro w' S; simp only [List.set_cons_zero, List.set_cons_succ] at S) | (refine W_storeW S rfl _ _ _ rfl bo rfl 2 _ _ rfl (gcs (G.with (List.replicate 81 0)) (.slice none 0 0)) rfl (by rw [hl0]; exact Try.sizeOf34) (by rw [hl0]; rfl) (gcs_one rfl) ?_; clear S; intro w' S; simp only [List.set_cons_zero, List.set_cons_succ] at S) | (refine W_storeW S rfl _ _ _ rfl bo rfl 3 _ _ rfl (gcs (G.with (List.replicate 81 0)) (.slice none 0 0)) rfl (by rw [hl0]; exact Try.sizeOf34) (by rw [hl0]; rfl) (gcs_one rfl) ?_; clear S; intro w' S; simp only [List.set_cons_zero, List.set_cons_succ] at S) | (refine W_storeW S rfl _ _ _ rfl bo rfl 4 _ _ rfl (gcs (G.with (List.replicate 81 0)) (.slice none 0 0)) rfl (by rw [hl0]; exact Try.sizeOf34) (by rw [hl0]; rfl) (gcs_one rfl) ?_; clear S; intro w' S; simp only [List.set_cons_zero, List.set_cons_succ] at S) | (refine W_storeW S rfl _ _ _ rfl bo rfl 5 _ _ rfl (gcs (G.with (List.replicate 81 0)) (.slice none 0 0)) rfl (by rw [hl0]; exact Try.sizeOf34) (by rw [hl0]; rfl) (gcs_one rfl) ?_; clear S; intro w' S; simp only [List.set_cons_zero, List.set_cons_succ] at S)))
      | ((with_reducible refine at_load_ 22 rfl rfl ?_); (refine W_load1 S rfl _ _ rfl bg _ rfl 1 _ _ rfl _ Try.isAgg22 rfl ?_))
      | (go_at_call 66; refine Calls.mono (l04All_any G hG _ bg _ (rd_EB0 S (k := 2) rfl)) ?_; rintro e w2 ⟨A2, c2, rfl, S2⟩; replace S := S.call S2; clear S2; simp only [List.cons_append, List.nil_append] at S))
    have hpl := pts_le81 V
    replace S : St _ _ (_ :: ER 43 2 (.slice A2 (pts G).length c2) (pts G).length (ccs (pts G)) :: _) := S.nil 43 2
    go_loopw [6] (fun i wr => ∃ (k : Nat) (ts : List Int) (A3 : Option Addr) (n3 c3 : Nat), i = .int .i64 k ∧ k ≤ (pts G).length ∧ Hid (MirTo G ts ((pts G).take k)) ∧ n3 ≤ k ∧ Hid (n3 = (((pts G).take k).filter (fun c => decide (mir G c ∈ G.gul))).length) ∧ St w wr [ER 43 2 (.slice A3 n3 c3) n3 (ccs (((pts G).take k).filter (fun c => decide (mir G c ∈ G.gul)))), ER 43 2 (.slice A2 (pts G).length c2) (pts G).length (ccs (pts G)), EB bo 34 (gcs (G.with ts) (.slice A3 n3 c3)), EB br 34 (gcs Gnd.zero (.slice none 0 0)), EB bg 34 (gcs G (.slice A G.gul.length c))]) (fun i _ => (pts G).length - (intOf i).toNat)
    case atStart => exact ⟨0, _, none, 0, 0, rfl, by omega, MirTo.start G, by omega, rfl, S⟩
    case round =>
      clear S
      obtain ⟨k, ts, A3, n3, c3, rfl, hk, HT, hn3, HN, S⟩ := hrel
      by_cases hkl : k < (pts G).length
      · obtain ⟨d, hd⟩ : ∃ d, (pts G)[k]? = some d := ⟨_, List.getElem?_eq_getElem hkl⟩
        have hdc := pts_mem.1 (List.mem_of_getElem? hd)
        have hdr := cell_range V hdc
        have hdm := cell_range V (mir_cell.2 hdc)
        have hHm := V.h_le (mir_cell.2 hdc)
        have HDC := Lib.hid hdc
        have HD := Lib.hid hd; clear hd
        have hP : Rd wr A2 (ccs (pts G)) := S.rd (k := 1) rfl
        obtain ⟨bi, oi, hA⟩ := hP.1 (ccs_ne HD.out)
        subst hA
        have htl := Lib.hid HT.out.len
        have hw8 : IntKind.i8.wrap (IntKind.i8.wrap (G.wide - 1) - d.1) = G.wide - 1 - d.1 := by
          have h1 : 0 ≤ G.wide - 1 - d.1 := hdm.1.1
          have h2 : G.wide - 1 - d.1 ≤ 8 := hdm.1.2
          rw [IntWalk.i8_in (G.wide - 1) (by omega), IntWalk.i8_in _ (by omega)]
        have hm0 : d.1 ≤ G.wide - 1 := by have : 0 ≤ G.wide - 1 - d.1 := hdm.1.1; omega
        have hm9 : G.wide - 1 - d.1 < 9 := by have : G.wide - 1 - d.1 ≤ 8 := hdm.1.2; omega
        have hx0 : 0 ≤ d.1 := by omega
        have hx9 : d.1 < 9 := by omega
        have hy0 : 0 ≤ d.2 := by omega
        have hy9 : d.2 < 9 := by omega
        have HW := Lib.hid hw8; clear hw8
        go_wp2
        try (simp only [Act.put, List.setIfInBounds_toArray, List.set_cons_succ, List.set_cons_zero])
        refine C_begin (C := fun w' => St w w' [ER 43 2 (.slice A3 n3 c3) n3 (ccs (((pts G).take k).filter (fun c => decide (mir G c ∈ G.gul)))), ER 43 2 (.slice (some ⟨bi, oi, none⟩) (pts G).length c2) (pts G).length (ccs (pts G)), EB bo 34 (gcs (G.with ts) (.slice A3 n3 c3)), EB br 34 (gcs Gnd.zero (.slice none 0 0)), EB bg 34 (gcs G (.slice A G.gul.length c))]) (by kernel_rfl) (fun w' hb => S.callB hb) ?_; intro wh hch
        (refine C_take (i := 0) rfl (by kernel_rfl) (by kernel_rfl) (by kernel_rfl) rfl (.pointer (some ⟨bg, 0, none⟩)) (fun _ _ _ h => h) (fun w' _ => rfl) hch ?_; simp only [List.getElem_toArray, List.getElem_cons_succ, List.getElem_cons_zero, Act.put, List.setIfInBounds_toArray, List.set_cons_succ, List.set_cons_zero])
        (refine C_load1 1 rfl (by kernel_rfl) (by kernel_rfl) (by kernel_rfl) rfl _ _ rfl bg 0 rfl _ _ (fun w' S' => S'.get (k := 4) rfl) (.int .i8 G.wide) Try.isAgg22 (rfl) hch (fun _ _ _ h => h) ?_; simp only [List.getElem_toArray, List.getElem_cons_succ, List.getElem_cons_zero, Act.put, List.setIfInBounds_toArray, List.set_cons_succ, List.set_cons_zero])
        (refine C_take (i := 2) rfl (by kernel_rfl) (by kernel_rfl) (by kernel_rfl) rfl (.int .i8 (IntKind.i8.wrap (G.wide - 1))) (fun _ _ _ h => h) (fun w' _ => rfl) hch ?_; simp only [List.getElem_toArray, List.getElem_cons_succ, List.getElem_cons_zero, Act.put, List.setIfInBounds_toArray, List.set_cons_succ, List.set_cons_zero])
        (refine C_take (i := 3) rfl (by kernel_rfl) (by kernel_rfl) (by kernel_rfl) rfl (.slice (some ⟨bi, oi, none⟩) (pts G).length c2) (fun _ _ _ h => h) (fun w' _ => rfl) hch ?_; simp only [List.getElem_toArray, List.getElem_cons_succ, List.getElem_cons_zero, Act.put, List.setIfInBounds_toArray, List.set_cons_succ, List.set_cons_zero])
        (refine C_take (i := 4) rfl (by kernel_rfl) (by kernel_rfl) (by kernel_rfl) rfl (.int .i64 k) (fun _ _ _ h => h) (fun w' _ => rfl) hch ?_; simp only [List.getElem_toArray, List.getElem_cons_succ, List.getElem_cons_zero, Act.put, List.setIfInBounds_toArray, List.set_cons_succ, List.set_cons_zero])
        (refine C_take (i := 5) rfl (by kernel_rfl) (by kernel_rfl) (by kernel_rfl) rfl (.pointer (some ⟨bi, oi + k * 2, none⟩)) (fun _ _ _ h => h) (fun w' _ => exec_index _ _ _ rfl bi oi (pts G).length c2 rfl (k : Int) rfl _ Try.underlying32 2 Try.sizeOf43 (by omega) (by omega)) hch ?_; simp only [List.getElem_toArray, List.getElem_cons_succ, List.getElem_cons_zero, Act.put, List.setIfInBounds_toArray, List.set_cons_succ, List.set_cons_zero])
        (refine C_take (i := 6) rfl (by kernel_rfl) (by kernel_rfl) (by kernel_rfl) rfl (.pointer (some ⟨bi, oi + k * 2, none⟩)) (fun _ _ _ h => h) (fun w' _ => rfl) hch ?_; simp only [List.getElem_toArray, List.getElem_cons_succ, List.getElem_cons_zero, Act.put, List.setIfInBounds_toArray, List.set_cons_succ, List.set_cons_zero])
        (refine C_take (i := 7) rfl (by kernel_rfl) (by kernel_rfl) (by kernel_rfl) rfl (.int .i8 d.1) (fun _ _ _ h => h) (fun w' S' => exec_load1 _ _ rfl ⟨bi, oi + k * 2, none⟩ rfl (Try.isAgg22 _) _ (rd_xy (S'.rd (k := 1) rfl) HD.out).1) hch ?_; simp only [List.getElem_toArray, List.getElem_cons_succ, List.getElem_cons_zero, Act.put, List.setIfInBounds_toArray, List.set_cons_succ, List.set_cons_zero])
        (refine C_take (i := 8) rfl (by kernel_rfl) (by kernel_rfl) (by kernel_rfl) rfl (.int .i8 (G.wide - 1 - d.1)) (fun _ _ _ h => h) (fun w' _ => by rw [← HW.out]; rfl) hch ?_; simp only [List.getElem_toArray, List.getElem_cons_succ, List.getElem_cons_zero, Act.put, List.setIfInBounds_toArray, List.set_cons_succ, List.set_cons_zero])
        (refine C_take (i := 9) rfl (by kernel_rfl) (by kernel_rfl) (by kernel_rfl) rfl (.slice (some ⟨bi, oi, none⟩) (pts G).length c2) (fun _ _ _ h => h) (fun w' _ => rfl) hch ?_; simp only [List.getElem_toArray, List.getElem_cons_succ, List.getElem_cons_zero, Act.put, List.setIfInBounds_toArray, List.set_cons_succ, List.set_cons_zero])
        (refine C_take (i := 10) rfl (by kernel_rfl) (by kernel_rfl) (by kernel_rfl) rfl (.int .i64 k) (fun _ _ _ h => h) (fun w' _ => rfl) hch ?_; simp only [List.getElem_toArray, List.getElem_cons_succ, List.getElem_cons_zero, Act.put, List.setIfInBounds_toArray, List.set_cons_succ, List.set_cons_zero])
        (refine C_take (i := 11) rfl (by kernel_rfl) (by kernel_rfl) (by kernel_rfl) rfl (.pointer (some ⟨bi, oi + k * 2, none⟩)) (fun _ _ _ h => h) (fun w' _ => exec_index _ _ _ rfl bi oi (pts G).length c2 rfl (k : Int) rfl _ Try.underlying32 2 Try.sizeOf43 (by omega) (by omega)) hch ?_; simp only [List.getElem_toArray, List.getElem_cons_succ, List.getElem_cons_zero, Act.put, List.setIfInBounds_toArray, List.set_cons_succ, List.set_cons_zero])
        (refine C_take (i := 12) rfl (by kernel_rfl) (by kernel_rfl) (by kernel_rfl) rfl (.pointer (some ⟨bi, oi + k * 2 + 1, none⟩)) (fun _ _ _ h => h) (fun w' _ => rfl) hch ?_; simp only [List.getElem_toArray, List.getElem_cons_succ, List.getElem_cons_zero, Act.put, List.setIfInBounds_toArray, List.set_cons_succ, List.set_cons_zero])
        (refine C_take (i := 13) rfl (by kernel_rfl) (by kernel_rfl) (by kernel_rfl) rfl (.int .i8 d.2) (fun _ _ _ h => h) (fun w' S' => exec_load1 _ _ rfl ⟨bi, oi + k * 2 + 1, none⟩ rfl (Try.isAgg22 _) _ (rd_xy (S'.rd (k := 1) rfl) HD.out).2) hch ?_; simp only [List.getElem_toArray, List.getElem_cons_succ, List.getElem_cons_zero, Act.put, List.setIfInBounds_toArray, List.set_cons_succ, List.set_cons_zero])
        (refine C_take (i := 14) rfl (by kernel_rfl) (by kernel_rfl) (by kernel_rfl) rfl (cv (G.wide - 1 - d.1, d.2)) (fun _ _ _ h => h) (fun w' _ => exec_buildC _ rfl _ _ (by simp [go_sem])) hch ?_; simp only [List.getElem_toArray, List.getElem_cons_succ, List.getElem_cons_zero, Act.put, List.setIfInBounds_toArray, List.set_cons_succ, List.set_cons_zero])
        clear S
        have S := hch
        refine C_step (i := 15) (by kernel_rfl) rfl ?_
        go_wp2_with (first
          | ((with_reducible refine at_alloc_ 43 rfl rfl ?_); ((fail_if_success have hq := bc); refine W_alloc S rfl 43 rfl _ Try.zeroValue43 ?_; clear S; intro bc w' S; change St _ _ (EB _ _ (cenc (0, 0)) :: _) at S)))
        refine ⟨S.tail, ?_⟩
        refine C_step (i := 16) (by kernel_rfl) rfl ?_
        go_wp2_with (first
          | ((with_reducible refine at_store_ 43 rfl rfl ?_); (first | (refine W_storeW S rfl _ _ _ rfl bc rfl 0 _ _ rfl (cenc ((G.wide - 1 - d.1, d.2))) rfl (by exact Try.sizeOf43) (rfl) (one_cells rfl) ?_; clear S; intro w' S; simp only [List.set_cons_zero, List.set_cons_succ] at S) | (refine W_storeW S rfl _ _ _ rfl bc rfl 1 _ _ rfl (cenc ((G.wide - 1 - d.1, d.2))) rfl (by exact Try.sizeOf43) (rfl) (one_cells rfl) ?_; clear S; intro w' S; simp only [List.set_cons_zero, List.set_cons_succ] at S) | (refine W_storeW S rfl _ _ _ rfl bc rfl 2 _ _ rfl (cenc ((G.wide - 1 - d.1, d.2))) rfl (by exact Try.sizeOf43) (rfl) (one_cells rfl) ?_; clear S; intro w' S; simp only [List.set_cons_zero, List.set_cons_succ] at S) | (refine W_storeW S rfl _ _ _ rfl bc rfl 3 _ _ rfl (cenc ((G.wide - 1 - d.1, d.2))) rfl (by exact Try.sizeOf43) (rfl) (one_cells rfl) ?_; clear S; intro w' S; simp only [List.set_cons_zero, List.set_cons_succ] at S) | (refine W_storeW S rfl _ _ _ rfl bc rfl 4 _ _ rfl (cenc ((G.wide - 1 - d.1, d.2))) rfl (by exact Try.sizeOf43) (rfl) (one_cells rfl) ?_; clear S; intro w' S; simp only [List.set_cons_zero, List.set_cons_succ] at S) | (refine W_storeW S rfl _ _ _ rfl bc rfl 5 _ _ rfl (cenc ((G.wide - 1 - d.1, d.2))) rfl (by exact Try.sizeOf43) (rfl) (one_cells rfl) ?_; clear S; intro w' S; simp only [List.set_cons_zero, List.set_cons_succ] at S))))
        refine ⟨S.tail, ?_⟩
        refine wpAnyH_done (by kernel_rfl) ?_ _
        clear hch
        go_wp2
        replace S := S.callB (drew_below _)
        obtain ⟨hcx, hcy⟩ := rd_xy (S.rd (k := 2) rfl) HD.out
        have hc0 := EB.cell (u := .int .i8 (G.wide - 1 - d.1)) (S.get (k := 0) rfl) (j := 0) rfl
        have hc1 := EB.cell (u := .int .i8 d.2) (S.get (k := 0) rfl) (j := 1) rfl
        have hc3 := EB.cell (S.get (k := 5) rfl) (gcs_at hG.len (.slice A G.gul.length c) hdm.1 hdm.2)
        change World.cell? _ ⟨bg, 2 + d.2.toNat * 9 + (G.wide - 1 - d.1).toNat, none⟩ = some (.int .i16 (G.at (G.wide - 1 - d.1) d.2)) at hc3
        refine wp_region_tail 21 (by kernel_rfl) (by kernel_rfl) ?_
        simp only [List.take_succ_cons, List.take_zero, List.drop_succ_cons, List.drop_zero]
        iterate 21 still_step
        refine wpStill_nil ?_
        clear hcx hcy hc0 hc1 hc3
        have htx : tix d < ts.length := by rw [htl.out]; exact tix_lt V HDC.out
        have HM : Hid (MirTo G (ts.set (tix d) (G.at (G.wide - 1 - d.1) d.2)) (((pts G).take (k + 1)))) := by
          show MirTo _ _ _
          rw [take_more HD.out]
          exact HT.out.more V (fun c hc => pts_mem.1 (List.mem_of_mem_take hc)) HDC.out rfl
        refine W_storeN S rfl _ _ _ rfl bo (2 + tix d) (by rw [show 2 + tix d = 2 + d.2.toNat * 9 + d.1.toNat by rw [Nat.add_assoc]; rfl]; rfl) 3 _ (gcs (G.with ts) (.slice A3 n3 c3)) rfl (.int .i16 (G.at (G.wide - 1 - d.1) d.2)) rfl Try.sizeOf23 (one_cells rfl) (gcs (G.with (ts.set (tix d) (G.at (G.wide - 1 - d.1) d.2))) (.slice A3 n3 c3)) (by rw [gcs_len htl.out]; show 2 + tix d + 1 ≤ 84; rw [htl.out] at htx; omega) (gcs_setW htx _ _) ?_
        clear S; intro w' S; simp only [List.set_cons_zero, List.set_cons_succ] at S
        simp only [Act.put, List.setIfInBounds_toArray, List.set_cons_succ, List.set_cons_zero]
        have hgl := fun w' h1 h2 => l04Gully_any G hG hm8 A c bg (G.wide - 1 - d.1, d.2) w' h1 h2
        have htl1 : (ts.set (tix d) (G.at (G.wide - 1 - d.1) d.2)).length = 81 := by rw [List.length_set]; exact htl.out
        generalize ts.set (tix d) (G.at (G.wide - 1 - d.1) d.2) = us at HM htl1 S
        have hul := Lib.hid htl1; clear htl1
        by_cases hgu : mir G d ∈ G.gul
        · have hge : 0 ≤ gulI G (G.wide - 1 - d.1, d.2) := gulI_pos.2 hgu
          have HF := Lib.hid (gul_more HD.out hgu)
          clear hgu
          go_wp2_with (first
            | ((with_reducible refine at_load_ 43 rfl rfl ?_); (first | (refine W_loadN S rfl _ _ rfl bc 0 rfl 0 _ _ rfl (cenc ((G.wide - 1 - d.1, d.2))) Try.isAgg43 (by exact Try.sizeOf43) (fun jq uq hq => by rw [Nat.zero_add]; exact hq) ?_) | (refine W_loadN S rfl _ _ rfl bc 0 rfl 1 _ _ rfl (cenc ((G.wide - 1 - d.1, d.2))) Try.isAgg43 (by exact Try.sizeOf43) (fun jq uq hq => by rw [Nat.zero_add]; exact hq) ?_) | (refine W_loadN S rfl _ _ rfl bc 0 rfl 2 _ _ rfl (cenc ((G.wide - 1 - d.1, d.2))) Try.isAgg43 (by exact Try.sizeOf43) (fun jq uq hq => by rw [Nat.zero_add]; exact hq) ?_) | (refine W_loadN S rfl _ _ rfl bc 0 rfl 3 _ _ rfl (cenc ((G.wide - 1 - d.1, d.2))) Try.isAgg43 (by exact Try.sizeOf43) (fun jq uq hq => by rw [Nat.zero_add]; exact hq) ?_) | (refine W_loadN S rfl _ _ rfl bc 0 rfl 4 _ _ rfl (cenc ((G.wide - 1 - d.1, d.2))) Try.isAgg43 (by exact Try.sizeOf43) (fun jq uq hq => by rw [Nat.zero_add]; exact hq) ?_) | (refine W_loadN S rfl _ _ rfl bc 0 rfl 5 _ _ rfl (cenc ((G.wide - 1 - d.1, d.2))) Try.isAgg43 (by exact Try.sizeOf43) (fun jq uq hq => by rw [Nat.zero_add]; exact hq) ?_) | (refine W_loadN S rfl _ _ rfl bc 0 rfl 6 _ _ rfl (cenc ((G.wide - 1 - d.1, d.2))) Try.isAgg43 (by exact Try.sizeOf43) (fun jq uq hq => by rw [Nat.zero_add]; exact hq) ?_) | (refine W_loadN S rfl _ _ rfl bc 0 rfl 7 _ _ rfl (cenc ((G.wide - 1 - d.1, d.2))) Try.isAgg43 (by exact Try.sizeOf43) (fun jq uq hq => by rw [Nat.zero_add]; exact hq) ?_) | (refine W_loadN S rfl _ _ rfl bc 0 rfl 8 _ _ rfl (cenc ((G.wide - 1 - d.1, d.2))) Try.isAgg43 (by exact Try.sizeOf43) (fun jq uq hq => by rw [Nat.zero_add]; exact hq) ?_) | (refine W_loadN S rfl _ _ rfl bc 0 rfl 9 _ _ rfl (cenc ((G.wide - 1 - d.1, d.2))) Try.isAgg43 (by exact Try.sizeOf43) (fun jq uq hq => by rw [Nat.zero_add]; exact hq) ?_)))
            | (go_at_call 76; refine Calls.mono (hgl _ (by (first | exact S.rd (k := 0) rfl | exact S.rd (k := 1) rfl | exact S.rd (k := 2) rfl | exact S.rd (k := 3) rfl | exact S.rd (k := 4) rfl | exact S.rd (k := 5) rfl | exact S.rd (k := 6) rfl | exact S.rd (k := 7) rfl | exact S.rd (k := 8) rfl | exact S.rd (k := 9) rfl | exact S.rd (k := 10) rfl | exact S.rd (k := 11) rfl | exact rd_EB0 S (k := 0) rfl | exact rd_EB0 S (k := 1) rfl | exact rd_EB0 S (k := 2) rfl | exact rd_EB0 S (k := 3) rfl | exact rd_EB0 S (k := 4) rfl | exact rd_EB0 S (k := 5) rfl | exact rd_EB0 S (k := 6) rfl | exact rd_EB0 S (k := 7) rfl | exact rd_EB0 S (k := 8) rfl | exact rd_EB0 S (k := 9) rfl | exact rd_EB0 S (k := 10) rfl | exact rd_EB0 S (k := 11) rfl | exact S.rdE (k := 0) rfl | exact S.rdE (k := 1) rfl | exact S.rdE (k := 2) rfl | exact S.rdE (k := 3) rfl | exact S.rdE (k := 4) rfl | exact S.rdE (k := 5) rfl | exact S.rdE (k := 6) rfl | exact S.rdE (k := 7) rfl | exact S.rdE (k := 8) rfl | exact S.rdE (k := 9) rfl | exact S.rdE (k := 10) rfl | exact S.rdE (k := 11) rfl)) (hR.st S)) ?_; rintro e w1 ⟨rfl, hb⟩; replace S := S.callB hb; clear hb))
          replace S := S.tail
          replace S := S.callB (drew_below _)
          refine wp_region_held (S := fun w' => ∃ v A4 n4 c4 xs, St w w' [ER 43 2 (.slice A4 n4 c4) n4 xs, ER 43 2 (.slice (some ⟨bi, oi, none⟩) (pts G).length c2) (pts G).length (ccs (pts G)), EB bo 34 (gcs (G.with us) v), EB br 34 (gcs Gnd.zero (.slice none 0 0)), EB bg 34 (gcs G (.slice A G.gul.length c))]) (by kernel_rfl) ?_
          have hch : ∃ v A4 n4 c4 xs, St w _ [ER 43 2 (.slice A4 n4 c4) n4 xs, ER 43 2 (.slice (some ⟨bi, oi, none⟩) (pts G).length c2) (pts G).length (ccs (pts G)), EB bo 34 (gcs (G.with us) v), EB br 34 (gcs Gnd.zero (.slice none 0 0)), EB bg 34 (gcs G (.slice A G.gul.length c))] := ⟨_, _, _, _, _, S⟩
          (refine C_take (i := 0) rfl (by kernel_rfl) (by kernel_rfl) (by kernel_rfl) rfl (.pointer (some ⟨bo, 83, none⟩)) (fun _ _ _ h => h) (fun w' _ => rfl) hch ?_; simp only [List.getElem_toArray, List.getElem_cons_succ, List.getElem_cons_zero, Act.put, List.setIfInBounds_toArray, List.set_cons_succ, List.set_cons_zero])
          (refine C_take (i := 2) rfl (by kernel_rfl) (by kernel_rfl) (by kernel_rfl) rfl (.slice (some ⟨bi, oi, none⟩) (pts G).length c2) (fun _ _ _ h => h) (fun w' _ => rfl) hch ?_; simp only [List.getElem_toArray, List.getElem_cons_succ, List.getElem_cons_zero, Act.put, List.setIfInBounds_toArray, List.set_cons_succ, List.set_cons_zero])
          (refine C_take (i := 3) rfl (by kernel_rfl) (by kernel_rfl) (by kernel_rfl) rfl (.int .i64 k) (fun _ _ _ h => h) (fun w' _ => rfl) hch ?_; simp only [List.getElem_toArray, List.getElem_cons_succ, List.getElem_cons_zero, Act.put, List.setIfInBounds_toArray, List.set_cons_succ, List.set_cons_zero])
          (refine C_take (i := 4) rfl (by kernel_rfl) (by kernel_rfl) (by kernel_rfl) rfl (.pointer (some ⟨bi, oi + k * 2, none⟩)) (fun _ _ _ h => h) (fun w' _ => exec_index _ _ _ rfl bi oi (pts G).length c2 rfl (k : Int) rfl _ Try.underlying32 2 Try.sizeOf43 (by omega) (by omega)) hch ?_; simp only [List.getElem_toArray, List.getElem_cons_succ, List.getElem_cons_zero, Act.put, List.setIfInBounds_toArray, List.set_cons_succ, List.set_cons_zero])
          (refine C_take (i := 5) rfl (by kernel_rfl) (by kernel_rfl) (by kernel_rfl) rfl (.agg (cenc d).toArray) (fun _ _ _ h => h) (fun w' ⟨_, _, _, _, _, S'⟩ => exec_loadN _ _ rfl bi (oi + k * 2) rfl (cenc d) (Try.isAgg43 _) (Try.sizeOf43 _) (fun j u hu => by rw [Nat.add_assoc]; exact (S'.rd (k := 1) rfl).2 bi oi rfl _ _ (cells_mid cenc 2 (fun _ => rfl) _ k d HD.out j u hu))) hch ?_; simp only [List.getElem_toArray, List.getElem_cons_succ, List.getElem_cons_zero, Act.put, List.setIfInBounds_toArray, List.set_cons_succ, List.set_cons_zero])
          refine C_step2 (i := 1) (j := 6) (by kernel_rfl) rfl rfl ?_ ?_
          · go_wp2_with (first
              | ((with_reducible refine at_load_ 32 rfl rfl ?_); (refine W_load1 S rfl _ _ rfl bo 83 rfl 2 _ _ rfl (.slice A3 n3 c3) Try.isAgg32 (gcs_gul hul.out _) ?_)))
            refine ⟨hch, ?_⟩
            refine C_step (i := 6) (by kernel_rfl) rfl ?_
            go_wp2_with (first
              | (refine W_bslice S rfl _ (1) _ rfl 43 (cenc d) ?_ ?_; exact (fun w => by simp [go_sem, Instr.buildSlice, Try.underlying32, Try.sizeOf43, Try.zeroValue43] <;> rfl); clear S; intro bm w' S))
            refine ⟨⟨_, _, _, _, _, S.tail⟩, ?_⟩
            refine C_step (i := 7) (by kernel_rfl) rfl ?_
            go_wp2_with (first
              | (refine W_append S rfl _ _ _ rfl 1 43 2 _ _ _ rfl rfl 0 _ _ _ rfl 1 1 rfl default _ 2 Try.underlying32 cellInfo rfl (by decide) rfl (one_cells rfl) ?_ ?_ ?_; (unfold maxLen; omega); omega; clear S; intro A' c' w' S; simp only [List.set_cons_zero, List.set_cons_succ] at S; replace S := S.tail))
            refine ⟨⟨_, _, _, _, _, S⟩, ?_⟩
            refine C_step (i := 8) (by kernel_rfl) rfl ?_
            go_wp2
            refine ⟨⟨_, _, _, _, _, S⟩, ?_⟩
            refine C_step (i := 9) (by kernel_rfl) rfl ?_
            go_wp2_with (first
              | ((with_reducible refine at_store_ 32 rfl rfl ?_); (refine W_store1 S rfl 32 _ _ rfl bo 83 rfl 2 _ _ rfl (.slice A' (n3 + 1) c') rfl rfl Try.sizeOf32 rfl (by rw [gcs_len hul.out]; omega) ?_; clear S; intro w' S; simp only [List.set_cons_zero, List.set_cons_succ] at S; rw [gcs_setG _ _ _ hul.out] at S)))
            refine ⟨⟨_, _, _, _, _, S⟩, ?_⟩
            refine wpAnyH_done (by kernel_rfl) ?_ _
            go_wp2
            refine ⟨⟨k + 1, us, A', n3 + 1, c', by go_num, by omega, HM, by omega, by rw [HF.out, List.length_append]; exact congrArg (· + 1) HN.out, by rw [HF.out, ccs_app]; exact S⟩, ?_⟩
            simp [intOf]; omega
          · go_wp2_with (first
              | (refine W_bslice S rfl _ (1) _ rfl 43 (cenc d) ?_ ?_; exact (fun w => by simp [go_sem, Instr.buildSlice, Try.underlying32, Try.sizeOf43, Try.zeroValue43] <;> rfl); clear S; intro bm w' S))
            refine ⟨⟨_, _, _, _, _, S.tail⟩, ?_⟩
            refine C_step (i := 1) (by kernel_rfl) rfl ?_
            go_wp2_with (first
              | ((with_reducible refine at_load_ 32 rfl rfl ?_); (refine W_load1 S rfl _ _ rfl bo 83 rfl 3 _ _ rfl (.slice A3 n3 c3) Try.isAgg32 (gcs_gul hul.out _) ?_)))
            refine ⟨⟨_, _, _, _, _, S.tail⟩, ?_⟩
            refine C_step (i := 7) (by kernel_rfl) rfl ?_
            go_wp2_with (first
              | (refine W_append S rfl _ _ _ rfl 1 43 2 _ _ _ rfl rfl 0 _ _ _ rfl 1 1 rfl default _ 2 Try.underlying32 cellInfo rfl (by decide) rfl (one_cells rfl) ?_ ?_ ?_; (unfold maxLen; omega); omega; clear S; intro A' c' w' S; simp only [List.set_cons_zero, List.set_cons_succ] at S; replace S := S.tail))
            refine ⟨⟨_, _, _, _, _, S⟩, ?_⟩
            refine C_step (i := 8) (by kernel_rfl) rfl ?_
            go_wp2
            refine ⟨⟨_, _, _, _, _, S⟩, ?_⟩
            refine C_step (i := 9) (by kernel_rfl) rfl ?_
            go_wp2_with (first
              | ((with_reducible refine at_store_ 32 rfl rfl ?_); (refine W_store1 S rfl 32 _ _ rfl bo 83 rfl 2 _ _ rfl (.slice A' (n3 + 1) c') rfl rfl Try.sizeOf32 rfl (by rw [gcs_len hul.out]; omega) ?_; clear S; intro w' S; simp only [List.set_cons_zero, List.set_cons_succ] at S; rw [gcs_setG _ _ _ hul.out] at S)))
            refine ⟨⟨_, _, _, _, _, S⟩, ?_⟩
            refine wpAnyH_done (by kernel_rfl) ?_ _
            go_wp2
            refine ⟨⟨k + 1, us, A', n3 + 1, c', by go_num, by omega, HM, by omega, by rw [HF.out, List.length_append]; exact congrArg (· + 1) HN.out, by rw [HF.out, ccs_app]; exact S⟩, ?_⟩
            simp [intOf]; omega
        · have hge : ¬ 0 ≤ gulI G (G.wide - 1 - d.1, d.2) := fun h => hgu (gulI_pos.1 h)
          have HF := Lib.hid (gul_not HD.out hgu)
          clear hgu
          go_wp2_with (first
            | ((with_reducible refine at_load_ 43 rfl rfl ?_); (first | (refine W_loadN S rfl _ _ rfl bc 0 rfl 0 _ _ rfl (cenc ((G.wide - 1 - d.1, d.2))) Try.isAgg43 (by exact Try.sizeOf43) (fun jq uq hq => by rw [Nat.zero_add]; exact hq) ?_) | (refine W_loadN S rfl _ _ rfl bc 0 rfl 1 _ _ rfl (cenc ((G.wide - 1 - d.1, d.2))) Try.isAgg43 (by exact Try.sizeOf43) (fun jq uq hq => by rw [Nat.zero_add]; exact hq) ?_) | (refine W_loadN S rfl _ _ rfl bc 0 rfl 2 _ _ rfl (cenc ((G.wide - 1 - d.1, d.2))) Try.isAgg43 (by exact Try.sizeOf43) (fun jq uq hq => by rw [Nat.zero_add]; exact hq) ?_) | (refine W_loadN S rfl _ _ rfl bc 0 rfl 3 _ _ rfl (cenc ((G.wide - 1 - d.1, d.2))) Try.isAgg43 (by exact Try.sizeOf43) (fun jq uq hq => by rw [Nat.zero_add]; exact hq) ?_) | (refine W_loadN S rfl _ _ rfl bc 0 rfl 4 _ _ rfl (cenc ((G.wide - 1 - d.1, d.2))) Try.isAgg43 (by exact Try.sizeOf43) (fun jq uq hq => by rw [Nat.zero_add]; exact hq) ?_) | (refine W_loadN S rfl _ _ rfl bc 0 rfl 5 _ _ rfl (cenc ((G.wide - 1 - d.1, d.2))) Try.isAgg43 (by exact Try.sizeOf43) (fun jq uq hq => by rw [Nat.zero_add]; exact hq) ?_) | (refine W_loadN S rfl _ _ rfl bc 0 rfl 6 _ _ rfl (cenc ((G.wide - 1 - d.1, d.2))) Try.isAgg43 (by exact Try.sizeOf43) (fun jq uq hq => by rw [Nat.zero_add]; exact hq) ?_) | (refine W_loadN S rfl _ _ rfl bc 0 rfl 7 _ _ rfl (cenc ((G.wide - 1 - d.1, d.2))) Try.isAgg43 (by exact Try.sizeOf43) (fun jq uq hq => by rw [Nat.zero_add]; exact hq) ?_) | (refine W_loadN S rfl _ _ rfl bc 0 rfl 8 _ _ rfl (cenc ((G.wide - 1 - d.1, d.2))) Try.isAgg43 (by exact Try.sizeOf43) (fun jq uq hq => by rw [Nat.zero_add]; exact hq) ?_) | (refine W_loadN S rfl _ _ rfl bc 0 rfl 9 _ _ rfl (cenc ((G.wide - 1 - d.1, d.2))) Try.isAgg43 (by exact Try.sizeOf43) (fun jq uq hq => by rw [Nat.zero_add]; exact hq) ?_)))
            | (go_at_call 76; refine Calls.mono (hgl _ (by (first | exact S.rd (k := 0) rfl | exact S.rd (k := 1) rfl | exact S.rd (k := 2) rfl | exact S.rd (k := 3) rfl | exact S.rd (k := 4) rfl | exact S.rd (k := 5) rfl | exact S.rd (k := 6) rfl | exact S.rd (k := 7) rfl | exact S.rd (k := 8) rfl | exact S.rd (k := 9) rfl | exact S.rd (k := 10) rfl | exact S.rd (k := 11) rfl | exact rd_EB0 S (k := 0) rfl | exact rd_EB0 S (k := 1) rfl | exact rd_EB0 S (k := 2) rfl | exact rd_EB0 S (k := 3) rfl | exact rd_EB0 S (k := 4) rfl | exact rd_EB0 S (k := 5) rfl | exact rd_EB0 S (k := 6) rfl | exact rd_EB0 S (k := 7) rfl | exact rd_EB0 S (k := 8) rfl | exact rd_EB0 S (k := 9) rfl | exact rd_EB0 S (k := 10) rfl | exact rd_EB0 S (k := 11) rfl | exact S.rdE (k := 0) rfl | exact S.rdE (k := 1) rfl | exact S.rdE (k := 2) rfl | exact S.rdE (k := 3) rfl | exact S.rdE (k := 4) rfl | exact S.rdE (k := 5) rfl | exact S.rdE (k := 6) rfl | exact S.rdE (k := 7) rfl | exact S.rdE (k := 8) rfl | exact S.rdE (k := 9) rfl | exact S.rdE (k := 10) rfl | exact S.rdE (k := 11) rfl)) (hR.st S)) ?_; rintro e w1 ⟨rfl, hb⟩; replace S := S.callB hb; clear hb))
          refine ⟨⟨k + 1, us, A3, n3, c3, by go_num, by omega, HM, by omega, by rw [HF.out]; exact HN, by rw [HF.out]; exact S.tail⟩, ?_⟩
          simp [intOf]; omega
      · have hke : k = (pts G).length := by omega
        subst hke
        rw [List.take_length] at S HN
        have hts : ts = mirT G := HT.out.all (fun c hc => by rw [List.take_length]; exact pts_mem.2 hc)
        subst hts
        have hn : n3 = (mirGul G).length := HN.out
        subst hn
        change St w wr (ER _ _ _ _ (ccs (mirGul G)) :: _) at S
        clear HT
        have hl1 : ∀ v, (gcs (G.with (mirT G)) v).length = 84 := fun v => gcs_len (mirT_length G) v
        go_wp2_with (first
          | ((with_reducible refine at_load_ 34 rfl rfl ?_); (first | (refine W_loadN S rfl _ _ rfl bo 0 rfl 0 _ _ rfl (gcs (G.with (mirT G)) (.slice A3 (mirGul G).length c3)) Try.isAgg34 (by rw [hl1]; exact Try.sizeOf34) (fun jq uq hq => by rw [Nat.zero_add]; exact hq) ?_) | (refine W_loadN S rfl _ _ rfl bo 0 rfl 1 _ _ rfl (gcs (G.with (mirT G)) (.slice A3 (mirGul G).length c3)) Try.isAgg34 (by rw [hl1]; exact Try.sizeOf34) (fun jq uq hq => by rw [Nat.zero_add]; exact hq) ?_) | (refine W_loadN S rfl _ _ rfl bo 0 rfl 2 _ _ rfl (gcs (G.with (mirT G)) (.slice A3 (mirGul G).length c3)) Try.isAgg34 (by rw [hl1]; exact Try.sizeOf34) (fun jq uq hq => by rw [Nat.zero_add]; exact hq) ?_) | (refine W_loadN S rfl _ _ rfl bo 0 rfl 3 _ _ rfl (gcs (G.with (mirT G)) (.slice A3 (mirGul G).length c3)) Try.isAgg34 (by rw [hl1]; exact Try.sizeOf34) (fun jq uq hq => by rw [Nat.zero_add]; exact hq) ?_) | (refine W_loadN S rfl _ _ rfl bo 0 rfl 4 _ _ rfl (gcs (G.with (mirT G)) (.slice A3 (mirGul G).length c3)) Try.isAgg34 (by rw [hl1]; exact Try.sizeOf34) (fun jq uq hq => by rw [Nat.zero_add]; exact hq) ?_) | (refine W_loadN S rfl _ _ rfl bo 0 rfl 5 _ _ rfl (gcs (G.with (mirT G)) (.slice A3 (mirGul G).length c3)) Try.isAgg34 (by rw [hl1]; exact Try.sizeOf34) (fun jq uq hq => by rw [Nat.zero_add]; exact hq) ?_) | (refine W_loadN S rfl _ _ rfl bo 0 rfl 6 _ _ rfl (gcs (G.with (mirT G)) (.slice A3 (mirGul G).length c3)) Try.isAgg34 (by rw [hl1]; exact Try.sizeOf34) (fun jq uq hq => by rw [Nat.zero_add]; exact hq) ?_) | (refine W_loadN S rfl _ _ rfl bo 0 rfl 7 _ _ rfl (gcs (G.with (mirT G)) (.slice A3 (mirGul G).length c3)) Try.isAgg34 (by rw [hl1]; exact Try.sizeOf34) (fun jq uq hq => by rw [Nat.zero_add]; exact hq) ?_) | (refine W_loadN S rfl _ _ rfl bo 0 rfl 8 _ _ rfl (gcs (G.with (mirT G)) (.slice A3 (mirGul G).length c3)) Try.isAgg34 (by rw [hl1]; exact Try.sizeOf34) (fun jq uq hq => by rw [Nat.zero_add]; exact hq) ?_) | (refine W_loadN S rfl _ _ rfl bo 0 rfl 9 _ _ rfl (gcs (G.with (mirT G)) (.slice A3 (mirGul G).length c3)) Try.isAgg34 (by rw [hl1]; exact Try.sizeOf34) (fun jq uq hq => by rw [Nat.zero_add]; exact hq) ?_)))
          | ((with_reducible refine at_store_ 34 rfl rfl ?_); (first | (refine W_storeW S rfl _ _ _ rfl br rfl 0 _ _ rfl (gcs (G.with (mirT G)) (.slice A3 (mirGul G).length c3)) rfl (by rw [hl1]; exact Try.sizeOf34) (by rw [hl1]; rfl) (gcs_one rfl) ?_; clear S; intro w' S; simp only [List.set_cons_zero, List.set_cons_succ] at S) | (refine W_storeW S rfl _ _ _ rfl br rfl 1 _ _ rfl (gcs (G.with (mirT G)) (.slice A3 (mirGul G).length c3)) rfl (by rw [hl1]; exact Try.sizeOf34) (by rw [hl1]; rfl) (gcs_one rfl) ?_; clear S; intro w' S; simp only [List.set_cons_zero, List.set_cons_succ] at S) | (refine W_storeW S rfl _ _ _ rfl br rfl 2 _ _ rfl (gcs (G.with (mirT G)) (.slice A3 (mirGul G).length c3)) rfl (by rw [hl1]; exact Try.sizeOf34) (by rw [hl1]; rfl) (gcs_one rfl) ?_; clear S; intro w' S; simp only [List.set_cons_zero, List.set_cons_succ] at S) | (refine W_storeW S rfl _ _ _ rfl br rfl 3 _ _ rfl (gcs (G.with (mirT G)) (.slice A3 (mirGul G).length c3)) rfl (by rw [hl1]; exact Try.sizeOf34) (by rw [hl1]; rfl) (gcs_one rfl) ?_; clear S; intro w' S; simp only [List.set_cons_zero, List.set_cons_succ] at S) | (refine W_storeW S rfl _ _ _ rfl br rfl 4 _ _ rfl (gcs (G.with (mirT G)) (.slice A3 (mirGul G).length c3)) rfl (by rw [hl1]; exact Try.sizeOf34) (by rw [hl1]; rfl) (gcs_one rfl) ?_; clear S; intro w' S; simp only [List.set_cons_zero, List.set_cons_succ] at S) | (refine W_storeW S rfl _ _ _ rfl br rfl 5 _ _ rfl (gcs (G.with (mirT G)) (.slice A3 (mirGul G).length c3)) rfl (by rw [hl1]; exact Try.sizeOf34) (by rw [hl1]; rfl) (gcs_one rfl) ?_; clear S; intro w' S; simp only [List.set_cons_zero, List.set_cons_succ] at S))))
        refine W_ret_ct rfl S _ rfl _ rfl rfl 3 _ _ rfl Try.isAgg34 (by rw [hl1]; exact Try.sizeOf34) ?_
        rw [hO.out, hK.out]
        exact ⟨A3, c3, rfl, S.only (k := 0) rfl⟩
  | false =>
    rw [hv] at hvg
    have hO : Hid (mirO G = Gnd.zero) := by show _ = _; unfold mirO; rw [if_neg (by rw [hv]; simp)]
    have hK : Hid (mirK G = 1) := by show _ = _; unfold mirK; rw [if_neg (by rw [hv]; simp)]
    clear hv
    go_enter Try.func30, Try.ntmps30
    go_wp2_with (first
      | ((with_reducible refine at_box_ 34 rfl rfl ?_); (refine W_box S rfl _ _ rfl (gv G (.slice A G.gul.length c)) rfl ?_; clear S; intro bg w' S; change St _ _ (EB _ _ (gcs G (.slice A G.gul.length c)) :: _) at S))
      | ((with_reducible refine at_alloc_ 34 rfl rfl ?_); ((fail_if_success have hq := br); refine W_alloc S rfl 34 rfl _ Try.zeroValue34 ?_; clear S; intro br w' S; change St _ _ (EB _ _ (gcs Gnd.zero (.slice none 0 0)) :: _) at S))
      | (go_at_call 75; refine Calls.mono (hvg _ bg (rd_EB0 S (k := 1) rfl) (hR.st S)) ?_; rintro e w1 ⟨rfl, hb⟩; replace S := S.callB hb; clear hb)
      | ((with_reducible refine at_build_ 34 rfl rfl ?_); (refine W_build rfl _ _ rfl (gv Gnd.zero (.slice none 0 0)) #[] ?_ (run_build0 _) ?_; simp [go_sem]))
      | ((with_reducible refine at_store_ 34 rfl rfl ?_); (first | (refine W_storeW S rfl _ _ _ rfl br rfl 0 _ _ rfl (gcs Gnd.zero (.slice none 0 0)) rfl (by rw [gcs_len rfl]; exact Try.sizeOf34) (rfl) (gcs_one rfl) ?_; clear S; intro w' S; simp only [List.set_cons_zero, List.set_cons_succ] at S) | (refine W_storeW S rfl _ _ _ rfl br rfl 1 _ _ rfl (gcs Gnd.zero (.slice none 0 0)) rfl (by rw [gcs_len rfl]; exact Try.sizeOf34) (rfl) (gcs_one rfl) ?_; clear S; intro w' S; simp only [List.set_cons_zero, List.set_cons_succ] at S) | (refine W_storeW S rfl _ _ _ rfl br rfl 2 _ _ rfl (gcs Gnd.zero (.slice none 0 0)) rfl (by rw [gcs_len rfl]; exact Try.sizeOf34) (rfl) (gcs_one rfl) ?_; clear S; intro w' S; simp only [List.set_cons_zero, List.set_cons_succ] at S) | (refine W_storeW S rfl _ _ _ rfl br rfl 3 _ _ rfl (gcs Gnd.zero (.slice none 0 0)) rfl (by rw [gcs_len rfl]; exact Try.sizeOf34) (rfl) (gcs_one rfl) ?_; clear S; intro w' S; simp only [List.set_cons_zero, List.set_cons_succ] at S) | (refine W_storeW S rfl _ _ _ rfl br rfl 4 _ _ rfl (gcs Gnd.zero (.slice none 0 0)) rfl (by rw [gcs_len rfl]; exact Try.sizeOf34) (rfl) (gcs_one rfl) ?_; clear S; intro w' S; simp only [List.set_cons_zero, List.set_cons_succ] at S) | (refine W_storeW S rfl _ _ _ rfl br rfl 5 _ _ rfl (gcs Gnd.zero (.slice none 0 0)) rfl (by rw [gcs_len rfl]; exact Try.sizeOf34) (rfl) (gcs_one rfl) ?_; clear S; intro w' S; simp only [List.set_cons_zero, List.set_cons_succ] at S))))
    refine W_ret_ct rfl S _ rfl _ rfl rfl 0 _ _ rfl Try.isAgg34 (by rw [gcs_len rfl]; exact Try.sizeOf34) ?_
    rw [hO.out, hK.out]
    exact ⟨none, 0, rfl, (S.nil _ _).only (k := 0) rfl⟩
end Go.Proofs.Ytpfmmbdddecphaa
