/- MirrorGround of the program. -/
import Derived.Test.YtpfmmbdddecphaaSortC
namespace Go.Proofs.Ytpfmmbdddecphaa
open Go.RowKit Go.Sort
set_option linter.unusedVariables false
set_option linter.unusedSimpArgs false

set_option maxRecDepth 100000 in
theorem mir1_any (x y : Int) (w : World) :
    Calls Try.prog 77 #[cv (x, y)] w fun e w' => e = .returned (.bool true) ∧ Below w.heap.size w w' := by
  have S := St.refl w
  go_enter Try.func77, Try.ntmps77
  go_wp2_with (first
    | (refine W_box S rfl _ _ rfl (.agg #[.int .i8 x, .int .i8 y]) rfl ?_; clear S; intro bc w' S; change St _ _ (EB _ _ ([.int .i8 x, .int .i8 y]) :: _) at S))
  go_ret
  exact ⟨rfl, S.below⟩
theorem mir1_eg : ∀ args w, (callFunc 77 args).run Try.prog w = .ok (.enter 77 args) w := enters_of Try.func77 (by kernel_rfl) rfl
set_option maxRecDepth 100000 in
set_option maxHeartbeats 1000000 in
theorem mirPts_any (G : Gnd) (hG : G.Ok) (v : Value) (w : World) :
    Calls Try.prog 70 #[gv G v, .func (.func 77) #[] #[]] w fun e w' =>
      ∃ A c, e = .returned (.slice A (pts G).length c) ∧ St w w' [ER 43 2 (.slice A (pts G).length c) (pts G).length (ccs (pts G))] :=
  points_any G hG v (fun _ => true) 77 #[] w mir1_eg (fun x y hx hy w' _ => mir1_any x y w')

theorem gcs_setW {G : Gnd} {ts : List Int} {i : Nat} (h : i < ts.length) (v : Value) (t : Int) : gcs (G.with (ts.set i t)) v = (gcs (G.with ts) v).take (2 + i) ++ [.int .i16 t] ++ (gcs (G.with ts) v).drop (2 + i + 1) := by
  rw [gcs_h, gcs_h]
  have e : hvl (G.with (ts.set i t)).hs = (hvl ts).set i (.int .i16 t) := by simp [hvl, Gnd.with, List.map_set]
  rw [e, set_eq_splice _ _ _ (by simp only [List.length_cons, List.length_append, hvl_length, Gnd.with]; simp; omega), Nat.add_comm 2 i]
  rw [List.set_cons_succ, List.set_cons_succ, List.set_append_left _ _ (by rw [hvl_length]; exact h)]
  rfl

theorem pts_le81 {G : Gnd} (V : ValidG G) : (pts G).length ≤ 81 := by
  rw [pts_length]
  have h1 : G.high.toNat * G.wide.toNat ≤ 9 * 9 := Nat.mul_le_mul (by have := V.high; omega) (by have := V.wide; omega)
  omega
/-- What is to be returned by MirrorGround. -/
noncomputable def mirO (G : Gnd) : Gnd := if validB G = true then mirG G else Gnd.zero
noncomputable def mirK (G : Gnd) : Int := if validB G = true then 0 else 1

set_option maxRecDepth 100000 in
set_option maxHeartbeats 1000000 in
theorem mirrorGround_any (G : Gnd) (hG : G.Ok) (A : Option Addr) (c : Nat) (w : World) (hR : Rd w A (ccs G.gul)) :
    Calls Try.prog 31 #[gv G (.slice A G.gul.length c)] w fun e w' => ∃ A' c', e = .returned (.tuple #[gv (mirO G) (.slice A' (mirO G).gul.length c'), .int .i64 (mirK G)]) ∧ St w w' [ER 43 2 (.slice A' (mirO G).gul.length c') (mirO G).gul.length (ccs (mirO G).gul)] := by
  have S := St.refl w
  have hvg := fun w' (hb : Below w.heap.size w w') => validGround_any G hG A c w' (hR.below hb)
  cases hv : validB G with
  | true =>
    rw [hv] at hvg
    have V := validB_t.1 hv
    have hm8 := V.many
    have hO : Hid (mirO G = mirG G) := by show _ = _; unfold mirO; rw [if_pos hv]
    have hK : Hid (mirK G = 0) := by show _ = _; unfold mirK; rw [if_pos hv]
    clear hv
    have hl0 : (gcs (G.with (List.replicate 81 0)) (.slice none 0 0)).length = 84 := gcs_len rfl _
    go_enter Try.func31, Try.ntmps31
    go_wp2_with (first
      | ((with_reducible refine at_box_ 34 rfl rfl ?_); (refine W_box S rfl _ _ rfl (gv G (.slice A G.gul.length c)) rfl ?_; clear S; intro bg w' S; change St _ _ (EB _ _ (gcs G (.slice A G.gul.length c)) :: _) at S))
      | ((with_reducible refine at_alloc_ 34 rfl rfl ?_); (first | ((fail_if_success have hq := br); refine W_alloc S rfl 34 rfl _ Try.zeroValue34 ?_; clear S; intro br w' S; change St _ _ (EB _ _ (gcs Gnd.zero (.slice none 0 0)) :: _) at S) | ((fail_if_success have hq := bo); refine W_alloc S rfl 34 rfl _ Try.zeroValue34 ?_; clear S; intro bo w' S; change St _ _ (EB _ _ (gcs Gnd.zero (.slice none 0 0)) :: _) at S)))
      | ((with_reducible refine at_load_ 34 rfl rfl ?_); (first | (refine W_loadN S rfl _ _ rfl bg 0 rfl 0 _ _ rfl (gcs G (.slice A G.gul.length c)) Try.isAgg34 (by rw [gcs_length hG]; exact Try.sizeOf34) (fun jq uq hq => by rw [Nat.zero_add]; exact hq) ?_) | (refine W_loadN S rfl _ _ rfl bg 0 rfl 1 _ _ rfl (gcs G (.slice A G.gul.length c)) Try.isAgg34 (by rw [gcs_length hG]; exact Try.sizeOf34) (fun jq uq hq => by rw [Nat.zero_add]; exact hq) ?_) | (refine W_loadN S rfl _ _ rfl bg 0 rfl 2 _ _ rfl (gcs G (.slice A G.gul.length c)) Try.isAgg34 (by rw [gcs_length hG]; exact Try.sizeOf34) (fun jq uq hq => by rw [Nat.zero_add]; exact hq) ?_) | (refine W_loadN S rfl _ _ rfl bg 0 rfl 3 _ _ rfl (gcs G (.slice A G.gul.length c)) Try.isAgg34 (by rw [gcs_length hG]; exact Try.sizeOf34) (fun jq uq hq => by rw [Nat.zero_add]; exact hq) ?_) | (refine W_loadN S rfl _ _ rfl bg 0 rfl 4 _ _ rfl (gcs G (.slice A G.gul.length c)) Try.isAgg34 (by rw [gcs_length hG]; exact Try.sizeOf34) (fun jq uq hq => by rw [Nat.zero_add]; exact hq) ?_) | (refine W_loadN S rfl _ _ rfl bg 0 rfl 5 _ _ rfl (gcs G (.slice A G.gul.length c)) Try.isAgg34 (by rw [gcs_length hG]; exact Try.sizeOf34) (fun jq uq hq => by rw [Nat.zero_add]; exact hq) ?_) | (refine W_loadN S rfl _ _ rfl bg 0 rfl 6 _ _ rfl (gcs G (.slice A G.gul.length c)) Try.isAgg34 (by rw [gcs_length hG]; exact Try.sizeOf34) (fun jq uq hq => by rw [Nat.zero_add]; exact hq) ?_) | (refine W_loadN S rfl _ _ rfl bg 0 rfl 7 _ _ rfl (gcs G (.slice A G.gul.length c)) Try.isAgg34 (by rw [gcs_length hG]; exact Try.sizeOf34) (fun jq uq hq => by rw [Nat.zero_add]; exact hq) ?_) | (refine W_loadN S rfl _ _ rfl bg 0 rfl 8 _ _ rfl (gcs G (.slice A G.gul.length c)) Try.isAgg34 (by rw [gcs_length hG]; exact Try.sizeOf34) (fun jq uq hq => by rw [Nat.zero_add]; exact hq) ?_) | (refine W_loadN S rfl _ _ rfl bg 0 rfl 9 _ _ rfl (gcs G (.slice A G.gul.length c)) Try.isAgg34 (by rw [gcs_length hG]; exact Try.sizeOf34) (fun jq uq hq => by rw [Nat.zero_add]; exact hq) ?_)))
      | (go_at_call 44; refine (hvg _ S.below).mono ?_; rintro e w1 ⟨rfl, hb⟩; replace S := S.callB hb; clear hb)
      | ((with_reducible refine at_build_ 34 rfl rfl ?_); (refine W_build rfl _ _ rfl (gv (G.with (List.replicate 81 0)) (.slice none 0 0)) #[(0, .int .i8 G.wide), (1, .int .i8 G.high)] ?_ (run_buildWH G.wide G.high _) ?_; simp [go_sem]))
      | ((with_reducible refine at_store_ 34 rfl rfl ?_); (first | (refine W_storeW S rfl _ _ _ rfl bo rfl 0 _ _ rfl (gcs (G.with (List.replicate 81 0)) (.slice none 0 0)) rfl (by rw [hl0]; exact Try.sizeOf34) (by rw [hl0]; rfl) (gcs_one rfl) ?_; clear S; intro w' S; simp only [List.set_cons_zero, List.set_cons_succ] at S) | (refine W_storeW S rfl _ _ _ rfl bo rfl 1 _ _ rfl (gcs (G.with (List.replicate 81 0)) (.slice none 0 0)) rfl (by rw [hl0]; exact Try.sizeOf34) (by rw [hl0]; rfl) (gcs_one rfl) ?_; clear S; intro w' S; simp only [List.set_cons_zero, List.set_cons_succ] at S) | (refine W_storeW S rfl _ _ _ rfl bo rfl 2 _ _ rfl (gcs (G.with (List.replicate 81 0)) (.slice none 0 0)) rfl (by rw [hl0]; exact Try.sizeOf34) (by rw [hl0]; rfl) (gcs_one rfl) ?_; clear S; intro w' S; simp only [List.set_cons_zero, List.set_cons_succ] at S) | (refine W_storeW S rfl _ _ _ rfl bo rfl 3 _ _ rfl (gcs (G.with (List.replicate 81 0)) (.slice none 0 0)) rfl (by rw [hl0]; exact Try.sizeOf34) (by rw [hl0]; rfl) (gcs_one rfl) ?_; clear S; intro w' S; simp only [List.set_cons_zero, List.set_cons_succ] at S) | (refine W_storeW S rfl _ _ _ rfl bo rfl 4 _ _ rfl (gcs (G.with (List.replicate 81 0)) (.slice none 0 0)) rfl (by rw [hl0]; exact Try.sizeOf34) (by rw [hl0]; rfl) (gcs_one rfl) ?_; clear S; intro w' S; simp only [List.set_cons_zero, List.set_cons_succ] at S) | (refine W_storeW S rfl _ _ _ rfl bo rfl 5 _ _ rfl (gcs (G.with (List.replicate 81 0)) (.slice none 0 0)) rfl (by rw [hl0]; exact Try.sizeOf34) (by rw [hl0]; rfl) (gcs_one rfl) ?_; clear S; intro w' S; simp only [List.set_cons_zero, List.set_cons_succ] at S)))
      | ((with_reducible refine at_load_ 22 rfl rfl ?_); (refine W_load1 S rfl _ _ rfl bg _ rfl 1 _ _ rfl _ Try.isAgg22 rfl ?_))
      | (go_at_call 70; refine Calls.mono (mirPts_any G hG (.slice A G.gul.length c) _) ?_; rintro e w2 ⟨A2, c2, rfl, S2⟩; replace S := S.call S2; clear S2; simp only [List.cons_append, List.nil_append] at S))
    have hpl := pts_le81 V
    go_loopw [21] (fun i wr => ∃ (k : Nat) (ts : List Int), i = .int .i64 k ∧ k ≤ (pts G).length ∧ Hid (MirTo G ts (((pts G).take k).map (mir G))) ∧ St w wr [ER 43 2 (.slice A2 (pts G).length c2) (pts G).length (ccs (pts G)), EB bo 34 (gcs (G.with ts) (.slice none 0 0)), EB br 34 (gcs Gnd.zero (.slice none 0 0)), EB bg 34 (gcs G (.slice A G.gul.length c))]) (fun i _ => (pts G).length - (intOf i).toNat)
    case atStart => exact ⟨0, _, rfl, by omega, MirTo.start G, S⟩
    case round =>
      clear S
      obtain ⟨k, ts, rfl, hk, HT, S⟩ := hrel
      by_cases hkl : k < (pts G).length
      · obtain ⟨d, hd⟩ : ∃ d, (pts G)[k]? = some d := ⟨_, List.getElem?_eq_getElem hkl⟩
        have hdc := pts_mem.1 (List.mem_of_getElem? hd)
        have hdr := cell_range V hdc
        have hdm := cell_range V (mir_cell.2 hdc)
        have hHd := V.h_le hdc
        have HDC := Lib.hid hdc
        have HD := Lib.hid hd; clear hd
        have hP : Rd wr A2 (ccs (pts G)) := S.rd (k := 0) rfl
        obtain ⟨bi, oi, hA⟩ := hP.1 (ccs_ne HD.out)
        subst hA
        have htl := Lib.hid HT.out.len
        go_wp2_with (first
          | (refine W_elem cenc rfl _ _ rfl bi oi (k) 2 ?_ (pts G) ?_ (fun _ => rfl) (d) ?_ Try.isAgg43 Try.sizeOf43 ?_; rfl; exact hP; exact HD.out)
          | ((with_reducible refine at_alloc_ 43 rfl rfl ?_); ((fail_if_success have hq := bc); refine W_alloc S rfl 43 rfl _ Try.zeroValue43 ?_; clear S; intro bc w' S; change St _ _ (EB _ _ (cenc (0, 0)) :: _) at S))
          | ((with_reducible refine at_store_ 43 rfl rfl ?_); (first | (refine W_storeW S rfl _ _ _ rfl bc rfl 0 _ _ rfl (cenc (d)) rfl (by exact Try.sizeOf43) (rfl) (one_cells rfl) ?_; clear S; intro w' S; simp only [List.set_cons_zero, List.set_cons_succ] at S) | (refine W_storeW S rfl _ _ _ rfl bc rfl 1 _ _ rfl (cenc (d)) rfl (by exact Try.sizeOf43) (rfl) (one_cells rfl) ?_; clear S; intro w' S; simp only [List.set_cons_zero, List.set_cons_succ] at S) | (refine W_storeW S rfl _ _ _ rfl bc rfl 2 _ _ rfl (cenc (d)) rfl (by exact Try.sizeOf43) (rfl) (one_cells rfl) ?_; clear S; intro w' S; simp only [List.set_cons_zero, List.set_cons_succ] at S) | (refine W_storeW S rfl _ _ _ rfl bc rfl 3 _ _ rfl (cenc (d)) rfl (by exact Try.sizeOf43) (rfl) (one_cells rfl) ?_; clear S; intro w' S; simp only [List.set_cons_zero, List.set_cons_succ] at S) | (refine W_storeW S rfl _ _ _ rfl bc rfl 4 _ _ rfl (cenc (d)) rfl (by exact Try.sizeOf43) (rfl) (one_cells rfl) ?_; clear S; intro w' S; simp only [List.set_cons_zero, List.set_cons_succ] at S) | (refine W_storeW S rfl _ _ _ rfl bc rfl 5 _ _ rfl (cenc (d)) rfl (by exact Try.sizeOf43) (rfl) (one_cells rfl) ?_; clear S; intro w' S; simp only [List.set_cons_zero, List.set_cons_succ] at S))))
        replace S := S.callB (drew_below _)
        have hc0 := EB.cell (S.get (k := 0) rfl) (j := 0) rfl
        have hc1 := EB.cell (S.get (k := 0) rfl) (j := 1) rfl
        have hc2 := EB.cell (S.get (k := 4) rfl) (j := 0) rfl
        have hc3 := EB.cell (S.get (k := 4) rfl) (gcs_at hG.len (.slice A G.gul.length c) hdr.1 hdr.2)
        have hx0 : 0 ≤ d.1 := by omega
        have hx9 : d.1 < 9 := by omega
        have hy0 : 0 ≤ d.2 := by omega
        have hy9 : d.2 < 9 := by omega
        have hw8 : IntKind.i8.wrap (IntKind.i8.wrap (G.wide - 1) - d.1) = G.wide - 1 - d.1 := by
          have h1 : 0 ≤ G.wide - 1 - d.1 := hdm.1.1
          have h2 : G.wide - 1 - d.1 ≤ 8 := hdm.1.2
          rw [IntWalk.i8_in (G.wide - 1) (by omega), IntWalk.i8_in _ (by omega)]
        have hm0 : d.1 ≤ G.wide - 1 := by have : 0 ≤ G.wide - 1 - d.1 := hdm.1.1; omega
        have hm9 : G.wide - 1 - d.1 < 9 := by have : G.wide - 1 - d.1 ≤ 8 := hdm.1.2; omega
        refine wp_region_tail 19 (by kernel_rfl) (by kernel_rfl) ?_
        simp only [List.take_succ_cons, List.take_zero, List.drop_succ_cons, List.drop_zero]
        iterate 19 still_step
        refine wpStill_nil ?_
        clear hc0 hc1 hc2 hc3
        have htx : tix (mir G d) < ts.length := by rw [htl.out]; exact tix_lt V (mir_cell.2 HDC.out)
        have HM : MirTo G (ts.set (tix (mir G d)) (G.at d.1 d.2)) (((pts G).take k).map (mir G) ++ [mir G d]) := HT.out.more V (fun c hc => by
          obtain ⟨e, he, rfl⟩ := List.mem_map.1 hc
          exact mir_cell.2 (pts_mem.1 (List.mem_of_mem_take he))) (mir_cell.2 HDC.out) (by rw [mir_mir]; rfl)
        have hidx : 2 + d.2.toNat * 9 + (G.wide - 1 - d.1).toNat = 2 + tix (mir G d) := by rw [Nat.add_assoc]; rfl
        refine W_storeN S rfl _ _ _ rfl bo (2 + tix (mir G d)) (by rw [← hidx]; rfl) 2 _ (gcs (G.with ts) (.slice none 0 0)) rfl (.int .i16 (G.at d.1 d.2)) rfl Try.sizeOf23 (one_cells rfl) (gcs (G.with (ts.set (tix (mir G d)) (G.at d.1 d.2))) (.slice none 0 0)) (by rw [gcs_len htl.out]; show 2 + tix (mir G d) + 1 ≤ 84; rw [htl.out] at htx; omega) (gcs_setW htx _ _) ?_
        clear S; intro w' S; simp only [List.set_cons_zero, List.set_cons_succ] at S
        simp only [Act.put, List.setIfInBounds_toArray, List.set_cons_succ, List.set_cons_zero]
        go_wp2
        refine ⟨⟨k + 1, ts.set (tix (mir G d)) (G.at d.1 d.2), by go_num, by omega, by rw [take_more HD.out, List.map_append]; exact HM, S.tail⟩, ?_⟩
        simp [intOf]; omega
      · have hke : k = (pts G).length := by omega
        subst hke
        have hts : ts = mirT G := HT.out.all (fun c hc => List.mem_map.2 ⟨mir G c, by rw [List.take_length]; exact pts_mem.2 (mir_cell.2 hc), mir_mir G c⟩)
        subst hts
        clear HT
        replace S := (S.tail).nil 43 2
        have htl := Lib.hid (mirT_length G)
        have hl1 : ∀ v, (gcs (G.with (mirT G)) v).length = 84 := fun v => gcs_len (mirT_length G) v
        go_wp2_with (first
          | ((with_reducible refine at_load_ 32 rfl rfl ?_); (refine W_load1 S rfl _ _ rfl bg 83 rfl 3 _ _ rfl (.slice A G.gul.length c) Try.isAgg32 (gcs_gul hG.len _) ?_)))
        go_loopw [48] (fun i wr => ∃ (k : Nat) (A3 : Option Addr) (c3 : Nat), i = .int .i64 k ∧ k ≤ G.gul.length ∧ St w wr [ER 43 2 (.slice A3 k c3) k (ccs ((G.gul.take k).map (mir G))), EB bo 34 (gcs (G.with (mirT G)) (.slice A3 k c3)), EB br 34 (gcs Gnd.zero (.slice none 0 0)), EB bg 34 (gcs G (.slice A G.gul.length c))]) (fun i _ => G.gul.length - (intOf i).toNat)
        case atStart => exact ⟨0, none, 0, rfl, by omega, S⟩
        case round =>
          clear S
          obtain ⟨k, A3, c3, rfl, hk, S⟩ := hrel
          by_cases hkl : k < G.gul.length
          · obtain ⟨d, hd⟩ : ∃ d, G.gul[k]? = some d := ⟨_, List.getElem?_eq_getElem hkl⟩
            have hdc := gul_cell V (List.mem_of_getElem? hd)
            have hdr := cell_range V hdc
            have hdm := cell_range V (mir_cell.2 hdc)
            have HF : Hid ((G.gul.take (k + 1)).map (mir G) = (G.gul.take k).map (mir G) ++ [mir G d]) := by show _ = _; rw [take_more hd, List.map_append]; rfl
            have HD := Lib.hid hd; clear hd
            have hP : Rd wr A (ccs G.gul) := hR.st S
            obtain ⟨bi, oi, hA⟩ := hP.1 (ccs_ne HD.out)
            subst hA
            have hw8 : IntKind.i8.wrap (IntKind.i8.wrap (G.wide - 1) - d.1) = G.wide - 1 - d.1 := by
              have h1 : 0 ≤ G.wide - 1 - d.1 := hdm.1.1
              have h2 : G.wide - 1 - d.1 ≤ 8 := hdm.1.2
              rw [IntWalk.i8_in (G.wide - 1) (by omega), IntWalk.i8_in _ (by omega)]
            clear hdr hdm
            go_wp2_with (first
              | (refine W_elem cenc rfl _ _ rfl bi oi (k) 2 ?_ (G.gul) ?_ (fun _ => rfl) (d) ?_ Try.isAgg43 Try.sizeOf43 ?_; rfl; exact hP; exact HD.out)
              | ((with_reducible refine at_alloc_ 43 rfl rfl ?_); ((fail_if_success have hq := bc); refine W_alloc S rfl 43 rfl _ Try.zeroValue43 ?_; clear S; intro bc w' S; change St _ _ (EB _ _ (cenc (0, 0)) :: _) at S))
              | ((with_reducible refine at_store_ 43 rfl rfl ?_); (first | (refine W_storeW S rfl _ _ _ rfl bc rfl 0 _ _ rfl (cenc (d)) rfl (by exact Try.sizeOf43) (rfl) (one_cells rfl) ?_; clear S; intro w' S; simp only [List.set_cons_zero, List.set_cons_succ] at S) | (refine W_storeW S rfl _ _ _ rfl bc rfl 1 _ _ rfl (cenc (d)) rfl (by exact Try.sizeOf43) (rfl) (one_cells rfl) ?_; clear S; intro w' S; simp only [List.set_cons_zero, List.set_cons_succ] at S) | (refine W_storeW S rfl _ _ _ rfl bc rfl 2 _ _ rfl (cenc (d)) rfl (by exact Try.sizeOf43) (rfl) (one_cells rfl) ?_; clear S; intro w' S; simp only [List.set_cons_zero, List.set_cons_succ] at S) | (refine W_storeW S rfl _ _ _ rfl bc rfl 3 _ _ rfl (cenc (d)) rfl (by exact Try.sizeOf43) (rfl) (one_cells rfl) ?_; clear S; intro w' S; simp only [List.set_cons_zero, List.set_cons_succ] at S) | (refine W_storeW S rfl _ _ _ rfl bc rfl 4 _ _ rfl (cenc (d)) rfl (by exact Try.sizeOf43) (rfl) (one_cells rfl) ?_; clear S; intro w' S; simp only [List.set_cons_zero, List.set_cons_succ] at S) | (refine W_storeW S rfl _ _ _ rfl bc rfl 5 _ _ rfl (cenc (d)) rfl (by exact Try.sizeOf43) (rfl) (one_cells rfl) ?_; clear S; intro w' S; simp only [List.set_cons_zero, List.set_cons_succ] at S)))
              | ((with_reducible refine at_load_ 22 rfl rfl ?_); (first | (refine W_load1 S rfl _ _ rfl bc _ rfl 0 _ _ rfl _ Try.isAgg22 rfl ?_) | (refine W_load1 S rfl _ _ rfl bg _ rfl 4 _ _ rfl _ Try.isAgg22 rfl ?_)))
              | ((with_reducible refine at_load_ 32 rfl rfl ?_); (refine W_load1 S rfl _ _ rfl bo 83 rfl 2 _ _ rfl (.slice A3 k c3) Try.isAgg32 (gcs_gul (mirT_length G) _) ?_))
              | (refine W_bslice S rfl _ (1) _ rfl 43 ([.int .i8 (G.wide - 1 - d.1), .int .i8 d.2]) ?_ ?_; exact (fun w => by simp [go_sem, Instr.buildSlice, Try.underlying32, Try.sizeOf43, Try.zeroValue43] <;> rfl); clear S; intro bm w' S)
              | (refine W_append S rfl _ _ _ rfl 2 43 2 _ _ _ rfl rfl 0 _ _ _ rfl 1 1 rfl default _ 2 Try.underlying32 cellInfo rfl (by decide) rfl (one_cells rfl) ?_ ?_ ?_; (unfold maxLen; omega); omega; clear S; intro A' c' w' S; simp only [List.set_cons_zero, List.set_cons_succ] at S; replace S := S.tail)
              | ((with_reducible refine at_store_ 32 rfl rfl ?_); (refine W_store1 S rfl 32 _ _ rfl bo 83 rfl 2 _ _ rfl (.slice A' (k + 1) c') rfl rfl Try.sizeOf32 rfl (by rw [hl1]; omega) ?_; clear S; intro w' S; simp only [List.set_cons_zero, List.set_cons_succ] at S; rw [gcs_setG _ _ _ (mirT_length G)] at S)))
            refine ⟨⟨k + 1, A', c', by go_num, by omega, by rw [HF.out, ccs_app]; exact S.tail⟩, ?_⟩
            simp [intOf]; omega
          · have hke : k = G.gul.length := by omega
            subst hke
            rw [List.take_length] at S
            go_wp2_with (first
              | ((with_reducible refine at_load_ 32 rfl rfl ?_); (refine W_load1 S rfl _ _ rfl bo 83 rfl 1 _ _ rfl (.slice A3 G.gul.length c3) Try.isAgg32 (gcs_gul (mirT_length G) _) ?_))
              | (go_at_call 78; refine Calls.mono (sortCells_any _ _ _ S 0 A3 G.gul.length c3 (G.gul.map (mir G)) rfl (by rw [List.length_map]) (by omega)) ?_; rintro e w1 ⟨rfl, zs, hz1, hz2, S2⟩; replace S := S2; clear S2; simp only [List.set_cons_zero] at S; have hz := mir_sorts V hz1 hz2; subst hz; clear hz1 hz2)
              | ((with_reducible refine at_load_ 34 rfl rfl ?_); (first | (refine W_loadN S rfl _ _ rfl bo 0 rfl 0 _ _ rfl (gcs (G.with (mirT G)) (.slice A3 G.gul.length c3)) Try.isAgg34 (by rw [hl1]; exact Try.sizeOf34) (fun jq uq hq => by rw [Nat.zero_add]; exact hq) ?_) | (refine W_loadN S rfl _ _ rfl bo 0 rfl 1 _ _ rfl (gcs (G.with (mirT G)) (.slice A3 G.gul.length c3)) Try.isAgg34 (by rw [hl1]; exact Try.sizeOf34) (fun jq uq hq => by rw [Nat.zero_add]; exact hq) ?_) | (refine W_loadN S rfl _ _ rfl bo 0 rfl 2 _ _ rfl (gcs (G.with (mirT G)) (.slice A3 G.gul.length c3)) Try.isAgg34 (by rw [hl1]; exact Try.sizeOf34) (fun jq uq hq => by rw [Nat.zero_add]; exact hq) ?_) | (refine W_loadN S rfl _ _ rfl bo 0 rfl 3 _ _ rfl (gcs (G.with (mirT G)) (.slice A3 G.gul.length c3)) Try.isAgg34 (by rw [hl1]; exact Try.sizeOf34) (fun jq uq hq => by rw [Nat.zero_add]; exact hq) ?_) | (refine W_loadN S rfl _ _ rfl bo 0 rfl 4 _ _ rfl (gcs (G.with (mirT G)) (.slice A3 G.gul.length c3)) Try.isAgg34 (by rw [hl1]; exact Try.sizeOf34) (fun jq uq hq => by rw [Nat.zero_add]; exact hq) ?_) | (refine W_loadN S rfl _ _ rfl bo 0 rfl 5 _ _ rfl (gcs (G.with (mirT G)) (.slice A3 G.gul.length c3)) Try.isAgg34 (by rw [hl1]; exact Try.sizeOf34) (fun jq uq hq => by rw [Nat.zero_add]; exact hq) ?_) | (refine W_loadN S rfl _ _ rfl bo 0 rfl 6 _ _ rfl (gcs (G.with (mirT G)) (.slice A3 G.gul.length c3)) Try.isAgg34 (by rw [hl1]; exact Try.sizeOf34) (fun jq uq hq => by rw [Nat.zero_add]; exact hq) ?_) | (refine W_loadN S rfl _ _ rfl bo 0 rfl 7 _ _ rfl (gcs (G.with (mirT G)) (.slice A3 G.gul.length c3)) Try.isAgg34 (by rw [hl1]; exact Try.sizeOf34) (fun jq uq hq => by rw [Nat.zero_add]; exact hq) ?_) | (refine W_loadN S rfl _ _ rfl bo 0 rfl 8 _ _ rfl (gcs (G.with (mirT G)) (.slice A3 G.gul.length c3)) Try.isAgg34 (by rw [hl1]; exact Try.sizeOf34) (fun jq uq hq => by rw [Nat.zero_add]; exact hq) ?_) | (refine W_loadN S rfl _ _ rfl bo 0 rfl 9 _ _ rfl (gcs (G.with (mirT G)) (.slice A3 G.gul.length c3)) Try.isAgg34 (by rw [hl1]; exact Try.sizeOf34) (fun jq uq hq => by rw [Nat.zero_add]; exact hq) ?_)))
              | ((with_reducible refine at_store_ 34 rfl rfl ?_); (first | (refine W_storeW S rfl _ _ _ rfl br rfl 0 _ _ rfl (gcs (G.with (mirT G)) (.slice A3 G.gul.length c3)) rfl (by rw [hl1]; exact Try.sizeOf34) (by rw [hl1]; rfl) (gcs_one rfl) ?_; clear S; intro w' S; simp only [List.set_cons_zero, List.set_cons_succ] at S) | (refine W_storeW S rfl _ _ _ rfl br rfl 1 _ _ rfl (gcs (G.with (mirT G)) (.slice A3 G.gul.length c3)) rfl (by rw [hl1]; exact Try.sizeOf34) (by rw [hl1]; rfl) (gcs_one rfl) ?_; clear S; intro w' S; simp only [List.set_cons_zero, List.set_cons_succ] at S) | (refine W_storeW S rfl _ _ _ rfl br rfl 2 _ _ rfl (gcs (G.with (mirT G)) (.slice A3 G.gul.length c3)) rfl (by rw [hl1]; exact Try.sizeOf34) (by rw [hl1]; rfl) (gcs_one rfl) ?_; clear S; intro w' S; simp only [List.set_cons_zero, List.set_cons_succ] at S) | (refine W_storeW S rfl _ _ _ rfl br rfl 3 _ _ rfl (gcs (G.with (mirT G)) (.slice A3 G.gul.length c3)) rfl (by rw [hl1]; exact Try.sizeOf34) (by rw [hl1]; rfl) (gcs_one rfl) ?_; clear S; intro w' S; simp only [List.set_cons_zero, List.set_cons_succ] at S) | (refine W_storeW S rfl _ _ _ rfl br rfl 4 _ _ rfl (gcs (G.with (mirT G)) (.slice A3 G.gul.length c3)) rfl (by rw [hl1]; exact Try.sizeOf34) (by rw [hl1]; rfl) (gcs_one rfl) ?_; clear S; intro w' S; simp only [List.set_cons_zero, List.set_cons_succ] at S) | (refine W_storeW S rfl _ _ _ rfl br rfl 5 _ _ rfl (gcs (G.with (mirT G)) (.slice A3 G.gul.length c3)) rfl (by rw [hl1]; exact Try.sizeOf34) (by rw [hl1]; rfl) (gcs_one rfl) ?_; clear S; intro w' S; simp only [List.set_cons_zero, List.set_cons_succ] at S))))
            refine W_ret_ct rfl S _ rfl _ rfl rfl 2 _ _ rfl Try.isAgg34 (by rw [hl1]; exact Try.sizeOf34) ?_
            have hml := mirGul_length V
            rw [hO.out, hK.out]
            refine ⟨A3, c3, ?_, ?_⟩
            · show _ = Ending.returned (.tuple #[gv (mirG G) (.slice A3 (mirGul G).length c3), _])
              rw [hml]; rfl
            · show St _ _ [ER _ _ (.slice A3 (mirGul G).length c3) (mirGul G).length (ccs (mirGul G))]
              rw [hml]; exact S.only (k := 0) rfl
  | false =>
    rw [hv] at hvg
    have hO : Hid (mirO G = Gnd.zero) := by show _ = _; unfold mirO; rw [if_neg (by rw [hv]; simp)]
    have hK : Hid (mirK G = 1) := by show _ = _; unfold mirK; rw [if_neg (by rw [hv]; simp)]
    clear hv
    go_enter Try.func31, Try.ntmps31
    go_wp2_with (first
      | ((with_reducible refine at_box_ 34 rfl rfl ?_); (refine W_box S rfl _ _ rfl (gv G (.slice A G.gul.length c)) rfl ?_; clear S; intro bg w' S; change St _ _ (EB _ _ (gcs G (.slice A G.gul.length c)) :: _) at S))
      | ((with_reducible refine at_alloc_ 34 rfl rfl ?_); ((fail_if_success have hq := br); refine W_alloc S rfl 34 rfl _ Try.zeroValue34 ?_; clear S; intro br w' S; change St _ _ (EB _ _ (gcs Gnd.zero (.slice none 0 0)) :: _) at S))
      | ((with_reducible refine at_load_ 34 rfl rfl ?_); (first | (refine W_loadN S rfl _ _ rfl bg 0 rfl 0 _ _ rfl (gcs G (.slice A G.gul.length c)) Try.isAgg34 (by rw [gcs_length hG]; exact Try.sizeOf34) (fun jq uq hq => by rw [Nat.zero_add]; exact hq) ?_) | (refine W_loadN S rfl _ _ rfl bg 0 rfl 1 _ _ rfl (gcs G (.slice A G.gul.length c)) Try.isAgg34 (by rw [gcs_length hG]; exact Try.sizeOf34) (fun jq uq hq => by rw [Nat.zero_add]; exact hq) ?_) | (refine W_loadN S rfl _ _ rfl bg 0 rfl 2 _ _ rfl (gcs G (.slice A G.gul.length c)) Try.isAgg34 (by rw [gcs_length hG]; exact Try.sizeOf34) (fun jq uq hq => by rw [Nat.zero_add]; exact hq) ?_) | (refine W_loadN S rfl _ _ rfl bg 0 rfl 3 _ _ rfl (gcs G (.slice A G.gul.length c)) Try.isAgg34 (by rw [gcs_length hG]; exact Try.sizeOf34) (fun jq uq hq => by rw [Nat.zero_add]; exact hq) ?_) | (refine W_loadN S rfl _ _ rfl bg 0 rfl 4 _ _ rfl (gcs G (.slice A G.gul.length c)) Try.isAgg34 (by rw [gcs_length hG]; exact Try.sizeOf34) (fun jq uq hq => by rw [Nat.zero_add]; exact hq) ?_) | (refine W_loadN S rfl _ _ rfl bg 0 rfl 5 _ _ rfl (gcs G (.slice A G.gul.length c)) Try.isAgg34 (by rw [gcs_length hG]; exact Try.sizeOf34) (fun jq uq hq => by rw [Nat.zero_add]; exact hq) ?_) | (refine W_loadN S rfl _ _ rfl bg 0 rfl 6 _ _ rfl (gcs G (.slice A G.gul.length c)) Try.isAgg34 (by rw [gcs_length hG]; exact Try.sizeOf34) (fun jq uq hq => by rw [Nat.zero_add]; exact hq) ?_) | (refine W_loadN S rfl _ _ rfl bg 0 rfl 7 _ _ rfl (gcs G (.slice A G.gul.length c)) Try.isAgg34 (by rw [gcs_length hG]; exact Try.sizeOf34) (fun jq uq hq => by rw [Nat.zero_add]; exact hq) ?_) | (refine W_loadN S rfl _ _ rfl bg 0 rfl 8 _ _ rfl (gcs G (.slice A G.gul.length c)) Try.isAgg34 (by rw [gcs_length hG]; exact Try.sizeOf34) (fun jq uq hq => by rw [Nat.zero_add]; exact hq) ?_) | (refine W_loadN S rfl _ _ rfl bg 0 rfl 9 _ _ rfl (gcs G (.slice A G.gul.length c)) Try.isAgg34 (by rw [gcs_length hG]; exact Try.sizeOf34) (fun jq uq hq => by rw [Nat.zero_add]; exact hq) ?_)))
      | (go_at_call 44; refine (hvg _ S.below).mono ?_; rintro e w1 ⟨rfl, hb⟩; replace S := S.callB hb; clear hb)
      | ((with_reducible refine at_build_ 34 rfl rfl ?_); (refine W_build rfl _ _ rfl (gv Gnd.zero (.slice none 0 0)) #[] ?_ (run_build0 _) ?_; simp [go_sem]))
      | ((with_reducible refine at_store_ 34 rfl rfl ?_); (first | (refine W_storeW S rfl _ _ _ rfl br rfl 0 _ _ rfl (gcs Gnd.zero (.slice none 0 0)) rfl (by rw [gcs_len rfl]; exact Try.sizeOf34) (rfl) (gcs_one rfl) ?_; clear S; intro w' S; simp only [List.set_cons_zero, List.set_cons_succ] at S) | (refine W_storeW S rfl _ _ _ rfl br rfl 1 _ _ rfl (gcs Gnd.zero (.slice none 0 0)) rfl (by rw [gcs_len rfl]; exact Try.sizeOf34) (rfl) (gcs_one rfl) ?_; clear S; intro w' S; simp only [List.set_cons_zero, List.set_cons_succ] at S) | (refine W_storeW S rfl _ _ _ rfl br rfl 2 _ _ rfl (gcs Gnd.zero (.slice none 0 0)) rfl (by rw [gcs_len rfl]; exact Try.sizeOf34) (rfl) (gcs_one rfl) ?_; clear S; intro w' S; simp only [List.set_cons_zero, List.set_cons_succ] at S) | (refine W_storeW S rfl _ _ _ rfl br rfl 3 _ _ rfl (gcs Gnd.zero (.slice none 0 0)) rfl (by rw [gcs_len rfl]; exact Try.sizeOf34) (rfl) (gcs_one rfl) ?_; clear S; intro w' S; simp only [List.set_cons_zero, List.set_cons_succ] at S) | (refine W_storeW S rfl _ _ _ rfl br rfl 4 _ _ rfl (gcs Gnd.zero (.slice none 0 0)) rfl (by rw [gcs_len rfl]; exact Try.sizeOf34) (rfl) (gcs_one rfl) ?_; clear S; intro w' S; simp only [List.set_cons_zero, List.set_cons_succ] at S) | (refine W_storeW S rfl _ _ _ rfl br rfl 5 _ _ rfl (gcs Gnd.zero (.slice none 0 0)) rfl (by rw [gcs_len rfl]; exact Try.sizeOf34) (rfl) (gcs_one rfl) ?_; clear S; intro w' S; simp only [List.set_cons_zero, List.set_cons_succ] at S))))
    refine W_ret_ct rfl S _ rfl _ rfl rfl 0 _ _ rfl Try.isAgg34 (by rw [gcs_len rfl]; exact Try.sizeOf34) ?_
    rw [hO.out, hK.out]
    exact ⟨none, 0, rfl, (S.nil _ _).only (k := 0) rfl⟩
end Go.Proofs.Ytpfmmbdddecphaa
