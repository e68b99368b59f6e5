/- The contract of (Ground).spread. -/
import Derived.Test.YtpfmmbdddecphaaSprP
namespace Go.Proofs.Ytpfmmbdddecphaa
open Go.RowKit Go.Sort
open Go.ChangeMaps (setBlock)
set_option linter.unusedVariables false
set_option linter.unusedSimpArgs false

set_option maxRecDepth 100000 in
set_option maxHeartbeats 1000000 in
theorem true1_any (x y : Int) (w : World) :
    Calls Try.prog 122 #[cv (x, y)] w fun e w' => e = .returned (.bool true) ∧ Below w.heap.size w w' := by
  have S := St.refl w
  go_enter Try.func122, Try.ntmps122
  go_wp2_with (first
    | (refine W_box S rfl _ _ rfl (.agg #[.int .i8 x, .int .i8 y]) rfl ?_; clear S; intro bc w' S; change St _ _ (EB _ _ ([.int .i8 x, .int .i8 y]) :: _) at S))
  go_ret
  exact ⟨rfl, S.below⟩
theorem true1_eg : ∀ args w, (callFunc 122 args).run Try.prog w = .ok (.enter 122 args) w := enters_of Try.func122 (by kernel_rfl) rfl

structure Tab (m : Mp) (seen : List Nat) (ts : List Int) : Prop where
  len : ts.length = 81
  yes : ∀ k c v, k ∈ seen → m[k]? = some (c, v) → ts[(9 * c.2 + c.1).toNat]? = some v
  no : ∀ i, i < 81 → (∀ k c v, k ∈ seen → m[k]? = some (c, v) → (9 * c.2 + c.1).toNat ≠ i) → ts[i]? = some 0
theorem Tab.start (m : Mp) : Tab m [] (List.replicate 81 0) :=
  ⟨by simp, fun k c v h => by simp at h, fun i hi _ => by rw [List.getElem?_replicate, if_pos hi]⟩
theorem Tab.more {m : Mp} {seen : List Nat} {ts : List Int} (T : Tab m seen ts) (hn : (m.map (·.1)).Nodup) (hr : ∀ (k : Nat) (c : Pt) (v : Int), m[k]? = some (c, v) → (0 ≤ c.1 ∧ c.1 ≤ 8) ∧ 0 ≤ c.2 ∧ c.2 ≤ 8) {k : Nat} {c : Pt} {v : Int} (h : m[k]? = some (c, v)) (hk : k ∉ seen) :
    Tab m (seen ++ [k]) (ts.set (9 * c.2 + c.1).toNat v) := by
  have hc := hr k c v h
  have hl := T.len
  refine ⟨by simp [hl], fun j d u hj hd => ?_, fun i hi hno => ?_⟩
  · rcases List.mem_append.1 hj with hj | hj
    · have hdr := hr j d u hd
      have : (9 * c.2 + c.1).toNat ≠ (9 * d.2 + d.1).toNat := by
        intro e
        have e1 : c.1 = d.1 := by omega
        have e2 : c.2 = d.2 := by omega
        have e3 : c = d := Prod.ext e1 e2
        subst e3
        have h1 := getM_of_at hn h
        have hlt : k < (m.map (·.1)).length := by
          rcases Nat.lt_or_ge k m.length with h' | h'
          · simpa using h'
          · rw [List.getElem?_eq_none h'] at h; cases h
        have hi : k = j := (List.getElem?_inj hlt hn).1 (by rw [List.getElem?_map, List.getElem?_map, h, hd]; rfl)
        exact hk (hi ▸ hj)
      rw [List.getElem?_set_ne this]
      exact T.yes j d u hj hd
    · have : j = k := by simpa using hj
      subst this
      rw [h] at hd; injection hd with hd; injection hd with h1 h2; subst h1 h2
      rw [List.getElem?_set_self (by omega)]
  · have : (9 * c.2 + c.1).toNat ≠ i := hno k c v (by simp) h
    rw [List.getElem?_set_ne this]
    exact T.no i hi (fun j d u hj hd => hno j d u (by simp [hj]) hd)
theorem Tab.last {m : Mp} {seen : List Nat} {ts : List Int} (T : Tab m seen ts) (hn : (m.map (·.1)).Nodup) (hr : ∀ (k : Nat) (c : Pt) (v : Int), m[k]? = some (c, v) → (0 ≤ c.1 ∧ c.1 ≤ 8) ∧ 0 ≤ c.2 ∧ c.2 ≤ 8) (ha : ∀ k, k < m.length → k ∈ seen) : ts = tableOf m := by
  have key : ∀ (k : Nat) (c : Pt) (v : Int), m[k]? = some (c, v) → k < m.length := fun k c v h => by
    rcases Nat.lt_or_ge k m.length with h' | h'
    · exact h'
    · rw [List.getElem?_eq_none h'] at h; cases h
  apply List.ext_getElem?
  intro i
  by_cases hi : i < 81
  · simp only [tableOf, List.getElem?_map, List.getElem?_range hi, Option.map_some]
    cases hg : getM m (((i % 9 : Nat) : Int), ((i / 9 : Nat) : Int)) with
    | some v =>
      obtain ⟨k, hk⟩ := getM_mem hg
      have := T.yes k _ v (ha k (key _ _ _ hk)) hk
      rw [show (9 * ((i / 9 : Nat) : Int) + ((i % 9 : Nat) : Int)).toNat = i by omega] at this
      rw [this]; rfl
    | none =>
      rw [T.no i hi (fun k c v hk h e => ?_)]; rfl
      have h1 := getM_of_at hn h
      have hc := hr k c v h
      have : c = (((i % 9 : Nat) : Int), ((i / 9 : Nat) : Int)) := Prod.ext (by simp only []; omega) (by simp only []; omega)
      rw [this, hg] at h1; cases h1
  · rw [List.getElem?_eq_none (by rw [T.len]; omega), List.getElem?_eq_none (by simp [tableOf]; omega)]
section
variable {G : Gnd} {B : Pt → Int} {F : Int → Pt → Int}
/-- How the passes stand: in this pass nothing has been told yet, and these points are closed; or something has. -/
inductive Pass (G : Gnd) (F : Int → Pt → Int) (m0 m : Mp) (done : List Pt) : Bool → Prop where
  | same : m = m0 → (∀ c ∈ done, ClosedAt G F m c) → Pass G F m0 m done false
  | told : muM (pts G) m < muM (pts G) m0 → Pass G F m0 m done true
end

theorem seen_more {n k : Nat} {seen : List Nat} (h : seen.Nodup ∧ ∀ j ∈ seen, j < n) (hk : k < n) (hn : k ∉ seen) : ((seen ++ [k]).Nodup ∧ ∀ j ∈ seen ++ [k], j < n) ∧ seen.length < n := by
  have h1 : (seen ++ [k]).Nodup := by
    rw [List.nodup_append]
    exact ⟨h.1, by simp, fun a ha b hb e => by simp at hb; subst hb; subst e; exact hn ha⟩
  have h2 : ∀ j ∈ seen ++ [k], j < n := fun j hj => by
    rcases List.mem_append.1 hj with hj | hj
    · exact h.2 j hj
    · have : j = k := by simpa using hj
      omega
  have h3 := nodup_le h1 (l2 := List.range n) (fun x hx => List.mem_range.2 (h2 x hx))
  simp at h3
  exact ⟨⟨h1, h2⟩, by omega⟩
inductive Outer (G : Gnd) (F : Int → Pt → Int) (m : Mp) : Bool → Nat → Prop where
  | go : Outer G F m true (muM (pts G) m + 1)
  | stop : (∀ c ∈ pts G, ClosedAt G F m c) → Outer G F m false 0
theorem Pass.ends {G : Gnd} {F : Int → Pt → Int} {m0 m : Mp} {b : Bool} (h : Pass G F m0 m (pts G) b) : ∃ g, g < muM (pts G) m0 + 1 ∧ Outer G F m b g := by
  cases h with
  | same e hc => exact ⟨0, by omega, .stop hc⟩
  | told hlt => exact ⟨_, by omega, .go⟩
theorem Pass.more {G : Gnd} {F : Int → Pt → Int} {m0 m : Mp} {b : Bool} {done : List Pt} (h : Pass G F m0 m done b) {d : Pt} (hd : b = false → ClosedAt G F m d) : Pass G F m0 m (done ++ [d]) b := by
  cases h with
  | same e hc => exact .same e (fun c hm => by
      rcases List.mem_append.1 hm with hm | hm
      · exact hc c hm
      · have : c = d := by simpa using hm
        subst this; exact hd rfl)
  | told hlt => exact .told hlt
theorem Pass.tells {G : Gnd} {F : Int → Pt → Int} {m0 m m' : Mp} {b : Bool} {done done' : List Pt} (h : Pass G F m0 m done b) (hlt : muM (pts G) m' < muM (pts G) m) : Pass G F m0 m' done' true := by
  cases h with
  | same e hc => subst e; exact .told hlt
  | told h1 => exact .told (by omega)
theorem take_more {α : Type} {xs : List α} {k : Nat} {d : α} (h : xs[k]? = some d) : xs.take (k + 1) = xs.take k ++ [d] := by
  rw [List.take_add_one, h]; rfl
theorem sat_closed {G : Gnd} {F : Int → Pt → Int} {m : Mp} {d : Pt} {n : Int} (hn : getM m d = some n) (h : ∀ i e, i < (besideL G d).length → (besideL G d)[i]? = some e → SatAt F m n e) : ClosedAt G F m d := fun v hv e he => by
  rw [hn] at hv; injection hv with hv; subst hv
  obtain ⟨i, hi, rfl⟩ := List.mem_iff_getElem.1 he
  exact h i _ hi (List.getElem?_eq_getElem hi)

set_option maxRecDepth 100000 in
set_option maxHeartbeats 1000000 in
theorem ptsTrue_any (G : Gnd) (hG : G.Ok) (v : Value) (w : World) :
    Calls Try.prog 70 #[gv G v, .func (.func 122) #[] #[]] w fun e w' =>
      ∃ A c, e = .returned (.slice A (pts G).length c) ∧ St w w' [ER 43 2 (.slice A (pts G).length c) (pts G).length (ccs (pts G))] :=
  points_any G hG v (fun _ => true) 122 #[] w true1_eg (fun x y hx hy w' _ => true1_any x y w')

set_option maxRecDepth 100000 in
set_option maxHeartbeats 4000000 in
theorem spread_any (G : Gnd) (hG : G.Ok) (V : ValidG G) (A : Option Addr) (c : Nat) (B : Pt → Int) (F : Int → Pt → Int) (kb ko : Nat) (fb cb fo co : Array Value) (w : World) (hR : Rd w A (ccs G.gul))
    (egb : ∀ args w, (callFunc kb args).run Try.prog w = .ok (.enter kb args) w) (ego : ∀ args w, (callFunc ko args).run Try.prog w = .ok (.enter ko args) w)
    (hB : ∀ c, isCellB G.wide G.high c = true → 0 ≤ B c ∧ B c ≤ 200) (hF : ∀ n c, 0 ≤ n → isCellB G.wide G.high c = true → 0 ≤ F n c ∧ F n c ≤ n + 200)
    (hb : ∀ c, isCellB G.wide G.high c = true → ∀ w', Below w.heap.size w w' → Calls Try.prog kb (fb ++ #[cv c] ++ cb) w' fun e w'' => e = .returned (.int .i64 (B c)) ∧ Below w'.heap.size w' w'')
    (ho : ∀ n c, 0 ≤ n → n ≤ 20000 → isCellB G.wide G.high c = true → ∀ w', Below w.heap.size w w' → Calls Try.prog ko (fo ++ #[.int .i64 n, cv c] ++ co) w' fun e w'' => e = .returned (.int .i64 (F n c)) ∧ Below w'.heap.size w' w'') :
    Calls Try.prog 93 #[gv G (.slice A G.gul.length c), .func (.func kb) fb cb, .func (.func ko) fo co] w fun e w' =>
      ∃ m, Spread G B F m ∧ e = .returned (.agg (hvl (tableOf m)).toArray) ∧ Below w.heap.size w w' := by
  have hl := gcs_length hG (.slice A G.gul.length c)
  have hm8 := V.many
  have hnp : (pts G).length ≤ 81 := by
    rw [pts_length]
    have h1 : G.high.toNat * G.wide.toNat ≤ 9 * 9 := Nat.mul_le_mul (by have := V.high; omega) (by have := V.wide; omega)
    omega
  have S := St.refl w
  go_enter Try.func93, Try.ntmps93
  go_wp2_with (first
    | (refine W_box S rfl _ _ rfl (gv G (.slice A G.gul.length c)) rfl ?_; clear S; intro bg w' S; change St _ _ (EB _ _ (gcs G (.slice A G.gul.length c)) :: _) at S)
    | (refine W_alloc S rfl _ rfl _ Try.zeroValue25 ?_; clear S; intro bo w' S; change St _ _ (EB _ _ (hvl (List.replicate 81 0)) :: _) at S)
    | (refine W_makeMap S rfl _ rfl ?_; clear S; intro bm w' S)
    | (refine W_load1 S rfl _ _ rfl _ _ rfl 2 _ _ rfl (.slice A G.gul.length c) Try.isAgg32 (gcs_gul hG.len _) ?_))
  go_loopw [26] (fun i wr => ∃ (k : Nat) (m : Mp), i = .int .i64 k ∧ k ≤ G.gul.length ∧ Hid (MInv G B F m) ∧ Hid (GulIn B m (G.gul.take k)) ∧ St w wr [EM bm m, EB bo 25 (hvl (List.replicate 81 0)), EB bg 34 (gcs G (.slice A G.gul.length c))]) (fun i _ => G.gul.length - (intOf i).toNat)
  case atStart => exact ⟨0, [], rfl, by omega, MInv.nil G B F, fun g hg => by simp at hg, S⟩
  case round =>
    obtain ⟨k, m, rfl, hk, HI, HG, S⟩ := hrel
    by_cases hkl : k < G.gul.length
    · obtain ⟨d, hd⟩ : ∃ d, G.gul[k]? = some d := ⟨_, List.getElem?_eq_getElem hkl⟩
      have hdc := V.gul k d hd
      have hdr := cell_range V hdc
      have hdm := List.mem_of_getElem? hd
      have HD := Lib.hid hd; clear hd
      go_wp2_with (first
        | (refine W_index rfl _ _ _ rfl _ _ _ rfl _ rfl _ Try.underlying32 _ Try.sizeOf43 ?_ ?_ ?_ ?_; omega; omega; exact (hR.1 (ccs_ne HD.out)); intro bi oi hAi; subst hAi)
        | (refine W_elem cenc rfl _ _ rfl bi oi (k) 2 ?_ (G.gul) ?_ (fun _ => rfl) (d) ?_ Try.isAgg43 Try.sizeOf43 ?_; rfl; exact (hR.st S); exact HD.out)
        | (refine W_alloc S rfl _ rfl _ Try.zeroValue43 ?_; clear S; intro bc w' S; change St _ _ (EB _ _ ([.int .i8 0, .int .i8 0]) :: _) at S) | (refine W_storeN S rfl _ _ _ rfl _ _ rfl 0 _ _ rfl (.agg #[.int .i8 d.1, .int .i8 d.2]) rfl Try.sizeOf43 (one_cells rfl) [.int .i8 d.1, .int .i8 d.2] (Nat.le_refl _) rfl ?_; clear S; intro w' S; simp only [List.set_cons_zero, List.set_cons_succ] at S))
      replace S := S.callB (drew_below _)
      go_region_held3 (fun w' => w'.cell? ⟨bc, 0, none⟩ = some (.int .i8 d.1) ∧ w'.cell? ⟨bc, 1, none⟩ = some (.int .i8 d.2)) (first | exact ⟨EB.cell (S.get (k := 0) rfl) rfl, EB.cell (S.get (k := 0) rfl) rfl⟩ | exact ⟨EB.cell (S1.get (k := 0) rfl) rfl, EB.cell (S1.get (k := 0) rfl) rfl⟩ | exact ⟨EB.cell (S2.get (k := 0) rfl) rfl, EB.cell (S2.get (k := 0) rfl) rfl⟩)
        (first
          | (go_at_fn kb; refine Calls.mono (hb d hdc _ S.below) ?_; rintro e w1 ⟨rfl, hb1⟩; have S1 := S.callB hb1; have hq := run_updC d (B d) (S1.get (k := 1) rfl); have S2 := S1.setM 1 bm m (updM m d (B d)) rfl; simp only [List.set_cons_zero, List.set_cons_succ] at S2; simp only [cv] at hq; clear hb1))
      generalize setBlock w1 bm _ = w2 at S2 ⊢
      go_wp2
      refine ⟨⟨k + 1, updM m d (B d), by go_num, by omega, HI.out.begin hdm hdc (hB d hdc), by rw [take_more HD.out]; exact HG.out.begin d, S2.tail⟩, ?_⟩
      simp [intOf]; omega
    · have hke : k = G.gul.length := by omega
      subst hke
      replace HG : Hid (GulIn B m G.gul) := by have := HG.out; rwa [List.take_length] at this
      go_wp2
      go_loopg [10] (muM (pts G) m + 1) (fun g ch wr => ∃ (b : Bool) (m : Mp), ch = .bool b ∧ Hid (MInv G B F m) ∧ Hid (GulIn B m G.gul) ∧ Hid (Outer G F m b g) ∧ St w wr [EM bm m, EB bo 25 (hvl (List.replicate 81 0)), EB bg 34 (gcs G (.slice A G.gul.length c))])
      case atStart => exact ⟨true, m, rfl, HI, HG, .go, S⟩
      case round =>
        clear HI HG S
        obtain ⟨b, m, rfl, HI, HG, HO, S⟩ := hrel
        cases b with
        | true =>
          have hgk : Hid (gk = muM (pts G) m + 1) := by cases HO.out; rfl
          clear HO
          go_wp2_with (first
            | (refine W_loadN S rfl _ _ rfl _ _ rfl 2 _ _ rfl (gcs G (.slice A G.gul.length c)) Try.isAgg34 (by rw [hl]; exact Try.sizeOf34) (fun jq uq hq => by rw [Nat.zero_add]; exact hq) ?_)
            | (go_at_call 70; refine (ptsTrue_any G hG _ _).mono ?_; rintro e w1 ⟨A2, c2, rfl, S2⟩; replace S := S.call S2; clear S2))
          go_loopw [10, 40] (fun ch i wr => ∃ (k : Nat) (b : Bool) (m' : Mp), i = .int .i64 k ∧ ch = .bool b ∧ k ≤ (pts G).length ∧ Hid (MInv G B F m') ∧ Hid (GulIn B m' G.gul) ∧ Hid (Pass G F m m' ((pts G).take k) b) ∧ St w wr [ER 43 2 (.slice A2 (pts G).length c2) (pts G).length (ccs (pts G)), EM bm m', EB bo 25 (hvl (List.replicate 81 0)), EB bg 34 (gcs G (.slice A G.gul.length c))]) (fun _ i _ => (pts G).length - (intOf i).toNat)
          case atStart => exact ⟨0, false, m, rfl, rfl, by omega, HI, HG, .same rfl (fun c hc => by simp at hc), S⟩
          case round =>
            clear HI HG S
            obtain ⟨k, b, m', rfl, rfl, hk, HI, HG, HP, S⟩ := hrel
            by_cases hkl : k < (pts G).length
            · obtain ⟨d, hd⟩ : ∃ d, (pts G)[k]? = some d := ⟨_, List.getElem?_eq_getElem hkl⟩
              have hdc := pts_mem.1 (List.mem_of_getElem? hd)
              have hdr := cell_range V hdc
              have HD := Lib.hid hd; clear hd
              have hP : Rd wr A2 (ccs (pts G)) := S.rd (k := 0) rfl
              cases hgm : getM m' d with
              | none =>
                have HGM := Lib.hid hgm; clear hgm
                go_wp2_with (first
                  | (refine W_index rfl _ _ _ rfl _ _ _ rfl _ rfl _ Try.underlying32 _ Try.sizeOf43 ?_ ?_ ?_ ?_; omega; omega; exact (hP.1 (ccs_ne HD.out)); intro bi oi hAi; subst hAi)
                  | (refine W_elem cenc rfl _ _ rfl bi oi (k) 2 ?_ (pts G) ?_ (fun _ => rfl) (d) ?_ Try.isAgg43 Try.sizeOf43 ?_; rfl; exact hP; exact HD.out)
                  | (refine W_alloc S rfl _ rfl _ Try.zeroValue43 ?_; clear S; intro bc w' S; change St _ _ (EB _ _ ([.int .i8 0, .int .i8 0]) :: _) at S) | (refine W_storeN S rfl _ _ _ rfl _ _ rfl 0 _ _ rfl (.agg #[.int .i8 d.1, .int .i8 d.2]) rfl Try.sizeOf43 (one_cells rfl) [.int .i8 d.1, .int .i8 d.2] (Nat.le_refl _) rfl ?_; clear S; intro w' S; simp only [List.set_cons_zero, List.set_cons_succ] at S)
                  | (refine W_loadN S rfl _ _ rfl _ _ rfl 0 _ _ rfl (cenc d) Try.isAgg43 Try.sizeOf43 (fun jq uq hq => by rw [Nat.zero_add]; exact hq) ?_)
                  | (refine W_lookN S rfl _ _ rfl bm rfl d rfl 2 _ rfl HGM.out ?_))
                refine ⟨⟨k + 1, b, m', by go_num, rfl, by omega, HI, HG, by rw [take_more HD.out]; exact HP.out.more (fun _ v hv => by rw [HGM.out] at hv; cases hv), S.tail⟩, ?_⟩
                simp [intOf]; omega
              | some n =>
                have hn1 := HI.out.bound d n hgm
                have hn2 := HI.out.length_le V
                have HGM := Lib.hid hgm; clear hgm
                go_wp2_with (first
                  | (refine W_index rfl _ _ _ rfl _ _ _ rfl _ rfl _ Try.underlying32 _ Try.sizeOf43 ?_ ?_ ?_ ?_; omega; omega; exact (hP.1 (ccs_ne HD.out)); intro bi oi hAi; subst hAi)
                  | (refine W_elem cenc rfl _ _ rfl bi oi (k) 2 ?_ (pts G) ?_ (fun _ => rfl) (d) ?_ Try.isAgg43 Try.sizeOf43 ?_; rfl; exact hP; exact HD.out)
                  | (refine W_alloc S rfl _ rfl _ Try.zeroValue43 ?_; clear S; intro bc w' S; change St _ _ (EB _ _ ([.int .i8 0, .int .i8 0]) :: _) at S) | (refine W_storeN S rfl _ _ _ rfl _ _ rfl 0 _ _ rfl (.agg #[.int .i8 d.1, .int .i8 d.2]) rfl Try.sizeOf43 (one_cells rfl) [.int .i8 d.1, .int .i8 d.2] (Nat.le_refl _) rfl ?_; clear S; intro w' S; simp only [List.set_cons_zero, List.set_cons_succ] at S)
                  | (refine W_loadN S rfl _ _ rfl _ _ rfl 0 _ _ rfl (cenc d) Try.isAgg43 Try.sizeOf43 (fun jq uq hq => by rw [Nat.zero_add]; exact hq) ?_)
                  | (refine W_lookS S rfl _ _ rfl bm rfl d rfl 2 _ rfl n HGM.out ?_)
                  | (refine W_loadN S rfl _ _ rfl _ _ rfl 4 _ _ rfl (gcs G (.slice A G.gul.length c)) Try.isAgg34 (by rw [hl]; exact Try.sizeOf34) (fun jq uq hq => by rw [Nat.zero_add]; exact hq) ?_)
                  | (go_at_call 118; refine (around_any G hG _ d.1 d.2 (by omega) (by omega) _).mono ?_; rintro e w1 ⟨A3, c3, rfl, S2⟩; replace S := S.call S2; clear S2))
                have hnl : (besideL G (d.1, d.2)).length ≤ 4 := by unfold besideL kept; exact List.length_filter_le _ _
                go_loopw [10, 56] (fun ch i wr => ∃ (j : Nat) (b : Bool) (mm : Mp), i = .int .i64 j ∧ ch = .bool b ∧ j ≤ (besideL G (d.1, d.2)).length ∧ Hid (MInv G B F mm) ∧ Hid (GulIn B mm G.gul) ∧ Hid (getM mm d = some n) ∧ Hid (Pass G F m mm ((pts G).take k) b) ∧ Hid (b = false → ∀ i e, i < j → (besideL G (d.1, d.2))[i]? = some e → SatAt F mm n e) ∧ St w wr [ER 43 2 (.slice A3 (besideL G (d.1, d.2)).length c3) (besideL G (d.1, d.2)).length (ccs (besideL G (d.1, d.2))), EB bc 43 (cenc d), ER 43 2 (.slice (some ⟨bi, oi, none⟩) (pts G).length c2) (pts G).length (ccs (pts G)), EM bm mm, EB bo 25 (hvl (List.replicate 81 0)), EB bg 34 (gcs G (.slice A G.gul.length c))]) (fun _ i _ => (besideL G (d.1, d.2)).length - (intOf i).toNat)
                case atStart => exact ⟨0, b, m', rfl, rfl, by omega, HI, HG, HGM, HP, fun _ i e h => absurd h (by omega), S⟩
                case round =>
                  clear HI HG HGM HP S hP
                  obtain ⟨j, b, mm, rfl, rfl, hj, HI, HG, HGM, HP, HS, S⟩ := hrel
                  by_cases hjl : j < (besideL G (d.1, d.2)).length
                  · obtain ⟨e, he⟩ : ∃ e, (besideL G (d.1, d.2))[j]? = some e := ⟨_, List.getElem?_eq_getElem hjl⟩
                    have hem : e ∈ besideL G d := List.mem_of_getElem? he
                    have hec := beside_cell hem
                    have her := cell_range V hec
                    have hFe := hF n e hn1.1 hec
                    have hon := ho n e hn1.1 (by omega) hec
                    have hon' : ∀ w', Below w.heap.size w w' → Calls Try.prog ko (fo ++ (#[.int .i64 n, cv e] ++ co)) w' fun e1 w'' => e1 = .returned (.int .i64 (F n e)) ∧ Below w'.heap.size w' w'' := fun w' hb => by rw [← Array.append_assoc]; exact hon w' hb
                    have HE := Lib.hid he; clear he
                    have HEM := Lib.hid hem
                    have hQ : Rd wr A3 (ccs (besideL G (d.1, d.2))) := S.rd (k := 0) rfl
                    cases hgm : getM mm e with
                    | none =>
                      have hbt : Better mm e (F n e) := ⟨fun u hu => by rw [hgm] at hu; cases hu⟩
                      have HGE := Lib.hid hgm; clear hgm
                      go_wp2_with (first
                      | (refine W_index rfl _ _ _ rfl _ _ _ rfl _ rfl _ Try.underlying32 _ Try.sizeOf43 ?_ ?_ ?_ ?_; omega; omega; exact (hQ.1 (ccs_ne HE.out)); intro bi oi hAi; subst hAi)
                      | (refine W_elem cenc rfl _ _ rfl bi oi (j) 2 ?_ ((besideL G (d.1, d.2))) ?_ (fun _ => rfl) (e) ?_ Try.isAgg43 Try.sizeOf43 ?_; rfl; exact hQ; exact HE.out)
                      | (refine W_alloc S rfl _ rfl _ Try.zeroValue43 ?_; clear S; intro bd w' S; change St _ _ (EB _ _ ([.int .i8 0, .int .i8 0]) :: _) at S) | (refine W_storeN S rfl _ _ _ rfl _ _ rfl 0 _ _ rfl (.agg #[.int .i8 e.1, .int .i8 e.2]) rfl Try.sizeOf43 (one_cells rfl) [.int .i8 e.1, .int .i8 e.2] (Nat.le_refl _) rfl ?_; clear S; intro w' S; simp only [List.set_cons_zero, List.set_cons_succ] at S)
                      | (refine W_loadN S rfl _ _ rfl _ _ rfl 0 _ _ rfl (cenc e) Try.isAgg43 Try.sizeOf43 (fun jq uq hq => by rw [Nat.zero_add]; exact hq) ?_)
                        | (refine W_lookN S rfl _ _ rfl bm rfl e rfl 4 _ rfl HGE.out ?_))
                      replace S := S.callB (drew_below _)
                      go_region_held3 (fun w' => w'.cell? ⟨bd, 0, none⟩ = some (.int .i8 e.1) ∧ w'.cell? ⟨bd, 1, none⟩ = some (.int .i8 e.2)) (first | exact ⟨EB.cell (S.get (k := 0) rfl) rfl, EB.cell (S.get (k := 0) rfl) rfl⟩ | exact ⟨EB.cell (S1.get (k := 0) rfl) rfl, EB.cell (S1.get (k := 0) rfl) rfl⟩ | exact ⟨EB.cell (S2.get (k := 0) rfl) rfl, EB.cell (S2.get (k := 0) rfl) rfl⟩)
                        (first
                          | (go_at_fn ko; refine Calls.mono (hon' _ S.below) ?_; rintro e1 w1 ⟨rfl, hb1⟩; have S1 := S.callB hb1; have hq := run_updC e (F n e) (S1.get (k := 4) rfl); have S2 := S1.setM 4 bm mm (updM mm e (F n e)) rfl; simp only [List.set_cons_zero, List.set_cons_succ] at S2; simp only [cv] at hq; clear hb1))
                      generalize setBlock w1 bm _ = w2 at S2 ⊢
                      go_wp2
                      have hlt := mu_better (G := G) (beside_cell hem) hFe.1 (by omega) hbt
                      refine ⟨⟨j + 1, true, updM mm e (F n e), by go_num, rfl, by omega, HI.out.better hF HGM.out hem hbt, HG.out.better hbt, by rw [getM_upd, if_neg (Ne.symm (beside_ne hem))]; exact HGM.out, HP.out.tells hlt, fun h => absurd h (by simp), S2.tail⟩, ?_⟩
                      simp [intOf]; omega
                    | some u =>
                      have hu1 := HI.out.bound e u hgm
                      by_cases hlt : F n e < u
                      · have hbt : Better mm e (F n e) := ⟨fun u' hu => by rw [hgm] at hu; injection hu with hu; subst hu; exact hlt⟩
                        have HGE := Lib.hid hgm; clear hgm
                        go_wp2_with (first
                      | (refine W_index rfl _ _ _ rfl _ _ _ rfl _ rfl _ Try.underlying32 _ Try.sizeOf43 ?_ ?_ ?_ ?_; omega; omega; exact (hQ.1 (ccs_ne HE.out)); intro bi oi hAi; subst hAi)
                      | (refine W_elem cenc rfl _ _ rfl bi oi (j) 2 ?_ ((besideL G (d.1, d.2))) ?_ (fun _ => rfl) (e) ?_ Try.isAgg43 Try.sizeOf43 ?_; rfl; exact hQ; exact HE.out)
                      | (refine W_alloc S rfl _ rfl _ Try.zeroValue43 ?_; clear S; intro bd w' S; change St _ _ (EB _ _ ([.int .i8 0, .int .i8 0]) :: _) at S) | (refine W_storeN S rfl _ _ _ rfl _ _ rfl 0 _ _ rfl (.agg #[.int .i8 e.1, .int .i8 e.2]) rfl Try.sizeOf43 (one_cells rfl) [.int .i8 e.1, .int .i8 e.2] (Nat.le_refl _) rfl ?_; clear S; intro w' S; simp only [List.set_cons_zero, List.set_cons_succ] at S)
                      | (refine W_loadN S rfl _ _ rfl _ _ rfl 0 _ _ rfl (cenc e) Try.isAgg43 Try.sizeOf43 (fun jq uq hq => by rw [Nat.zero_add]; exact hq) ?_)
                          | (refine W_lookS S rfl _ _ rfl bm rfl e rfl 4 _ rfl u HGE.out ?_)
                          | (go_at_fn ko; refine Calls.mono (hon' _ S.below) ?_; rintro e w1 ⟨rfl, hb⟩; replace S := S.callB hb; clear hb))
                        replace S := S.callB (drew_below _)
                        go_region_held3 (fun w' => w'.cell? ⟨bd, 0, none⟩ = some (.int .i8 e.1) ∧ w'.cell? ⟨bd, 1, none⟩ = some (.int .i8 e.2)) (first | exact ⟨EB.cell (S.get (k := 0) rfl) rfl, EB.cell (S.get (k := 0) rfl) rfl⟩ | exact ⟨EB.cell (S1.get (k := 0) rfl) rfl, EB.cell (S1.get (k := 0) rfl) rfl⟩ | exact ⟨EB.cell (S2.get (k := 0) rfl) rfl, EB.cell (S2.get (k := 0) rfl) rfl⟩)
                          (first
                            | (go_at_fn ko; refine Calls.mono (hon' _ S.below) ?_; rintro e1 w1 ⟨rfl, hb1⟩; have S1 := S.callB hb1; have hq := run_updC e (F n e) (S1.get (k := 4) rfl); have S2 := S1.setM 4 bm mm (updM mm e (F n e)) rfl; simp only [List.set_cons_zero, List.set_cons_succ] at S2; simp only [cv] at hq; clear hb1))
                        generalize setBlock w1 bm _ = w2 at S2 ⊢
                        go_wp2
                        have hlt := mu_better (G := G) (beside_cell hem) hFe.1 (by omega) hbt
                        refine ⟨⟨j + 1, true, updM mm e (F n e), by go_num, rfl, by omega, HI.out.better hF HGM.out hem hbt, HG.out.better hbt, by rw [getM_upd, if_neg (Ne.symm (beside_ne hem))]; exact HGM.out, HP.out.tells hlt, fun h => absurd h (by simp), S2.tail⟩, ?_⟩
                        simp [intOf]; omega
                      · have HGE := Lib.hid hgm; clear hgm
                        go_wp2_with (first
                      | (refine W_index rfl _ _ _ rfl _ _ _ rfl _ rfl _ Try.underlying32 _ Try.sizeOf43 ?_ ?_ ?_ ?_; omega; omega; exact (hQ.1 (ccs_ne HE.out)); intro bi oi hAi; subst hAi)
                      | (refine W_elem cenc rfl _ _ rfl bi oi (j) 2 ?_ ((besideL G (d.1, d.2))) ?_ (fun _ => rfl) (e) ?_ Try.isAgg43 Try.sizeOf43 ?_; rfl; exact hQ; exact HE.out)
                      | (refine W_alloc S rfl _ rfl _ Try.zeroValue43 ?_; clear S; intro bd w' S; change St _ _ (EB _ _ ([.int .i8 0, .int .i8 0]) :: _) at S) | (refine W_storeN S rfl _ _ _ rfl _ _ rfl 0 _ _ rfl (.agg #[.int .i8 e.1, .int .i8 e.2]) rfl Try.sizeOf43 (one_cells rfl) [.int .i8 e.1, .int .i8 e.2] (Nat.le_refl _) rfl ?_; clear S; intro w' S; simp only [List.set_cons_zero, List.set_cons_succ] at S)
                      | (refine W_loadN S rfl _ _ rfl _ _ rfl 0 _ _ rfl (cenc e) Try.isAgg43 Try.sizeOf43 (fun jq uq hq => by rw [Nat.zero_add]; exact hq) ?_)
                          | (refine W_lookS S rfl _ _ rfl bm rfl e rfl 4 _ rfl u HGE.out ?_)
                          | (go_at_fn ko; refine Calls.mono (hon' _ S.below) ?_; rintro e w1 ⟨rfl, hb⟩; replace S := S.callB hb; clear hb))
                        refine ⟨⟨j + 1, b, mm, by go_num, rfl, by omega, HI, HG, HGM, HP, fun hb0 => upto_more (HS.out hb0) HE.out ⟨u, HGE.out, by omega⟩, S.tail⟩, ?_⟩
                        simp [intOf]; omega
                  · have hje : j = (besideL G (d.1, d.2)).length := by omega
                    subst hje
                    go_wp2
                    refine ⟨⟨k + 1, b, mm, by go_num, rfl, by omega, HI, HG, by rw [take_more HD.out]; exact HP.out.more (fun hb0 => sat_closed HGM.out (HS.out hb0)), S.tail.tail⟩, ?_⟩
                    simp [intOf]; omega
            · have hke : k = (pts G).length := by omega
              subst hke
              have HP' : Hid (Pass G F m m' (pts G) b) := by have := HP.out; rwa [List.take_length] at this
              go_wp2
              obtain ⟨g', hg', hO'⟩ := HP'.out.ends
              go_roundg g'
              case measure => rw [hgk.out]; exact hg'
              case rel => exact ⟨b, m', rfl, HI, HG, hO', S.tail⟩
        | false =>
          have HC : Hid (∀ c ∈ pts G, ClosedAt G F m c) := by cases HO.out with | stop h => exact h
          clear HO
          go_wp2_with (first
            | (refine W_alloc S rfl _ rfl _ Try.zeroValue25 ?_; clear S; intro bt w' S; change St _ _ (EB _ _ (hvl (List.replicate 81 0)) :: _) at S)
            | (refine W_storeW S rfl _ _ _ rfl _ rfl 0 _ _ rfl (hvl (List.replicate 81 0)) rfl (by exact Try.sizeOf25) (rfl) (hvl_one _) ?_; clear S; intro w' S; simp only [List.set_cons_zero, List.set_cons_succ] at S)
            | (refine W_range S rfl _ rfl bm rfl 1 _ rfl ?_; clear S; intro br w' S))
          simp only [Act.put, List.setIfInBounds_toArray, List.set_cons_succ, List.set_cons_zero]
          have hmr : Hid (∀ (k : Nat) (c : Pt) (v : Int), m[k]? = some (c, v) → (0 ≤ c.1 ∧ c.1 ≤ 8) ∧ 0 ≤ c.2 ∧ c.2 ≤ 8) := fun k c v h => cell_range V (HI.out.keys c v (getM_of_at HI.out.nodup h))
          have hml := HI.out.length_le V
          go_loopg [87] m.length (fun g _ wr => ∃ (seen : Array Nat) (ts : List Int), Hid (Tab m seen.toList ts) ∧ Hid (seen.toList.Nodup ∧ ∀ j ∈ seen.toList, j < m.length) ∧ Hid (g = m.length - seen.toList.length) ∧ St w wr [EI br bm m.length seen, EB bt 25 (hvl ts), EM bm m, EB bo 25 (hvl (List.replicate 81 0)), EB bg 34 (gcs G (.slice A G.gul.length c))])
          case atStart => exact ⟨#[], _, Tab.start m, ⟨by simp, fun j h => by simp at h⟩, (Nat.sub_zero _).symm, S⟩
          case round =>
            clear S
            obtain ⟨seen, ts, HT, HN, HE, S⟩ := hrel
            rcases next_cases S 0 2 br bm m seen rfl rfl with ⟨hall, hrun⟩ | ⟨k, d, v, w', hk, hns, hrun, S'⟩
            · have HA := Lib.hid hall; clear hall
              have htl := HT.out.len
              go_wp2_with (first
                | (refine W_run rfl _ rfl _ rfl hrun ?_)
                | (refine W_loadN S rfl _ _ rfl _ _ rfl 1 _ _ rfl (hvl ts) Try.isAgg25 (by rw [hvl_length, htl]; exact Try.sizeOf25) (fun jq uq hq => by rw [Nat.zero_add]; exact hq) ?_)
                | (refine W_storeW S rfl _ _ _ rfl _ rfl 3 _ _ rfl (hvl ts) rfl (by rw [hvl_length, htl]; exact Try.sizeOf25) (by rw [hvl_length, hvl_length, htl]; rfl) (hvl_one _) ?_; clear S; intro w' S; simp only [List.set_cons_zero, List.set_cons_succ] at S))
              refine W_ret_c rfl S _ rfl rfl 3 _ _ rfl Try.isAgg25 (by rw [hvl_length, htl]; exact Try.sizeOf25) ?_
              exact ⟨m, ⟨HI.out, HG.out, fun c hc => HC.out c (pts_mem.2 hc)⟩, by rw [HT.out.last HI.out.nodup hmr.out HA.out], S.below⟩
            · have hkl : k < m.length := by
                rcases Nat.lt_or_ge k m.length with h' | h'
                · exact h'
                · rw [List.getElem?_eq_none h'] at hk; cases hk
              have hsm := Lib.hid (seen_more HN.out hkl hns)
              have hdr := hmr.out k d v hk
              have hvb := HI.out.bound d v (getM_of_at HI.out.nodup hk)
              have HK := Lib.hid hk; clear hk
              have HS := Lib.hid hns; clear hns
              replace S := S'; clear S'
              simp only [List.set_cons_zero] at S
              go_wp2_with (first
                | (refine W_run rfl _ rfl _ rfl hrun ?_)
                | (refine W_entry S rfl _ rfl br rfl 0 2 bm m seen k d v rfl rfl HK.out ?_)
                | (refine W_alloc S rfl _ rfl _ Try.zeroValue43 ?_; clear S; intro bc w' S; change St _ _ (EB _ _ ([.int .i8 0, .int .i8 0]) :: _) at S) | (refine W_storeN S rfl _ _ _ rfl _ _ rfl 0 _ _ rfl (.agg #[.int .i8 d.1, .int .i8 d.2]) rfl Try.sizeOf43 (one_cells rfl) [.int .i8 d.1, .int .i8 d.2] (Nat.le_refl _) rfl ?_; clear S; intro w' S; simp only [List.set_cons_zero, List.set_cons_succ] at S))
              replace S := S.callB (drew_below _)
              have hc0 := EB.cell (S.get (k := 0) rfl) (j := 0) rfl
              have hc1 := EB.cell (S.get (k := 0) rfl) (j := 1) rfl
              have hx0 : 0 ≤ d.1 := by omega
              have hx9 : d.1 < 9 := by omega
              have hy0 : 0 ≤ d.2 := by omega
              have hy9 : d.2 < 9 := by omega
              refine wp_region_tail 8 (by kernel_rfl) (by kernel_rfl) ?_
              simp only [List.take_succ_cons, List.take_zero, List.drop_succ_cons, List.drop_zero]
              iterate 8 still_step
              refine wpStill_nil ?_
              rw [IntWalk.i16_in v (by omega)]
              have htl := HT.out.len
              have hio : d.2.toNat * 9 + d.1.toNat < ts.length := by omega
              have hie : (9 * d.2 + d.1).toNat = d.2.toNat * 9 + d.1.toNat := by omega
              have HT' := Lib.hid (HT.out.more HI.out.nodup hmr.out HK.out HS.out)
              rw [hie] at HT'
              clear hc0 hc1
              refine W_storeN S rfl _ _ _ rfl bt (d.2.toNat * 9 + d.1.toNat) rfl 2 _ (hvl ts) rfl (.int .i16 v) rfl Try.sizeOf23 (one_cells rfl) (hvl (ts.set (d.2.toNat * 9 + d.1.toNat) v)) ?_ (hvl_set hio) ?_
              · rw [hvl_length]; exact hio
              clear S; intro w' S; simp only [List.set_cons_zero, List.set_cons_succ] at S
              simp only [Act.put, List.setIfInBounds_toArray, List.set_cons_succ, List.set_cons_zero]
              go_wp2
              go_roundg (m.length - (seen.push k).toList.length)
              case measure => rw [HE.out]; have := hsm.out.2; simp only [Array.toList_push, List.length_append, List.length_cons, List.length_nil]; omega
              case rel => exact ⟨seen.push k, _, by rw [Array.toList_push]; exact HT'.out, by rw [Array.toList_push]; exact hsm.out.1, rfl, S.tail⟩
end Go.Proofs.Ytpfmmbdddecphaa
