-- PRINTED by print.py (a twelfth state) out of the translation. Not trusted: Lean checks it.
import Derived.Test.YthhdgeafdnikcaaGreatDoorS0
import Derived.Test.YthhdgeafdnikcaaGreatDoorS2
import Derived.Test.YthhdgeafdnikcaaGreatDoorS3
namespace Go.Proofs.YthhdgeafdnikcaaGreatDoor.S
open Go.RowKit Go.Proofs.YthhdgeafdnikcaaGreatDoorW.PrintWords Go.Proofs.YthhdgeafdnikcaaGreatDoorW.PrintLast Go.Proofs.YthhdgeafdnikcaaGreatDoorW.PrintMore
attribute [local go_sem] max2_int min2_int max_two min_two max_three min_three max_four min_four   -- for this text's walks alone
set_option linter.unusedVariables false
set_option linter.unusedSimpArgs false

/-! ### impl_CornersOf: function 41 -/
def impl_CornersOf.f (k : Nat) (l0_0 : List Int) (l0_1 : List Int) : Option ((List (List Int))) := (impl_SurfaceOk.f k l0_0 l0_1).bind fun t380 => (if t380 = true then ((impl_AroundOf.f k l0_0 l0_1).bind fun t381 => ((impl_CyclesOf.f k t381).bind fun t384 => (some t384))) else (some ([] : List (List Int))))
set_option maxHeartbeats 8000000 in
set_option maxRecDepth 100000 in
theorem impl_CornersOf.calls (k : Nat) (A0_0 : Option Addr) (c0_0 : Nat) (l0_0 : List Int) (A0_1 : Option Addr) (c0_1 : Nat) (l0_1 : List Int) (r : List (List Int)) (w : World) (hr0_0 : Kd.C (Kd.int .i64) w A0_0 l0_0.length l0_0) (hc0_0 : l0_0.length ≤ c0_0) (hr0_1 : Kd.C (Kd.int .i64) w A0_1 l0_1.length l0_1) (hc0_1 : l0_1.length ≤ c0_1) (h : impl_CornersOf.f k l0_0 l0_1 = some r) :
  Calls Tryz.prog 41 #[.agg #[.slice A0_0 l0_0.length c0_0, .slice A0_1 l0_1.length c0_1]] w fun e w' => ∃ v0_ : Value, e = .returned (v0_) ∧ Kd.S (Kd.slice 3 (Kd.int .i64)) 23 w' w.heap.size (fun _ => True) v0_ r ∧ Below w.heap.size w w' := by
 have hu25 := Tryz.underlying25
 have HR0_0 := Aside0.mk hr0_0
 have HC0_0 := Aside0.mk hc0_0
 clear hr0_0 hc0_0
 have HR0_1 := Aside0.mk hr0_1
 have HC0_1 := Aside0.mk hc0_1
 clear hr0_1 hc0_1
 have HB := Aside0.mk (Below.refl w.heap.size w)
 have H : ((impl_SurfaceOk.f k l0_0 l0_1).bind fun t380 => (if t380 = true then ((impl_AroundOf.f k l0_0 l0_1).bind fun t381 => ((impl_CyclesOf.f k t381).bind fun t384 => (some t384))) else (some ([] : List (List Int))))) = some r := h
 clear h
 replace H := Option.bind_eq_some_iff.mp H
 obtain ⟨t380, A20, H⟩ := H
 replace H : (if t380 = true then ((impl_AroundOf.f k l0_0 l0_1).bind fun t381 => ((impl_CyclesOf.f k t381).bind fun t384 => (some t384))) else (some ([] : List (List Int)))) = some r := H
 have A2 := Aside0.mk A20
 clear A20
 by_cases c3 : t380 = true
 {
 subst c3
 have H1 : ((impl_AroundOf.f k l0_0 l0_1).bind fun t381 => ((impl_CyclesOf.f k t381).bind fun t384 => (some t384))) = some r := by rw [if_pos rfl] at H; exact H
 clear H
 have H := H1
 clear H1
 replace H := Option.bind_eq_some_iff.mp H
 obtain ⟨t381, A40, H⟩ := H
 replace H : ((impl_CyclesOf.f k t381).bind fun t384 => (some t384)) = some r := H
 have A4 := Aside0.mk A40
 clear A40
 replace H := Option.bind_eq_some_iff.mp H
 obtain ⟨t384, A50, H⟩ := H
 replace H : (some t384) = some r := H
 have A5 := Aside0.mk A50
 clear A50
 obtain rfl := Option.some.inj H
 go_enter Tryz.func41, Tryz.ntmps41
 go_wp2_with (first | ((with_reducible refine gate_dst (N := 1) rfl ?_); refine box_event ?hg (N := 1) ?hd (cs := #[.slice A0_0 l0_0.length c0_0, .slice A0_1 l0_1.length c0_1]) (t := 25) ?hr ?_; (case hd => rfl); (case hg => rfl); (case hr => first | (go_simp; done) | (go_simp; rfl)); intro gb379 hg w6 hbox hb; have n0_ := Aside0.mk (below_step (bX HB.out) hb); have n1_ := Aside0.mk (hbox); have n2_ := Aside0.mk ((szX (below_size (bX HB.out)) hg : w.heap.size ≤ gb379)); have n3_ := Aside0.mk ((szX (below_size (bX HB.out)) hg : w.heap.size ≤ gb379)); clear HB; have HB := n0_; have BK379 := n1_; have GW379 := n2_; have GE379 := n3_; clear n0_ n1_ n2_ n3_ hb hbox hg; have hcz7_0 := cz20 BK379.out; have hcz7_1 := cz21 BK379.out; have hfz7_0 := blk_frozen BK379.out 0; have hfz7_1 := blk_frozen BK379.out 1) | ((with_reducible refine gate_callee (f := 31) rfl ?_); refine goesL_ (some 4) rfl rfl Tryz.func31 (by kernel_rfl) rfl #[.agg #[.slice A0_0 l0_0.length c0_0, .slice A0_1 l0_1.length c0_1]] rfl aX ?_; (with_reducible refine (impl_SurfaceOk.calls k _ _ l0_0 _ _ l0_1 true _ ?side1 ?side2 ?side3 ?side4 A2.out).mono ?_); (case side1 => exact cX (Kd.C_below HR0_0.out HB.out)); (case side2 => exact HC0_0.out); (case side3 => exact cX (Kd.C_below HR0_1.out HB.out)); (case side4 => exact HC0_1.out); rintro e w8 ⟨rfl, hb⟩; refine ⟨_, rfl, ?_⟩; have n0_ := Aside0.mk (bbX BK379.out hb); have n1_ := Aside0.mk (below_step (bX1 HB.out GE379.out) hb); clear BK379 HB; have BK379 := n0_; have HB := n1_; clear n0_ n1_; (try clear hb); (try clear hb2); (try clear hk); (try clear hi); have hcz9_0 := cz20 BK379.out; have hcz9_1 := cz21 BK379.out; have hfz9_0 := blk_frozen BK379.out 0; have hfz9_1 := blk_frozen BK379.out 1) | ((with_reducible refine gate_callee (f := 75) rfl ?_); refine goesL_ (some 7) rfl rfl Tryz.func75 (by kernel_rfl) rfl #[.agg #[.slice A0_0 l0_0.length c0_0, .slice A0_1 l0_1.length c0_1]] rfl aX ?_; (with_reducible refine (impl_AroundOf.calls k _ _ l0_0 _ _ l0_1 t381 _ ?side1 ?side2 ?side3 ?side4 A4.out).mono ?_); (case side1 => exact cX (Kd.C_below HR0_0.out HB.out)); (case side2 => exact HC0_0.out); (case side3 => exact cX (Kd.C_below HR0_1.out HB.out)); (case side4 => exact HC0_1.out); rintro e w10 ⟨v382, rfl, ho0, hb⟩; refine ⟨_, rfl, ?_⟩; have n0_ := Aside0.mk (Kd.R_lower ho0 (below_size (bX1 HB.out GE379.out))); have n1_ := Aside0.mk (bbX BK379.out hb); have n2_ := Aside0.mk (below_step (bX1 HB.out GE379.out) hb); clear BK379 HB; have HO383 := n0_; have BK379 := n1_; have HB := n2_; clear n0_ n1_ n2_; (try clear hb); (try clear hb2); (try clear hk); (try clear hi); (try clear ho0); obtain ⟨Ao11, co11, eo11⟩ := Kd.R_slice HO383.out; subst eo11) | ((with_reducible refine gate_callee (f := 35) rfl ?_); refine goesL_ (some 8) rfl rfl Tryz.func35 (by kernel_rfl) rfl #[.slice Ao11 t381.length co11] rfl aX ?_; (with_reducible refine (impl_CyclesOf.calls k _ _ t381 t384 _ ?side1 ?side2 A5.out).mono ?_); (case side1 => exact cX (Kd.R_reads' HO383.out).2.2); (case side2 => exact (Kd.R_reads' HO383.out).2.1); rintro e w12 ⟨v385, rfl, ho0, hb⟩; refine ⟨_, rfl, ?_⟩; have n0_ := Aside0.mk (Kd.R_below (rX HO383.out) hb); have n1_ := Aside0.mk (Kd.S_lower (Kd.S_new' ho0 (Kd.R_lt (rX HO383.out))) (below_size (bX1 HB.out GE379.out))); have n2_ := Aside0.mk (bbX BK379.out hb); have n3_ := Aside0.mk (below_step (bX1 HB.out GE379.out) hb); clear HO383 BK379 HB; have HO383 := n0_; have HO386 := n1_; have BK379 := n2_; have HB := n3_; clear n0_ n1_ n2_ n3_; (try clear hb); (try clear hb2); (try clear hk); (try clear hi); (try clear ho0)))
 go_ret
 exact ⟨_, eX, by (with_reducible repeat (first | apply Kd.S_alloc | apply Kd.S_drewN | apply Kd.S_drew)); exact Kd.S_mono HO386.out (fun _ hk => trivial), bX1 HB.out GE379.out⟩
 }
 {
 replace c3 := Bool.eq_false_iff.mpr c3
 subst c3
 have H1 : (some ([] : List (List Int))) = some r := by rw [if_neg (show ¬ (false = true) by decide)] at H; exact H
 clear H
 have H := H1
 clear H1
 obtain rfl := Option.some.inj H
 go_enter Tryz.func41, Tryz.ntmps41
 go_wp2_with (first | ((with_reducible refine gate_dst (N := 1) rfl ?_); refine box_event ?hg (N := 1) ?hd (cs := #[.slice A0_0 l0_0.length c0_0, .slice A0_1 l0_1.length c0_1]) (t := 25) ?hr ?_; (case hd => rfl); (case hg => rfl); (case hr => first | (go_simp; done) | (go_simp; rfl)); intro gb379 hg w13 hbox hb; have n0_ := Aside0.mk (below_step (bX HB.out) hb); have n1_ := Aside0.mk (hbox); have n2_ := Aside0.mk ((szX (below_size (bX HB.out)) hg : w.heap.size ≤ gb379)); have n3_ := Aside0.mk ((szX (below_size (bX HB.out)) hg : w.heap.size ≤ gb379)); clear HB; have HB := n0_; have BK379 := n1_; have GW379 := n2_; have GE379 := n3_; clear n0_ n1_ n2_ n3_ hb hbox hg; have hcz14_0 := cz20 BK379.out; have hcz14_1 := cz21 BK379.out; have hfz14_0 := blk_frozen BK379.out 0; have hfz14_1 := blk_frozen BK379.out 1) | ((with_reducible refine gate_callee (f := 31) rfl ?_); refine goesL_ (some 4) rfl rfl Tryz.func31 (by kernel_rfl) rfl #[.agg #[.slice A0_0 l0_0.length c0_0, .slice A0_1 l0_1.length c0_1]] rfl aX ?_; (with_reducible refine (impl_SurfaceOk.calls k _ _ l0_0 _ _ l0_1 false _ ?side1 ?side2 ?side3 ?side4 A2.out).mono ?_); (case side1 => exact cX (Kd.C_below HR0_0.out HB.out)); (case side2 => exact HC0_0.out); (case side3 => exact cX (Kd.C_below HR0_1.out HB.out)); (case side4 => exact HC0_1.out); rintro e w15 ⟨rfl, hb⟩; refine ⟨_, rfl, ?_⟩; have n0_ := Aside0.mk (bbX BK379.out hb); have n1_ := Aside0.mk (below_step (bX1 HB.out GE379.out) hb); clear BK379 HB; have BK379 := n0_; have HB := n1_; clear n0_ n1_; (try clear hb); (try clear hb2); (try clear hk); (try clear hi)))
 go_ret
 exact ⟨_, eX, by first | exact Kd.S_nil _ _ _ _ _ | exact Kd.N_nil _ _ _ _ _ | exact Kd.V_nil _ _ _ _ _ | exact Kd.Q_nil _ _ _ _ _ | exact Kd.R_nil _ _ _ _ _, bX1 HB.out GE379.out⟩
 }

/-! ### slices_SortFunc_int_int: function 42 -/
/-! by hand -/
/-- A function value that hands back the second less the first. -/
def IsDesc (g : Nat) : Prop := (∀ args w, (callFunc g args).run Tryz.prog w = .ok (.enter g args) w) ∧ ∀ (x y : Int) (W : World), Calls Tryz.prog g #[.int .i64 x, .int .i64 y] W fun e w' => e = .returned (.int .i64 (wrap64 (y - x))) ∧ w' = W
theorem angles_desc : IsDesc 43 := ⟨fun args w => enters_ Tryz.func43 (by kernel_rfl) rfl args w, fun x y W => by
  go_enter Tryz.func43, Tryz.ntmps43
  go_wp2
  go_ret
  exact ⟨by simp [i64_w], rfl⟩⟩
theorem cusps_desc : IsDesc 93 := ⟨fun args w => enters_ Tryz.func93 (by kernel_rfl) rfl args w, fun x y W => by
  go_enter Tryz.func93, Tryz.ntmps93
  go_wp2
  go_ret
  exact ⟨by simp [i64_w], rfl⟩⟩
def Sml : Type := {x : Int // 0 ≤ x ∧ x ≤ 100000}
instance : Inhabited Sml := ⟨⟨0, by decide⟩⟩
def sEnc (x : Sml) : Value := .int .i64 x.1
def sCmp (x y : Sml) : Int := y.1 - x.1
theorem sLt (x y : Sml) : ltOf sCmp x y = decide (y.1 < x.1) := by
 unfold ltOf sCmp
 exact decide_eq_decide.2 (by omega)
theorem sSwo : Go.Sort.SWO (ltOf sCmp) where
  irrefl x := by rw [sLt]; simp
  trans x y z h1 h2 := by rw [sLt] at *; simp at *; omega
  ntrans x y z h1 h2 := by rw [sLt] at *; simp at *; omega
def slices_SortFunc_int_int.f (l0 : List Int) : Option (List Int) := if (∀ x ∈ l0, 0 ≤ x ∧ x ≤ 100000) ∧ l0.length ≤ 1000 then some (l0.mergeSort fun x y => decide (y ≤ x)) else none
def smls : (l : List Int) → (∀ x ∈ l, 0 ≤ x ∧ x ≤ 100000) → List Sml
  | [], _ => []
  | x :: l, h => ⟨x, h x List.mem_cons_self⟩ :: smls l (fun y hy => h y (List.mem_cons_of_mem _ hy))
theorem smls_map : ∀ (l : List Int) (h : ∀ x ∈ l, 0 ≤ x ∧ x ≤ 100000), (smls l h).map (·.1) = l
  | [], _ => rfl
  | x :: l, h => by
    show x :: (smls l _).map (·.1) = x :: l
    rw [smls_map l]
theorem smls_enc (l : List Int) (h : ∀ x ∈ l, 0 ≤ x ∧ x ≤ 100000) : (smls l h).map sEnc = encs (Value.int .i64) l := by
 have e : (smls l h).map sEnc = ((smls l h).map (·.1)).map (Value.int .i64) := by rw [List.map_map]; rfl
 rw [e, smls_map]
 rfl
theorem smls_sort (l : List Int) (h : ∀ x ∈ l, 0 ≤ x ∧ x ≤ 100000) : ((smls l h).mergeSort fun x y => !(ltOf sCmp) y x).map (·.1) = l.mergeSort fun x y => decide (y ≤ x) := by
 rw [List.map_mergeSort (s := fun x y => decide (y ≤ x)) (fun a _ b _ => by rw [sLt]; by_cases c : a.1 < b.1 <;> simp [c] <;> omega), smls_map]
/-- The world behind a sort. -/
theorem sort_world {enc : Sml → Value} {w w0 : World} {g n : Nat} {d : Array Sml} {os : Array Obj} (hg : w0.heap.size ≤ g) (hB : Below w0.heap.size w0 w) (hgw : g < w.heap.size) :
    Below w0.heap.size w0 (sortWorld enc w g 0 n d os) ∧ (∀ k, k < w.heap.size → k ≠ g → (sortWorld enc w g 0 n d os).heap[k]? = w.heap[k]?) ∧ w.heap.size ≤ (sortWorld enc w g 0 n d os).heap.size ∧
    ∀ cur e fz, w.heap[g]? = some (.cells cur e fz) → (sortWorld enc w g 0 n d os).heap[g]? = some (.cells (Go.Sort.putCells enc 0 d cur) e fz) := by
  have hsz : (Go.Sort.putRow enc (Go.Sort.ahead w n) g 0 d).heap.size = w.heap.size := by simp [Go.Sort.putRow, Go.Sort.mapBlock, Go.Sort.ahead]
  have old : ∀ k, k < w.heap.size → (sortWorld enc w g 0 n d os).heap[k]? = (w.heap.modify g (Go.Sort.onCells (Go.Sort.putCells enc 0 d)))[k]? := fun k hk => by
    unfold sortWorld
    rw [Go.Sort.heap_grow_old _ _ (by rw [hsz]; exact hk)]
    rfl
  have far : ∀ k, k < w.heap.size → k ≠ g → (sortWorld enc w g 0 n d os).heap[k]? = w.heap[k]? := fun k hk hne => by
    rw [old k hk, Array.getElem?_modify, if_neg (Ne.symm hne)]
  have big : w.heap.size ≤ (sortWorld enc w g 0 n d os).heap.size := by
    unfold sortWorld
    rw [Go.Sort.size_grow, hsz]
    omega
  refine ⟨⟨hB.os, hB.tape, hB.output, Nat.le_trans hB.size big, fun k hk => ?_⟩, far, big, fun cur e fz h => ?_⟩
  · rw [far k (Nat.lt_of_lt_of_le hk hB.size) (by omega)]
    exact hB.block k hk
  · rw [old g hgw, Array.getElem?_modify, if_pos rfl, h]
    rfl
theorem sort_close {w : World} {base g cap : Nat} {P : Nat → Prop} {l : List Int} {cur : Array Value} (hP : P g) (hg : base ≤ g) (hh : w.heap[g]? = some (.cells cur 3 (0, 0))) (h1 : l.length ≤ cap) (h2 : cap ≤ maxLen) (h3 : cur.size = cap) (h4 : cur.toList.take l.length = encs (Value.int .i64) l) :
    Kd.R (Kd.int .i64) 3 w base P (.slice (some ⟨g, 0, none⟩) l.length cap) l := by
 refine Kd.R_of_own (enc := Value.int .i64) (h1 := fun _ => rfl) ⟨by rw [encs_length, Nat.mul_one], .inr ⟨g, cap, cur, rfl, hg, hh, h1, h2, by rw [h3, Nat.mul_one], by rw [Nat.mul_one]; exact h4⟩⟩ ?_
 intro k hk
 have : g = k := by simpa [Value.ownBlock] using hk
 rw [← this]
 exact hP
set_option maxHeartbeats 4000000 in
theorem slices_SortFunc_int_int.calls (P0_ : Nat → Prop) (u9000_ : Value) (l0 : List Int) (r : List Int) (w0 w : World) (hB : Below w0.heap.size w0 w) (ho0 : Kd.R (Kd.int .i64) 3 w w0.heap.size P0_ u9000_ l0) (h : slices_SortFunc_int_int.f l0 = some r) {G : Nat} (hG : IsDesc G := by first | exact angles_desc | exact cusps_desc) :
    Calls Tryz.prog 42 #[u9000_, .func (.func G) #[] #[]] w fun e w' => e = .returned (.tuple #[]) ∧ Kd.R (Kd.int .i64) 3 w' w0.heap.size (fun k_ => (P0_ k_ ∨ w.heap.size ≤ k_)) u9000_ r ∧ Below w0.heap.size w0 w' ∧ Kept w w' (fun k_ => P0_ k_) := by
  unfold slices_SortFunc_int_int.f at h
  by_cases hc : (∀ x ∈ l0, 0 ≤ x ∧ x ≤ 100000) ∧ l0.length ≤ 1000
  · rw [if_pos hc] at h
    obtain rfl := Option.some.inj h
    have hown := Kd.own_of_R (enc := Value.int .i64) (h1 := fun _ => rfl) ho0
    by_cases hz : l0 = []
    · subst hz
      have hu : ∃ p c, u9000_ = .slice p 0 c := by
        rcases hown.2 with ⟨e, _⟩ | ⟨g, cap, cur, e, _⟩
        · exact ⟨none, 0, e⟩
        · exact ⟨_, _, e⟩
      obtain ⟨p, c, rfl⟩ := hu
      refine (Tryz.slices_SortFunc_none (α := Sml) p c _ w).mono ?_
      rintro e w' ⟨rfl, rfl⟩
      rw [show (([] : List Int).mergeSort fun x y => decide (y ≤ x)) = [] from by simp]
      exact ⟨rfl, Kd.R_mono ho0 (fun k hk => .inl hk), hB, Kept.refl _ _⟩
    · have hlen : 0 < l0.length := List.length_pos_iff.mpr hz
      rcases hown.2 with ⟨_, hn⟩ | ⟨g, cap, cur, rfl, hg, hh, h1, h2, h3, h4⟩
      · exact absurd hn (by omega)
      · rw [Nat.mul_one] at h3 h4
        have hP := ho0.1 g rfl
        have hgw : g < w.heap.size := blk_lt hh
        have hcur : cur.toList.take l0.length = encs (Value.int .i64) l0 := h4
        have hds : (smls l0 hc.1).length = l0.length := by have := congrArg List.length (smls_map l0 hc.1); simpa using this
        have hH : Go.Sort.Holds sEnc w g 0 (smls l0 hc.1).toArray := fun j hj => by
          have hj2 : j < (smls l0 hc.1).length := by simpa using hj
          refine ⟨?_, by rw [Nat.zero_add]; exact blk_frozen hh j⟩
          rw [Nat.zero_add, blk_cell hh]
          have e1 : cur[j]? = (encs (Value.int .i64) l0)[j]? := by
            rw [← hcur, List.getElem?_take, if_pos (by omega)]
            simp
          rw [e1, ← smls_enc l0 hc.1, List.getElem?_map]
          simp [hj2]
        have hcmp : CmpReads Tryz.prog G #[] sEnc sCmp g 0 (smls l0 hc.1).toArray.size w := fun m os dk hs x y => by
          refine (hG.2 x.1 y.1 _).mono ?_
          rintro e w' ⟨rfl, rfl⟩
          refine ⟨?_, 0, rfl⟩
          have hx := x.2
          have hy := y.2
          rw [show wrap64 (y.1 - x.1) = sCmp x y from by unfold wrap64 sCmp; omega]
        have hcall := Tryz.slices_SortFunc_total sEnc (fun _ => rfl) sCmp sSwo G #[] g 0 cap (smls l0 hc.1).toArray w hG.1 hcmp.lays hH hgw (by simp; omega) (fun x y h1 h2 => by rw [sLt] at h1 h2; simp at h1 h2; exact Subtype.ext (by omega))
        rw [List.size_toArray, hds] at hcall
        refine hcall.mono ?_
        clear hcall
        rintro e w' ⟨rfl, n, os, rfl⟩
        obtain ⟨s1, s2, s3, s4⟩ := sort_world (enc := sEnc) (n := n) (d := ((smls l0 hc.1).mergeSort fun x y => !(ltOf sCmp) y x).toArray) (os := os) hg hB hgw
        refine ⟨rfl, ?_, s1, ⟨s3, fun i hi hs => s2 i hi (fun e => hs (e ▸ hP))⟩⟩
        have hrl : (l0.mergeSort fun x y => decide (y ≤ x)).length = l0.length := List.length_mergeSort _
        have hsl : ((smls l0 hc.1).mergeSort fun x y => !(ltOf sCmp) y x).length = l0.length := by rw [List.length_mergeSort, hds]
        have hse : ((smls l0 hc.1).mergeSort fun x y => !(ltOf sCmp) y x).map sEnc = encs (Value.int .i64) (l0.mergeSort fun x y => decide (y ≤ x)) := by
          rw [← smls_sort l0 hc.1]
          show _ = (List.map _ _).map _
          rw [List.map_map]
          rfl
        have := sort_close (P := fun k_ => (P0_ k_ ∨ w.heap.size ≤ k_)) (l := l0.mergeSort fun x y => decide (y ≤ x)) (cap := cap) (.inl hP) hg (s4 cur 3 (0, 0) hh) (by rw [hrl]; exact h1) h2 (by simp [Go.Sort.putCells, h3]) (by
          rw [hrl, ← hse]
          apply List.ext_getElem?
          intro i
          by_cases hi : i < l0.length
          · have hic : i < cur.size := by omega
            have e2 : (((smls l0 hc.1).mergeSort fun x y => !(ltOf sCmp) y x).toArray)[i]! = ((smls l0 hc.1).mergeSort fun x y => !(ltOf sCmp) y x)[i]'(by omega) := by
              rw [getElem!_pos _ i (by rw [List.size_toArray]; omega)]
              simp
            simp [Go.Sort.putCells, List.getElem?_take, hi, hic, hsl, List.getElem?_map, e2]
          · rw [List.getElem?_eq_none (by rw [List.length_take]; omega), List.getElem?_eq_none (by rw [List.length_map]; omega)])
        rw [hrl] at this
        exact this
  · rw [if_neg hc] at h
    exact absurd h (by simp)

/-! ### impl_AnglesOf: function 12 -/
def impl_AnglesOf.l0 : Nat → List Int → List (List Int) → Int → Int → Option (List Int)
 | 0, _, _, _, _ => none
 | k + 1, x3, x8, x9, x10 => if x10 < x9 then (if 0 ≤ x10 then (if x10 < (x8.length : Int) then (if x3.length < 17592186044416 then (impl_AnglesOf.l0 k (x3 ++ [((rd_L2 x8 x10).length : Int)]) x8 x9 (wrap64 (x10 + 1))) else (none)) else (none)) else (none)) else ((slices_SortFunc_int_int.f x3).bind fun t398 => (some t398))
def impl_AnglesOf.f (k : Nat) (l0_0 : List Int) (l0_1 : List Int) : Option (List Int) := (impl_CornersOf.f k l0_0 l0_1).bind fun t391 => (impl_AnglesOf.l0 k (([] : List Int)) t391 (t391.length : Int) 0)
set_option maxHeartbeats 8000000 in
set_option maxRecDepth 100000 in
theorem impl_AnglesOf.calls (k : Nat) (A0_0 : Option Addr) (c0_0 : Nat) (l0_0 : List Int) (A0_1 : Option Addr) (c0_1 : Nat) (l0_1 : List Int) (r : List Int) (w : World) (hr0_0 : Kd.C (Kd.int .i64) w A0_0 l0_0.length l0_0) (hc0_0 : l0_0.length ≤ c0_0) (hr0_1 : Kd.C (Kd.int .i64) w A0_1 l0_1.length l0_1) (hc0_1 : l0_1.length ≤ c0_1) (h : impl_AnglesOf.f k l0_0 l0_1 = some r) :
  Calls Tryz.prog 12 #[.agg #[.slice A0_0 l0_0.length c0_0, .slice A0_1 l0_1.length c0_1]] w fun e w' => ∃ v0_ : Value, e = .returned (v0_) ∧ Kd.R (Kd.int .i64) 3 w' w.heap.size (fun _ => True) v0_ r ∧ Below w.heap.size w w' := by
 have hu25 := Tryz.underlying25
 have HR0_0 := Aside0.mk hr0_0
 have HC0_0 := Aside0.mk hc0_0
 clear hr0_0 hc0_0
 have HR0_1 := Aside0.mk hr0_1
 have HC0_1 := Aside0.mk hc0_1
 clear hr0_1 hc0_1
 have HB := Aside0.mk (Below.refl w.heap.size w)
 have H : ((impl_CornersOf.f k l0_0 l0_1).bind fun t391 => (impl_AnglesOf.l0 k (([] : List Int)) t391 (t391.length : Int) 0)) = some r := h
 clear h
 obtain ⟨y388, hy388⟩ : ∃ y_ : List Int, y_ = (([] : List Int)) := ⟨_, rfl⟩
 replace H : ((impl_CornersOf.f k l0_0 l0_1).bind fun t391 => (impl_AnglesOf.l0 k y388 t391 (t391.length : Int) 0)) = some r := by first | (rw [hy388]; with_reducible exact H) | (have H2_ := (Option.bind_some _ _).symm.trans H; rw [hy388]; with_reducible exact H2_) | (have H2_ := (Option.bind_some _ _).symm.trans H; with_reducible exact H2_) | with_reducible exact H | (rw [hy388]; exact H) | exact H
 have Ny388 := Aside0.mk hy388
 clear hy388
 replace H := Option.bind_eq_some_iff.mp H
 obtain ⟨t391, A20, H⟩ := H
 replace H : (impl_AnglesOf.l0 k y388 t391 (t391.length : Int) 0) = some r := H
 have A2 := Aside0.mk A20
 clear A20
 have H' := Aside0.mk H
 clear H
 go_enter Tryz.func12, Tryz.ntmps12
 go_wp2_with (first | ((with_reducible refine gate_dst (N := 1) rfl ?_); refine box_event ?hg (N := 1) ?hd (cs := #[.slice A0_0 l0_0.length c0_0, .slice A0_1 l0_1.length c0_1]) (t := 25) ?hr ?_; (case hd => rfl); (case hg => rfl); (case hr => first | (go_simp; done) | (go_simp; rfl)); intro gb387 hg w3 hbox hb; have n0_ := Aside0.mk (below_step (bX HB.out) hb); have n1_ := Aside0.mk (hbox); have n2_ := Aside0.mk ((szX (below_size (bX HB.out)) hg : w.heap.size ≤ gb387)); have n3_ := Aside0.mk ((szX (below_size (bX HB.out)) hg : w.heap.size ≤ gb387)); clear HB; have HB := n0_; have BK387 := n1_; have GW387 := n2_; have GE387 := n3_; clear n0_ n1_ n2_ n3_ hb hbox hg) | ((with_reducible refine gate_dst (N := 6) rfl ?_); refine Kd.R_lit (Kd.int .i64) _ 3 ?hg (N := 6) ?hd (xs := ([] : List Int)) (inner := []) (ok := fun _ => True) (okp := fun _ => True) ?hr ?hp (fun _ hk => hk) trivial (Below.refl _ _) (Nat.le_refl _) (by simp) ?_; (case hd => rfl); (case hg => rfl); (case hr => first | (go_simp; done) | (go_simp; rfl)); (case hp => exact (Reps.none _ _)); intro v389 w4 ho5 hb hg_ hnew_; clear hg_ hnew_; (first | rw [← Ny388.out] at ho5 | (simp only [Int.reduceToNat] at ho5; rw [← Ny388.out] at ho5)); have n0_ := Aside0.mk (Kd.R_lower ho5 (below_size (bX1 HB.out GE387.out))); have n1_ := Aside0.mk (bbX BK387.out hb); have n2_ := Aside0.mk (below_step (bX1 HB.out GE387.out) hb); clear BK387 HB; have HO390 := n0_; have BK387 := n1_; have HB := n2_; clear n0_ n1_ n2_ hb ho5; have hcz6_0 := cz20 BK387.out; have hcz6_1 := cz21 BK387.out; have hfz6_0 := blk_frozen BK387.out 0; have hfz6_1 := blk_frozen BK387.out 1) | ((with_reducible refine gate_callee (f := 41) rfl ?_); refine goesL_ (some 8) rfl rfl Tryz.func41 (by kernel_rfl) rfl #[.agg #[.slice A0_0 l0_0.length c0_0, .slice A0_1 l0_1.length c0_1]] rfl aX ?_; (with_reducible refine (impl_CornersOf.calls k _ _ l0_0 _ _ l0_1 t391 _ ?side1 ?side2 ?side3 ?side4 A2.out).mono ?_); (case side1 => exact cX (Kd.C_below HR0_0.out HB.out)); (case side2 => exact HC0_0.out); (case side3 => exact cX (Kd.C_below HR0_1.out HB.out)); (case side4 => exact HC0_1.out); rintro e w7 ⟨v392, rfl, ho0, hb⟩; refine ⟨_, rfl, ?_⟩; have n0_ := Aside0.mk (Kd.R_below (rX HO390.out) hb); have n1_ := Aside0.mk (Kd.S_lower (Kd.S_new' ho0 (Kd.R_lt (rX HO390.out))) (below_size (bX1 HB.out GE387.out))); have n2_ := Aside0.mk (bbX BK387.out hb); have n3_ := Aside0.mk (below_step (bX1 HB.out GE387.out) hb); clear HO390 BK387 HB; have HO390 := n0_; have HO393 := n1_; have BK387 := n2_; have HB := n3_; clear n0_ n1_ n2_ n3_; (try clear hb); (try clear hb2); (try clear hk); (try clear hi); (try clear ho0); obtain ⟨Ao8, co8, eo8⟩ := Kd.S_slice HO393.out; subst eo8))
 go_loopg [3, 10] k (fun kq v3 v10 w' => ∃ (x3_1 : List Int) (x10_1 : Int), v10 = .int .i64 x10_1 ∧ Aside0 (impl_AnglesOf.l0 kq x3_1 t391 (t391.length : Int) x10_1 = some r) ∧ Aside0 (kq ≤ k) ∧ Aside0 (Kd.R (Kd.int .i64) 3 w' w.heap.size (fun _ => True) v3 x3_1) ∧ Aside0 (Kd.S (Kd.slice 3 (Kd.int .i64)) 23 w' w.heap.size (fun k_ => some k_ ≠ (v3 : Value).ownBlock) (.slice Ao8 t391.length co8) t391) ∧ Aside0 (w'.heap[gb387]? = some (.cells #[(.slice A0_0 l0_0.length c0_0), (.slice A0_1 l0_1.length c0_1)] 25 (0, 0))) ∧ Aside0 (Below w.heap.size w w'))
 case atStart => exact ⟨(y388), (0), vX, H', ⟨Nat.le_refl _⟩, ⟨rX HO390.out⟩, ⟨by (with_reducible repeat (first | apply Kd.S_alloc | apply Kd.S_drewN | apply Kd.S_drew)); exact Kd.S_mono HO393.out (fun _ hk => hk.2)⟩, ⟨kX BK387.out⟩, ⟨bX1 HB.out GE387.out⟩⟩
 case round =>
 clear H'
 try clear c1
 try clear p2
 try clear c4
 try clear hcz6_0
 try clear hcz6_1
 try clear hfz6_0
 try clear hfz6_1
 obtain ⟨x3_1, x10_1, rfl, HA, HK1, HO_3, HO_8, BK387, HB⟩ := hrel
 cases gk with
 | zero => exact absurd HA.out (by simp [impl_AnglesOf.l0])
 | succ k1 =>
 have H := HA.out
 clear HA
 simp only [impl_AnglesOf.l0] at H
 by_cases c9 : x10_1 < (t391.length : Int)
 {
 rw [if_pos c9] at H
 have c9b0 : decide (x10_1 < (t391.length : Int)) = true := decide_eq_true c9
 clear c9
 by_cases c10 : 0 ≤ x10_1
 {
 rw [if_pos c10] at H
 have c10b0 : decide (0 ≤ x10_1) = true := decide_eq_true c10
 clear c10
 by_cases c11 : x10_1 < (t391.length : Int)
 {
 rw [if_pos c11] at H
 have c11b0 : decide (x10_1 < (t391.length : Int)) = true := decide_eq_true c11
 clear c11
 by_cases c12 : x3_1.length < 17592186044416
 {
 rw [if_pos c12] at H
 have LMc12 := Aside0.mk c12
 clear c12
 obtain ⟨y395, hy395⟩ : ∃ y_ : List Int, y_ = (x3_1 ++ [((rd_L2 t391 x10_1).length : Int)]) := ⟨_, rfl⟩
 replace H : (impl_AnglesOf.l0 k1 y395 t391 (t391.length : Int) (wrap64 (x10_1 + 1))) = some r := by first | (rw [hy395]; with_reducible exact H) | (have H2_ := (Option.bind_some _ _).symm.trans H; rw [hy395]; with_reducible exact H2_) | (have H2_ := (Option.bind_some _ _).symm.trans H; with_reducible exact H2_) | with_reducible exact H | (rw [hy395]; exact H) | exact H
 have Ny395 := Aside0.mk hy395
 clear hy395
 have H' := Aside0.mk H
 clear H
 have p394 : 0 ≤ (x10_1 : Int) := dX
 have q394 : x10_1 < (t391.length : Int) := dX
 obtain ⟨ad394, A394_0, c394_0, e394, hx394_0, hl394_0, hi394_0⟩ := at_L2 (Kd.S_reads' HO_8.out).2.2 x10_1 p394 q394
 cases e394
 obtain ⟨ce394, hce394, hMe394, hcc394⟩ := Kd.S_get HO_8.out [] x10_1 p394 (by first | exact q394 | exact dX | (have e_ := (Kd.S_reads' HO_8.out).1; omega))
 obtain ⟨ve394_0, rfl, ge394_0⟩ := hMe394
 have hv394_0 := hcc394 0 _ rfl
 rw [Nat.add_zero, show ((Kd.slice 3 (Kd.int .i64))).sz = 1 from rfl, Nat.mul_one] at hv394_0
 replace hv394_0 := Option.some.inj (hv394_0.symm.trans hx394_0)
 rw [hv394_0] at ge394_0
 have HL394_0 := Aside0.mk (show Kd.R (Kd.int .i64) 3 _ _ _ _ (rd_L2 t391 x10_1) from ge394_0)
 clear hv394_0 ge394_0 hcc394 hce394
 have HR394_0 := Aside0.mk hi394_0
 have HC394_0 := Aside0.mk hl394_0
 clear hi394_0 hl394_0
 replace p394 := eq_true p394
 replace q394 := eq_true q394
 go_wp2_with (first | ((with_reducible refine gate_builtin (b := .append) (xs := #[.tmp 14, .tmp 17]) rfl ?_); at_builtin; refine Kd.R_append (Kd.int .i64) (w0 := w) w.heap.size rfl (.tmp 14) (.tmp 17) 23 3 (.int .i64 0) 8 rfl Tryz.underlying23 info3 rfl (by decide) (by omega) u3 x3_1 ((rd_L2 t391 x10_1).length : Int) [.int .i64 ((rd_L2 t391 x10_1).length : Int)] (fun _ => True) (fun _ => False) rfl rfl ?aP (fun _ hk => hk.elim) ?aF ?aO ?aB ?aS ?aL ?_; (case aP => exact rfl); (case aB => exact (bX1 HB.out GE387.out)); (case aF => exact (fun _ _ => trivial)); (case aO => exact (rX HO_3.out)); (case aS => exact (below_size (bX1 HB.out GE387.out))); (case aL => have := LMc12.out; omega); intro v396 w13 ho hb hg hat; rw [← Ny395.out] at ho; have n0_ := Aside0.mk (Kd.S_after (ok := (fun _ => True)) (by (with_reducible repeat (first | apply Kd.S_alloc | apply Kd.S_drewN | apply Kd.S_drew)); exact Kd.S_mono HO_8.out (fun _ hk => ⟨trivial, hk⟩)) hg hat); have n1_ := Aside0.mk (bgX BK387.out hg (Kd.R_ne HO_3.out BK387.out (by decide))); have n2_ := Aside0.mk (Kd.R_after (ok := (fun k_ => some k_ ≠ (.slice (some ad394) t391.length co8 : Value).ownBlock)) (rM HL394_0.out (fun _ hk => ⟨hk.2, hk.1⟩)) hg hat); have n3_ := Aside0.mk (hb); have n4_ := Aside0.mk (ho); clear HO_8 BK387 HL394_0 HB HO_3; have HO_8 := n0_; have BK387 := n1_; have HL394_0 := n2_; have HB := n3_; have HO397 := n4_; clear n0_ n1_ n2_ n3_ n4_ ho hb hg hat))
 go_roundg k1
 case measure => have := HK1.out; omega
 case rel => exact ⟨(y395), (wrap64 (x10_1 + 1)), vX, H', ⟨by have := HK1.out; omega⟩, ⟨rX HO397.out⟩, ⟨by (with_reducible repeat (first | apply Kd.S_alloc | apply Kd.S_drewN | apply Kd.S_drew)); exact Kd.S_mono HO_8.out (fun _ hk => hk.2)⟩, ⟨kX BK387.out⟩, ⟨bX1 HB.out GE387.out⟩⟩
 }
 {
 rw [if_neg c12] at H
 exact absurd H (by simp)
 }
 }
 {
 rw [if_neg c11] at H
 exact absurd H (by simp)
 }
 }
 {
 rw [if_neg c10] at H
 exact absurd H (by simp)
 }
 }
 {
 rw [if_neg c9] at H
 have c9b0 : decide (x10_1 < (t391.length : Int)) = false := decide_eq_false c9
 clear c9
 replace H := Option.bind_eq_some_iff.mp H
 obtain ⟨t398, A140, H⟩ := H
 replace H : (some t398) = some r := H
 have A14 := Aside0.mk A140
 clear A140
 obtain rfl := Option.some.inj H
 obtain ⟨Ao15, co15, eo15⟩ := Kd.R_slice HO_3.out
 subst eo15
 go_wp2_with (first | ((with_reducible refine gate_callee (f := 42) rfl ?_); refine goesL_ (some 21) rfl rfl Tryz.func42 (by kernel_rfl) rfl #[.slice Ao15 x3_1.length co15, .func (.func 43) #[] #[]] rfl aX ?_; (with_reducible refine (slices_SortFunc_int_int.calls (fun k_ => some k_ = (.slice Ao15 x3_1.length co15 : Value).ownBlock) (.slice Ao15 x3_1.length co15) x3_1 t398 w _ ?side1 ?side2 A14.out).mono ?_); (case side1 => repeat (first | (with_reducible first | exact HB.out|apply bA|apply bN|apply bD | refine below_set ?_ GE387.out) | exact HB.out)); (case side2 => exact Kd.R_tight rfl HO_3.out); rintro e w16 ⟨rfl, hy0, hb, hkp⟩; refine ⟨_, rfl, ?_⟩; have n0_ := Aside0.mk (Kd.R_reok rfl hy0 (fun k_ e_ => HO_3.out.1 k_ e_)); have n1_ := Aside0.mk (Kd.S_mono (ok' := fun k_ => some k_ ≠ (.slice Ao15 x3_1.length co15 : Value).ownBlock) (Kd.S_keptB (HO_8.out) hkp (fun k_ hk_ hs_ => (hk_) hs_)) (fun k_ hk_ => hk_.1)); have n2_ := Aside0.mk (blk_kept (kX BK387.out) hkp (fun hs_ => (fun e_ => (Kd.R_ne HO_3.out BK387.out (by decide)) e_) hs_)); have n3_ := Aside0.mk (hb); clear HO_3 HO_8 BK387 HB; have HO_3 := n0_; have HO_8 := n1_; have BK387 := n2_; have HB := n3_; clear n0_ n1_ n2_ n3_; (try clear hb); (try clear hkp); (try clear hy0)))
 go_ret
 exact ⟨_, eX, by (with_reducible repeat (first|apply rA|apply rN|apply rD)); exact HO_3.out, bX1 HB.out GE387.out⟩
 }

/-! ### impl_CountSquares: function 32 -/
def impl_CountSquares.f (k : Nat) (l0_0 : List Int) (l0_1 : List Int) : Option (Int) := (impl_SurfaceOk.f k l0_0 l0_1).bind fun t400 => (if t400 = true then (some (l0_0.length : Int)) else (some 0))
set_option maxHeartbeats 8000000 in
set_option maxRecDepth 100000 in
theorem impl_CountSquares.calls (k : Nat) (A0_0 : Option Addr) (c0_0 : Nat) (l0_0 : List Int) (A0_1 : Option Addr) (c0_1 : Nat) (l0_1 : List Int) (r : Int) (w : World) (hr0_0 : Kd.C (Kd.int .i64) w A0_0 l0_0.length l0_0) (hc0_0 : l0_0.length ≤ c0_0) (hr0_1 : Kd.C (Kd.int .i64) w A0_1 l0_1.length l0_1) (hc0_1 : l0_1.length ≤ c0_1) (h : impl_CountSquares.f k l0_0 l0_1 = some r) :
  Calls Tryz.prog 32 #[.agg #[.slice A0_0 l0_0.length c0_0, .slice A0_1 l0_1.length c0_1]] w fun e w' => e = .returned (.int .i64 r) ∧ Below w.heap.size w w' := by
 have hu25 := Tryz.underlying25
 have HR0_0 := Aside0.mk hr0_0
 have HC0_0 := Aside0.mk hc0_0
 clear hr0_0 hc0_0
 have HR0_1 := Aside0.mk hr0_1
 have HC0_1 := Aside0.mk hc0_1
 clear hr0_1 hc0_1
 have HB := Aside0.mk (Below.refl w.heap.size w)
 have H : ((impl_SurfaceOk.f k l0_0 l0_1).bind fun t400 => (if t400 = true then (some (l0_0.length : Int)) else (some 0))) = some r := h
 clear h
 replace H := Option.bind_eq_some_iff.mp H
 obtain ⟨t400, A20, H⟩ := H
 replace H : (if t400 = true then (some (l0_0.length : Int)) else (some 0)) = some r := H
 have A2 := Aside0.mk A20
 clear A20
 by_cases c3 : t400 = true
 {
 subst c3
 have H1 : (some (l0_0.length : Int)) = some r := by rw [if_pos rfl] at H; exact H
 clear H
 have H := H1
 clear H1
 obtain rfl := Option.some.inj H
 go_enter Tryz.func32, Tryz.ntmps32
 go_wp2_with (first | ((with_reducible refine gate_dst (N := 1) rfl ?_); refine box_event ?hg (N := 1) ?hd (cs := #[.slice A0_0 l0_0.length c0_0, .slice A0_1 l0_1.length c0_1]) (t := 25) ?hr ?_; (case hd => rfl); (case hg => rfl); (case hr => first | (go_simp; done) | (go_simp; rfl)); intro gb399 hg w4 hbox hb; have n0_ := Aside0.mk (below_step (bX HB.out) hb); have n1_ := Aside0.mk (hbox); have n2_ := Aside0.mk ((szX (below_size (bX HB.out)) hg : w.heap.size ≤ gb399)); have n3_ := Aside0.mk ((szX (below_size (bX HB.out)) hg : w.heap.size ≤ gb399)); clear HB; have HB := n0_; have BK399 := n1_; have GW399 := n2_; have GE399 := n3_; clear n0_ n1_ n2_ n3_ hb hbox hg; have hcz5_0 := cz20 BK399.out; have hcz5_1 := cz21 BK399.out; have hfz5_0 := blk_frozen BK399.out 0; have hfz5_1 := blk_frozen BK399.out 1) | ((with_reducible refine gate_callee (f := 31) rfl ?_); refine goesL_ (some 4) rfl rfl Tryz.func31 (by kernel_rfl) rfl #[.agg #[.slice A0_0 l0_0.length c0_0, .slice A0_1 l0_1.length c0_1]] rfl aX ?_; (with_reducible refine (impl_SurfaceOk.calls k _ _ l0_0 _ _ l0_1 true _ ?side1 ?side2 ?side3 ?side4 A2.out).mono ?_); (case side1 => exact cX (Kd.C_below HR0_0.out HB.out)); (case side2 => exact HC0_0.out); (case side3 => exact cX (Kd.C_below HR0_1.out HB.out)); (case side4 => exact HC0_1.out); rintro e w6 ⟨rfl, hb⟩; refine ⟨_, rfl, ?_⟩; have n0_ := Aside0.mk (bbX BK399.out hb); have n1_ := Aside0.mk (below_step (bX1 HB.out GE399.out) hb); clear BK399 HB; have BK399 := n0_; have HB := n1_; clear n0_ n1_; (try clear hb); (try clear hb2); (try clear hk); (try clear hi); have hcz7_0 := cz20 BK399.out; have hcz7_1 := cz21 BK399.out; have hfz7_0 := blk_frozen BK399.out 0; have hfz7_1 := blk_frozen BK399.out 1))
 go_ret
 exact ⟨eX, bX1 HB.out GE399.out⟩
 }
 {
 replace c3 := Bool.eq_false_iff.mpr c3
 subst c3
 have H1 : (some 0) = some r := by rw [if_neg (show ¬ (false = true) by decide)] at H; exact H
 clear H
 have H := H1
 clear H1
 obtain rfl := Option.some.inj H
 go_enter Tryz.func32, Tryz.ntmps32
 go_wp2_with (first | ((with_reducible refine gate_dst (N := 1) rfl ?_); refine box_event ?hg (N := 1) ?hd (cs := #[.slice A0_0 l0_0.length c0_0, .slice A0_1 l0_1.length c0_1]) (t := 25) ?hr ?_; (case hd => rfl); (case hg => rfl); (case hr => first | (go_simp; done) | (go_simp; rfl)); intro gb399 hg w8 hbox hb; have n0_ := Aside0.mk (below_step (bX HB.out) hb); have n1_ := Aside0.mk (hbox); have n2_ := Aside0.mk ((szX (below_size (bX HB.out)) hg : w.heap.size ≤ gb399)); have n3_ := Aside0.mk ((szX (below_size (bX HB.out)) hg : w.heap.size ≤ gb399)); clear HB; have HB := n0_; have BK399 := n1_; have GW399 := n2_; have GE399 := n3_; clear n0_ n1_ n2_ n3_ hb hbox hg; have hcz9_0 := cz20 BK399.out; have hcz9_1 := cz21 BK399.out; have hfz9_0 := blk_frozen BK399.out 0; have hfz9_1 := blk_frozen BK399.out 1) | ((with_reducible refine gate_callee (f := 31) rfl ?_); refine goesL_ (some 4) rfl rfl Tryz.func31 (by kernel_rfl) rfl #[.agg #[.slice A0_0 l0_0.length c0_0, .slice A0_1 l0_1.length c0_1]] rfl aX ?_; (with_reducible refine (impl_SurfaceOk.calls k _ _ l0_0 _ _ l0_1 false _ ?side1 ?side2 ?side3 ?side4 A2.out).mono ?_); (case side1 => exact cX (Kd.C_below HR0_0.out HB.out)); (case side2 => exact HC0_0.out); (case side3 => exact cX (Kd.C_below HR0_1.out HB.out)); (case side4 => exact HC0_1.out); rintro e w10 ⟨rfl, hb⟩; refine ⟨_, rfl, ?_⟩; have n0_ := Aside0.mk (bbX BK399.out hb); have n1_ := Aside0.mk (below_step (bX1 HB.out GE399.out) hb); clear BK399 HB; have BK399 := n0_; have HB := n1_; clear n0_ n1_; (try clear hb); (try clear hb2); (try clear hk); (try clear hi)))
 go_ret
 exact ⟨eX, bX1 HB.out GE399.out⟩
 }

/-! ### impl_RenamePerm: function 115 -/
mutual
def impl_RenamePerm.j0 : Nat → List Int → List Int → Bool → Option (List Int)
 | 0, _, _, _ => none
 | k + 1, x0, x1, x22 => if x22 = true then (some ([] : List Int)) else (if 0 ≤ (x0.length : Int) then (if ((x0.length : Int) : Int).toNat ≤ 35184372088832 then (impl_RenamePerm.l0 k x1 (List.replicate ((x0.length : Int) : Int).toNat 0) x0 (x0.length : Int) 0) else (none)) else (none))
def impl_RenamePerm.l0 : Nat → List Int → List Int → List Int → Int → Int → Option (List Int)
 | 0, _, _, _, _, _ => none
 | k + 1, x1, x5, x26, x27, x28 => if x28 < x27 then (if 0 ≤ x28 then (if x28 < (x26.length : Int) then (if x28 < (x1.length : Int) then (if 0 ≤ (rd x26 x28) then (if (rd x26 x28) < (x1.length : Int) then (if 0 ≤ (rd x1 x28) then (if (rd x1 x28) < (x5.length : Int) then (impl_RenamePerm.l0 k x1 (x5.set ((rd x1 x28) : Int).toNat (rd x1 (rd x26 x28))) x26 x27 (wrap64 (x28 + 1))) else (none)) else (none)) else (none)) else (none)) else (none)) else (none)) else (none)) else (some x5)
end
def impl_RenamePerm.f (k : Nat) (l0 : List Int) (l1 : List Int) : Option (List Int) := (impl_PermOk.f l0).bind fun t401 => (if t401 = true then ((impl_PermOk.f l1).bind fun t402 => (if t402 = true then (impl_RenamePerm.j0 k l0 l1 ((l0.length : Int) != (l1.length : Int))) else (impl_RenamePerm.j0 k l0 l1 true))) else (impl_RenamePerm.j0 k l0 l1 true))
def impl_RenamePerm.T7 : Bool × List (List Nat × List Nat) := (true, [([], []), ([], []), ([], []), ([1, 2], [1, 2]), ([3], [3]), ([], []), ([], []), ([5, 6], [5, 6]), ([7], [7]), ([0, 4, 0, 1, 2, 3, 4, 5, 6, 7, 8], [0, 4]), ([9, 8, 0, 1, 2, 3, 4, 5, 6, 7, 8], [8, 9])])
def impl_RenamePerm.B7 : List Nat := [0, 0, 0, 6, 14, 0, 0, 96, 224, 511, 1023]
theorem impl_RenamePerm.tab7 : rtab .any (opsOf Tryz.f115 7) = impl_RenamePerm.T7 := by kernel_rfl
theorem impl_RenamePerm.bits7 : waitsOk impl_RenamePerm.T7.2 impl_RenamePerm.B7 = true := by kernel_rfl
set_option maxHeartbeats 8000000 in
set_option maxRecDepth 100000 in
theorem impl_RenamePerm.calls (k : Nat) (A0 : Option Addr) (c0 : Nat) (l0 : List Int) (A1 : Option Addr) (c1 : Nat) (l1 : List Int) (r : List Int) (w : World) (hr0 : Kd.C (Kd.int .i64) w A0 l0.length l0) (hc0 : l0.length ≤ c0) (hr1 : Kd.C (Kd.int .i64) w A1 l1.length l1) (hc1 : l1.length ≤ c1) (h : impl_RenamePerm.f k l0 l1 = some r) :
  Calls Tryz.prog 115 #[.slice A0 l0.length c0, .slice A1 l1.length c1] w fun e w' => ∃ v0_ : Value, e = .returned (v0_) ∧ Kd.R (Kd.int .i64) 3 w' w.heap.size (fun _ => True) v0_ r ∧ Below w.heap.size w w' := by
 have HR0 := Aside0.mk hr0
 have HC0 := Aside0.mk hc0
 clear hr0 hc0
 have HR1 := Aside0.mk hr1
 have HC1 := Aside0.mk hc1
 clear hr1 hc1
 have HB := Aside0.mk (Below.refl w.heap.size w)
 have H : ((impl_PermOk.f l0).bind fun t401 => (if t401 = true then ((impl_PermOk.f l1).bind fun t402 => (if t402 = true then (impl_RenamePerm.j0 k l0 l1 ((l0.length : Int) != (l1.length : Int))) else (impl_RenamePerm.j0 k l0 l1 true))) else (impl_RenamePerm.j0 k l0 l1 true))) = some r := h
 clear h
 have HC3 := Aside0.mk H
 clear H
 go_enter Tryz.func115, Tryz.ntmps115
 go_upto_region 1 with (fail)
 go_cut [22] (fun v22 wc => ∃ (kq : Nat) (x22_2 : Bool), v22 = .bool x22_2 ∧ Aside0 (impl_RenamePerm.j0 kq l0 l1 x22_2 = some r) ∧ Aside0 (kq ≤ k) ∧ Aside0 (Below w.heap.size w wc))
 case first =>
  have H := HC3.out
  clear HC3
  replace H := Option.bind_eq_some_iff.mp H
  obtain ⟨t401, A40, H⟩ := H
  replace H : (if t401 = true then ((impl_PermOk.f l1).bind fun t402 => (if t402 = true then (impl_RenamePerm.j0 k l0 l1 ((l0.length : Int) != (l1.length : Int))) else (impl_RenamePerm.j0 k l0 l1 true))) else (impl_RenamePerm.j0 k l0 l1 true)) = some r := H
  have A4 := Aside0.mk A40
  clear A40
  by_cases c5 : t401 = true
  {
  subst c5
  have H1 : ((impl_PermOk.f l1).bind fun t402 => (if t402 = true then (impl_RenamePerm.j0 k l0 l1 ((l0.length : Int) != (l1.length : Int))) else (impl_RenamePerm.j0 k l0 l1 true))) = some r := by rw [if_pos rfl] at H; exact H
  clear H
  have H := H1
  clear H1
  replace H := Option.bind_eq_some_iff.mp H
  obtain ⟨t402, A60, H⟩ := H
  replace H : (if t402 = true then (impl_RenamePerm.j0 k l0 l1 ((l0.length : Int) != (l1.length : Int))) else (impl_RenamePerm.j0 k l0 l1 true)) = some r := H
  have A6 := Aside0.mk A60
  clear A60
  by_cases c7 : t402 = true
  {
  subst c7
  have H1 : (impl_RenamePerm.j0 k l0 l1 ((l0.length : Int) != (l1.length : Int))) = some r := by rw [if_pos rfl] at H; exact H
  clear H
  have H := H1
  clear H1
  have H' := Aside0.mk H
  clear H
  go_wp2_with (first | ((with_reducible refine gate_callee (f := 74) rfl ?_); refine goesL_ (some 9) rfl rfl Tryz.func74 (by kernel_rfl) rfl #[.slice A0 l0.length c0] rfl aX ?_; (with_reducible refine (impl_PermOk.calls _ _ l0 true _ ?side1 ?side2 A4.out).mono ?_); (case side1 => exact cX (Kd.C_below HR0.out HB.out)); (case side2 => exact HC0.out); rintro e w8 ⟨rfl, hb⟩; refine ⟨_, rfl, ?_⟩; have n0_ := Aside0.mk (below_step (bX HB.out) hb); clear HB; have HB := n0_; clear n0_; (try clear hb); (try clear hb2); (try clear hk); (try clear hi)) | (go_at_call 74; (with_reducible refine (impl_PermOk.calls _ _ l1 true _ ?side1 ?side2 A6.out).mono ?_); (case side1 => exact cX (Kd.C_below HR1.out HB.out)); (case side2 => exact HC1.out); rintro e w9 ⟨rfl, hb⟩; have n0_ := Aside0.mk (below_step (bX HB.out) hb); clear HB; have HB := n0_; clear n0_; (try clear hb); (try clear hb2); (try clear hk); (try clear hi)))
  go_meet
  case rel => exact ⟨_, (((l0.length : Int) != (l1.length : Int))), vX, H', ⟨by first | omega | exact Nat.le_refl _⟩, ⟨bX HB.out⟩⟩
  }
  {
  replace c7 := Bool.eq_false_iff.mpr c7
  subst c7
  have H1 : (impl_RenamePerm.j0 k l0 l1 true) = some r := by rw [if_neg (show ¬ (false = true) by decide)] at H; exact H
  clear H
  have H := H1
  clear H1
  have H' := Aside0.mk H
  clear H
  go_wp2_with (first | ((with_reducible refine gate_callee (f := 74) rfl ?_); refine goesL_ (some 9) rfl rfl Tryz.func74 (by kernel_rfl) rfl #[.slice A0 l0.length c0] rfl aX ?_; (with_reducible refine (impl_PermOk.calls _ _ l0 true _ ?side1 ?side2 A4.out).mono ?_); (case side1 => exact cX (Kd.C_below HR0.out HB.out)); (case side2 => exact HC0.out); rintro e w10 ⟨rfl, hb⟩; refine ⟨_, rfl, ?_⟩; have n0_ := Aside0.mk (below_step (bX HB.out) hb); clear HB; have HB := n0_; clear n0_; (try clear hb); (try clear hb2); (try clear hk); (try clear hi)) | (go_at_call 74; (with_reducible refine (impl_PermOk.calls _ _ l1 false _ ?side1 ?side2 A6.out).mono ?_); (case side1 => exact cX (Kd.C_below HR1.out HB.out)); (case side2 => exact HC1.out); rintro e w11 ⟨rfl, hb⟩; have n0_ := Aside0.mk (below_step (bX HB.out) hb); clear HB; have HB := n0_; clear n0_; (try clear hb); (try clear hb2); (try clear hk); (try clear hi)))
  go_meet
  case rel => exact ⟨_, (true), vX, H', ⟨by first | omega | exact Nat.le_refl _⟩, ⟨bX HB.out⟩⟩
  }
  }
  {
  replace c5 := Bool.eq_false_iff.mpr c5
  subst c5
  have H1 : (impl_RenamePerm.j0 k l0 l1 true) = some r := by rw [if_neg (show ¬ (false = true) by decide)] at H; exact H
  clear H
  have H := H1
  clear H1
  have H' := Aside0.mk H
  clear H
  go_wp2_with (first | ((with_reducible refine gate_callee (f := 74) rfl ?_); refine goesL_ (some 9) rfl rfl Tryz.func74 (by kernel_rfl) rfl #[.slice A0 l0.length c0] rfl aX ?_; (with_reducible refine (impl_PermOk.calls _ _ l0 false _ ?side1 ?side2 A4.out).mono ?_); (case side1 => exact cX (Kd.C_below HR0.out HB.out)); (case side2 => exact HC0.out); rintro e w12 ⟨rfl, hb⟩; refine ⟨_, rfl, ?_⟩; have n0_ := Aside0.mk (below_step (bX HB.out) hb); clear HB; have HB := n0_; clear n0_; (try clear hb); (try clear hb2); (try clear hk); (try clear hi)))
  go_meet
  case rel => exact ⟨_, (true), vX, H', ⟨by first | omega | exact Nat.le_refl _⟩, ⟨bX HB.out⟩⟩
  }
 case rest =>
 clear HC3
 try clear c1
 try clear p2
 try clear c5
 try clear c7
 try clear c11
 obtain ⟨kq, x22_2, rfl, HA, HJ2, HB⟩ := hcut
 cases kq with
 | zero => exact absurd HA.out (by simp [impl_RenamePerm.j0])
 | succ kj2 =>
 have H := HA.out
 clear HA
 simp only [impl_RenamePerm.j0] at H
 by_cases c13 : x22_2 = true
 {
 subst c13
 have H1 : (some ([] : List Int)) = some r := by rw [if_pos rfl] at H; exact H
 clear H
 have H := H1
 clear H1
 obtain rfl := Option.some.inj H
 go_wp2
 go_ret
 exact ⟨_, eX, by first | exact Kd.R_nil _ _ _ _ _ | exact Kd.N_nil _ _ _ _ _ | exact Kd.V_nil _ _ _ _ _ | exact Kd.Q_nil _ _ _ _ _ | exact Kd.S_nil _ _ _ _ _, bX HB.out⟩
 }
 {
 replace c13 := Bool.eq_false_iff.mpr c13
 subst c13
 have H1 : (if 0 ≤ (l0.length : Int) then (if ((l0.length : Int) : Int).toNat ≤ 35184372088832 then (impl_RenamePerm.l0 kj2 l1 (List.replicate ((l0.length : Int) : Int).toNat 0) l0 (l0.length : Int) 0) else (none)) else (none)) = some r := by rw [if_neg (show ¬ (false = true) by decide)] at H; exact H
 clear H
 have H := H1
 clear H1
 by_cases c14 : 0 ≤ (l0.length : Int)
 {
 rw [if_pos c14] at H
 have c14b0 := eq_true c14
 have c14b1 : decide (0 ≤ (l0.length : Int)) = true := decide_eq_true c14
 clear c14
 by_cases c15 : ((l0.length : Int) : Int).toNat ≤ 35184372088832
 {
 rw [if_pos c15] at H
 have c15b0 := eq_true c15
 have c15b1 : decide (((l0.length : Int) : Int).toNat ≤ 35184372088832) = true := decide_eq_true c15
 clear c15
 obtain ⟨y403, hy403⟩ : ∃ y_ : List Int, y_ = (List.replicate ((l0.length : Int) : Int).toNat 0) := ⟨_, rfl⟩
 replace H : (impl_RenamePerm.l0 kj2 l1 y403 l0 (l0.length : Int) 0) = some r := by first | (rw [hy403]; with_reducible exact H) | (have H2_ := (Option.bind_some _ _).symm.trans H; rw [hy403]; with_reducible exact H2_) | (have H2_ := (Option.bind_some _ _).symm.trans H; with_reducible exact H2_) | with_reducible exact H | (rw [hy403]; exact H) | exact H
 have Ny403 := Aside0.mk hy403
 clear hy403
 have H' := Aside0.mk H
 clear H
 go_wp2_with (first | ((with_reducible refine gate_dst (N := 25) rfl ?_); (try (refine gate_guard (by rfl) ?_; dsimp only)); refine Kd.R_make (Kd.int .i64) _ 3 rfl (N := 25) rfl 23 _ _ rfl (l0.length : Int) rfl rfl Tryz.underlying23 (.int .i64 0) 8 info3 rfl (by decide) (by omega) 0 (ok := fun _ => True) (okp := fun _ => True) rfl (fun _ hk => hk) trivial (dX) (Nat.le_trans (Nat.mul_le_mul_right _ (dX : (l0.length : Int).toNat ≤ 35184372088832)) (by omega)) (Below.refl _ _) (Nat.le_refl _) ?_; intro v404 w16 ho17 hb hg_ hnew_; clear hg_ hnew_; (first | rw [← Ny403.out] at ho17 | (simp only [Int.reduceToNat] at ho17; rw [← Ny403.out] at ho17)); have n0_ := Aside0.mk (Kd.R_lower ho17 (below_size (bX HB.out))); have n1_ := Aside0.mk (below_step (bX HB.out) hb); clear HB; have HO405 := n0_; have HB := n1_; clear n0_ n1_ hb ho17))
 go_loopg [28] kj2 (fun kq v28 w' => ∃ (x5_2 : List Int) (x28_2 : Int), v28 = .int .i64 x28_2 ∧ Aside0 (impl_RenamePerm.l0 kq l1 x5_2 l0 (l0.length : Int) x28_2 = some r) ∧ Aside0 (kq ≤ kj2) ∧ Aside0 (Kd.R (Kd.int .i64) 3 w' w.heap.size (fun _ => True) v404 x5_2) ∧ Aside0 (Below w.heap.size w w'))
 case atStart => exact ⟨(y403), (0), vX, H', ⟨Nat.le_refl _⟩, ⟨rX HO405.out⟩, ⟨bX HB.out⟩⟩
 case round =>
 clear H'
 try clear c1
 try clear p2
 try clear c5
 try clear c7
 try clear c11
 try clear c13
 try clear c14
 try clear c14b0
 try clear c14b1
 try clear c15
 try clear c15b0
 try clear c15b1
 try clear p2
 obtain ⟨x5_2, x28_2, rfl, HA, HK2, HO_5, HB⟩ := hrel
 cases gk with
 | zero => exact absurd HA.out (by simp [impl_RenamePerm.l0])
 | succ k2 =>
 have H := HA.out
 clear HA
 simp only [impl_RenamePerm.l0] at H
 by_cases c18 : x28_2 < (l0.length : Int)
 {
 rw [if_pos c18] at H
 have c18b0 : decide (x28_2 < (l0.length : Int)) = true := decide_eq_true c18
 clear c18
 by_cases c19 : 0 ≤ x28_2
 {
 rw [if_pos c19] at H
 have c19b0 : decide (0 ≤ x28_2) = true := decide_eq_true c19
 clear c19
 by_cases c20 : x28_2 < (l0.length : Int)
 {
 rw [if_pos c20] at H
 have c20b0 : decide (x28_2 < (l0.length : Int)) = true := decide_eq_true c20
 clear c20
 by_cases c21 : x28_2 < (l1.length : Int)
 {
 rw [if_pos c21] at H
 have c21b0 : decide (x28_2 < (l1.length : Int)) = true := decide_eq_true c21
 clear c21
 by_cases c22 : 0 ≤ (rd l0 x28_2)
 {
 rw [if_pos c22] at H
 have c22b0 : decide (0 ≤ (rd l0 x28_2)) = true := decide_eq_true c22
 clear c22
 by_cases c23 : (rd l0 x28_2) < (l1.length : Int)
 {
 rw [if_pos c23] at H
 have c23b0 : decide ((rd l0 x28_2) < (l1.length : Int)) = true := decide_eq_true c23
 clear c23
 by_cases c24 : 0 ≤ (rd l1 x28_2)
 {
 rw [if_pos c24] at H
 have c24b0 : decide (0 ≤ (rd l1 x28_2)) = true := decide_eq_true c24
 clear c24
 by_cases c25 : (rd l1 x28_2) < (x5_2.length : Int)
 {
 rw [if_pos c25] at H
 have c25b0 : decide ((rd l1 x28_2) < (x5_2.length : Int)) = true := decide_eq_true c25
 clear c25
 obtain ⟨y409, hy409⟩ : ∃ y_ : List Int, y_ = (x5_2.set ((rd l1 x28_2) : Int).toNat (rd l1 (rd l0 x28_2))) := ⟨_, rfl⟩
 replace H : (impl_RenamePerm.l0 k2 l1 y409 l0 (l0.length : Int) (wrap64 (x28_2 + 1))) = some r := by first | (rw [hy409]; with_reducible exact H) | (have H2_ := (Option.bind_some _ _).symm.trans H; rw [hy409]; with_reducible exact H2_) | (have H2_ := (Option.bind_some _ _).symm.trans H; with_reducible exact H2_) | with_reducible exact H | (rw [hy409]; exact H) | exact H
 have Ny409 := Aside0.mk hy409
 clear hy409
 have H' := Aside0.mk H
 clear H
 have p406 : 0 ≤ (x28_2 : Int) := dX
 have q406 : x28_2 < (l0.length : Int) := dX
 obtain ⟨ad406, e406, hx406_0⟩ := Kd.at_int HR0.out x28_2 p406 q406
 cases e406
 replace hx406_0 := (HB.out.cell (World.block_lt_of_cell? w _ hx406_0)).trans hx406_0
 replace p406 := eq_true p406
 replace q406 := eq_true q406
 try go_wp2
 have n0_ := Aside0.mk (Kd.R_drew HO_5.out)
 have n1_ := Aside0.mk (below_drew1 HB.out)
 clear HO_5 HB
 have HO_5 := n0_
 have HB := n1_
 clear n0_ n1_
 have p407 : 0 ≤ (x28_2 : Int) := dX
 have q407 : x28_2 < (l1.length : Int) := dX
 obtain ⟨ad407, e407, hx407_0⟩ := Kd.at_int HR1.out x28_2 p407 q407
 have hw407_0 := hx407_0
 cases e407
 replace hx407_0 := (HB.out.cell (World.block_lt_of_cell? w _ hx407_0)).trans hx407_0
 replace p407 := eq_true p407
 replace q407 := eq_true q407
 have p408 : 0 ≤ ((rd l0 x28_2) : Int) := dX
 have q408 : (rd l0 x28_2) < (l1.length : Int) := dX
 obtain ⟨ad408, e408, hx408_0⟩ := Kd.at_int HR1.out (rd l0 x28_2) p408 q408
 have hw408_0 := hx408_0
 obtain rfl : ad407 = ad408 := (by injection e408)
 replace hx408_0 := (HB.out.cell (World.block_lt_of_cell? w _ hx408_0)).trans hx408_0
 replace p408 := eq_true p408
 replace q408 := eq_true q408
 have p26 : 0 ≤ ((rd l1 x28_2) : Int) := dX
 have q26 : ((rd l1 x28_2) : Int) < ((x5_2.length : Int) : Int) := dX
 obtain ⟨go26, co26, eo26, gb26, gl26, cl26, HG26⟩ := Kd.R_form HO_5.out (by omega)
 (first | cases eo26 | (injection eo26 with ea_ en_ ec_; (first | subst ea_ | (injection ea_ with ea_; subst ea_)); subst ec_; clear en_))
 have GB26 := Aside0.mk gb26
 have GG26 := Aside0.mk HG26
 clear gb26 gl26 HG26
 obtain ⟨hx26_0, hf26_0⟩ := Kd.R_celln 0 HO_5.out ((rd l1 x28_2) : Int) p26 q26
 replace p26 := eq_true p26
 replace q26 := eq_true q26
 have HP28 := Kd.R_putn HO_5.out ((rd l1 x28_2) : Int) (rd l1 (rd l0 x28_2))
 rw [← Ny409.out] at HP28
 have HQ28 := Aside0.mk HP28
 clear HP28
 refine start_ (n := 11) (S := fun w' => w'.cell? (ad407.add (x28_2).toNat) = some (.int .i64 (rd l1 x28_2)) ∧ w'.cell? (ad407.add ((rd l0 x28_2)).toNat) = some (.int .i64 (rd l1 (rd l0 x28_2)))) (ds := [10]) #[ff,ff,ff,ff,ff,ff,ff,ff,ff,ff,ff] (by kernel_rfl) rfl rfl ⟨((HB.out.cell (World.block_lt_of_cell? w _ hw407_0)).trans hw407_0), ((HB.out.cell (World.block_lt_of_cell? w _ hw408_0)).trans hw408_0)⟩ (fun hHeld => ?_); refine with_tabW impl_RenamePerm.tab7 impl_RenamePerm.bits7 (fun HT_ HW_ => ?_)
 generalize wr.drew = w27 at HO_5 HB GG26 HQ28 hf26_0 hx26_0 hx407_0 hx408_0 hHeld ⊢
 refine pX 0 33 (fl 11 1) rfl rfl HT_.out ?_
 refine pX 1 34 (fl 11 3) rfl rfl HT_.out ?_
 refine pX 2 35 (fl 11 7) rfl rfl HT_.out ?_
 refine pX 3 36 (fl 11 15) rfl rfl HT_.out ?_
 refine pX 5 38 (fl 11 47) rfl rfl HT_.out ?_
 refine pX 6 39 (fl 11 111) rfl rfl HT_.out ?_
 refine pX 7 40 (fl 11 239) rfl rfl HT_.out ?_
 refine tX2 4 37 (fl 11 255) rfl rfl HT_.out HW_.out hHeld ?_
 refine tX2 8 41 (fl 11 511) rfl rfl HT_.out HW_.out hHeld ?_
 refine pX 9 42 (fl 11 1023) rfl rfl HT_.out ?_
 refine last_ (i := 10) (N := none) #[tt,tt,tt,tt,tt,tt,tt,tt,tt,tt,tt] rfl rfl (one_of HT_.out (by kernel_rfl)) (by decide) (fun K hK => ?_)
 refine skip_ (w1 := ?_) (by rfl) rfl ?_ ?_
 rotate_left
 {
 go_simp
 rfl
 }
 refine hK.out _ _ ?_
 clear hK K
 refine done_ (done_of HT_.out (by kernel_rfl)) ?_
 try go_wp2
 go_roundg k2
 case measure => have := HJ2.out; have := HK2.out; omega
 case rel => exact ⟨(y409), (wrap64 (x28_2 + 1)), vX, H', ⟨by have := HJ2.out; have := HK2.out; omega⟩, ⟨rX HQ28.out⟩, ⟨bX1 HB.out GB26.out⟩⟩
 }
 {
 rw [if_neg c25] at H
 exact absurd H (by simp)
 }
 }
 {
 rw [if_neg c24] at H
 exact absurd H (by simp)
 }
 }
 {
 rw [if_neg c23] at H
 exact absurd H (by simp)
 }
 }
 {
 rw [if_neg c22] at H
 exact absurd H (by simp)
 }
 }
 {
 rw [if_neg c21] at H
 exact absurd H (by simp)
 }
 }
 {
 rw [if_neg c20] at H
 exact absurd H (by simp)
 }
 }
 {
 rw [if_neg c19] at H
 exact absurd H (by simp)
 }
 }
 {
 rw [if_neg c18] at H
 have c18b0 : decide (x28_2 < (l0.length : Int)) = false := decide_eq_false c18
 clear c18
 obtain rfl := Option.some.inj H
 go_wp2
 go_ret
 exact ⟨_, eX, by (with_reducible repeat (first|apply rA|apply rN|apply rD)); exact HO_5.out, bX HB.out⟩
 }
 }
 {
 rw [if_neg c15] at H
 exact absurd H (by simp)
 }
 }
 {
 rw [if_neg c14] at H
 exact absurd H (by simp)
 }
 }

/-! ### impl_RenameSurface: function 83 -/
def impl_RenameSurface.j0 : Nat → List Int → Bool → List Int → List Int → Option (List Int × List Int × Bool)
 | 0, _, _, _, _ => none
 | k + 1, x1, x21, x411000, x411001 => if x21 = true then (some (([] : List Int), ([] : List Int), false)) else ((impl_RenamePerm.f k x411000 x1).bind fun t414 => ((impl_RenamePerm.f k x411001 x1).bind fun t417 => (some (t414, t417, true))))
def impl_RenameSurface.f (k : Nat) (l0_0 : List Int) (l0_1 : List Int) (l1 : List Int) : Option (List Int × List Int × Bool) := (impl_SurfaceOk.f k l0_0 l0_1).bind fun t412 => (if t412 = true then ((impl_PermOk.f l1).bind fun t413 => (if t413 = true then (impl_RenameSurface.j0 k l1 ((l1.length : Int) != (l0_0.length : Int)) l0_0 l0_1) else (impl_RenameSurface.j0 k l1 true l0_0 l0_1))) else (impl_RenameSurface.j0 k l1 true l0_0 l0_1))
def impl_RenameSurface.T3 : Bool × List (List Nat × List Nat) := (true, [([], []), ([0], [0]), ([], []), ([1, 2], [1, 2]), ([], []), ([4], [4]), ([], []), ([5, 6, 3], [5, 6]), ([3, 7], [3, 7]), ([8, 7, 0, 1, 2, 3, 4, 5, 6, 7, 8], [8]), ([9, 0, 1, 2, 3, 4, 5, 6, 7, 8, 9], [])])
def impl_RenameSurface.B3 : List Nat := [0, 1, 0, 7, 0, 16, 0, 127, 255, 511, 1023]
theorem impl_RenameSurface.tab3 : rtab .any (opsOf Tryz.f83 3) = impl_RenameSurface.T3 := by kernel_rfl
theorem impl_RenameSurface.bits3 : waitsOk impl_RenameSurface.T3.2 impl_RenameSurface.B3 = true := by kernel_rfl
set_option maxHeartbeats 8000000 in
set_option maxRecDepth 100000 in
theorem impl_RenameSurface.calls (k : Nat) (A0_0 : Option Addr) (c0_0 : Nat) (l0_0 : List Int) (A0_1 : Option Addr) (c0_1 : Nat) (l0_1 : List Int) (A1 : Option Addr) (c1 : Nat) (l1 : List Int) (r1 : List Int) (r2 : List Int) (r3 : Bool) (w : World) (hr0_0 : Kd.C (Kd.int .i64) w A0_0 l0_0.length l0_0) (hc0_0 : l0_0.length ≤ c0_0) (hr0_1 : Kd.C (Kd.int .i64) w A0_1 l0_1.length l0_1) (hc0_1 : l0_1.length ≤ c0_1) (hr1 : Kd.C (Kd.int .i64) w A1 l1.length l1) (hc1 : l1.length ≤ c1) (h : impl_RenameSurface.f k l0_0 l0_1 l1 = some (r1, r2, r3)) :
  Calls Tryz.prog 83 #[.agg #[.slice A0_0 l0_0.length c0_0, .slice A0_1 l0_1.length c0_1], .slice A1 l1.length c1] w fun e w' => ∃ v0_ v1_ : Value, e = .returned (.tuple #[.agg #[v0_, v1_], .bool r3]) ∧ Kd.R (Kd.int .i64) 3 w' w.heap.size (fun k_ => some k_ ≠ (v1_ : Value).ownBlock) v0_ r1 ∧ Kd.R (Kd.int .i64) 3 w' w.heap.size (fun k_ => some k_ ≠ (v0_ : Value).ownBlock) v1_ r2 ∧ Below w.heap.size w w' := by
 have hu25 := Tryz.underlying25
 have HR0_0 := Aside0.mk hr0_0
 have HC0_0 := Aside0.mk hc0_0
 clear hr0_0 hc0_0
 have HR0_1 := Aside0.mk hr0_1
 have HC0_1 := Aside0.mk hc0_1
 clear hr0_1 hc0_1
 have HR1 := Aside0.mk hr1
 have HC1 := Aside0.mk hc1
 clear hr1 hc1
 have HB := Aside0.mk (Below.refl w.heap.size w)
 have H : ((impl_SurfaceOk.f k l0_0 l0_1).bind fun t412 => (if t412 = true then ((impl_PermOk.f l1).bind fun t413 => (if t413 = true then (impl_RenameSurface.j0 k l1 ((l1.length : Int) != (l0_0.length : Int)) l0_0 l0_1) else (impl_RenameSurface.j0 k l1 true l0_0 l0_1))) else (impl_RenameSurface.j0 k l1 true l0_0 l0_1))) = some (r1, r2, r3) := h
 clear h
 have HC3 := Aside0.mk H
 clear H
 go_enter Tryz.func83, Tryz.ntmps83
 go_upto_region 1 with (first | ((with_reducible refine gate_dst (N := 2) rfl ?_); (try (refine gate_guard (by rfl) ?_; dsimp only)); refine box_event ?hg (N := 2) ?hd (cs := #[.slice A0_0 l0_0.length c0_0, .slice A0_1 l0_1.length c0_1]) (t := 25) ?hr ?_; (case hd => rfl); (case hg => rfl); (case hr => first | (go_simp; done) | (go_simp; rfl)); intro gb410 hg w4 hbox hb; have n0_ := Aside0.mk (below_step (bX HB.out) hb); have n1_ := Aside0.mk (hbox); have n2_ := Aside0.mk ((szX (below_size (bX HB.out)) hg : w.heap.size ≤ gb410)); have n3_ := Aside0.mk ((szX (below_size (bX HB.out)) hg : w.heap.size ≤ gb410)); clear HB; have HB := n0_; have BK410 := n1_; have GW410 := n2_; have GE410 := n3_; clear n0_ n1_ n2_ n3_ hb hbox hg) | ((with_reducible refine gate_dst (N := 4) rfl ?_); (try (refine gate_guard (by rfl) ?_; dsimp only)); refine box_event ?hg (N := 4) ?hd (cs := #[.slice none 0 0, .slice none 0 0]) (t := 25) ?hr ?_; (case hd => rfl); (case hg => rfl); (case hr => first | (go_simp; done) | (go_simp; rfl)); intro gb411 hg w5 hbox hb; have n0_ := Aside0.mk (bbX BK410.out hb); have n1_ := Aside0.mk (below_step (bX1 HB.out GE410.out) hb); have n2_ := Aside0.mk (hbox); have n3_ := Aside0.mk ((szX (below_size (bX1 HB.out GE410.out)) hg : w.heap.size ≤ gb411)); have n4_ := Aside0.mk ((szX (below_size (bX1 HB.out GE410.out)) hg : w.heap.size ≤ gb411)); have n5_ := Aside0.mk (neX BK410.out hg); have n6_ := Aside0.mk (nfX BK410.out hg); clear BK410 HB; have BK410 := n0_; have HB := n1_; have BK411 := n2_; have GW411 := n3_; have GE411 := n4_; have NB410_411 := n5_; have NB411_410 := n6_; clear n0_ n1_ n2_ n3_ n4_ n5_ n6_ hb hbox hg))
 (try simp only [Act.put, List.setIfInBounds_toArray, List.set_cons_zero, List.set_cons_succ])
 go_cut [21] (fun v21 wc => ∃ (kq : Nat) (x21_2 : Bool), v21 = .bool x21_2 ∧ Aside0 (impl_RenameSurface.j0 kq l1 x21_2 l0_0 l0_1 = some (r1, r2, r3)) ∧ Aside0 (kq ≤ k) ∧ Aside0 (wc.heap[gb410]? = some (.cells #[(.slice A0_0 l0_0.length c0_0), (.slice A0_1 l0_1.length c0_1)] 25 (0, 0))) ∧ Aside0 (wc.heap[gb411]? = some (.cells #[(.slice none 0 0), (.slice none 0 0)] 25 (0, 0))) ∧ Aside0 (Below w.heap.size w wc))
 case first =>
  have H := HC3.out
  clear HC3
  replace H := Option.bind_eq_some_iff.mp H
  obtain ⟨t412, A60, H⟩ := H
  replace H : (if t412 = true then ((impl_PermOk.f l1).bind fun t413 => (if t413 = true then (impl_RenameSurface.j0 k l1 ((l1.length : Int) != (l0_0.length : Int)) l0_0 l0_1) else (impl_RenameSurface.j0 k l1 true l0_0 l0_1))) else (impl_RenameSurface.j0 k l1 true l0_0 l0_1)) = some (r1, r2, r3) := H
  have A6 := Aside0.mk A60
  clear A60
  by_cases c7 : t412 = true
  {
  subst c7
  have H1 : ((impl_PermOk.f l1).bind fun t413 => (if t413 = true then (impl_RenameSurface.j0 k l1 ((l1.length : Int) != (l0_0.length : Int)) l0_0 l0_1) else (impl_RenameSurface.j0 k l1 true l0_0 l0_1))) = some (r1, r2, r3) := by rw [if_pos rfl] at H; exact H
  clear H
  have H := H1
  clear H1
  replace H := Option.bind_eq_some_iff.mp H
  obtain ⟨t413, A80, H⟩ := H
  replace H : (if t413 = true then (impl_RenameSurface.j0 k l1 ((l1.length : Int) != (l0_0.length : Int)) l0_0 l0_1) else (impl_RenameSurface.j0 k l1 true l0_0 l0_1)) = some (r1, r2, r3) := H
  have A8 := Aside0.mk A80
  clear A80
  by_cases c9 : t413 = true
  {
  subst c9
  have H1 : (impl_RenameSurface.j0 k l1 ((l1.length : Int) != (l0_0.length : Int)) l0_0 l0_1) = some (r1, r2, r3) := by rw [if_pos rfl] at H; exact H
  clear H
  have H := H1
  clear H1
  have H' := Aside0.mk H
  clear H
  have hnb10 := NB410_411.out
  have hnc10 := NB411_410.out
  have hcz11_0 := cz20 BK410.out
  have hcz11_1 := cz21 BK410.out
  have hfz11_0 := blk_frozen BK410.out 0
  have hfz11_1 := blk_frozen BK410.out 1
  go_wp2_with (first | ((with_reducible refine gate_callee (f := 31) rfl ?_); refine goesL_ (some 7) rfl rfl Tryz.func31 (by kernel_rfl) rfl #[.agg #[.slice A0_0 l0_0.length c0_0, .slice A0_1 l0_1.length c0_1]] rfl aX ?_; (with_reducible refine (impl_SurfaceOk.calls k _ _ l0_0 _ _ l0_1 true _ ?side1 ?side2 ?side3 ?side4 A6.out).mono ?_); (case side1 => exact cX (Kd.C_below HR0_0.out HB.out)); (case side2 => exact HC0_0.out); (case side3 => exact cX (Kd.C_below HR0_1.out HB.out)); (case side4 => exact HC0_1.out); rintro e w12 ⟨rfl, hb⟩; refine ⟨_, rfl, ?_⟩; have n0_ := Aside0.mk (bbX BK410.out hb); have n1_ := Aside0.mk (bbX BK411.out hb); have n2_ := Aside0.mk (below_step (bX2 HB.out GE410.out GE411.out) hb); clear BK410 BK411 HB; have BK410 := n0_; have BK411 := n1_; have HB := n2_; clear n0_ n1_ n2_; (try clear hb); (try clear hb2); (try clear hk); (try clear hi)) | (go_at_call 74; (with_reducible refine (impl_PermOk.calls _ _ l1 true _ ?side1 ?side2 A8.out).mono ?_); (case side1 => exact cX (Kd.C_below HR1.out HB.out)); (case side2 => exact HC1.out); rintro e w13 ⟨rfl, hb⟩; have n0_ := Aside0.mk (bbX BK410.out hb); have n1_ := Aside0.mk (bbX BK411.out hb); have n2_ := Aside0.mk (below_step (bX2 HB.out GE410.out GE411.out) hb); clear BK410 BK411 HB; have BK410 := n0_; have BK411 := n1_; have HB := n2_; clear n0_ n1_ n2_; (try clear hb); (try clear hb2); (try clear hk); (try clear hi); have hcz14_0 := cz20 BK410.out; have hcz14_1 := cz21 BK410.out; have hfz14_0 := blk_frozen BK410.out 0; have hfz14_1 := blk_frozen BK410.out 1))
  go_meet
  case rel => exact ⟨_, (((l1.length : Int) != (l0_0.length : Int))), vX, H', ⟨by first | omega | exact Nat.le_refl _⟩, ⟨kX BK410.out⟩, ⟨kX BK411.out⟩, ⟨bX2 HB.out GE410.out GE411.out⟩⟩
  }
  {
  replace c9 := Bool.eq_false_iff.mpr c9
  subst c9
  have H1 : (impl_RenameSurface.j0 k l1 true l0_0 l0_1) = some (r1, r2, r3) := by rw [if_neg (show ¬ (false = true) by decide)] at H; exact H
  clear H
  have H := H1
  clear H1
  have H' := Aside0.mk H
  clear H
  have hnb15 := NB410_411.out
  have hnc15 := NB411_410.out
  have hcz16_0 := cz20 BK410.out
  have hcz16_1 := cz21 BK410.out
  have hfz16_0 := blk_frozen BK410.out 0
  have hfz16_1 := blk_frozen BK410.out 1
  go_wp2_with (first | ((with_reducible refine gate_callee (f := 31) rfl ?_); refine goesL_ (some 7) rfl rfl Tryz.func31 (by kernel_rfl) rfl #[.agg #[.slice A0_0 l0_0.length c0_0, .slice A0_1 l0_1.length c0_1]] rfl aX ?_; (with_reducible refine (impl_SurfaceOk.calls k _ _ l0_0 _ _ l0_1 true _ ?side1 ?side2 ?side3 ?side4 A6.out).mono ?_); (case side1 => exact cX (Kd.C_below HR0_0.out HB.out)); (case side2 => exact HC0_0.out); (case side3 => exact cX (Kd.C_below HR0_1.out HB.out)); (case side4 => exact HC0_1.out); rintro e w17 ⟨rfl, hb⟩; refine ⟨_, rfl, ?_⟩; have n0_ := Aside0.mk (bbX BK410.out hb); have n1_ := Aside0.mk (bbX BK411.out hb); have n2_ := Aside0.mk (below_step (bX2 HB.out GE410.out GE411.out) hb); clear BK410 BK411 HB; have BK410 := n0_; have BK411 := n1_; have HB := n2_; clear n0_ n1_ n2_; (try clear hb); (try clear hb2); (try clear hk); (try clear hi)) | (go_at_call 74; (with_reducible refine (impl_PermOk.calls _ _ l1 false _ ?side1 ?side2 A8.out).mono ?_); (case side1 => exact cX (Kd.C_below HR1.out HB.out)); (case side2 => exact HC1.out); rintro e w18 ⟨rfl, hb⟩; have n0_ := Aside0.mk (bbX BK410.out hb); have n1_ := Aside0.mk (bbX BK411.out hb); have n2_ := Aside0.mk (below_step (bX2 HB.out GE410.out GE411.out) hb); clear BK410 BK411 HB; have BK410 := n0_; have BK411 := n1_; have HB := n2_; clear n0_ n1_ n2_; (try clear hb); (try clear hb2); (try clear hk); (try clear hi)))
  go_meet
  case rel => exact ⟨_, (true), vX, H', ⟨by first | omega | exact Nat.le_refl _⟩, ⟨kX BK410.out⟩, ⟨kX BK411.out⟩, ⟨bX2 HB.out GE410.out GE411.out⟩⟩
  }
  }
  {
  replace c7 := Bool.eq_false_iff.mpr c7
  subst c7
  have H1 : (impl_RenameSurface.j0 k l1 true l0_0 l0_1) = some (r1, r2, r3) := by rw [if_neg (show ¬ (false = true) by decide)] at H; exact H
  clear H
  have H := H1
  clear H1
  have H' := Aside0.mk H
  clear H
  have hnb19 := NB410_411.out
  have hnc19 := NB411_410.out
  have hcz20_0 := cz20 BK410.out
  have hcz20_1 := cz21 BK410.out
  have hfz20_0 := blk_frozen BK410.out 0
  have hfz20_1 := blk_frozen BK410.out 1
  go_wp2_with (first | ((with_reducible refine gate_callee (f := 31) rfl ?_); refine goesL_ (some 7) rfl rfl Tryz.func31 (by kernel_rfl) rfl #[.agg #[.slice A0_0 l0_0.length c0_0, .slice A0_1 l0_1.length c0_1]] rfl aX ?_; (with_reducible refine (impl_SurfaceOk.calls k _ _ l0_0 _ _ l0_1 false _ ?side1 ?side2 ?side3 ?side4 A6.out).mono ?_); (case side1 => exact cX (Kd.C_below HR0_0.out HB.out)); (case side2 => exact HC0_0.out); (case side3 => exact cX (Kd.C_below HR0_1.out HB.out)); (case side4 => exact HC0_1.out); rintro e w21 ⟨rfl, hb⟩; refine ⟨_, rfl, ?_⟩; have n0_ := Aside0.mk (bbX BK410.out hb); have n1_ := Aside0.mk (bbX BK411.out hb); have n2_ := Aside0.mk (below_step (bX2 HB.out GE410.out GE411.out) hb); clear BK410 BK411 HB; have BK410 := n0_; have BK411 := n1_; have HB := n2_; clear n0_ n1_ n2_; (try clear hb); (try clear hb2); (try clear hk); (try clear hi)))
  go_meet
  case rel => exact ⟨_, (true), vX, H', ⟨by first | omega | exact Nat.le_refl _⟩, ⟨kX BK410.out⟩, ⟨kX BK411.out⟩, ⟨bX2 HB.out GE410.out GE411.out⟩⟩
  }
 case rest =>
 clear HC3
 try clear c1
 try clear p2
 try clear c3
 try clear c7
 try clear c8
 try clear c9
 try clear c10
 try clear c15
 try clear c19
 try clear hcz11_0
 try clear hcz11_1
 try clear hcz14_0
 try clear hcz14_1
 try clear hcz16_0
 try clear hcz16_1
 try clear hcz20_0
 try clear hcz20_1
 try clear hfz11_0
 try clear hfz11_1
 try clear hfz14_0
 try clear hfz14_1
 try clear hfz16_0
 try clear hfz16_1
 try clear hfz20_0
 try clear hfz20_1
 obtain ⟨kq, x21_2, rfl, HA, HJ2, BK410, BK411, HB⟩ := hcut
 cases kq with
 | zero => exact absurd HA.out (by simp [impl_RenameSurface.j0])
 | succ kj2 =>
 have H := HA.out
 clear HA
 simp only [impl_RenameSurface.j0] at H
 by_cases c22 : x21_2 = true
 {
 subst c22
 have H1 : (some (([] : List Int), ([] : List Int), false)) = some (r1, r2, r3) := by rw [if_pos rfl] at H; exact H
 clear H
 have H := H1
 clear H1
 simp only [Option.some.injEq, Prod.mk.injEq] at H
 obtain ⟨rfl, rfl, rfl⟩ := H
 have hnb23 := NB411_410.out
 have hnc23 := NB410_411.out
 have hcz24_0 := cz20 BK411.out
 have hcz24_1 := cz21 BK411.out
 have hfz24_0 := blk_frozen BK411.out 0
 have hfz24_1 := blk_frozen BK411.out 1
 go_wp2
 refine bodyPost_ret (results_ct rfl _ _ gb411 25 #[.slice none 0 0, .slice none 0 0] (0, 0) _ rfl (by (with_reducible repeat (first|refine kN ?_ _|refine kD ?_|refine kA ?_ _)); refine blk_put (cs := #[.slice none 0 0, .slice none 0 0]) ?_ 1 _ rfl; (with_reducible repeat (first|refine kN ?_ _|refine kD ?_|refine kA ?_ _)); refine blk_put (cs := #[.slice none 0 0, .slice none 0 0]) ?_ 0 _ rfl; (with_reducible repeat (first|refine kN ?_ _|refine kD ?_|refine kA ?_ _)); exact BK411.out) Tryz.underlying25 rfl (by kernel_rfl)) rfl ?_
 exact ⟨_, _, eX, by first | exact Kd.R_nil _ _ _ _ _ | exact Kd.N_nil _ _ _ _ _ | exact Kd.V_nil _ _ _ _ _ | exact Kd.Q_nil _ _ _ _ _ | exact Kd.S_nil _ _ _ _ _, by first | exact Kd.R_nil _ _ _ _ _ | exact Kd.N_nil _ _ _ _ _ | exact Kd.V_nil _ _ _ _ _ | exact Kd.Q_nil _ _ _ _ _ | exact Kd.S_nil _ _ _ _ _, bX2 HB.out GE410.out GE411.out⟩
 }
 {
 replace c22 := Bool.eq_false_iff.mpr c22
 subst c22
 have H1 : ((impl_RenamePerm.f kj2 l0_0 l1).bind fun t414 => ((impl_RenamePerm.f kj2 l0_1 l1).bind fun t417 => (some (t414, t417, true)))) = some (r1, r2, r3) := by rw [if_neg (show ¬ (false = true) by decide)] at H; exact H
 clear H
 have H := H1
 clear H1
 replace H := Option.bind_eq_some_iff.mp H
 obtain ⟨t414, A250, H⟩ := H
 replace H : ((impl_RenamePerm.f kj2 l0_1 l1).bind fun t417 => (some (t414, t417, true))) = some (r1, r2, r3) := H
 have A25 := Aside0.mk A250
 clear A250
 replace H := Option.bind_eq_some_iff.mp H
 obtain ⟨t417, A260, H⟩ := H
 replace H : (some (t414, t417, true)) = some (r1, r2, r3) := H
 have A26 := Aside0.mk A260
 clear A260
 simp only [Option.some.injEq, Prod.mk.injEq] at H
 obtain ⟨rfl, rfl, rfl⟩ := H
 try go_wp2
 have n0_ := Aside0.mk (blk_drew BK410.out)
 have n1_ := Aside0.mk (blk_drew BK411.out)
 have n2_ := Aside0.mk (below_drew1 HB.out)
 clear BK410 BK411 HB
 have BK410 := n0_
 have BK411 := n1_
 have HB := n2_
 clear n0_ n1_ n2_
 refine start_ (n := 11) (S := fun w' => w'.cell? ⟨gb410, 0, none⟩ = some (.slice A0_0 l0_0.length c0_0) ∧ w'.cell? ⟨gb410, 1, none⟩ = some (.slice A0_1 l0_1.length c0_1)) (ds := []) #[ff,ff,ff,ff,ff,ff,ff,ff,ff,ff,ff] (by kernel_rfl) rfl rfl ⟨cz20 BK410.out, cz21 BK410.out⟩ (fun hHeld => ?_); refine with_tabW impl_RenameSurface.tab3 impl_RenameSurface.bits3 (fun HT_ HW_ => ?_)
 generalize wc.drew = w27 at BK410 BK411 HB hHeld ⊢
 refine pX 0 23 (fl 11 1) rfl rfl HT_.out ?_
 refine pX 2 25 (fl 11 5) rfl rfl HT_.out ?_
 refine pX 4 27 (fl 11 21) rfl rfl HT_.out ?_
 refine pX 6 29 (fl 11 85) rfl rfl HT_.out ?_
 refine tX2 1 24 (fl 11 87) rfl rfl HT_.out HW_.out hHeld ?_
 refine tX2 5 28 (fl 11 119) rfl rfl HT_.out HW_.out hHeld ?_
 refine one_ (i := 3) (N := some 26) #[tt,tt,tt,tt,tt,tt,tt,ff,ff,ff,ff] rfl rfl (one_of HT_.out (by kernel_rfl)) (by decide) (fun K hK => ?_)
 refine goes_ Tryz.func115 (by kernel_rfl) rfl #[.slice A0_0 l0_0.length c0_0, .slice A1 l1.length c1] (by rfl) rfl rfl aX ?_
 with_reducible refine (impl_RenamePerm.calls kj2 _ _ l0_0 _ _ l1 t414 _ ?side1 ?side2 ?side3 ?side4 A25.out).mono ?_
 (case side1 => exact cX (Kd.C_below HR0_0.out HB.out))
 (case side2 => exact HC0_0.out)
 (case side3 => exact cX (Kd.C_below HR1.out HB.out))
 (case side4 => exact HC1.out)
 rintro e w28 ⟨v415, rfl, ho0, hb⟩
 refine ⟨_, rfl, ?_⟩
 have n0_ := Aside0.mk (Kd.R_lower ho0 (below_size (bX2 HB.out GE410.out GE411.out)))
 have n1_ := Aside0.mk (bbX BK410.out hb)
 have n2_ := Aside0.mk (bbX BK411.out hb)
 have n3_ := Aside0.mk (below_step (bX2 HB.out GE410.out GE411.out) hb)
 clear BK410 BK411 HB
 have HO416 := n0_
 have BK410 := n1_
 have BK411 := n2_
 have HB := n3_
 clear n0_ n1_ n2_ n3_
 (try clear hb)
 (try clear hb2)
 (try clear hk)
 (try clear hi)
 (try clear ho0)
 refine hK.out _ _ ⟨cz20 BK410.out, cz21 BK410.out⟩ (fun hHeld => ?_)
 clear hK K
 refine norm_ (a' := ?_) ?_ ?_
 rotate_left
 {
 show Act.put _ (some 26) _ = _
 simp only [Act.put, zA, zB, zC, i64_w, i32_w]
 rfl
 }
 refine one_ (i := 7) (N := some 30) #[tt,tt,tt,tt,tt,tt,tt,tt,ff,ff,ff] rfl rfl (one_of HT_.out (by kernel_rfl)) (by decide) (fun K hK => ?_)
 refine goes_ Tryz.func115 (by kernel_rfl) rfl #[.slice A0_1 l0_1.length c0_1, .slice A1 l1.length c1] (by rfl) rfl rfl aX ?_
 with_reducible refine (impl_RenamePerm.calls kj2 _ _ l0_1 _ _ l1 t417 _ ?side1 ?side2 ?side3 ?side4 A26.out).mono ?_
 (case side1 => exact cX (Kd.C_below HR0_1.out HB.out))
 (case side2 => exact HC0_1.out)
 (case side3 => exact cX (Kd.C_below HR1.out HB.out))
 (case side4 => exact HC1.out)
 rintro e w29 ⟨v418, rfl, ho0, hb⟩
 refine ⟨_, rfl, ?_⟩
 have n0_ := Aside0.mk (Kd.R_elder' (rX HO416.out) (Kd.R_base ho0) hb)
 have n1_ := Aside0.mk (Kd.R_lower (Kd.R_new' ho0 (Kd.R_lt (rX HO416.out))) (below_size (bX2 HB.out GE410.out GE411.out)))
 have n2_ := Aside0.mk (bbX BK410.out hb)
 have n3_ := Aside0.mk (bbX BK411.out hb)
 have n4_ := Aside0.mk (below_step (bX2 HB.out GE410.out GE411.out) hb)
 clear HO416 BK410 BK411 HB
 have HO416 := n0_
 have HO419 := n1_
 have BK410 := n2_
 have BK411 := n3_
 have HB := n4_
 clear n0_ n1_ n2_ n3_ n4_
 (try clear hb)
 (try clear hb2)
 (try clear hk)
 (try clear hi)
 (try clear ho0)
 obtain ⟨Ao30, co30, eo30⟩ := Kd.R_slice HO419.out
 (first | subst eo30 | (injection eo30 with f1_ f2_ f3_; have f4_ := f1_.symm; have f5_ := f3_.symm; clear f1_ f2_ f3_; subst f4_; subst f5_))
 obtain ⟨Ao31, co31, eo31⟩ := Kd.R_slice HO416.out
 (first | subst eo31 | (injection eo31 with f1_ f2_ f3_; have f4_ := f1_.symm; have f5_ := f3_.symm; clear f1_ f2_ f3_; subst f4_; subst f5_))
 refine hK.out _ _ ⟨cz20 BK410.out, cz21 BK410.out⟩ (fun hHeld => ?_)
 clear hK K
 refine norm_ (a' := ?_) ?_ ?_
 rotate_left
 {
 show Act.put _ (some 30) _ = _
 simp only [Act.put, zA, zB, zC, i64_w, i32_w]
 rfl
 }
 refine pX 8 31 (fl 11 511) rfl rfl HT_.out ?_
 refine one_ (i := 9) (N := none) #[tt,tt,tt,tt,tt,tt,tt,tt,tt,tt,ff] rfl rfl (one_of HT_.out (by kernel_rfl)) (by decide) (fun K hK => ?_)
 have hs32 : w29.cell? ⟨gb411, 0, none⟩ = some (.slice none 0 0) := cz20 BK411.out
 have hfs32 := blk_frozen BK411.out 0
 have hns32_0 := NB410_411.out
 have hms32_0 := NB411_410.out
 have hs33 : w29.cell? ⟨gb411, 1, none⟩ = some (.slice none 0 0) := cz21 BK411.out
 have hfs33 := blk_frozen BK411.out 1
 have hns33_0 := NB410_411.out
 have hms33_0 := NB411_410.out
 refine skip_ (w1 := ?_) (by rfl) rfl ?_ ?_
 rotate_left
 {
 go_simp
 rfl
 }
 refine hK.out _ _ ⟨((cell_far (p := ⟨gb411, _, none⟩) NB410_411.out _).trans (((cell_far (p := ⟨gb411, _, none⟩) NB410_411.out _).trans (hHeld.1)))), ((cell_far (p := ⟨gb411, _, none⟩) NB410_411.out _).trans (((cell_far (p := ⟨gb411, _, none⟩) NB410_411.out _).trans (hHeld.2))))⟩ (fun hHeld => ?_)
 clear hK K
 refine pX 10 5 (fl 11 2047) rfl rfl HT_.out ?_
 refine done_ (done_of HT_.out (by kernel_rfl)) ?_
 try go_wp2
 refine bodyPost_ret (results_ct rfl _ _ gb411 25 #[.slice Ao31 t414.length co31, .slice Ao30 t417.length co30] (0, 0) _ rfl (by (with_reducible repeat (first|refine kN ?_ _|refine kD ?_|refine kA ?_ _)); refine blk_put (cs := #[.slice Ao31 t414.length co31, .slice none 0 0]) ?_ 1 _ rfl; (with_reducible repeat (first|refine kN ?_ _|refine kD ?_|refine kA ?_ _)); refine blk_put (cs := #[.slice none 0 0, .slice none 0 0]) ?_ 0 _ rfl; (with_reducible repeat (first|refine kN ?_ _|refine kD ?_|refine kA ?_ _)); exact BK411.out) Tryz.underlying25 rfl (by kernel_rfl)) rfl ?_
 exact ⟨_, _, eX, by (with_reducible repeat (first|apply rA|apply rN|apply rD)); exact Kd.R_mono (Kd.R_far (p := ⟨gb411, 1, none⟩) (Kd.R_far (p := ⟨gb411, 0, none⟩) (Kd.R_types HO416.out BK411.out (by decide)) (fun _ hk => hk.2) (.slice Ao31 t414.length co31)) (fun _ hk => hk.2) (.slice Ao30 t417.length co30)) (fun _ hk => hk.1.2), by (with_reducible repeat (first|apply rA|apply rN|apply rD)); exact Kd.R_mono (Kd.R_far (p := ⟨gb411, 1, none⟩) (Kd.R_far (p := ⟨gb411, 0, none⟩) (Kd.R_types HO419.out BK411.out (by decide)) (fun _ hk => hk.2) (.slice Ao31 t414.length co31)) (fun _ hk => hk.2) (.slice Ao30 t417.length co30)) (fun _ hk => hk.1.2), bX2 HB.out GE410.out GE411.out⟩
 }

/-! ### impl_NamesFrom: function 84 -/
mutual
def impl_NamesFrom.j0 : Nat → Int → Bool → List Int → List Int → Option (List Int)
 | 0, _, _, _, _ => none
 | k + 1, x1, x24, x421000, x421001 => if x24 = true then (some ([] : List Int)) else (if 0 ≤ (x421000.length : Int) then (if ((x421000.length : Int) : Int).toNat ≤ 35184372088832 then ((some (List.replicate ((x421000.length : Int) : Int).toNat 0 : List Int)).bind fun y422 => (impl_NamesFrom.l0 k x1 y422 (y422.length : Int) 0 x421000 x421001)) else (none)) else (none))
def impl_NamesFrom.l0 : Nat → Int → List Int → Int → Int → List Int → List Int → Option (List Int)
 | 0, _, _, _, _, _, _ => none
 | k + 1, x1, x5, x30, x31, x421000, x421001 => if x31 < x30 then (if 0 ≤ x31 then (if x31 < (x5.length : Int) then (impl_NamesFrom.l0 k x1 (x5.set (x31 : Int).toNat (-1)) x30 (wrap64 (x31 + 1)) x421000 x421001) else (none)) else (none)) else (if 0 ≤ x1 then (if x1 < (x5.length : Int) then (impl_NamesFrom.l1 k (x5.set (x1 : Int).toNat 0) (([x1] : List Int)) 0 x421000 x421001) else (none)) else (none))
def impl_NamesFrom.l1 : Nat → List Int → List Int → Int → List Int → List Int → Option (List Int)
 | 0, _, _, _, _, _ => none
 | k + 1, x5, x7, x8, x421000, x421001 => if x8 < (x7.length : Int) then (if 0 ≤ x8 then (if 0 ≤ (rd x7 x8) then (if (rd x7 x8) < (x421000.length : Int) then (if (rd x7 x8) < (x421001.length : Int) then ((some (([rd x421000 (rd x7 x8), rd x421001 (rd x7 x8)] : List Int) : List Int)).bind fun y434 => (impl_NamesFrom.l2 k x5 x7 x8 y434 (y434.length : Int) 0 x421000 x421001)) else (none)) else (none)) else (none)) else (none)) else (some x5)
def impl_NamesFrom.l2 : Nat → List Int → List Int → Int → List Int → Int → Int → List Int → List Int → Option (List Int)
 | 0, _, _, _, _, _, _, _, _ => none
 | k + 1, x5, x7, x8, x65, x66, x67, x421000, x421001 => if x67 < x66 then (if 0 ≤ x67 then (if x67 < (x65.length : Int) then (if 0 ≤ (rd x65 x67) then (if (rd x65 x67) < (x5.length : Int) then (if (rd x5 (rd x65 x67)) < 0 then (if x7.length < 17592186044416 then (impl_NamesFrom.l2 k (x5.set ((rd x65 x67) : Int).toNat (x7.length : Int)) (x7 ++ [rd x65 x67]) x8 x65 x66 (wrap64 (x67 + 1)) x421000 x421001) else (none)) else (impl_NamesFrom.l2 k x5 x7 x8 x65 x66 (wrap64 (x67 + 1)) x421000 x421001)) else (none)) else (none)) else (none)) else (none)) else (impl_NamesFrom.l1 k x5 x7 (wrap64 (x8 + 1)) x421000 x421001)
end
def impl_NamesFrom.f (k : Nat) (l0_0 : List Int) (l0_1 : List Int) (a1 : Int) : Option (List Int) := (impl_SurfaceOk.f k l0_0 l0_1).bind fun t421 => (if t421 = true then (if a1 < 0 then (impl_NamesFrom.j0 k a1 true l0_0 l0_1) else (impl_NamesFrom.j0 k a1 (decide (a1 ≥ (l0_0.length : Int))) l0_0 l0_1)) else (impl_NamesFrom.j0 k a1 true l0_0 l0_1))
def impl_NamesFrom.T14 : Bool × List (List Nat × List Nat) := (true, [([], []), ([0], [0]), ([], []), ([], []), ([2, 3], [2, 3]), ([4], [4]), ([1, 5], [1, 5]), ([6], [6]), ([], []), ([8], [8]), ([], []), ([], []), ([10, 11], [10, 11]), ([12], [12]), ([9, 13], [9, 13]), ([14], [14]), ([7, 15], [7, 15]), ([16], [16]), ([], [])])
def impl_NamesFrom.B14 : List Nat := [0, 1, 0, 0, 12, 28, 63, 127, 0, 256, 0, 0, 3072, 7168, 16128, 32512, 65535, 131071, 0]
theorem impl_NamesFrom.tab14 : rtab .any (opsOf Tryz.f84 14) = impl_NamesFrom.T14 := by kernel_rfl
theorem impl_NamesFrom.bits14 : waitsOk impl_NamesFrom.T14.2 impl_NamesFrom.B14 = true := by kernel_rfl
set_option maxHeartbeats 8000000 in
set_option maxRecDepth 100000 in
theorem impl_NamesFrom.calls (k : Nat) (A0_0 : Option Addr) (c0_0 : Nat) (l0_0 : List Int) (A0_1 : Option Addr) (c0_1 : Nat) (l0_1 : List Int) (a1 : Int) (r : List Int) (w : World) (hr0_0 : Kd.C (Kd.int .i64) w A0_0 l0_0.length l0_0) (hc0_0 : l0_0.length ≤ c0_0) (hr0_1 : Kd.C (Kd.int .i64) w A0_1 l0_1.length l0_1) (hc0_1 : l0_1.length ≤ c0_1) (h : impl_NamesFrom.f k l0_0 l0_1 a1 = some r) :
  Calls Tryz.prog 84 #[.agg #[.slice A0_0 l0_0.length c0_0, .slice A0_1 l0_1.length c0_1], .int .i64 a1] w fun e w' => ∃ v0_ : Value, e = .returned (v0_) ∧ Kd.R (Kd.int .i64) 3 w' w.heap.size (fun _ => True) v0_ r ∧ Below w.heap.size w w' := by
 have hu25 := Tryz.underlying25
 have HR0_0 := Aside0.mk hr0_0
 have HC0_0 := Aside0.mk hc0_0
 clear hr0_0 hc0_0
 have HR0_1 := Aside0.mk hr0_1
 have HC0_1 := Aside0.mk hc0_1
 clear hr0_1 hc0_1
 have HB := Aside0.mk (Below.refl w.heap.size w)
 have H : ((impl_SurfaceOk.f k l0_0 l0_1).bind fun t421 => (if t421 = true then (if a1 < 0 then (impl_NamesFrom.j0 k a1 true l0_0 l0_1) else (impl_NamesFrom.j0 k a1 (decide (a1 ≥ (l0_0.length : Int))) l0_0 l0_1)) else (impl_NamesFrom.j0 k a1 true l0_0 l0_1))) = some r := h
 clear h
 have HC3 := Aside0.mk H
 clear H
 go_enter Tryz.func84, Tryz.ntmps84
 go_upto_region 1 with (first | ((with_reducible refine gate_dst (N := 2) rfl ?_); (try (refine gate_guard (by rfl) ?_; dsimp only)); refine box_event ?hg (N := 2) ?hd (cs := #[.slice A0_0 l0_0.length c0_0, .slice A0_1 l0_1.length c0_1]) (t := 25) ?hr ?_; (case hd => rfl); (case hg => rfl); (case hr => first | (go_simp; done) | (go_simp; rfl)); intro gb420 hg w4 hbox hb; have n0_ := Aside0.mk (below_step (bX HB.out) hb); have n1_ := Aside0.mk (hbox); have n2_ := Aside0.mk ((szX (below_size (bX HB.out)) hg : w.heap.size ≤ gb420)); have n3_ := Aside0.mk ((szX (below_size (bX HB.out)) hg : w.heap.size ≤ gb420)); clear HB; have HB := n0_; have BK420 := n1_; have GW420 := n2_; have GE420 := n3_; clear n0_ n1_ n2_ n3_ hb hbox hg))
 (try simp only [Act.put, List.setIfInBounds_toArray, List.set_cons_zero, List.set_cons_succ])
 go_cut [24] (fun v24 wc => ∃ (kq : Nat) (x24_2 : Bool), v24 = .bool x24_2 ∧ Aside0 (impl_NamesFrom.j0 kq a1 x24_2 l0_0 l0_1 = some r) ∧ Aside0 (kq ≤ k) ∧ Aside0 (wc.heap[gb420]? = some (.cells #[(.slice A0_0 l0_0.length c0_0), (.slice A0_1 l0_1.length c0_1)] 25 (0, 0))) ∧ Aside0 (Below w.heap.size w wc))
 case first =>
  have H := HC3.out
  clear HC3
  replace H := Option.bind_eq_some_iff.mp H
  obtain ⟨t421, A50, H⟩ := H
  replace H : (if t421 = true then (if a1 < 0 then (impl_NamesFrom.j0 k a1 true l0_0 l0_1) else (impl_NamesFrom.j0 k a1 (decide (a1 ≥ (l0_0.length : Int))) l0_0 l0_1)) else (impl_NamesFrom.j0 k a1 true l0_0 l0_1)) = some r := H
  have A5 := Aside0.mk A50
  clear A50
  by_cases c6 : t421 = true
  {
  subst c6
  have H1 : (if a1 < 0 then (impl_NamesFrom.j0 k a1 true l0_0 l0_1) else (impl_NamesFrom.j0 k a1 (decide (a1 ≥ (l0_0.length : Int))) l0_0 l0_1)) = some r := by rw [if_pos rfl] at H; exact H
  clear H
  have H := H1
  clear H1
  by_cases c7 : a1 < 0
  {
  rw [if_pos c7] at H
  have c7b0 : decide (a1 < 0) = true := decide_eq_true c7
  clear c7
  (first | rw [c7b0] | (simp only [i64_w, i32_w]; rw [c7b0]) | skip)
  have H' := Aside0.mk H
  clear H
  have hcz8_0 := cz20 BK420.out
  have hcz8_1 := cz21 BK420.out
  have hfz8_0 := blk_frozen BK420.out 0
  have hfz8_1 := blk_frozen BK420.out 1
  go_wp2_with (first | ((with_reducible refine gate_callee (f := 31) rfl ?_); refine goesL_ (some 12) rfl rfl Tryz.func31 (by kernel_rfl) rfl #[.agg #[.slice A0_0 l0_0.length c0_0, .slice A0_1 l0_1.length c0_1]] rfl aX ?_; (with_reducible refine (impl_SurfaceOk.calls k _ _ l0_0 _ _ l0_1 true _ ?side1 ?side2 ?side3 ?side4 A5.out).mono ?_); (case side1 => exact cX (Kd.C_below HR0_0.out HB.out)); (case side2 => exact HC0_0.out); (case side3 => exact cX (Kd.C_below HR0_1.out HB.out)); (case side4 => exact HC0_1.out); rintro e w9 ⟨rfl, hb⟩; refine ⟨_, rfl, ?_⟩; have n0_ := Aside0.mk (bbX BK420.out hb); have n1_ := Aside0.mk (below_step (bX1 HB.out GE420.out) hb); clear BK420 HB; have BK420 := n0_; have HB := n1_; clear n0_ n1_; (try clear hb); (try clear hb2); (try clear hk); (try clear hi)))
  go_meet
  case rel => exact ⟨_, (true), vX, H', ⟨by first | omega | exact Nat.le_refl _⟩, ⟨kX BK420.out⟩, ⟨bX1 HB.out GE420.out⟩⟩
  }
  {
  rw [if_neg c7] at H
  have c7b0 : decide (a1 < 0) = false := decide_eq_false c7
  clear c7
  (first | rw [c7b0] | (simp only [i64_w, i32_w]; rw [c7b0]) | skip)
  have H' := Aside0.mk H
  clear H
  have hcz10_0 := cz20 BK420.out
  have hcz10_1 := cz21 BK420.out
  have hfz10_0 := blk_frozen BK420.out 0
  have hfz10_1 := blk_frozen BK420.out 1
  go_wp2_with (first | ((with_reducible refine gate_callee (f := 31) rfl ?_); refine goesL_ (some 12) rfl rfl Tryz.func31 (by kernel_rfl) rfl #[.agg #[.slice A0_0 l0_0.length c0_0, .slice A0_1 l0_1.length c0_1]] rfl aX ?_; (with_reducible refine (impl_SurfaceOk.calls k _ _ l0_0 _ _ l0_1 true _ ?side1 ?side2 ?side3 ?side4 A5.out).mono ?_); (case side1 => exact cX (Kd.C_below HR0_0.out HB.out)); (case side2 => exact HC0_0.out); (case side3 => exact cX (Kd.C_below HR0_1.out HB.out)); (case side4 => exact HC0_1.out); rintro e w11 ⟨rfl, hb⟩; refine ⟨_, rfl, ?_⟩; have n0_ := Aside0.mk (bbX BK420.out hb); have n1_ := Aside0.mk (below_step (bX1 HB.out GE420.out) hb); clear BK420 HB; have BK420 := n0_; have HB := n1_; clear n0_ n1_; (try clear hb); (try clear hb2); (try clear hk); (try clear hi); have hcz12_0 := cz20 BK420.out; have hcz12_1 := cz21 BK420.out; have hfz12_0 := blk_frozen BK420.out 0; have hfz12_1 := blk_frozen BK420.out 1))
  go_meet
  case rel => exact ⟨_, (decide (a1 ≥ (l0_0.length : Int))), vX, H', ⟨by first | omega | exact Nat.le_refl _⟩, ⟨kX BK420.out⟩, ⟨bX1 HB.out GE420.out⟩⟩
  }
  }
  {
  replace c6 := Bool.eq_false_iff.mpr c6
  subst c6
  have H1 : (impl_NamesFrom.j0 k a1 true l0_0 l0_1) = some r := by rw [if_neg (show ¬ (false = true) by decide)] at H; exact H
  clear H
  have H := H1
  clear H1
  have H' := Aside0.mk H
  clear H
  have hcz13_0 := cz20 BK420.out
  have hcz13_1 := cz21 BK420.out
  have hfz13_0 := blk_frozen BK420.out 0
  have hfz13_1 := blk_frozen BK420.out 1
  go_wp2_with (first | ((with_reducible refine gate_callee (f := 31) rfl ?_); refine goesL_ (some 12) rfl rfl Tryz.func31 (by kernel_rfl) rfl #[.agg #[.slice A0_0 l0_0.length c0_0, .slice A0_1 l0_1.length c0_1]] rfl aX ?_; (with_reducible refine (impl_SurfaceOk.calls k _ _ l0_0 _ _ l0_1 false _ ?side1 ?side2 ?side3 ?side4 A5.out).mono ?_); (case side1 => exact cX (Kd.C_below HR0_0.out HB.out)); (case side2 => exact HC0_0.out); (case side3 => exact cX (Kd.C_below HR0_1.out HB.out)); (case side4 => exact HC0_1.out); rintro e w14 ⟨rfl, hb⟩; refine ⟨_, rfl, ?_⟩; have n0_ := Aside0.mk (bbX BK420.out hb); have n1_ := Aside0.mk (below_step (bX1 HB.out GE420.out) hb); clear BK420 HB; have BK420 := n0_; have HB := n1_; clear n0_ n1_; (try clear hb); (try clear hb2); (try clear hk); (try clear hi)))
  go_meet
  case rel => exact ⟨_, (true), vX, H', ⟨by first | omega | exact Nat.le_refl _⟩, ⟨kX BK420.out⟩, ⟨bX1 HB.out GE420.out⟩⟩
  }
 case rest =>
 clear HC3
 try clear p2
 try clear c3
 try clear c6
 try clear c7
 try clear c7b0
 try clear c8
 try clear hcz10_0
 try clear hcz10_1
 try clear hcz12_0
 try clear hcz12_1
 try clear hcz13_0
 try clear hcz13_1
 try clear hcz8_0
 try clear hcz8_1
 try clear hfz10_0
 try clear hfz10_1
 try clear hfz12_0
 try clear hfz12_1
 try clear hfz13_0
 try clear hfz13_1
 try clear hfz8_0
 try clear hfz8_1
 obtain ⟨kq, x24_2, rfl, HA, HJ2, BK420, HB⟩ := hcut
 cases kq with
 | zero => exact absurd HA.out (by simp [impl_NamesFrom.j0])
 | succ kj2 =>
 have H := HA.out
 clear HA
 simp only [impl_NamesFrom.j0] at H
 by_cases c15 : x24_2 = true
 {
 subst c15
 have H1 : (some ([] : List Int)) = some r := by rw [if_pos rfl] at H; exact H
 clear H
 have H := H1
 clear H1
 obtain rfl := Option.some.inj H
 go_wp2
 go_ret
 exact ⟨_, eX, by first | exact Kd.R_nil _ _ _ _ _ | exact Kd.N_nil _ _ _ _ _ | exact Kd.V_nil _ _ _ _ _ | exact Kd.Q_nil _ _ _ _ _ | exact Kd.S_nil _ _ _ _ _, bX1 HB.out GE420.out⟩
 }
 {
 replace c15 := Bool.eq_false_iff.mpr c15
 subst c15
 have H1 : (if 0 ≤ (l0_0.length : Int) then (if ((l0_0.length : Int) : Int).toNat ≤ 35184372088832 then ((some (List.replicate ((l0_0.length : Int) : Int).toNat 0 : List Int)).bind fun y422 => (impl_NamesFrom.l0 kj2 a1 y422 (y422.length : Int) 0 l0_0 l0_1)) else (none)) else (none)) = some r := by rw [if_neg (show ¬ (false = true) by decide)] at H; exact H
 clear H
 have H := H1
 clear H1
 by_cases c16 : 0 ≤ (l0_0.length : Int)
 {
 rw [if_pos c16] at H
 have c16b0 := eq_true c16
 have c16b1 : decide (0 ≤ (l0_0.length : Int)) = true := decide_eq_true c16
 clear c16
 by_cases c17 : ((l0_0.length : Int) : Int).toNat ≤ 35184372088832
 {
 rw [if_pos c17] at H
 have c17b0 := eq_true c17
 have c17b1 : decide (((l0_0.length : Int) : Int).toNat ≤ 35184372088832) = true := decide_eq_true c17
 clear c17
 obtain ⟨y422, hy422⟩ : ∃ y_ : List Int, y_ = (List.replicate ((l0_0.length : Int) : Int).toNat 0) := ⟨_, rfl⟩
 replace H : (impl_NamesFrom.l0 kj2 a1 y422 (y422.length : Int) 0 l0_0 l0_1) = some r := by first | (rw [hy422]; with_reducible exact H) | (have H2_ := (Option.bind_some _ _).symm.trans H; rw [hy422]; with_reducible exact H2_) | (have H2_ := (Option.bind_some _ _).symm.trans H; with_reducible exact H2_) | with_reducible exact H | (rw [hy422]; exact H) | exact H
 have Ny422 := Aside0.mk hy422
 clear hy422
 have H' := Aside0.mk H
 clear H
 have hcz18_0 := cz20 BK420.out
 have hcz18_1 := cz21 BK420.out
 have hfz18_0 := blk_frozen BK420.out 0
 have hfz18_1 := blk_frozen BK420.out 1
 go_wp2_with (first | ((with_reducible refine gate_dst (N := 28) rfl ?_); (try (refine gate_guard (by rfl) ?_; dsimp only)); refine Kd.R_make (Kd.int .i64) _ 3 rfl (N := 28) rfl 23 _ _ rfl (l0_0.length : Int) rfl rfl Tryz.underlying23 (.int .i64 0) 8 info3 rfl (by decide) (by omega) 0 (ok := fun _ => True) (okp := fun _ => True) rfl (fun _ hk => hk) trivial (dX) (Nat.le_trans (Nat.mul_le_mul_right _ (dX : (l0_0.length : Int).toNat ≤ 35184372088832)) (by omega)) (Below.refl _ _) (Nat.le_refl _) ?_; intro v423 w19 ho20 hb hg_ hnew_; clear hg_ hnew_; (first | rw [← Ny422.out] at ho20 | (simp only [Int.reduceToNat] at ho20; rw [← Ny422.out] at ho20)); have n0_ := Aside0.mk (Kd.R_lower ho20 (below_size (bX1 HB.out GE420.out))); have n1_ := Aside0.mk (bbX BK420.out hb); have n2_ := Aside0.mk (below_step (bX1 HB.out GE420.out) hb); clear BK420 HB; have HO424 := n0_; have BK420 := n1_; have HB := n2_; clear n0_ n1_ n2_ hb ho20; obtain ⟨Ao21, co21, eo21⟩ := Kd.R_slice HO424.out; subst eo21))
 go_loopg [31] kj2 (fun kq v31 w' => ∃ (x5_2 : List Int) (x31_2 : Int), v31 = .int .i64 x31_2 ∧ Aside0 (impl_NamesFrom.l0 kq a1 x5_2 (y422.length : Int) x31_2 l0_0 l0_1 = some r) ∧ Aside0 (kq ≤ kj2) ∧ Aside0 (Kd.R (Kd.int .i64) 3 w' w.heap.size (fun _ => True) (.slice Ao21 y422.length co21) x5_2) ∧ Aside0 (w'.heap[gb420]? = some (.cells #[(.slice A0_0 l0_0.length c0_0), (.slice A0_1 l0_1.length c0_1)] 25 (0, 0))) ∧ Aside0 (Below w.heap.size w w'))
 case atStart => exact ⟨(y422), (0), vX, H', ⟨Nat.le_refl _⟩, ⟨rX HO424.out⟩, ⟨kX BK420.out⟩, ⟨bX1 HB.out GE420.out⟩⟩
 case round =>
 clear H'
 try clear c1
 try clear p2
 try clear c3
 try clear c6
 try clear c7
 try clear c7b0
 try clear c8
 try clear c15
 try clear c16
 try clear c16b0
 try clear c16b1
 try clear c17
 try clear c17b0
 try clear c17b1
 try clear hcz10_0
 try clear hcz10_1
 try clear hcz12_0
 try clear hcz12_1
 try clear hcz13_0
 try clear hcz13_1
 try clear hcz18_0
 try clear hcz18_1
 try clear hcz8_0
 try clear hcz8_1
 try clear hfz10_0
 try clear hfz10_1
 try clear hfz12_0
 try clear hfz12_1
 try clear hfz13_0
 try clear hfz13_1
 try clear hfz18_0
 try clear hfz18_1
 try clear hfz8_0
 try clear hfz8_1
 try clear p2
 obtain ⟨x5_2, x31_2, rfl, HA, HK2, HO_5, BK420, HB⟩ := hrel
 have hl5_2 := (Kd.R_reads' HO_5.out).1
 rw [hl5_2] at HO_5
 (try simp only [hl5_2])
 (try simp only [hl5_2] at BK420)
 cases gk with
 | zero => exact absurd HA.out (by simp [impl_NamesFrom.l0])
 | succ k2 =>
 have H := HA.out
 clear HA
 simp only [impl_NamesFrom.l0] at H
 by_cases c22 : x31_2 < (y422.length : Int)
 {
 rw [if_pos c22] at H
 have c22b0 : decide (x31_2 < (y422.length : Int)) = true := decide_eq_true c22
 clear c22
 by_cases c23 : 0 ≤ x31_2
 {
 rw [if_pos c23] at H
 have c23b0 : decide (0 ≤ x31_2) = true := decide_eq_true c23
 clear c23
 by_cases c24 : x31_2 < (x5_2.length : Int)
 {
 rw [if_pos c24] at H
 have c24b0 : decide (x31_2 < (x5_2.length : Int)) = true := decide_eq_true c24
 clear c24
 obtain ⟨y425, hy425⟩ : ∃ y_ : List Int, y_ = (x5_2.set (x31_2 : Int).toNat (-1)) := ⟨_, rfl⟩
 replace H : (impl_NamesFrom.l0 k2 a1 y425 (y422.length : Int) (wrap64 (x31_2 + 1)) l0_0 l0_1) = some r := by first | (rw [hy425]; with_reducible exact H) | (have H2_ := (Option.bind_some _ _).symm.trans H; rw [hy425]; with_reducible exact H2_) | (have H2_ := (Option.bind_some _ _).symm.trans H; with_reducible exact H2_) | with_reducible exact H | (rw [hy425]; exact H) | exact H
 have Ny425 := Aside0.mk hy425
 clear hy425
 have H' := Aside0.mk H
 clear H
 have p25 : 0 ≤ (x31_2 : Int) := dX
 have q25 : (x31_2 : Int) < ((x5_2.length : Int) : Int) := dX
 obtain ⟨go25, co25, eo25, gb25, gl25, cl25, HG25⟩ := Kd.R_form HO_5.out (by omega)
 (first | cases eo25 | (injection eo25 with ea_ en_ ec_; (first | subst ea_ | (injection ea_ with ea_; subst ea_)); subst ec_; clear en_))
 have GB25 := Aside0.mk gb25
 have GG25 := Aside0.mk HG25
 clear gb25 gl25 HG25
 obtain ⟨hx25_0, hf25_0⟩ := Kd.R_celln 0 HO_5.out (x31_2 : Int) p25 q25
 replace p25 := eq_true p25
 replace q25 := eq_true q25
 have HP26 := Kd.R_putg HO_5.out (x31_2 : Int) (-1)
 go_wp2_with (first | ((with_reducible refine gate_store (t := 3) (p := 36) rfl ?_); refine store_event (t := 3) (p := 36) (v := ?vo_w27) (w1 := (wr.setCell ⟨go25, (x31_2 : Int).toNat, none⟩ (.int .i64 (-1)))) ?hg ?ho ?hn ?hr ?_; (case ho => rfl); (case hg => rfl); (case hn => rfl); (case hr => first | (go_simp; done) | (go_simp; rfl)); intro w27 hw; have hg : wr.grownBy w27 (some go25) := (by rw [hw]; exact HP26.2); have hp_ : Kd.R (Kd.int .i64) 3 w27 w.heap.size (fun _ => True) (.slice (some ⟨go25, 0, none⟩) x5_2.length co21) y425 := (by rw [hw, Ny425.out]; exact HP26.1); clear HP26; have n0_ := Aside0.mk (hp_); have n1_ := Aside0.mk (bgX BK420.out hg (Kd.R_ne HO_5.out BK420.out (by decide))); have n2_ := Aside0.mk ((by rw [hw]; exact below_set (HB.out) GB25.out : Below w.heap.size w w27)); clear HO_5 BK420 HB; have HO_5 := n0_; have BK420 := n1_; have HB := n2_; clear n0_ n1_ n2_ hg hw hp_))
 (try simp only [← hl5_2])
 go_roundg k2
 case measure => have := HJ2.out; have := HK2.out; omega
 case rel => exact ⟨(y425), (wrap64 (x31_2 + 1)), vX, H', ⟨by have := HJ2.out; have := HK2.out; omega⟩, ⟨by (try simp only [hl5_2]); (with_reducible repeat (first|apply rA|apply rN|apply rD)); exact HO_5.out⟩, ⟨by (try simp only [hl5_2]); (with_reducible repeat (first|refine kN ?_ _|refine kD ?_|refine kA ?_ _)); exact BK420.out⟩, ⟨bX1 HB.out GE420.out⟩⟩
 }
 {
 rw [if_neg c24] at H
 exact absurd H (by simp)
 }
 }
 {
 rw [if_neg c23] at H
 exact absurd H (by simp)
 }
 }
 {
 rw [if_neg c22] at H
 have c22b0 : decide (x31_2 < (y422.length : Int)) = false := decide_eq_false c22
 (try rw [hl5_2] at c22b0)
 clear c22
 by_cases c28 : 0 ≤ a1
 {
 rw [if_pos c28] at H
 have c28b0 : decide (0 ≤ a1) = true := decide_eq_true c28
 clear c28
 by_cases c29 : a1 < (x5_2.length : Int)
 {
 rw [if_pos c29] at H
 have c29b0 : decide (a1 < (x5_2.length : Int)) = true := decide_eq_true c29
 clear c29
 obtain ⟨y426, hy426⟩ : ∃ y_ : List Int, y_ = (x5_2.set (a1 : Int).toNat 0) := ⟨_, rfl⟩
 replace H : (impl_NamesFrom.l1 k2 y426 (([a1] : List Int)) 0 l0_0 l0_1) = some r := by first | (rw [hy426]; with_reducible exact H) | (have H2_ := (Option.bind_some _ _).symm.trans H; rw [hy426]; with_reducible exact H2_) | (have H2_ := (Option.bind_some _ _).symm.trans H; with_reducible exact H2_) | with_reducible exact H | (rw [hy426]; exact H) | exact H
 have Ny426 := Aside0.mk hy426
 clear hy426
 obtain ⟨y427, hy427⟩ : ∃ y_ : List Int, y_ = (([a1] : List Int)) := ⟨_, rfl⟩
 replace H : (impl_NamesFrom.l1 k2 y426 y427 0 l0_0 l0_1) = some r := by first | (rw [hy427]; with_reducible exact H) | (have H2_ := (Option.bind_some _ _).symm.trans H; rw [hy427]; with_reducible exact H2_) | (have H2_ := (Option.bind_some _ _).symm.trans H; with_reducible exact H2_) | with_reducible exact H | (rw [hy427]; exact H) | exact H
 have Ny427 := Aside0.mk hy427
 clear hy427
 have H' := Aside0.mk H
 clear H
 have p30 : 0 ≤ (a1 : Int) := dX
 have q30 : (a1 : Int) < ((x5_2.length : Int) : Int) := dX
 obtain ⟨go30, co30, eo30, gb30, gl30, cl30, HG30⟩ := Kd.R_form HO_5.out (by omega)
 (first | cases eo30 | (injection eo30 with ea_ en_ ec_; (first | subst ea_ | (injection ea_ with ea_; subst ea_)); subst ec_; clear en_))
 have GB30 := Aside0.mk gb30
 have GG30 := Aside0.mk HG30
 clear gb30 gl30 HG30
 obtain ⟨hx30_0, hf30_0⟩ := Kd.R_celln 0 HO_5.out (a1 : Int) p30 q30
 replace p30 := eq_true p30
 replace q30 := eq_true q30
 have HP31 := Kd.R_putg HO_5.out (a1 : Int) 0
 go_wp2_with (first | ((with_reducible refine gate_store (t := 3) (p := 40) rfl ?_); refine store_event (t := 3) (p := 40) (v := ?vo_w32) (w1 := (wr.setCell ⟨go30, (a1 : Int).toNat, none⟩ (.int .i64 0))) ?hg ?ho ?hn ?hr ?_; (case ho => rfl); (case hg => rfl); (case hn => rfl); (case hr => first | (go_simp; done) | (go_simp; rfl)); intro w32 hw; have hg : wr.grownBy w32 (some go30) := (by rw [hw]; exact HP31.2); have hp_ : Kd.R (Kd.int .i64) 3 w32 w.heap.size (fun _ => True) (.slice (some ⟨go30, 0, none⟩) x5_2.length co21) y426 := (by rw [hw, Ny426.out]; exact HP31.1); clear HP31; have n0_ := Aside0.mk (hp_); have n1_ := Aside0.mk (bgX BK420.out hg (Kd.R_ne HO_5.out BK420.out (by decide))); have n2_ := Aside0.mk ((by rw [hw]; exact below_set (HB.out) GB30.out : Below w.heap.size w w32)); clear HO_5 BK420 HB; have HO_5 := n0_; have BK420 := n1_; have HB := n2_; clear n0_ n1_ n2_ hg hw hp_) | ((with_reducible refine gate_dst (N := 42) rfl ?_); (try (refine gate_guard (by rfl) ?_; dsimp only)); refine Kd.R_lit (Kd.int .i64) _ 3 ?hg (N := 42) ?hd (xs := ([a1] : List Int)) (inner := [.int .i64 a1]) (ok := fun _ => True) (okp := fun _ => True) ?hr ?hp (fun _ hk => hk) trivial (Below.refl _ _) (Nat.le_refl _) (by simp) ?_; (case hd => rfl); (case hg => rfl); (case hr => first | (go_simp; done) | (go_simp; rfl)); (case hp => exact (Reps.one (show Kd.M (Kd.int .i64) _ _ _ a1 [.int .i64 a1] from rfl) (Reps.none _ _))); intro v428 w33 ho34 hb hg_ hnew_; clear hg_ hnew_; (first | rw [← Ny427.out] at ho34 | (simp only [Int.reduceToNat] at ho34; rw [← Ny427.out] at ho34)); have n0_ := Aside0.mk (Kd.R_elder' (rX HO_5.out) (Kd.R_base ho34) hb); have n1_ := Aside0.mk (Kd.R_lower (Kd.R_new' ho34 (Kd.R_lt (rX HO_5.out))) (below_size (bX1 HB.out GE420.out))); have n2_ := Aside0.mk (bbX BK420.out hb); have n3_ := Aside0.mk (below_step (bX1 HB.out GE420.out) hb); clear HO_5 BK420 HB; have HO_5 := n0_; have HO429 := n1_; have BK420 := n2_; have HB := n3_; clear n0_ n1_ n2_ n3_ hb ho34))
 go_loopg [7, 8] k2 (fun kq v7 v8 w' => ∃ (x5_3 : List Int) (x7_3 : List Int) (x8_3 : Int), v8 = .int .i64 x8_3 ∧ Aside0 (impl_NamesFrom.l1 kq x5_3 x7_3 x8_3 l0_0 l0_1 = some r) ∧ Aside0 (kq ≤ k2) ∧ Aside0 (Kd.R (Kd.int .i64) 3 w' w.heap.size (fun k_ => some k_ ≠ (v7 : Value).ownBlock) (.slice (some ⟨go30, 0, none⟩) x5_2.length co21) x5_3) ∧ Aside0 (Kd.R (Kd.int .i64) 3 w' w.heap.size (fun k_ => some k_ ≠ ((.slice (some ⟨go30, 0, none⟩) x5_2.length co21) : Value).ownBlock) v7 x7_3) ∧ Aside0 (w'.heap[gb420]? = some (.cells #[(.slice A0_0 l0_0.length c0_0), (.slice A0_1 l0_1.length c0_1)] 25 (0, 0))) ∧ Aside0 (Below w.heap.size w w'))
 case atStart => exact ⟨(y426), (y427), (0), vX, H', ⟨Nat.le_refl _⟩, ⟨by (try simp only [hl5_2]); (with_reducible repeat (first|apply rA|apply rN|apply rD)); exact Kd.R_mono HO_5.out (fun _ hk => hk.2)⟩, ⟨by (try simp only [hl5_2]); (with_reducible repeat (first|apply rA|apply rN|apply rD)); exact Kd.R_mono HO429.out (fun _ hk => hk.2)⟩, ⟨by (try simp only [hl5_2]); (with_reducible repeat (first|refine kN ?_ _|refine kD ?_|refine kA ?_ _)); exact BK420.out⟩, ⟨bX1 HB.out GE420.out⟩⟩
 case round =>
 clear H'
 try clear c1
 try clear c2
 try clear p2
 try clear q2
 try clear hx2
 try clear hf2
 try clear c3
 try clear p3
 try clear q3
 try clear hx3
 try clear hf3
 try clear c6
 try clear p6
 try clear c7
 try clear c7b0
 try clear c8
 try clear c15
 try clear c16
 try clear c16b0
 try clear c16b1
 try clear c17
 try clear c17b0
 try clear c17b1
 try clear c22
 try clear c22b0
 try clear c23
 try clear c23b0
 try clear c24
 try clear c24b0
 try clear p25
 try clear q25
 try clear hx25
 try clear hf25
 try clear c28
 try clear c28b0
 try clear c29
 try clear c29b0
 try clear p30
 try clear q30
 try clear hx30
 try clear hf30
 try clear c31
 try clear hcz10_0
 try clear hcz10_1
 try clear hcz12_0
 try clear hcz12_1
 try clear hcz13_0
 try clear hcz13_1
 try clear hcz18_0
 try clear hcz18_1
 try clear hcz8_0
 try clear hcz8_1
 try clear hfz10_0
 try clear hfz10_1
 try clear hfz12_0
 try clear hfz12_1
 try clear hfz13_0
 try clear hfz13_1
 try clear hfz18_0
 try clear hfz18_1
 try clear hfz8_0
 try clear hfz8_1
 try clear hx25_0
 try clear hx30_0
 try clear p2
 try clear p25
 try clear p30
 try clear q25
 try clear q30
 obtain ⟨x5_3, x7_3, x8_3, rfl, HA, HK3, HO_5, HO_7, BK420, HB⟩ := hrel
 have hl5_3 := (Kd.R_reads' HO_5.out).1
 rw [hl5_3] at HO_5
 (try simp only [hl5_3])
 (try simp only [hl5_3] at BK420)
 (try simp only [hl5_3] at HO_7)
 cases gk with
 | zero => exact absurd HA.out (by simp [impl_NamesFrom.l1])
 | succ k3 =>
 have H := HA.out
 clear HA
 simp only [impl_NamesFrom.l1] at H
 by_cases c35 : x8_3 < (x7_3.length : Int)
 {
 rw [if_pos c35] at H
 have c35b0 : decide (x8_3 < (x7_3.length : Int)) = true := decide_eq_true c35
 clear c35
 by_cases c36 : 0 ≤ x8_3
 {
 rw [if_pos c36] at H
 have c36b0 : decide (0 ≤ x8_3) = true := decide_eq_true c36
 clear c36
 by_cases c37 : 0 ≤ (rd x7_3 x8_3)
 {
 rw [if_pos c37] at H
 have c37b0 : decide (0 ≤ (rd x7_3 x8_3)) = true := decide_eq_true c37
 clear c37
 by_cases c38 : (rd x7_3 x8_3) < (l0_0.length : Int)
 {
 rw [if_pos c38] at H
 have c38b0 : decide ((rd x7_3 x8_3) < (l0_0.length : Int)) = true := decide_eq_true c38
 clear c38
 by_cases c39 : (rd x7_3 x8_3) < (l0_1.length : Int)
 {
 rw [if_pos c39] at H
 have c39b0 : decide ((rd x7_3 x8_3) < (l0_1.length : Int)) = true := decide_eq_true c39
 clear c39
 obtain ⟨y434, hy434⟩ : ∃ y_ : List Int, y_ = (([rd l0_0 (rd x7_3 x8_3), rd l0_1 (rd x7_3 x8_3)] : List Int)) := ⟨_, rfl⟩
 replace H : (impl_NamesFrom.l2 k3 x5_3 x7_3 x8_3 y434 (y434.length : Int) 0 l0_0 l0_1) = some r := by first | (rw [hy434]; with_reducible exact H) | (have H2_ := (Option.bind_some _ _).symm.trans H; rw [hy434]; with_reducible exact H2_) | (have H2_ := (Option.bind_some _ _).symm.trans H; with_reducible exact H2_) | with_reducible exact H | (rw [hy434]; exact H) | exact H
 have Ny434 := Aside0.mk hy434
 clear hy434
 have H' := Aside0.mk H
 clear H
 obtain ⟨Ao40, co40, eo40⟩ := Kd.R_slice HO_7.out
 subst eo40
 try go_wp2
 have n0_ := Aside0.mk (Kd.R_drew HO_5.out)
 have n1_ := Aside0.mk (Kd.R_drew HO_7.out)
 have n2_ := Aside0.mk (blk_drew BK420.out)
 have n3_ := Aside0.mk (below_drew1 HB.out)
 clear HO_5 HO_7 BK420 HB
 have HO_5 := n0_
 have HO_7 := n1_
 have BK420 := n2_
 have HB := n3_
 clear n0_ n1_ n2_ n3_
 have p430 : 0 ≤ (x8_3 : Int) := dX
 have q430 : x8_3 < (x7_3.length : Int) := dX
 obtain ⟨ad430, e430, hx430_0⟩ := Kd.at_int (Kd.R_reads' HO_7.out).2.2 x8_3 p430 q430
 cases e430
 replace p430 := eq_true p430
 replace q430 := eq_true q430
 have p431 : 0 ≤ ((rd x7_3 x8_3) : Int) := dX
 have q431 : (rd x7_3 x8_3) < (l0_0.length : Int) := dX
 obtain ⟨ad431, e431, hx431_0⟩ := Kd.at_int HR0_0.out (rd x7_3 x8_3) p431 q431
 have hw431_0 := hx431_0
 cases e431
 replace hx431_0 := (HB.out.cell (World.block_lt_of_cell? w _ hx431_0)).trans hx431_0
 replace p431 := eq_true p431
 replace q431 := eq_true q431
 have p432 : 0 ≤ (x8_3 : Int) := dX
 have q432 : x8_3 < (x7_3.length : Int) := dX
 obtain ⟨ad432, e432, hx432_0⟩ := Kd.at_int (Kd.R_reads' HO_7.out).2.2 x8_3 p432 q432
 obtain rfl : ad430 = ad432 := (by injection e432)
 replace p432 := eq_true p432
 replace q432 := eq_true q432
 have p433 : 0 ≤ ((rd x7_3 x8_3) : Int) := dX
 have q433 : (rd x7_3 x8_3) < (l0_1.length : Int) := dX
 obtain ⟨ad433, e433, hx433_0⟩ := Kd.at_int HR0_1.out (rd x7_3 x8_3) p433 q433
 have hw433_0 := hx433_0
 cases e433
 replace hx433_0 := (HB.out.cell (World.block_lt_of_cell? w _ hx433_0)).trans hx433_0
 replace p433 := eq_true p433
 replace q433 := eq_true q433
 refine start_ (n := 19) (S := fun w' => w'.cell? ⟨gb420, 0, none⟩ = some (.slice (some ad431) l0_0.length c0_0) ∧ w'.cell? ⟨gb420, 1, none⟩ = some (.slice (some ad433) l0_1.length c0_1) ∧ w'.cell? (ad430.add (x8_3).toNat) = some (.int .i64 (rd x7_3 x8_3)) ∧ w'.cell? (ad431.add ((rd x7_3 x8_3)).toNat) = some (.int .i64 (rd l0_0 (rd x7_3 x8_3))) ∧ w'.cell? (ad430.add (x8_3).toNat) = some (.int .i64 (rd x7_3 x8_3)) ∧ w'.cell? (ad433.add ((rd x7_3 x8_3)).toNat) = some (.int .i64 (rd l0_1 (rd x7_3 x8_3)))) (ds := []) #[ff,ff,ff,ff,ff,ff,ff,ff,ff,ff,ff,ff,ff,ff,ff,ff,ff,ff,ff] (by kernel_rfl) rfl rfl ⟨cz20 BK420.out, cz21 BK420.out, hx430_0, ((HB.out.cell (World.block_lt_of_cell? w _ hw431_0)).trans hw431_0), hx432_0, ((HB.out.cell (World.block_lt_of_cell? w _ hw433_0)).trans hw433_0)⟩ (fun hHeld => ?_); refine with_tabW impl_NamesFrom.tab14 impl_NamesFrom.bits14 (fun HT_ HW_ => ?_)
 generalize wr.drew = w41 at HO_5 HO_7 BK420 HB hx430_0 hx431_0 hx432_0 hx433_0 hHeld ⊢
 refine pX 0 49 (fl 19 1) rfl rfl HT_.out ?_
 refine pX 2 51 (fl 19 5) rfl rfl HT_.out ?_
 refine pX 3 52 (fl 19 13) rfl rfl HT_.out ?_
 refine pX 4 53 (fl 19 29) rfl rfl HT_.out ?_
 refine pX 8 57 (fl 19 285) rfl rfl HT_.out ?_
 refine pX 10 59 (fl 19 1309) rfl rfl HT_.out ?_
 refine pX 11 60 (fl 19 3357) rfl rfl HT_.out ?_
 refine pX 12 61 (fl 19 7453) rfl rfl HT_.out ?_
 refine pX 18 67 (fl 19 269597) rfl rfl HT_.out ?_
 refine tX6 1 50 (fl 19 269599) rfl rfl HT_.out HW_.out hHeld ?_
 refine tX6 5 54 (fl 19 269631) rfl rfl HT_.out HW_.out hHeld ?_
 refine pX 6 55 (fl 19 269695) rfl rfl HT_.out ?_
 refine tX6 7 56 (fl 19 269823) rfl rfl HT_.out HW_.out hHeld ?_
 refine tX6 9 58 (fl 19 270335) rfl rfl HT_.out HW_.out hHeld ?_
 refine tX6 13 62 (fl 19 278527) rfl rfl HT_.out HW_.out hHeld ?_
 refine pX 14 63 (fl 19 294911) rfl rfl HT_.out ?_
 refine tX6 15 64 (fl 19 327679) rfl rfl HT_.out HW_.out hHeld ?_
 refine one_ (i := 16) (N := some 65) #[tt,tt,tt,tt,tt,tt,tt,tt,tt,tt,tt,tt,tt,tt,tt,tt,tt,ff,tt] rfl rfl (one_of HT_.out (by kernel_rfl)) (by decide) (fun K hK => ?_)
 refine Kd.R_lit_step (Kd.int .i64) _ 3 ?hg (N := 65) ?hd (xs := ([rd l0_0 (rd x7_3 x8_3), rd l0_1 (rd x7_3 x8_3)] : List Int)) (inner := [.int .i64 (rd l0_0 (rd x7_3 x8_3)), .int .i64 (rd l0_1 (rd x7_3 x8_3))]) (ok := fun _ => True) (okp := fun _ => True) ?hr ?hp (fun _ hk => hk) trivial (Below.refl _ _) (Nat.le_refl _) (by simp) ?_; (case hd => rfl); (case hg => rfl); (case hr => first | (go_simp; done) | (go_simp; rfl)); (case hp => exact (Reps.one (show Kd.M (Kd.int .i64) _ _ _ (rd l0_0 (rd x7_3 x8_3)) [.int .i64 (rd l0_0 (rd x7_3 x8_3))] from rfl) (Reps.one (show Kd.M (Kd.int .i64) _ _ _ (rd l0_1 (rd x7_3 x8_3)) [.int .i64 (rd l0_1 (rd x7_3 x8_3))] from rfl) (Reps.none _ _))))
 intro v435 w42 ho43 hb hg_ hnew_
 have HS2_ := (hb.cell (World.block_lt_of_cell? _ _ (hHeld.2.2.1))).trans (hHeld.2.2.1)
 have HS4_ := (hb.cell (World.block_lt_of_cell? _ _ (hHeld.2.2.2.2.1))).trans (hHeld.2.2.2.2.1)
 clear hg_ hnew_
 (first | rw [← Ny434.out] at ho43 | (simp only [Int.reduceToNat] at ho43; rw [← Ny434.out] at ho43))
 have n0_ := Aside0.mk (Kd.R_elder' (rX HO_5.out) (Kd.R_base ho43) hb)
 have n1_ := Aside0.mk (Kd.R_elder' (rX HO_7.out) (Kd.R_base ho43) hb)
 have n2_ := Aside0.mk (Kd.R_lower (Kd.R_new' (Kd.R_new' ho43 (Kd.R_lt (rX HO_5.out))) (Kd.R_lt (rX HO_7.out))) (below_size (bX1 HB.out GE420.out)))
 have n3_ := Aside0.mk (bbX BK420.out hb)
 have n4_ := Aside0.mk (below_step (bX1 HB.out GE420.out) hb)
 clear HO_5 HO_7 BK420 HB
 have HO_5 := n0_
 have HO_7 := n1_
 have HO436 := n2_
 have BK420 := n3_
 have HB := n4_
 clear n0_ n1_ n2_ n3_ n4_ hb ho43
 obtain ⟨Ao44, co44, eo44⟩ := Kd.R_slice HO436.out
 (first | subst eo44 | (injection eo44 with f1_ f2_ f3_; have f4_ := f1_.symm; have f5_ := f3_.symm; clear f1_ f2_ f3_; subst f4_; subst f5_))
 refine hK.out _ _ ⟨cz20 BK420.out, cz21 BK420.out, HS2_, ((HB.out.cell (World.block_lt_of_cell? w _ hw431_0)).trans hw431_0), HS4_, ((HB.out.cell (World.block_lt_of_cell? w _ hw433_0)).trans hw433_0)⟩ (fun hHeld => ?_)
 clear hK K
 refine norm_ (a' := ?_) ?_ ?_
 rotate_left
 {
 show Act.put _ (some 65) _ = _
 simp only [Act.put, zA, zB, zC, i64_w, i32_w]
 rfl
 }
 refine pX 17 66 (fl 19 524287) rfl rfl HT_.out ?_
 refine done_ (done_of HT_.out (by kernel_rfl)) ?_
 try go_wp2
 go_loopg [7, 67] k3 (fun kq v7 v67 w' => ∃ (x5_4 : List Int) (x7_4 : List Int) (x67_4 : Int), v67 = .int .i64 x67_4 ∧ Aside0 (impl_NamesFrom.l2 kq x5_4 x7_4 x8_3 y434 (y434.length : Int) x67_4 l0_0 l0_1 = some r) ∧ Aside0 (kq ≤ k3) ∧ Aside0 (Kd.R (Kd.int .i64) 3 w' w.heap.size (fun k_ => some k_ ≠ (v7 : Value).ownBlock ∧ some k_ ≠ ((.slice Ao44 y434.length co44) : Value).ownBlock) (.slice (some ⟨go30, 0, none⟩) x5_3.length co21) x5_4) ∧ Aside0 (Kd.R (Kd.int .i64) 3 w' w.heap.size (fun k_ => some k_ ≠ ((.slice (some ⟨go30, 0, none⟩) x5_3.length co21) : Value).ownBlock ∧ some k_ ≠ ((.slice Ao44 y434.length co44) : Value).ownBlock) v7 x7_4) ∧ Aside0 (Kd.R (Kd.int .i64) 3 w' w.heap.size (fun k_ => some k_ ≠ ((.slice (some ⟨go30, 0, none⟩) x5_3.length co21) : Value).ownBlock ∧ some k_ ≠ (v7 : Value).ownBlock) (.slice Ao44 y434.length co44) y434) ∧ Aside0 (w'.heap[gb420]? = some (.cells #[(.slice (some ad431) l0_0.length c0_0), (.slice (some ad433) l0_1.length c0_1)] 25 (0, 0))) ∧ Aside0 (Below w.heap.size w w'))
 case atStart => exact ⟨(x5_3), (x7_3), (0), vX, H', ⟨Nat.le_refl _⟩, ⟨by (try simp only [hl5_2]); (try simp only [hl5_3]); (with_reducible repeat (first|apply rA|apply rN|apply rD)); exact HO_5.out⟩, ⟨by (try simp only [hl5_2]); (try simp only [hl5_3]); (with_reducible repeat (first|apply rA|apply rN|apply rD)); exact HO_7.out⟩, ⟨by (try simp only [hl5_2]); (try simp only [hl5_3]); (with_reducible repeat (first|apply rA|apply rN|apply rD)); exact Kd.R_mono HO436.out (fun _ hk => ⟨hk.1.2, hk.2⟩)⟩, ⟨by (try simp only [hl5_2]); (try simp only [hl5_3]); (with_reducible repeat (first|refine kN ?_ _|refine kD ?_|refine kA ?_ _)); exact BK420.out⟩, ⟨bX1 HB.out GE420.out⟩⟩
 case round =>
 clear H'
 try clear c1
 try clear c2
 try clear p2
 try clear q2
 try clear hx2
 try clear hf2
 try clear c3
 try clear p3
 try clear q3
 try clear hx3
 try clear hf3
 try clear p4
 try clear q4
 try clear hx4
 try clear c6
 try clear p6
 try clear c7
 try clear c7b0
 try clear c8
 try clear c15
 try clear c16
 try clear c16b0
 try clear c16b1
 try clear c17
 try clear c17b0
 try clear c17b1
 try clear c22
 try clear c22b0
 try clear c23
 try clear c23b0
 try clear c24
 try clear c24b0
 try clear p25
 try clear q25
 try clear hx25
 try clear hf25
 try clear c28
 try clear c28b0
 try clear c29
 try clear c29b0
 try clear p30
 try clear q30
 try clear hx30
 try clear hf30
 try clear c31
 try clear c35
 try clear c35b0
 try clear c36
 try clear c36b0
 try clear c37
 try clear c37b0
 try clear c38
 try clear c38b0
 try clear c39
 try clear c39b0
 try clear p43
 try clear q43
 try clear hx43
 try clear hcz10_0
 try clear hcz10_1
 try clear hcz12_0
 try clear hcz12_1
 try clear hcz13_0
 try clear hcz13_1
 try clear hcz18_0
 try clear hcz18_1
 try clear hcz8_0
 try clear hcz8_1
 try clear hfz10_0
 try clear hfz10_1
 try clear hfz12_0
 try clear hfz12_1
 try clear hfz13_0
 try clear hfz13_1
 try clear hfz18_0
 try clear hfz18_1
 try clear hfz8_0
 try clear hfz8_1
 try clear hx25_0
 try clear hx30_0
 try clear hx430_0
 try clear hx431_0
 try clear hx432_0
 try clear hx433_0
 try clear p2
 try clear p25
 try clear p3
 try clear p30
 try clear p430
 try clear p431
 try clear p432
 try clear p433
 try clear p6
 try clear q2
 try clear q25
 try clear q3
 try clear q30
 try clear q430
 try clear q431
 try clear q432
 try clear q433
 obtain ⟨x5_4, x7_4, x67_4, rfl, HA, HK4, HO_5, HO_7, HO_65, BK420, HB⟩ := hrel
 have hl5_4 := (Kd.R_reads' HO_5.out).1
 rw [hl5_4] at HO_5
 (try simp only [hl5_4])
 (try simp only [hl5_4] at BK420)
 (try simp only [hl5_4] at HO_7)
 (try simp only [hl5_4] at HO_65)
 cases gk with
 | zero => exact absurd HA.out (by simp [impl_NamesFrom.l2])
 | succ k4 =>
 have H := HA.out
 clear HA
 simp only [impl_NamesFrom.l2] at H
 by_cases c45 : x67_4 < (y434.length : Int)
 {
 rw [if_pos c45] at H
 have c45b0 : decide (x67_4 < (y434.length : Int)) = true := decide_eq_true c45
 clear c45
 by_cases c46 : 0 ≤ x67_4
 {
 rw [if_pos c46] at H
 have c46b0 : decide (0 ≤ x67_4) = true := decide_eq_true c46
 clear c46
 by_cases c47 : x67_4 < (y434.length : Int)
 {
 rw [if_pos c47] at H
 have c47b0 : decide (x67_4 < (y434.length : Int)) = true := decide_eq_true c47
 clear c47
 by_cases c48 : 0 ≤ (rd y434 x67_4)
 {
 rw [if_pos c48] at H
 have c48b0 : decide (0 ≤ (rd y434 x67_4)) = true := decide_eq_true c48
 clear c48
 by_cases c49 : (rd y434 x67_4) < (x5_4.length : Int)
 {
 rw [if_pos c49] at H
 have c49b0 : decide ((rd y434 x67_4) < (x5_4.length : Int)) = true := decide_eq_true c49
 clear c49
 by_cases c50 : (rd x5_4 (rd y434 x67_4)) < 0
 {
 rw [if_pos c50] at H
 have c50b0 : decide ((rd x5_4 (rd y434 x67_4)) < 0) = true := decide_eq_true c50
 clear c50
 obtain ⟨y439, hy439⟩ : ∃ y_ : List Int, y_ = (x5_4.set ((rd y434 x67_4) : Int).toNat (x7_4.length : Int)) := ⟨_, rfl⟩
 replace H : (if x7_4.length < 17592186044416 then (impl_NamesFrom.l2 k4 y439 (x7_4 ++ [rd y434 x67_4]) x8_3 y434 (y434.length : Int) (wrap64 (x67_4 + 1)) l0_0 l0_1) else (none)) = some r := by first | (rw [hy439]; with_reducible exact H) | (have H2_ := (Option.bind_some _ _).symm.trans H; rw [hy439]; with_reducible exact H2_) | (have H2_ := (Option.bind_some _ _).symm.trans H; with_reducible exact H2_) | with_reducible exact H | (rw [hy439]; exact H) | exact H
 have Ny439 := Aside0.mk hy439
 clear hy439
 by_cases c52 : x7_4.length < 17592186044416
 {
 rw [if_pos c52] at H
 have LMc52 := Aside0.mk c52
 clear c52
 obtain ⟨y440, hy440⟩ : ∃ y_ : List Int, y_ = (x7_4 ++ [rd y434 x67_4]) := ⟨_, rfl⟩
 replace H : (impl_NamesFrom.l2 k4 y439 y440 x8_3 y434 (y434.length : Int) (wrap64 (x67_4 + 1)) l0_0 l0_1) = some r := by first | (rw [hy440]; with_reducible exact H) | (have H2_ := (Option.bind_some _ _).symm.trans H; rw [hy440]; with_reducible exact H2_) | (have H2_ := (Option.bind_some _ _).symm.trans H; with_reducible exact H2_) | with_reducible exact H | (rw [hy440]; exact H) | exact H
 have Ny440 := Aside0.mk hy440
 clear hy440
 have H' := Aside0.mk H
 clear H
 have p437 : 0 ≤ (x67_4 : Int) := dX
 have q437 : x67_4 < (y434.length : Int) := dX
 obtain ⟨ad437, e437, hx437_0⟩ := Kd.at_int (Kd.R_reads' HO_65.out).2.2 x67_4 p437 q437
 cases e437
 replace p437 := eq_true p437
 replace q437 := eq_true q437
 have p438 : 0 ≤ ((rd y434 x67_4) : Int) := dX
 have q438 : (rd y434 x67_4) < (x5_4.length : Int) := dX
 obtain ⟨ad438, e438, hx438_0⟩ := Kd.at_int (Kd.R_reads' HO_5.out).2.2 (rd y434 x67_4) p438 q438
 obtain rfl : (⟨go30, 0, none⟩ : Addr) = ad438 := (by injection e438)
 (first | simp only [add_plain] at hx438_0 | simp only [add_at] at hx438_0 | simp only [Addr.add, Nat.zero_add] at hx438_0 | skip)
 replace p438 := eq_true p438
 replace q438 := eq_true q438
 obtain ⟨Ao53, co53, eo53⟩ := Kd.R_slice HO_7.out
 subst eo53
 have p51 : 0 ≤ ((rd y434 x67_4) : Int) := dX
 have q51 : ((rd y434 x67_4) : Int) < ((x5_4.length : Int) : Int) := dX
 obtain ⟨hx51_0, hf51_0⟩ := Kd.R_celln 0 HO_5.out ((rd y434 x67_4) : Int) p51 q51
 replace p51 := eq_true p51
 replace q51 := eq_true q51
 have HP54 := Kd.R_putg HO_5.out ((rd y434 x67_4) : Int) (x7_4.length : Int)
 go_wp2_with (first | ((with_reducible refine gate_store (t := 3) (p := 80) rfl ?_); refine store_event (t := 3) (p := 80) (v := ?vo_w55) (w1 := (wr.setCell ⟨go30, ((rd y434 x67_4) : Int).toNat, none⟩ (.int .i64 (x7_4.length : Int)))) ?hg ?ho ?hn ?hr ?_; (case ho => rfl); (case hg => rfl); (case hn => rfl); (case hr => first | (go_simp; done) | (go_simp; rfl)); intro w55 hw; have hg : wr.grownBy w55 (some go30) := (by rw [hw]; exact HP54.2); have hp_ : Kd.R (Kd.int .i64) 3 w55 w.heap.size (fun k_ => some k_ ≠ (.slice Ao53 x7_4.length co53 : Value).ownBlock ∧ some k_ ≠ (.slice (some ad437) y434.length co44 : Value).ownBlock) (.slice (some ⟨go30, 0, none⟩) x5_4.length co21) y439 := (by rw [hw, Ny439.out]; exact HP54.1); clear HP54; have n0_ := Aside0.mk (hp_); have n1_ := Aside0.mk (Kd.R_after (v := (.slice (some ⟨go30, 0, none⟩) x5_4.length co21)) (v1 := (.slice (some ⟨go30, 0, none⟩) x5_4.length co21)) (ok := (fun k_ => some k_ ≠ (.slice (some ad437) y434.length co44 : Value).ownBlock)) (rM HO_7.out (fun _ hk => ⟨hk.2, hk.1⟩)) hg (.inl rfl)); have n2_ := Aside0.mk (Kd.R_after (v := (.slice (some ⟨go30, 0, none⟩) x5_4.length co21)) (v1 := (.slice (some ⟨go30, 0, none⟩) x5_4.length co21)) (ok := (fun k_ => some k_ ≠ (.slice Ao53 x7_4.length co53 : Value).ownBlock)) (rM HO_65.out (fun _ hk => ⟨hk.2, hk.1⟩)) hg (.inl rfl)); have n3_ := Aside0.mk (bgX BK420.out hg (Kd.R_ne HO_5.out BK420.out (by decide))); have n4_ := Aside0.mk ((by rw [hw]; exact below_set (HB.out) GB30.out : Below w.heap.size w w55)); clear HO_5 HO_7 HO_65 BK420 HB; have HO_5 := n0_; have HO_7 := n1_; have HO_65 := n2_; have BK420 := n3_; have HB := n4_; clear n0_ n1_ n2_ n3_ n4_ hg hw hp_) | ((with_reducible refine gate_builtin (b := .append) (xs := #[.tmp 81, .tmp 83]) rfl ?_); (try (refine gate_guard (by rfl) ?_; dsimp only)); at_builtin; refine Kd.R_append (Kd.int .i64) (w0 := w) w.heap.size rfl (.tmp 81) (.tmp 83) 23 3 (.int .i64 0) 8 rfl Tryz.underlying23 info3 rfl (by decide) (by omega) (.slice Ao53 x7_4.length co53) x7_4 (rd y434 x67_4) [.int .i64 (rd y434 x67_4)] (fun k_ => some k_ ≠ (.slice (some ⟨go30, 0, none⟩) x5_4.length co21 : Value).ownBlock ∧ some k_ ≠ (.slice (some ad437) y434.length co44 : Value).ownBlock) (fun _ => False) rfl rfl ?aP (fun _ hk => hk.elim) ?aF ?aO ?aB ?aS ?aL ?_; (case aP => exact rfl); (case aB => exact (bX1 HB.out GE420.out)); (case aF => exact (fun k_ hk => ⟨Kd.fresh' (Kd.R_lt (rX HO_5.out)) k_ hk, Kd.fresh' (Kd.R_lt (rX HO_65.out)) k_ hk⟩)); (case aO => exact (rM HO_7.out (fun _ hk => ⟨hk.2, hk.1⟩))); (case aS => exact (below_size (bX1 HB.out GE420.out))); (case aL => have := LMc52.out; omega); intro v441 w56 ho hb hg hat; rw [← Ny440.out] at ho; have n0_ := Aside0.mk (Kd.R_after (ok := (fun k_ => some k_ ≠ (.slice (some ad437) y434.length co44 : Value).ownBlock)) (rM HO_5.out (fun _ hk => ⟨hk.2, hk.1⟩)) hg hat); have n1_ := Aside0.mk (Kd.R_after (ok := (fun k_ => some k_ ≠ (.slice (some ⟨go30, 0, none⟩) x5_4.length co21 : Value).ownBlock)) (rM HO_65.out (fun _ hk => ⟨hk.2, hk.1⟩)) hg hat); have n2_ := Aside0.mk (bgX BK420.out hg (Kd.R_ne HO_7.out BK420.out (by decide))); have n3_ := Aside0.mk (hb); have n4_ := Aside0.mk (ho); clear HO_5 HO_65 BK420 HB HO_7; have HO_5 := n0_; have HO_65 := n1_; have BK420 := n2_; have HB := n3_; have HO442 := n4_; clear n0_ n1_ n2_ n3_ n4_ ho hb hg hat))
 (try simp only [← hl5_4])
 go_roundg k4
 case measure => have := HJ2.out; have := HK2.out; have := HK3.out; have := HK4.out; omega
 case rel => exact ⟨(y439), (y440), (wrap64 (x67_4 + 1)), vX, H', ⟨by have := HJ2.out; have := HK2.out; have := HK3.out; have := HK4.out; omega⟩, ⟨by (try simp only [hl5_2]); (try simp only [hl5_3]); (try simp only [hl5_4]); (with_reducible repeat (first|apply rA|apply rN|apply rD)); exact Kd.R_mono HO_5.out (fun _ hk => ⟨hk.2, hk.1⟩)⟩, ⟨by (try simp only [hl5_2]); (try simp only [hl5_3]); (try simp only [hl5_4]); (with_reducible repeat (first|apply rA|apply rN|apply rD)); exact HO442.out⟩, ⟨by (try simp only [hl5_2]); (try simp only [hl5_3]); (try simp only [hl5_4]); (with_reducible repeat (first|apply rA|apply rN|apply rD)); exact HO_65.out⟩, ⟨by (try simp only [hl5_2]); (try simp only [hl5_3]); (try simp only [hl5_4]); (with_reducible repeat (first|refine kN ?_ _|refine kD ?_|refine kA ?_ _)); exact BK420.out⟩, ⟨bX1 HB.out GE420.out⟩⟩
 }
 {
 rw [if_neg c52] at H
 exact absurd H (by simp)
 }
 }
 {
 rw [if_neg c50] at H
 have c50b0 : decide ((rd x5_4 (rd y434 x67_4)) < 0) = false := decide_eq_false c50
 clear c50
 have H' := Aside0.mk H
 clear H
 have p437 : 0 ≤ (x67_4 : Int) := dX
 have q437 : x67_4 < (y434.length : Int) := dX
 obtain ⟨ad437, e437, hx437_0⟩ := Kd.at_int (Kd.R_reads' HO_65.out).2.2 x67_4 p437 q437
 cases e437
 replace p437 := eq_true p437
 replace q437 := eq_true q437
 have p438 : 0 ≤ ((rd y434 x67_4) : Int) := dX
 have q438 : (rd y434 x67_4) < (x5_4.length : Int) := dX
 obtain ⟨ad438, e438, hx438_0⟩ := Kd.at_int (Kd.R_reads' HO_5.out).2.2 (rd y434 x67_4) p438 q438
 obtain rfl : (⟨go30, 0, none⟩ : Addr) = ad438 := (by injection e438)
 (first | simp only [add_plain] at hx438_0 | simp only [add_at] at hx438_0 | simp only [Addr.add, Nat.zero_add] at hx438_0 | skip)
 replace p438 := eq_true p438
 replace q438 := eq_true q438
 go_wp2
 (try simp only [← hl5_4])
 go_roundg k4
 case measure => have := HJ2.out; have := HK2.out; have := HK3.out; have := HK4.out; omega
 case rel => exact ⟨(x5_4), (x7_4), (wrap64 (x67_4 + 1)), vX, H', ⟨by have := HJ2.out; have := HK2.out; have := HK3.out; have := HK4.out; omega⟩, ⟨by (try simp only [hl5_2]); (try simp only [hl5_3]); (try simp only [hl5_4]); (with_reducible repeat (first|apply rA|apply rN|apply rD)); exact HO_5.out⟩, ⟨by (try simp only [hl5_2]); (try simp only [hl5_3]); (try simp only [hl5_4]); (with_reducible repeat (first|apply rA|apply rN|apply rD)); exact HO_7.out⟩, ⟨by (try simp only [hl5_2]); (try simp only [hl5_3]); (try simp only [hl5_4]); (with_reducible repeat (first|apply rA|apply rN|apply rD)); exact HO_65.out⟩, ⟨by (try simp only [hl5_2]); (try simp only [hl5_3]); (try simp only [hl5_4]); (with_reducible repeat (first|refine kN ?_ _|refine kD ?_|refine kA ?_ _)); exact BK420.out⟩, ⟨bX1 HB.out GE420.out⟩⟩
 }
 }
 {
 rw [if_neg c49] at H
 exact absurd H (by simp)
 }
 }
 {
 rw [if_neg c48] at H
 exact absurd H (by simp)
 }
 }
 {
 rw [if_neg c47] at H
 exact absurd H (by simp)
 }
 }
 {
 rw [if_neg c46] at H
 exact absurd H (by simp)
 }
 }
 {
 rw [if_neg c45] at H
 have c45b0 : decide (x67_4 < (y434.length : Int)) = false := decide_eq_false c45
 clear c45
 have H' := Aside0.mk H
 clear H
 go_wp2
 (try simp only [← hl5_3, ← hl5_4])
 go_roundg k4
 case measure => have := HJ2.out; have := HK2.out; have := HK3.out; have := HK4.out; omega
 case rel => exact ⟨(x5_4), (x7_4), (wrap64 (x8_3 + 1)), vX, H', ⟨by have := HJ2.out; have := HK2.out; have := HK3.out; have := HK4.out; omega⟩, ⟨by (try simp only [hl5_2]); (try simp only [hl5_3]); (try simp only [hl5_4]); (with_reducible repeat (first|apply rA|apply rN|apply rD)); exact Kd.R_mono HO_5.out (fun _ hk => hk.1)⟩, ⟨by (try simp only [hl5_2]); (try simp only [hl5_3]); (try simp only [hl5_4]); (with_reducible repeat (first|apply rA|apply rN|apply rD)); exact Kd.R_mono HO_7.out (fun _ hk => hk.1)⟩, ⟨by (try simp only [hl5_2]); (try simp only [hl5_3]); (try simp only [hl5_4]); (with_reducible repeat (first|refine kN ?_ _|refine kD ?_|refine kA ?_ _)); exact BK420.out⟩, ⟨bX1 HB.out GE420.out⟩⟩
 }
 }
 {
 rw [if_neg c39] at H
 exact absurd H (by simp)
 }
 }
 {
 rw [if_neg c38] at H
 exact absurd H (by simp)
 }
 }
 {
 rw [if_neg c37] at H
 exact absurd H (by simp)
 }
 }
 {
 rw [if_neg c36] at H
 exact absurd H (by simp)
 }
 }
 {
 rw [if_neg c35] at H
 have c35b0 : decide (x8_3 < (x7_3.length : Int)) = false := decide_eq_false c35
 clear c35
 obtain rfl := Option.some.inj H
 obtain ⟨Ao57, co57, eo57⟩ := Kd.R_slice HO_7.out
 subst eo57
 go_wp2
 go_ret
 exact ⟨_, eX, by (with_reducible repeat (first|apply rA|apply rN|apply rD)); exact Kd.R_mono HO_5.out (fun _ hk => trivial), bX1 HB.out GE420.out⟩
 }
 }
 {
 rw [if_neg c29] at H
 exact absurd H (by simp)
 }
 }
 {
 rw [if_neg c28] at H
 exact absurd H (by simp)
 }
 }
 }
 {
 rw [if_neg c17] at H
 exact absurd H (by simp)
 }
 }
 {
 rw [if_neg c16] at H
 exact absurd H (by simp)
 }
 }

end Go.Proofs.YthhdgeafdnikcaaGreatDoor.S
