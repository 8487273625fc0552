-- PRINTED by print.py (a twelfth state) out of the translation. Not trusted: Lean checks it.
import Derived.Test.YthhdgeafdnikcaaGreatDoorS0
import Derived.Test.YthhdgeafdnikcaaGreatDoorS5
import Derived.Test.YthhdgeafdnikcaaGreatDoorS6
import Derived.Test.YthhdgeafdnikcaaGreatDoorS8
namespace Go.Proofs.YthhdgeafdnikcaaGreatDoor.S
open Go.RowKit Go.Proofs.YthhdgeafdnikcaaGreatDoorW.PrintWords Go.Proofs.YthhdgeafdnikcaaGreatDoorW.PrintLast Go.Proofs.YthhdgeafdnikcaaGreatDoorW.PrintMore
attribute [local go_sem] max2_int min2_int max_two min_two max_three min_three max_four min_four   -- for this text's walks alone
set_option linter.unusedVariables false
set_option linter.unusedSimpArgs false

/-! ### spec_CountSymmetries: function 64 -/
def spec_CountSymmetries.l0 : Nat → Int → Int → Int → List Int → List Int → List Int → List Int → Option (Int)
 | 0, _, _, _, _, _, _, _ => none
 | k + 1, x4, x13, x14, x565000, x565001, x573000, x573001 => if x14 < x13 then ((spec_l03Names.f k x565000 x565001 x14).bind fun t573 => ((spec_l03Rename.f k x565000 x565001 t573).bind fun bt576 => ((spec_SameSurface.f k bt576.1 bt576.2 x573000 x573001).bind fun t582 => (if t582 = true then (spec_CountSymmetries.l0 k (wrap64 (x4 + 1)) x13 (wrap64 (x14 + 1)) x565000 x565001 x573000 x573001) else (spec_CountSymmetries.l0 k x4 x13 (wrap64 (x14 + 1)) x565000 x565001 x573000 x573001))))) else (some x4)
def spec_CountSymmetries.f (k : Nat) (l0_0 : List Int) (l0_1 : List Int) : Option (Int) := (spec_SurfaceOk.f k l0_0 l0_1).bind fun t565 => (if t565 = true then ((spec_l03Canon.f k l0_0 l0_1).bind fun bt566 => (spec_CountSymmetries.l0 k 0 (l0_0.length : Int) 0 l0_0 l0_1 bt566.1 bt566.2)) else (some 0))
set_option maxHeartbeats 8000000 in
set_option maxRecDepth 100000 in
theorem spec_CountSymmetries.calls (k : Nat) (A0_0 : Option Addr) (c0_0 : Nat) (l0_0 : List Int) (A0_1 : Option Addr) (c0_1 : Nat) (l0_1 : List Int) (r : Int) (w : World) (hr0_0 : Kd.C (Kd.int .i64) w A0_0 l0_0.length l0_0) (hc0_0 : l0_0.length ≤ c0_0) (hr0_1 : Kd.C (Kd.int .i64) w A0_1 l0_1.length l0_1) (hc0_1 : l0_1.length ≤ c0_1) (h : spec_CountSymmetries.f k l0_0 l0_1 = some r) :
  Calls Tryz.prog 64 #[.agg #[.slice A0_0 l0_0.length c0_0, .slice A0_1 l0_1.length c0_1]] w fun e w' => e = .returned (.int .i64 r) ∧ Below w.heap.size w w' := by
 have hu25 := Tryz.underlying25
 have HR0_0 := Aside0.mk hr0_0
 have HC0_0 := Aside0.mk hc0_0
 clear hr0_0 hc0_0
 have HR0_1 := Aside0.mk hr0_1
 have HC0_1 := Aside0.mk hc0_1
 clear hr0_1 hc0_1
 have HB := Aside0.mk (Below.refl w.heap.size w)
 have H : ((spec_SurfaceOk.f k l0_0 l0_1).bind fun t565 => (if t565 = true then ((spec_l03Canon.f k l0_0 l0_1).bind fun bt566 => (spec_CountSymmetries.l0 k 0 (l0_0.length : Int) 0 l0_0 l0_1 bt566.1 bt566.2)) else (some 0))) = some r := h
 clear h
 replace H := Option.bind_eq_some_iff.mp H
 obtain ⟨t565, A20, H⟩ := H
 replace H : (if t565 = true then ((spec_l03Canon.f k l0_0 l0_1).bind fun bt566 => (spec_CountSymmetries.l0 k 0 (l0_0.length : Int) 0 l0_0 l0_1 bt566.1 bt566.2)) else (some 0)) = some r := H
 have A2 := Aside0.mk A20
 clear A20
 by_cases c3 : t565 = true
 {
 subst c3
 have H1 : ((spec_l03Canon.f k l0_0 l0_1).bind fun bt566 => (spec_CountSymmetries.l0 k 0 (l0_0.length : Int) 0 l0_0 l0_1 bt566.1 bt566.2)) = some r := by rw [if_pos rfl] at H; exact H
 clear H
 have H := H1
 clear H1
 replace H := Option.bind_eq_some_iff.mp H
 obtain ⟨⟨t566, t569⟩, A40, H⟩ := H
 replace H : (spec_CountSymmetries.l0 k 0 (l0_0.length : Int) 0 l0_0 l0_1 t566 t569) = some r := H
 have A4 := Aside0.mk A40
 clear A40
 have H' := Aside0.mk H
 clear H
 go_enter Tryz.func64, Tryz.ntmps64
 go_wp2_with (first | ((with_reducible refine gate_dst (N := 1) rfl ?_); refine box_event ?hg (N := 1) ?hd (cs := #[.slice A0_0 l0_0.length c0_0, .slice A0_1 l0_1.length c0_1]) (t := 25) ?hr ?_; (case hd => rfl); (case hg => rfl); (case hr => first | (go_simp; done) | (go_simp; rfl)); intro gb564 hg w5 hbox hb; have n0_ := Aside0.mk (below_step (bX HB.out) hb); have n1_ := Aside0.mk (hbox); have n2_ := Aside0.mk ((szX (below_size (bX HB.out)) hg : w.heap.size ≤ gb564)); have n3_ := Aside0.mk ((szX (below_size (bX HB.out)) hg : w.heap.size ≤ gb564)); clear HB; have HB := n0_; have BK564 := n1_; have GW564 := n2_; have GE564 := n3_; clear n0_ n1_ n2_ n3_ hb hbox hg; have hcz6_0 := cz20 BK564.out; have hcz6_1 := cz21 BK564.out; have hfz6_0 := blk_frozen BK564.out 0; have hfz6_1 := blk_frozen BK564.out 1) | ((with_reducible refine gate_callee (f := 50) rfl ?_); refine goesL_ (some 7) rfl rfl Tryz.func50 (by kernel_rfl) rfl #[.agg #[.slice A0_0 l0_0.length c0_0, .slice A0_1 l0_1.length c0_1]] rfl aX ?_; (with_reducible refine (spec_SurfaceOk.calls k _ _ l0_0 _ _ l0_1 true _ ?side1 ?side2 ?side3 ?side4 A2.out).mono ?_); (case side1 => exact cX (Kd.C_below HR0_0.out HB.out)); (case side2 => exact HC0_0.out); (case side3 => exact cX (Kd.C_below HR0_1.out HB.out)); (case side4 => exact HC0_1.out); rintro e w7 ⟨rfl, hb⟩; refine ⟨_, rfl, ?_⟩; have n0_ := Aside0.mk (bbX BK564.out hb); have n1_ := Aside0.mk (below_step (bX1 HB.out GE564.out) hb); clear BK564 HB; have BK564 := n0_; have HB := n1_; clear n0_ n1_; (try clear hb); (try clear hb2); (try clear hk); (try clear hi); have hcz8_0 := cz20 BK564.out; have hcz8_1 := cz21 BK564.out; have hfz8_0 := blk_frozen BK564.out 0; have hfz8_1 := blk_frozen BK564.out 1) | ((with_reducible refine gate_callee (f := 96) rfl ?_); refine goesL_ (some 10) rfl rfl Tryz.func96 (by kernel_rfl) rfl #[.agg #[.slice A0_0 l0_0.length c0_0, .slice A0_1 l0_1.length c0_1]] rfl aX ?_; (with_reducible refine (spec_l03Canon.calls k _ _ l0_0 _ _ l0_1 t566 t569 _ ?side1 ?side2 ?side3 ?side4 A4.out).mono ?_); (case side1 => exact cX (Kd.C_below HR0_0.out HB.out)); (case side2 => exact HC0_0.out); (case side3 => exact cX (Kd.C_below HR0_1.out HB.out)); (case side4 => exact HC0_1.out); rintro e w9 ⟨v567, v570, rfl, ho0, ho1, hb⟩; refine ⟨_, rfl, ?_⟩; have n0_ := Aside0.mk (Kd.R_lower ho0 (below_size (bX1 HB.out GE564.out))); have n1_ := Aside0.mk (Kd.R_lower ho1 (below_size (bX1 HB.out GE564.out))); have n2_ := Aside0.mk (bbX BK564.out hb); have n3_ := Aside0.mk (below_step (bX1 HB.out GE564.out) hb); clear BK564 HB; have HO568 := n0_; have HO571 := n1_; have BK564 := n2_; have HB := n3_; clear n0_ n1_ n2_ n3_; (try clear hb); (try clear hb2); (try clear hk); (try clear hi); (try clear ho0); (try clear ho1)) | ((with_reducible refine gate_dst (N := 3) rfl ?_); refine box_event ?hg (N := 3) ?hd (cs := #[.slice none 0 0, .slice none 0 0]) (t := 25) ?hr ?_; (case hd => rfl); (case hg => rfl); (case hr => first | (go_simp; done) | (go_simp; rfl)); intro gb572 hg w10 hbox hb; have n0_ := Aside0.mk (Kd.R_below (rX HO568.out) hb); have n1_ := Aside0.mk (Kd.R_below (rX HO571.out) hb); have n2_ := Aside0.mk (bbX BK564.out hb); have n3_ := Aside0.mk (below_step (bX1 HB.out GE564.out) hb); have n4_ := Aside0.mk (hbox); have n5_ := Aside0.mk ((szX (below_size (bX1 HB.out GE564.out)) hg : w.heap.size ≤ gb572)); have n6_ := Aside0.mk ((szX (below_size (bX1 HB.out GE564.out)) hg : w.heap.size ≤ gb572)); have n7_ := Aside0.mk (neX BK564.out hg); have n8_ := Aside0.mk (nfX BK564.out hg); clear HO568 HO571 BK564 HB; have HO568 := n0_; have HO571 := n1_; have BK564 := n2_; have HB := n3_; have BK572 := n4_; have GW572 := n5_; have GE572 := n6_; have NB564_572 := n7_; have NB572_564 := n8_; clear n0_ n1_ n2_ n3_ n4_ n5_ n6_ n7_ n8_ hb hbox hg; obtain ⟨Ao11, co11, eo11⟩ := Kd.R_slice HO568.out; subst eo11; have hnb12 := NB572_564.out; have hnc12 := NB564_572.out; have hcz13_0 := cz20 BK572.out; have hcz13_1 := cz21 BK572.out; have hfz13_0 := blk_frozen BK572.out 0; have hfz13_1 := blk_frozen BK572.out 1; obtain ⟨Ao14, co14, eo14⟩ := Kd.R_slice HO571.out; subst eo14; have hcz15_0 := cz20 BK564.out; have hcz15_1 := cz21 BK564.out; have hfz15_0 := blk_frozen BK564.out 0; have hfz15_1 := blk_frozen BK564.out 1))
 go_loopg [4, 14] k (fun kq v4 v14 w' => ∃ (x4_1 : Int) (x14_1 : Int), v4 = .int .i64 x4_1 ∧ v14 = .int .i64 x14_1 ∧ Aside0 (spec_CountSymmetries.l0 kq x4_1 (l0_0.length : Int) x14_1 l0_0 l0_1 t566 t569 = some r) ∧ Aside0 (kq ≤ k) ∧ Aside0 (Kd.R (Kd.int .i64) 3 w' w.heap.size (fun k_ => some k_ ≠ ((.slice Ao14 t569.length co14) : Value).ownBlock) (.slice Ao11 t566.length co11) t566) ∧ Aside0 (Kd.R (Kd.int .i64) 3 w' w.heap.size (fun k_ => some k_ ≠ ((.slice Ao11 t566.length co11) : Value).ownBlock) (.slice Ao14 t569.length co14) t569) ∧ Aside0 (w'.heap[gb564]? = some (.cells #[(.slice A0_0 l0_0.length c0_0), (.slice A0_1 l0_1.length c0_1)] 25 (0, 0))) ∧ Aside0 (w'.heap[gb572]? = some (.cells #[(.slice Ao11 t566.length co11), (.slice Ao14 t569.length co14)] 25 (0, 0))) ∧ Aside0 (Below w.heap.size w w'))
 case atStart => exact ⟨(0), (0), vX, vX, H', ⟨Nat.le_refl _⟩, ⟨by (with_reducible repeat (first|apply rA|apply rN|apply rD)); exact Kd.R_mono (Kd.R_far (p := ⟨gb572, 1, none⟩) (Kd.R_far (p := ⟨gb572, 0, none⟩) (Kd.R_types HO568.out BK572.out (by decide)) (fun _ hk => hk.2) (.slice Ao11 t566.length co11)) (fun _ hk => hk.2) (.slice Ao14 t569.length co14)) (fun _ hk => hk.1)⟩, ⟨by (with_reducible repeat (first|apply rA|apply rN|apply rD)); exact Kd.R_mono (Kd.R_far (p := ⟨gb572, 1, none⟩) (Kd.R_far (p := ⟨gb572, 0, none⟩) (Kd.R_types HO571.out BK572.out (by decide)) (fun _ hk => hk.2) (.slice Ao11 t566.length co11)) (fun _ hk => hk.2) (.slice Ao14 t569.length co14)) (fun _ hk => hk.1)⟩, ⟨by (with_reducible repeat (first|refine kN ?_ _|refine kD ?_|refine kA ?_ _)); refine blk_far ?_ NB564_572.out _; (with_reducible repeat (first|refine kN ?_ _|refine kD ?_|refine kA ?_ _)); refine blk_far ?_ NB564_572.out _; (with_reducible repeat (first|refine kN ?_ _|refine kD ?_|refine kA ?_ _)); exact BK564.out⟩, ⟨by (with_reducible repeat (first|refine kN ?_ _|refine kD ?_|refine kA ?_ _)); refine blk_put (cs := #[.slice Ao11 t566.length co11, .slice none 0 0]) ?_ 1 _ rfl; (with_reducible repeat (first|refine kN ?_ _|refine kD ?_|refine kA ?_ _)); refine blk_put (cs := #[.slice none 0 0, .slice none 0 0]) ?_ 0 _ rfl; (with_reducible repeat (first|refine kN ?_ _|refine kD ?_|refine kA ?_ _)); exact BK572.out⟩, ⟨bX2 HB.out GE564.out GE572.out⟩⟩
 case round =>
 clear H'
 try clear c1
 try clear p2
 try clear c3
 try clear c5
 try clear c6
 try clear c9
 try clear c12
 try clear hcz13_0
 try clear hcz13_1
 try clear hcz15_0
 try clear hcz15_1
 try clear hcz6_0
 try clear hcz6_1
 try clear hcz8_0
 try clear hcz8_1
 try clear hfz13_0
 try clear hfz13_1
 try clear hfz15_0
 try clear hfz15_1
 try clear hfz6_0
 try clear hfz6_1
 try clear hfz8_0
 try clear hfz8_1
 obtain ⟨x4_1, x14_1, rfl, rfl, HA, HK1, HO_573000, HO_573001, BK564, BK572, HB⟩ := hrel
 cases gk with
 | zero => exact absurd HA.out (by simp [spec_CountSymmetries.l0])
 | succ k1 =>
 have H := HA.out
 clear HA
 simp only [spec_CountSymmetries.l0] at H
 by_cases c16 : x14_1 < (l0_0.length : Int)
 {
 rw [if_pos c16] at H
 have c16b0 : decide (x14_1 < (l0_0.length : Int)) = true := decide_eq_true c16
 clear c16
 replace H := Option.bind_eq_some_iff.mp H
 obtain ⟨t573, A170, H⟩ := H
 replace H : ((spec_l03Rename.f k1 l0_0 l0_1 t573).bind fun bt576 => ((spec_SameSurface.f k1 bt576.1 bt576.2 t566 t569).bind fun t582 => (if t582 = true then (spec_CountSymmetries.l0 k1 (wrap64 (x4_1 + 1)) (l0_0.length : Int) (wrap64 (x14_1 + 1)) l0_0 l0_1 t566 t569) else (spec_CountSymmetries.l0 k1 x4_1 (l0_0.length : Int) (wrap64 (x14_1 + 1)) l0_0 l0_1 t566 t569)))) = some r := H
 have A17 := Aside0.mk A170
 clear A170
 replace H := Option.bind_eq_some_iff.mp H
 obtain ⟨⟨t576, t579⟩, A180, H⟩ := H
 replace H : ((spec_SameSurface.f k1 t576 t579 t566 t569).bind fun t582 => (if t582 = true then (spec_CountSymmetries.l0 k1 (wrap64 (x4_1 + 1)) (l0_0.length : Int) (wrap64 (x14_1 + 1)) l0_0 l0_1 t566 t569) else (spec_CountSymmetries.l0 k1 x4_1 (l0_0.length : Int) (wrap64 (x14_1 + 1)) l0_0 l0_1 t566 t569))) = some r := H
 have A18 := Aside0.mk A180
 clear A180
 replace H := Option.bind_eq_some_iff.mp H
 obtain ⟨t582, A190, H⟩ := H
 replace H : (if t582 = true then (spec_CountSymmetries.l0 k1 (wrap64 (x4_1 + 1)) (l0_0.length : Int) (wrap64 (x14_1 + 1)) l0_0 l0_1 t566 t569) else (spec_CountSymmetries.l0 k1 x4_1 (l0_0.length : Int) (wrap64 (x14_1 + 1)) l0_0 l0_1 t566 t569)) = some r := H
 have A19 := Aside0.mk A190
 clear A190
 by_cases c20 : t582 = true
 {
 subst c20
 have H1 : (spec_CountSymmetries.l0 k1 (wrap64 (x4_1 + 1)) (l0_0.length : Int) (wrap64 (x14_1 + 1)) l0_0 l0_1 t566 t569) = some r := by rw [if_pos rfl] at H; exact H
 clear H
 have H := H1
 clear H1
 have H' := Aside0.mk H
 clear H
 try go_wp2
 have n0_ := Aside0.mk (Kd.R_drew HO_573000.out)
 have n1_ := Aside0.mk (Kd.R_drew HO_573001.out)
 have n2_ := Aside0.mk (blk_drew BK564.out)
 have n3_ := Aside0.mk (blk_drew BK572.out)
 have n4_ := Aside0.mk (below_drew1 HB.out)
 clear HO_573000 HO_573001 BK564 BK572 HB
 have HO_573000 := n0_
 have HO_573001 := n1_
 have BK564 := n2_
 have BK572 := n3_
 have HB := n4_
 clear n0_ n1_ n2_ n3_ n4_
 refine start_ (n := 7) (S := fun w' => w'.cell? ⟨gb564, 0, none⟩ = some (.slice A0_0 l0_0.length c0_0) ∧ w'.cell? ⟨gb564, 1, none⟩ = some (.slice A0_1 l0_1.length c0_1) ∧ w'.cell? ⟨gb572, 0, none⟩ = some (.slice Ao11 t566.length co11) ∧ w'.cell? ⟨gb572, 1, none⟩ = some (.slice Ao14 t569.length co14)) (ds := []) #[false, false, false, false, false, false, false] (by kernel_rfl) rfl rfl ⟨cz20 BK564.out, cz21 BK564.out, cz20 BK572.out, cz21 BK572.out⟩ (fun hHeld => ?_)
 generalize wr.drew = w21 at HO_573000 HO_573001 BK564 BK572 HB hHeld ⊢
 refine pure_ (i := 2) (N := some 19) (v := ?_) (a' := ?_) #[false, false, true, false, false, false, false] rfl rfl (by kernel_rfl) (fun _ _ _ h => h) (Or.inl ⟨by rfl, ?_⟩) ?_ ?_
 rotate_left
 {
 intro w'
 go_simp
 with_reducible rfl
 }
 rotate_left
 {
 simp only [Act.put, zA, zB, zC, i64_w, i32_w]
 rfl
 }
 refine take_ (i := 0) (N := some 17) (v := ?_) (a' := ?_) #[true, false, true, false, false, false, false] rfl rfl (by kernel_rfl) (fun _ _ _ h => h) (Or.inl ⟨by rfl, ?_⟩) hHeld ?_ ?_
 rotate_left
 {
 rintro w' ⟨s0, s1, s2, s3⟩
 go_simp
 with_reducible rfl
 }
 rotate_left
 {
 simp only [Act.put, zA, zB, zC, i64_w, i32_w]
 rfl
 }
 refine take_ (i := 1) (N := some 18) (v := ?_) (a' := ?_) #[true, true, true, false, false, false, false] rfl rfl (by kernel_rfl) (fun _ _ _ h => h) (Or.inl ⟨by rfl, ?_⟩) hHeld ?_ ?_
 rotate_left
 {
 rintro w' ⟨s0, s1, s2, s3⟩
 go_simp
 with_reducible rfl
 }
 rotate_left
 {
 simp only [Act.put, zA, zB, zC, i64_w, i32_w]
 rfl
 }
 refine take_ (i := 5) (N := some 22) (v := ?_) (a' := ?_) #[true, true, true, false, false, true, false] rfl rfl (by kernel_rfl) (fun _ _ _ h => h) (Or.inl ⟨by rfl, ?_⟩) hHeld ?_ ?_
 rotate_left
 {
 rintro w' ⟨s0, s1, s2, s3⟩
 go_simp
 with_reducible rfl
 }
 rotate_left
 {
 simp only [Act.put, zA, zB, zC, i64_w, i32_w]
 rfl
 }
 refine one_ (i := 3) (N := some 20) #[true, true, true, true, false, true, false] rfl rfl (by kernel_rfl) (by decide) (fun K hK => ?_)
 refine goes_ Tryz.func99 (by kernel_rfl) rfl #[.agg #[.slice A0_0 l0_0.length c0_0, .slice A0_1 l0_1.length c0_1], .int .i64 x14_1] (by rfl) rfl rfl aX ?_
 with_reducible refine (spec_l03Names.calls k1 _ _ l0_0 _ _ l0_1 x14_1 t573 _ ?side1 ?side2 ?side3 ?side4 A17.out).mono ?_
 (case side1 => exact cX (Kd.C_below HR0_0.out HB.out))
 (case side2 => exact HC0_0.out)
 (case side3 => exact cX (Kd.C_below HR0_1.out HB.out))
 (case side4 => exact HC0_1.out)
 rintro e w22 ⟨v574, rfl, ho0, hb⟩
 refine ⟨_, rfl, ?_⟩
 have n0_ := Aside0.mk (Kd.R_elder' (rX HO_573000.out) (Kd.R_base ho0) hb)
 have n1_ := Aside0.mk (Kd.R_elder' (rX HO_573001.out) (Kd.R_base ho0) hb)
 have n2_ := Aside0.mk (Kd.R_lower (Kd.R_new' (Kd.R_new' ho0 (Kd.R_lt (rX HO_573000.out))) (Kd.R_lt (rX HO_573001.out))) (below_size (bX2 HB.out GE564.out GE572.out)))
 have n3_ := Aside0.mk (bbX BK564.out hb)
 have n4_ := Aside0.mk (bbX BK572.out hb)
 have n5_ := Aside0.mk (below_step (bX2 HB.out GE564.out GE572.out) hb)
 clear HO_573000 HO_573001 BK564 BK572 HB
 have HO_573000 := n0_
 have HO_573001 := n1_
 have HO575 := n2_
 have BK564 := n3_
 have BK572 := n4_
 have HB := n5_
 clear n0_ n1_ n2_ n3_ n4_ n5_
 (try clear hb)
 (try clear hb2)
 (try clear hk)
 (try clear hi)
 (try clear ho0)
 obtain ⟨Ao23, co23, eo23⟩ := Kd.R_slice HO575.out
 (first | subst eo23 | (injection eo23 with f1_ f2_ f3_; have f4_ := f1_.symm; have f5_ := f3_.symm; clear f1_ f2_ f3_; subst f4_; subst f5_))
 refine hK.out _ _ ⟨cz20 BK564.out, cz21 BK564.out, cz20 BK572.out, cz21 BK572.out⟩ (fun hHeld => ?_)
 clear hK K
 refine norm_ (a' := ?_) ?_ ?_
 rotate_left
 {
 show Act.put _ (some 20) _ = _
 simp only [Act.put, zA, zB, zC, i64_w, i32_w]
 rfl
 }
 refine one_ (i := 4) (N := some 21) #[true, true, true, true, true, true, false] rfl rfl (by kernel_rfl) (by decide) (fun K hK => ?_)
 refine goes_ Tryz.func98 (by kernel_rfl) rfl #[.agg #[.slice A0_0 l0_0.length c0_0, .slice A0_1 l0_1.length c0_1], .slice Ao23 t573.length co23] (by rfl) rfl rfl aX ?_
 with_reducible refine (spec_l03Rename.calls k1 _ _ l0_0 _ _ l0_1 _ _ t573 t576 t579 _ ?side1 ?side2 ?side3 ?side4 ?side5 ?side6 A18.out).mono ?_
 (case side1 => exact cX (Kd.C_below HR0_0.out HB.out))
 (case side2 => exact HC0_0.out)
 (case side3 => exact cX (Kd.C_below HR0_1.out HB.out))
 (case side4 => exact HC0_1.out)
 (case side5 => exact cX (Kd.R_reads' HO575.out).2.2)
 (case side6 => exact (Kd.R_reads' HO575.out).2.1)
 rintro e w24 ⟨v577, v580, rfl, ho0, ho1, hb⟩
 refine ⟨_, rfl, ?_⟩
 have n0_ := Aside0.mk (Kd.R_mono (Kd.R_told (Kd.R_told (Kd.R_old (rX HO_573000.out) hb) (Kd.R_base ho0)) (Kd.R_base ho1)) (fun _ h_ => h_.1))
 have n1_ := Aside0.mk (Kd.R_mono (Kd.R_told (Kd.R_told (Kd.R_old (rX HO_573001.out) hb) (Kd.R_base ho0)) (Kd.R_base ho1)) (fun _ h_ => h_.1))
 have n2_ := Aside0.mk (Kd.R_mono (Kd.R_told (Kd.R_told (Kd.R_old (rX HO575.out) hb) (Kd.R_base ho0)) (Kd.R_base ho1)) (fun _ h_ => h_.1))
 have n3_ := Aside0.mk (Kd.R_lower (Kd.R_new' (Kd.R_new' (Kd.R_new' ho0 (Kd.R_lt (rX HO_573000.out))) (Kd.R_lt (rX HO_573001.out))) (Kd.R_lt (rX HO575.out))) (below_size (bX2 HB.out GE564.out GE572.out)))
 have n4_ := Aside0.mk (Kd.R_lower (Kd.R_new' (Kd.R_new' (Kd.R_new' ho1 (Kd.R_lt (rX HO_573000.out))) (Kd.R_lt (rX HO_573001.out))) (Kd.R_lt (rX HO575.out))) (below_size (bX2 HB.out GE564.out GE572.out)))
 have n5_ := Aside0.mk (bbX BK564.out hb)
 have n6_ := Aside0.mk (bbX BK572.out hb)
 have n7_ := Aside0.mk (below_step (bX2 HB.out GE564.out GE572.out) hb)
 clear HO_573000 HO_573001 HO575 BK564 BK572 HB
 have HO_573000 := n0_
 have HO_573001 := n1_
 have HO575 := n2_
 have HO578 := n3_
 have HO581 := n4_
 have BK564 := n5_
 have BK572 := n6_
 have HB := n7_
 clear n0_ n1_ n2_ n3_ n4_ n5_ n6_ n7_
 (try clear hb)
 (try clear hb2)
 (try clear hk)
 (try clear hi)
 (try clear ho0)
 (try clear ho1)
 obtain ⟨Ao25, co25, eo25⟩ := Kd.R_slice HO578.out
 (first | subst eo25 | (injection eo25 with f1_ f2_ f3_; have f4_ := f1_.symm; have f5_ := f3_.symm; clear f1_ f2_ f3_; subst f4_; subst f5_))
 obtain ⟨Ao26, co26, eo26⟩ := Kd.R_slice HO581.out
 (first | subst eo26 | (injection eo26 with f1_ f2_ f3_; have f4_ := f1_.symm; have f5_ := f3_.symm; clear f1_ f2_ f3_; subst f4_; subst f5_))
 refine hK.out _ _ ⟨cz20 BK564.out, cz21 BK564.out, cz20 BK572.out, cz21 BK572.out⟩ (fun hHeld => ?_)
 clear hK K
 refine norm_ (a' := ?_) ?_ ?_
 rotate_left
 {
 show Act.put _ (some 21) _ = _
 simp only [Act.put, zA, zB, zC, i64_w, i32_w]
 rfl
 }
 refine one_ (i := 6) (N := some 23) #[true, true, true, true, true, true, true] rfl rfl (by kernel_rfl) (by decide) (fun K hK => ?_)
 refine goes_ Tryz.func97 (by kernel_rfl) rfl #[.agg #[.slice Ao25 t576.length co25, .slice Ao26 t579.length co26], .agg #[.slice Ao11 t566.length co11, .slice Ao14 t569.length co14]] (by rfl) rfl rfl aX ?_
 with_reducible refine (spec_SameSurface.calls k1 _ _ t576 _ _ t579 _ _ t566 _ _ t569 true _ ?side1 ?side2 ?side3 ?side4 ?side5 ?side6 ?side7 ?side8 A19.out).mono ?_
 (case side1 => exact cX (Kd.R_reads' HO578.out).2.2)
 (case side2 => exact (Kd.R_reads' HO578.out).2.1)
 (case side3 => exact cX (Kd.R_reads' HO581.out).2.2)
 (case side4 => exact (Kd.R_reads' HO581.out).2.1)
 (case side5 => exact cX (Kd.R_reads' HO_573000.out).2.2)
 (case side6 => exact (Kd.R_reads' HO_573000.out).2.1)
 (case side7 => exact cX (Kd.R_reads' HO_573001.out).2.2)
 (case side8 => exact (Kd.R_reads' HO_573001.out).2.1)
 rintro e w27 ⟨rfl, hb⟩
 refine ⟨_, rfl, ?_⟩
 have n0_ := Aside0.mk (Kd.R_below (rX HO_573000.out) hb)
 have n1_ := Aside0.mk (Kd.R_below (rX HO_573001.out) hb)
 have n2_ := Aside0.mk (Kd.R_below (rX HO575.out) hb)
 have n3_ := Aside0.mk (Kd.R_below (rX HO578.out) hb)
 have n4_ := Aside0.mk (Kd.R_below (rX HO581.out) hb)
 have n5_ := Aside0.mk (bbX BK564.out hb)
 have n6_ := Aside0.mk (bbX BK572.out hb)
 have n7_ := Aside0.mk (below_step (bX2 HB.out GE564.out GE572.out) hb)
 clear HO_573000 HO_573001 HO575 HO578 HO581 BK564 BK572 HB
 have HO_573000 := n0_
 have HO_573001 := n1_
 have HO575 := n2_
 have HO578 := n3_
 have HO581 := n4_
 have BK564 := n5_
 have BK572 := n6_
 have HB := n7_
 clear n0_ n1_ n2_ n3_ n4_ n5_ n6_ n7_
 (try clear hb)
 (try clear hb2)
 (try clear hk)
 (try clear hi)
 refine hK.out _ _ ⟨cz20 BK564.out, cz21 BK564.out, cz20 BK572.out, cz21 BK572.out⟩ (fun hHeld => ?_)
 clear hK K
 refine norm_ (a' := ?_) ?_ ?_
 rotate_left
 {
 show Act.put _ (some 23) _ = _
 simp only [Act.put, zA, zB, zC, i64_w, i32_w]
 rfl
 }
 refine done_ (by kernel_rfl) ?_
 try go_wp2
 go_roundg k1
 case measure => have := HK1.out; omega
 case rel => exact ⟨(wrap64 (x4_1 + 1)), (wrap64 (x14_1 + 1)), vX, vX, H', ⟨by have := HK1.out; omega⟩, ⟨rM HO_573000.out (fun _ hk => hk.1.1.1)⟩, ⟨rM HO_573001.out (fun _ hk => hk.1.1.1)⟩, ⟨kX BK564.out⟩, ⟨kX BK572.out⟩, ⟨bX2 HB.out GE564.out GE572.out⟩⟩
 }
 {
 replace c20 := Bool.eq_false_iff.mpr c20
 subst c20
 have H1 : (spec_CountSymmetries.l0 k1 x4_1 (l0_0.length : Int) (wrap64 (x14_1 + 1)) l0_0 l0_1 t566 t569) = some r := by rw [if_neg (show ¬ (false = true) by decide)] at H; exact H
 clear H
 have H := H1
 clear H1
 have H' := Aside0.mk H
 clear H
 try go_wp2
 have n0_ := Aside0.mk (Kd.R_drew HO_573000.out)
 have n1_ := Aside0.mk (Kd.R_drew HO_573001.out)
 have n2_ := Aside0.mk (blk_drew BK564.out)
 have n3_ := Aside0.mk (blk_drew BK572.out)
 have n4_ := Aside0.mk (below_drew1 HB.out)
 clear HO_573000 HO_573001 BK564 BK572 HB
 have HO_573000 := n0_
 have HO_573001 := n1_
 have BK564 := n2_
 have BK572 := n3_
 have HB := n4_
 clear n0_ n1_ n2_ n3_ n4_
 refine start_ (n := 7) (S := fun w' => w'.cell? ⟨gb564, 0, none⟩ = some (.slice A0_0 l0_0.length c0_0) ∧ w'.cell? ⟨gb564, 1, none⟩ = some (.slice A0_1 l0_1.length c0_1) ∧ w'.cell? ⟨gb572, 0, none⟩ = some (.slice Ao11 t566.length co11) ∧ w'.cell? ⟨gb572, 1, none⟩ = some (.slice Ao14 t569.length co14)) (ds := []) #[false, false, false, false, false, false, false] (by kernel_rfl) rfl rfl ⟨cz20 BK564.out, cz21 BK564.out, cz20 BK572.out, cz21 BK572.out⟩ (fun hHeld => ?_)
 generalize wr.drew = w28 at HO_573000 HO_573001 BK564 BK572 HB hHeld ⊢
 refine pure_ (i := 2) (N := some 19) (v := ?_) (a' := ?_) #[false, false, true, false, false, false, false] rfl rfl (by kernel_rfl) (fun _ _ _ h => h) (Or.inl ⟨by rfl, ?_⟩) ?_ ?_
 rotate_left
 {
 intro w'
 go_simp
 with_reducible rfl
 }
 rotate_left
 {
 simp only [Act.put, zA, zB, zC, i64_w, i32_w]
 rfl
 }
 refine take_ (i := 0) (N := some 17) (v := ?_) (a' := ?_) #[true, false, true, false, false, false, false] rfl rfl (by kernel_rfl) (fun _ _ _ h => h) (Or.inl ⟨by rfl, ?_⟩) hHeld ?_ ?_
 rotate_left
 {
 rintro w' ⟨s0, s1, s2, s3⟩
 go_simp
 with_reducible rfl
 }
 rotate_left
 {
 simp only [Act.put, zA, zB, zC, i64_w, i32_w]
 rfl
 }
 refine take_ (i := 1) (N := some 18) (v := ?_) (a' := ?_) #[true, true, true, false, false, false, false] rfl rfl (by kernel_rfl) (fun _ _ _ h => h) (Or.inl ⟨by rfl, ?_⟩) hHeld ?_ ?_
 rotate_left
 {
 rintro w' ⟨s0, s1, s2, s3⟩
 go_simp
 with_reducible rfl
 }
 rotate_left
 {
 simp only [Act.put, zA, zB, zC, i64_w, i32_w]
 rfl
 }
 refine take_ (i := 5) (N := some 22) (v := ?_) (a' := ?_) #[true, true, true, false, false, true, false] rfl rfl (by kernel_rfl) (fun _ _ _ h => h) (Or.inl ⟨by rfl, ?_⟩) hHeld ?_ ?_
 rotate_left
 {
 rintro w' ⟨s0, s1, s2, s3⟩
 go_simp
 with_reducible rfl
 }
 rotate_left
 {
 simp only [Act.put, zA, zB, zC, i64_w, i32_w]
 rfl
 }
 refine one_ (i := 3) (N := some 20) #[true, true, true, true, false, true, false] rfl rfl (by kernel_rfl) (by decide) (fun K hK => ?_)
 refine goes_ Tryz.func99 (by kernel_rfl) rfl #[.agg #[.slice A0_0 l0_0.length c0_0, .slice A0_1 l0_1.length c0_1], .int .i64 x14_1] (by rfl) rfl rfl aX ?_
 with_reducible refine (spec_l03Names.calls k1 _ _ l0_0 _ _ l0_1 x14_1 t573 _ ?side1 ?side2 ?side3 ?side4 A17.out).mono ?_
 (case side1 => exact cX (Kd.C_below HR0_0.out HB.out))
 (case side2 => exact HC0_0.out)
 (case side3 => exact cX (Kd.C_below HR0_1.out HB.out))
 (case side4 => exact HC0_1.out)
 rintro e w29 ⟨v574, rfl, ho0, hb⟩
 refine ⟨_, rfl, ?_⟩
 have n0_ := Aside0.mk (Kd.R_elder' (rX HO_573000.out) (Kd.R_base ho0) hb)
 have n1_ := Aside0.mk (Kd.R_elder' (rX HO_573001.out) (Kd.R_base ho0) hb)
 have n2_ := Aside0.mk (Kd.R_lower (Kd.R_new' (Kd.R_new' ho0 (Kd.R_lt (rX HO_573000.out))) (Kd.R_lt (rX HO_573001.out))) (below_size (bX2 HB.out GE564.out GE572.out)))
 have n3_ := Aside0.mk (bbX BK564.out hb)
 have n4_ := Aside0.mk (bbX BK572.out hb)
 have n5_ := Aside0.mk (below_step (bX2 HB.out GE564.out GE572.out) hb)
 clear HO_573000 HO_573001 BK564 BK572 HB
 have HO_573000 := n0_
 have HO_573001 := n1_
 have HO575 := n2_
 have BK564 := n3_
 have BK572 := n4_
 have HB := n5_
 clear n0_ n1_ n2_ n3_ n4_ n5_
 (try clear hb)
 (try clear hb2)
 (try clear hk)
 (try clear hi)
 (try clear ho0)
 obtain ⟨Ao30, co30, eo30⟩ := Kd.R_slice HO575.out
 (first | subst eo30 | (injection eo30 with f1_ f2_ f3_; have f4_ := f1_.symm; have f5_ := f3_.symm; clear f1_ f2_ f3_; subst f4_; subst f5_))
 refine hK.out _ _ ⟨cz20 BK564.out, cz21 BK564.out, cz20 BK572.out, cz21 BK572.out⟩ (fun hHeld => ?_)
 clear hK K
 refine norm_ (a' := ?_) ?_ ?_
 rotate_left
 {
 show Act.put _ (some 20) _ = _
 simp only [Act.put, zA, zB, zC, i64_w, i32_w]
 rfl
 }
 refine one_ (i := 4) (N := some 21) #[true, true, true, true, true, true, false] rfl rfl (by kernel_rfl) (by decide) (fun K hK => ?_)
 refine goes_ Tryz.func98 (by kernel_rfl) rfl #[.agg #[.slice A0_0 l0_0.length c0_0, .slice A0_1 l0_1.length c0_1], .slice Ao30 t573.length co30] (by rfl) rfl rfl aX ?_
 with_reducible refine (spec_l03Rename.calls k1 _ _ l0_0 _ _ l0_1 _ _ t573 t576 t579 _ ?side1 ?side2 ?side3 ?side4 ?side5 ?side6 A18.out).mono ?_
 (case side1 => exact cX (Kd.C_below HR0_0.out HB.out))
 (case side2 => exact HC0_0.out)
 (case side3 => exact cX (Kd.C_below HR0_1.out HB.out))
 (case side4 => exact HC0_1.out)
 (case side5 => exact cX (Kd.R_reads' HO575.out).2.2)
 (case side6 => exact (Kd.R_reads' HO575.out).2.1)
 rintro e w31 ⟨v577, v580, rfl, ho0, ho1, hb⟩
 refine ⟨_, rfl, ?_⟩
 have n0_ := Aside0.mk (Kd.R_mono (Kd.R_told (Kd.R_told (Kd.R_old (rX HO_573000.out) hb) (Kd.R_base ho0)) (Kd.R_base ho1)) (fun _ h_ => h_.1))
 have n1_ := Aside0.mk (Kd.R_mono (Kd.R_told (Kd.R_told (Kd.R_old (rX HO_573001.out) hb) (Kd.R_base ho0)) (Kd.R_base ho1)) (fun _ h_ => h_.1))
 have n2_ := Aside0.mk (Kd.R_mono (Kd.R_told (Kd.R_told (Kd.R_old (rX HO575.out) hb) (Kd.R_base ho0)) (Kd.R_base ho1)) (fun _ h_ => h_.1))
 have n3_ := Aside0.mk (Kd.R_lower (Kd.R_new' (Kd.R_new' (Kd.R_new' ho0 (Kd.R_lt (rX HO_573000.out))) (Kd.R_lt (rX HO_573001.out))) (Kd.R_lt (rX HO575.out))) (below_size (bX2 HB.out GE564.out GE572.out)))
 have n4_ := Aside0.mk (Kd.R_lower (Kd.R_new' (Kd.R_new' (Kd.R_new' ho1 (Kd.R_lt (rX HO_573000.out))) (Kd.R_lt (rX HO_573001.out))) (Kd.R_lt (rX HO575.out))) (below_size (bX2 HB.out GE564.out GE572.out)))
 have n5_ := Aside0.mk (bbX BK564.out hb)
 have n6_ := Aside0.mk (bbX BK572.out hb)
 have n7_ := Aside0.mk (below_step (bX2 HB.out GE564.out GE572.out) hb)
 clear HO_573000 HO_573001 HO575 BK564 BK572 HB
 have HO_573000 := n0_
 have HO_573001 := n1_
 have HO575 := n2_
 have HO578 := n3_
 have HO581 := n4_
 have BK564 := n5_
 have BK572 := n6_
 have HB := n7_
 clear n0_ n1_ n2_ n3_ n4_ n5_ n6_ n7_
 (try clear hb)
 (try clear hb2)
 (try clear hk)
 (try clear hi)
 (try clear ho0)
 (try clear ho1)
 obtain ⟨Ao32, co32, eo32⟩ := Kd.R_slice HO578.out
 (first | subst eo32 | (injection eo32 with f1_ f2_ f3_; have f4_ := f1_.symm; have f5_ := f3_.symm; clear f1_ f2_ f3_; subst f4_; subst f5_))
 obtain ⟨Ao33, co33, eo33⟩ := Kd.R_slice HO581.out
 (first | subst eo33 | (injection eo33 with f1_ f2_ f3_; have f4_ := f1_.symm; have f5_ := f3_.symm; clear f1_ f2_ f3_; subst f4_; subst f5_))
 refine hK.out _ _ ⟨cz20 BK564.out, cz21 BK564.out, cz20 BK572.out, cz21 BK572.out⟩ (fun hHeld => ?_)
 clear hK K
 refine norm_ (a' := ?_) ?_ ?_
 rotate_left
 {
 show Act.put _ (some 21) _ = _
 simp only [Act.put, zA, zB, zC, i64_w, i32_w]
 rfl
 }
 refine one_ (i := 6) (N := some 23) #[true, true, true, true, true, true, true] rfl rfl (by kernel_rfl) (by decide) (fun K hK => ?_)
 refine goes_ Tryz.func97 (by kernel_rfl) rfl #[.agg #[.slice Ao32 t576.length co32, .slice Ao33 t579.length co33], .agg #[.slice Ao11 t566.length co11, .slice Ao14 t569.length co14]] (by rfl) rfl rfl aX ?_
 with_reducible refine (spec_SameSurface.calls k1 _ _ t576 _ _ t579 _ _ t566 _ _ t569 false _ ?side1 ?side2 ?side3 ?side4 ?side5 ?side6 ?side7 ?side8 A19.out).mono ?_
 (case side1 => exact cX (Kd.R_reads' HO578.out).2.2)
 (case side2 => exact (Kd.R_reads' HO578.out).2.1)
 (case side3 => exact cX (Kd.R_reads' HO581.out).2.2)
 (case side4 => exact (Kd.R_reads' HO581.out).2.1)
 (case side5 => exact cX (Kd.R_reads' HO_573000.out).2.2)
 (case side6 => exact (Kd.R_reads' HO_573000.out).2.1)
 (case side7 => exact cX (Kd.R_reads' HO_573001.out).2.2)
 (case side8 => exact (Kd.R_reads' HO_573001.out).2.1)
 rintro e w34 ⟨rfl, hb⟩
 refine ⟨_, rfl, ?_⟩
 have n0_ := Aside0.mk (Kd.R_below (rX HO_573000.out) hb)
 have n1_ := Aside0.mk (Kd.R_below (rX HO_573001.out) hb)
 have n2_ := Aside0.mk (Kd.R_below (rX HO575.out) hb)
 have n3_ := Aside0.mk (Kd.R_below (rX HO578.out) hb)
 have n4_ := Aside0.mk (Kd.R_below (rX HO581.out) hb)
 have n5_ := Aside0.mk (bbX BK564.out hb)
 have n6_ := Aside0.mk (bbX BK572.out hb)
 have n7_ := Aside0.mk (below_step (bX2 HB.out GE564.out GE572.out) hb)
 clear HO_573000 HO_573001 HO575 HO578 HO581 BK564 BK572 HB
 have HO_573000 := n0_
 have HO_573001 := n1_
 have HO575 := n2_
 have HO578 := n3_
 have HO581 := n4_
 have BK564 := n5_
 have BK572 := n6_
 have HB := n7_
 clear n0_ n1_ n2_ n3_ n4_ n5_ n6_ n7_
 (try clear hb)
 (try clear hb2)
 (try clear hk)
 (try clear hi)
 refine hK.out _ _ ⟨cz20 BK564.out, cz21 BK564.out, cz20 BK572.out, cz21 BK572.out⟩ (fun hHeld => ?_)
 clear hK K
 refine norm_ (a' := ?_) ?_ ?_
 rotate_left
 {
 show Act.put _ (some 23) _ = _
 simp only [Act.put, zA, zB, zC, i64_w, i32_w]
 rfl
 }
 refine done_ (by kernel_rfl) ?_
 try go_wp2
 go_roundg k1
 case measure => have := HK1.out; omega
 case rel => exact ⟨(x4_1), (wrap64 (x14_1 + 1)), vX, vX, H', ⟨by have := HK1.out; omega⟩, ⟨rM HO_573000.out (fun _ hk => hk.1.1.1)⟩, ⟨rM HO_573001.out (fun _ hk => hk.1.1.1)⟩, ⟨kX BK564.out⟩, ⟨kX BK572.out⟩, ⟨bX2 HB.out GE564.out GE572.out⟩⟩
 }
 }
 {
 rw [if_neg c16] at H
 have c16b0 : decide (x14_1 < (l0_0.length : Int)) = false := decide_eq_false c16
 clear c16
 obtain rfl := Option.some.inj H
 go_wp2
 go_ret
 exact ⟨eX, bX2 HB.out GE564.out GE572.out⟩
 }
 }
 {
 replace c3 := Bool.eq_false_iff.mpr c3
 subst c3
 have H1 : (some 0) = some r := by rw [if_neg (show ¬ (false = true) by decide)] at H; exact H
 clear H
 have H := H1
 clear H1
 obtain rfl := Option.some.inj H
 go_enter Tryz.func64, Tryz.ntmps64
 go_wp2_with (first | ((with_reducible refine gate_dst (N := 1) rfl ?_); refine box_event ?hg (N := 1) ?hd (cs := #[.slice A0_0 l0_0.length c0_0, .slice A0_1 l0_1.length c0_1]) (t := 25) ?hr ?_; (case hd => rfl); (case hg => rfl); (case hr => first | (go_simp; done) | (go_simp; rfl)); intro gb564 hg w35 hbox hb; have n0_ := Aside0.mk (below_step (bX HB.out) hb); have n1_ := Aside0.mk (hbox); have n2_ := Aside0.mk ((szX (below_size (bX HB.out)) hg : w.heap.size ≤ gb564)); have n3_ := Aside0.mk ((szX (below_size (bX HB.out)) hg : w.heap.size ≤ gb564)); clear HB; have HB := n0_; have BK564 := n1_; have GW564 := n2_; have GE564 := n3_; clear n0_ n1_ n2_ n3_ hb hbox hg; have hcz36_0 := cz20 BK564.out; have hcz36_1 := cz21 BK564.out; have hfz36_0 := blk_frozen BK564.out 0; have hfz36_1 := blk_frozen BK564.out 1) | ((with_reducible refine gate_callee (f := 50) rfl ?_); refine goesL_ (some 7) rfl rfl Tryz.func50 (by kernel_rfl) rfl #[.agg #[.slice A0_0 l0_0.length c0_0, .slice A0_1 l0_1.length c0_1]] rfl aX ?_; (with_reducible refine (spec_SurfaceOk.calls k _ _ l0_0 _ _ l0_1 false _ ?side1 ?side2 ?side3 ?side4 A2.out).mono ?_); (case side1 => exact cX (Kd.C_below HR0_0.out HB.out)); (case side2 => exact HC0_0.out); (case side3 => exact cX (Kd.C_below HR0_1.out HB.out)); (case side4 => exact HC0_1.out); rintro e w37 ⟨rfl, hb⟩; refine ⟨_, rfl, ?_⟩; have n0_ := Aside0.mk (bbX BK564.out hb); have n1_ := Aside0.mk (below_step (bX1 HB.out GE564.out) hb); clear BK564 HB; have BK564 := n0_; have HB := n1_; clear n0_ n1_; (try clear hb); (try clear hb2); (try clear hk); (try clear hi)))
 go_ret
 exact ⟨eX, bX1 HB.out GE564.out⟩
 }

/-! ### spec_SurfaceLines: function 20 -/
def spec_SurfaceLines.f (k : Nat) (l0_0 : List Int) (l0_1 : List Int) : Option (List ByteArray) := (spec_SurfaceOk.f k l0_0 l0_1).bind fun t584 => (if t584 = true then ((spec_CountSquares.f k l0_0 l0_1).bind fun t585 => ((spec_FormatInt.f k t585).bind fun t586 => (if 8 + t586.size ≤ 9223372036854775807 then (if ((⟨#[115, 113, 117, 97, 114, 101, 115, 32]⟩ : ByteArray) ++ t586).size + 1 ≤ 9223372036854775807 then ((spec_FormatSurface.f k l0_0 l0_1).bind fun t587 => (if (((⟨#[115, 113, 117, 97, 114, 101, 115, 32]⟩ : ByteArray) ++ t586) ++ (⟨#[32]⟩ : ByteArray)).size + t587.size ≤ 9223372036854775807 then ((spec_AnglesOf.f k l0_0 l0_1).bind fun t588 => ((spec_FormatList.f k t588).bind fun t591 => (if 7 + t591.size ≤ 9223372036854775807 then ((spec_GenusOf.f k l0_0 l0_1).bind fun t592 => ((spec_FormatInt.f k t592).bind fun t593 => (if 6 + t593.size ≤ 9223372036854775807 then (if ((⟨#[103, 101, 110, 117, 115, 32]⟩ : ByteArray) ++ t593).size + 9 ≤ 9223372036854775807 then ((spec_StratumOf.f k l0_0 l0_1).bind fun t594 => ((spec_FormatList.f k t594).bind fun t597 => (if (((⟨#[103, 101, 110, 117, 115, 32]⟩ : ByteArray) ++ t593) ++ (⟨#[32, 115, 116, 114, 97, 116, 117, 109, 32]⟩ : ByteArray)).size + t597.size ≤ 9223372036854775807 then ((spec_CountSymmetries.f k l0_0 l0_1).bind fun t598 => ((spec_FormatInt.f k t598).bind fun t599 => (if 11 + t599.size ≤ 9223372036854775807 then (some (([(((⟨#[115, 113, 117, 97, 114, 101, 115, 32]⟩ : ByteArray) ++ t586) ++ (⟨#[32]⟩ : ByteArray)) ++ t587, (⟨#[97, 110, 103, 108, 101, 115, 32]⟩ : ByteArray) ++ t591, (((⟨#[103, 101, 110, 117, 115, 32]⟩ : ByteArray) ++ t593) ++ (⟨#[32, 115, 116, 114, 97, 116, 117, 109, 32]⟩ : ByteArray)) ++ t597, (⟨#[115, 121, 109, 109, 101, 116, 114, 105, 101, 115, 32]⟩ : ByteArray) ++ t599] : List ByteArray))) else (none)))) else (none)))) else (none)) else (none)))) else (none)))) else (none))) else (none)) else (none)))) else (some ([] : List ByteArray)))
def spec_SurfaceLines.T3 : Bool × List (List Nat × List Nat) := (true, [([], []), ([0], [0]), ([1, 1], [1]), ([2], [2]), ([3], [3]), ([], []), ([5, 2], [5]), ([4, 6], [4, 6]), ([], []), ([8, 6], [8]), ([9, 9], [9]), ([10], [10]), ([], []), ([12, 10], [12]), ([13, 13], [13]), ([14], [14]), ([15], [15]), ([], []), ([17, 14], [17]), ([18, 18], [18]), ([16, 19], [16, 19]), ([], []), ([21, 19], [21]), ([22, 22], [22]), ([23], [23]), ([7, 11, 20, 24], [7, 11, 20, 24]), ([25, 23, 0, 1, 2, 3, 4, 5, 6, 7, 8, 9, 10, 11, 12, 13, 14, 15, 16, 17, 18, 19, 20, 21, 22, 23, 24, 25], [25])])
def spec_SurfaceLines.B3 : List Nat := [0, 1, 3, 7, 15, 0, 39, 127, 0, 359, 871, 1895, 0, 5991, 14183, 30567, 63335, 0, 161639, 423783, 1046375, 0, 3045223, 7239527, 15628135, 33554431, 67108863]
theorem spec_SurfaceLines.tab3 : rtab .any (opsOf Tryz.f20 3) = spec_SurfaceLines.T3 := by kernel_rfl
theorem spec_SurfaceLines.bits3 : waitsOk spec_SurfaceLines.T3.2 spec_SurfaceLines.B3 = true := by kernel_rfl
set_option maxHeartbeats 8000000 in
set_option maxRecDepth 100000 in
theorem spec_SurfaceLines.calls (k : Nat) (A0_0 : Option Addr) (c0_0 : Nat) (l0_0 : List Int) (A0_1 : Option Addr) (c0_1 : Nat) (l0_1 : List Int) (r : List ByteArray) (w : World) (hr0_0 : Kd.C (Kd.int .i64) w A0_0 l0_0.length l0_0) (hc0_0 : l0_0.length ≤ c0_0) (hr0_1 : Kd.C (Kd.int .i64) w A0_1 l0_1.length l0_1) (hc0_1 : l0_1.length ≤ c0_1) (h : spec_SurfaceLines.f k l0_0 l0_1 = some r) :
  Calls Tryz.prog 20 #[.agg #[.slice A0_0 l0_0.length c0_0, .slice A0_1 l0_1.length c0_1]] w fun e w' => ∃ v0_ : Value, e = .returned (v0_) ∧ Kd.R Kd.string 9 w' w.heap.size (fun _ => True) v0_ r ∧ Below w.heap.size w w' := by
 have hu25 := Tryz.underlying25
 have HR0_0 := Aside0.mk hr0_0
 have HC0_0 := Aside0.mk hc0_0
 clear hr0_0 hc0_0
 have HR0_1 := Aside0.mk hr0_1
 have HC0_1 := Aside0.mk hc0_1
 clear hr0_1 hc0_1
 have HB := Aside0.mk (Below.refl w.heap.size w)
 have H : ((spec_SurfaceOk.f k l0_0 l0_1).bind fun t584 => (if t584 = true then ((spec_CountSquares.f k l0_0 l0_1).bind fun t585 => ((spec_FormatInt.f k t585).bind fun t586 => (if 8 + t586.size ≤ 9223372036854775807 then (if ((⟨#[115, 113, 117, 97, 114, 101, 115, 32]⟩ : ByteArray) ++ t586).size + 1 ≤ 9223372036854775807 then ((spec_FormatSurface.f k l0_0 l0_1).bind fun t587 => (if (((⟨#[115, 113, 117, 97, 114, 101, 115, 32]⟩ : ByteArray) ++ t586) ++ (⟨#[32]⟩ : ByteArray)).size + t587.size ≤ 9223372036854775807 then ((spec_AnglesOf.f k l0_0 l0_1).bind fun t588 => ((spec_FormatList.f k t588).bind fun t591 => (if 7 + t591.size ≤ 9223372036854775807 then ((spec_GenusOf.f k l0_0 l0_1).bind fun t592 => ((spec_FormatInt.f k t592).bind fun t593 => (if 6 + t593.size ≤ 9223372036854775807 then (if ((⟨#[103, 101, 110, 117, 115, 32]⟩ : ByteArray) ++ t593).size + 9 ≤ 9223372036854775807 then ((spec_StratumOf.f k l0_0 l0_1).bind fun t594 => ((spec_FormatList.f k t594).bind fun t597 => (if (((⟨#[103, 101, 110, 117, 115, 32]⟩ : ByteArray) ++ t593) ++ (⟨#[32, 115, 116, 114, 97, 116, 117, 109, 32]⟩ : ByteArray)).size + t597.size ≤ 9223372036854775807 then ((spec_CountSymmetries.f k l0_0 l0_1).bind fun t598 => ((spec_FormatInt.f k t598).bind fun t599 => (if 11 + t599.size ≤ 9223372036854775807 then (some (([(((⟨#[115, 113, 117, 97, 114, 101, 115, 32]⟩ : ByteArray) ++ t586) ++ (⟨#[32]⟩ : ByteArray)) ++ t587, (⟨#[97, 110, 103, 108, 101, 115, 32]⟩ : ByteArray) ++ t591, (((⟨#[103, 101, 110, 117, 115, 32]⟩ : ByteArray) ++ t593) ++ (⟨#[32, 115, 116, 114, 97, 116, 117, 109, 32]⟩ : ByteArray)) ++ t597, (⟨#[115, 121, 109, 109, 101, 116, 114, 105, 101, 115, 32]⟩ : ByteArray) ++ t599] : List ByteArray))) else (none)))) else (none)))) else (none)) else (none)))) else (none)))) else (none))) else (none)) else (none)))) else (some ([] : List ByteArray)))) = some r := h
 clear h
 replace H := Option.bind_eq_some_iff.mp H
 obtain ⟨t584, A20, H⟩ := H
 replace H : (if t584 = true then ((spec_CountSquares.f k l0_0 l0_1).bind fun t585 => ((spec_FormatInt.f k t585).bind fun t586 => (if 8 + t586.size ≤ 9223372036854775807 then (if ((⟨#[115, 113, 117, 97, 114, 101, 115, 32]⟩ : ByteArray) ++ t586).size + 1 ≤ 9223372036854775807 then ((spec_FormatSurface.f k l0_0 l0_1).bind fun t587 => (if (((⟨#[115, 113, 117, 97, 114, 101, 115, 32]⟩ : ByteArray) ++ t586) ++ (⟨#[32]⟩ : ByteArray)).size + t587.size ≤ 9223372036854775807 then ((spec_AnglesOf.f k l0_0 l0_1).bind fun t588 => ((spec_FormatList.f k t588).bind fun t591 => (if 7 + t591.size ≤ 9223372036854775807 then ((spec_GenusOf.f k l0_0 l0_1).bind fun t592 => ((spec_FormatInt.f k t592).bind fun t593 => (if 6 + t593.size ≤ 9223372036854775807 then (if ((⟨#[103, 101, 110, 117, 115, 32]⟩ : ByteArray) ++ t593).size + 9 ≤ 9223372036854775807 then ((spec_StratumOf.f k l0_0 l0_1).bind fun t594 => ((spec_FormatList.f k t594).bind fun t597 => (if (((⟨#[103, 101, 110, 117, 115, 32]⟩ : ByteArray) ++ t593) ++ (⟨#[32, 115, 116, 114, 97, 116, 117, 109, 32]⟩ : ByteArray)).size + t597.size ≤ 9223372036854775807 then ((spec_CountSymmetries.f k l0_0 l0_1).bind fun t598 => ((spec_FormatInt.f k t598).bind fun t599 => (if 11 + t599.size ≤ 9223372036854775807 then (some (([(((⟨#[115, 113, 117, 97, 114, 101, 115, 32]⟩ : ByteArray) ++ t586) ++ (⟨#[32]⟩ : ByteArray)) ++ t587, (⟨#[97, 110, 103, 108, 101, 115, 32]⟩ : ByteArray) ++ t591, (((⟨#[103, 101, 110, 117, 115, 32]⟩ : ByteArray) ++ t593) ++ (⟨#[32, 115, 116, 114, 97, 116, 117, 109, 32]⟩ : ByteArray)) ++ t597, (⟨#[115, 121, 109, 109, 101, 116, 114, 105, 101, 115, 32]⟩ : ByteArray) ++ t599] : List ByteArray))) else (none)))) else (none)))) else (none)) else (none)))) else (none)))) else (none))) else (none)) else (none)))) else (some ([] : List ByteArray))) = some r := H
 have A2 := Aside0.mk A20
 clear A20
 by_cases c3 : t584 = true
 {
 subst c3
 have H1 : ((spec_CountSquares.f k l0_0 l0_1).bind fun t585 => ((spec_FormatInt.f k t585).bind fun t586 => (if 8 + t586.size ≤ 9223372036854775807 then (if ((⟨#[115, 113, 117, 97, 114, 101, 115, 32]⟩ : ByteArray) ++ t586).size + 1 ≤ 9223372036854775807 then ((spec_FormatSurface.f k l0_0 l0_1).bind fun t587 => (if (((⟨#[115, 113, 117, 97, 114, 101, 115, 32]⟩ : ByteArray) ++ t586) ++ (⟨#[32]⟩ : ByteArray)).size + t587.size ≤ 9223372036854775807 then ((spec_AnglesOf.f k l0_0 l0_1).bind fun t588 => ((spec_FormatList.f k t588).bind fun t591 => (if 7 + t591.size ≤ 9223372036854775807 then ((spec_GenusOf.f k l0_0 l0_1).bind fun t592 => ((spec_FormatInt.f k t592).bind fun t593 => (if 6 + t593.size ≤ 9223372036854775807 then (if ((⟨#[103, 101, 110, 117, 115, 32]⟩ : ByteArray) ++ t593).size + 9 ≤ 9223372036854775807 then ((spec_StratumOf.f k l0_0 l0_1).bind fun t594 => ((spec_FormatList.f k t594).bind fun t597 => (if (((⟨#[103, 101, 110, 117, 115, 32]⟩ : ByteArray) ++ t593) ++ (⟨#[32, 115, 116, 114, 97, 116, 117, 109, 32]⟩ : ByteArray)).size + t597.size ≤ 9223372036854775807 then ((spec_CountSymmetries.f k l0_0 l0_1).bind fun t598 => ((spec_FormatInt.f k t598).bind fun t599 => (if 11 + t599.size ≤ 9223372036854775807 then (some (([(((⟨#[115, 113, 117, 97, 114, 101, 115, 32]⟩ : ByteArray) ++ t586) ++ (⟨#[32]⟩ : ByteArray)) ++ t587, (⟨#[97, 110, 103, 108, 101, 115, 32]⟩ : ByteArray) ++ t591, (((⟨#[103, 101, 110, 117, 115, 32]⟩ : ByteArray) ++ t593) ++ (⟨#[32, 115, 116, 114, 97, 116, 117, 109, 32]⟩ : ByteArray)) ++ t597, (⟨#[115, 121, 109, 109, 101, 116, 114, 105, 101, 115, 32]⟩ : ByteArray) ++ t599] : List ByteArray))) else (none)))) else (none)))) else (none)) else (none)))) else (none)))) else (none))) else (none)) else (none)))) = some r := by rw [if_pos rfl] at H; exact H
 clear H
 have H := H1
 clear H1
 replace H := Option.bind_eq_some_iff.mp H
 obtain ⟨t585, A40, H⟩ := H
 replace H : ((spec_FormatInt.f k t585).bind fun t586 => (if 8 + t586.size ≤ 9223372036854775807 then (if ((⟨#[115, 113, 117, 97, 114, 101, 115, 32]⟩ : ByteArray) ++ t586).size + 1 ≤ 9223372036854775807 then ((spec_FormatSurface.f k l0_0 l0_1).bind fun t587 => (if (((⟨#[115, 113, 117, 97, 114, 101, 115, 32]⟩ : ByteArray) ++ t586) ++ (⟨#[32]⟩ : ByteArray)).size + t587.size ≤ 9223372036854775807 then ((spec_AnglesOf.f k l0_0 l0_1).bind fun t588 => ((spec_FormatList.f k t588).bind fun t591 => (if 7 + t591.size ≤ 9223372036854775807 then ((spec_GenusOf.f k l0_0 l0_1).bind fun t592 => ((spec_FormatInt.f k t592).bind fun t593 => (if 6 + t593.size ≤ 9223372036854775807 then (if ((⟨#[103, 101, 110, 117, 115, 32]⟩ : ByteArray) ++ t593).size + 9 ≤ 9223372036854775807 then ((spec_StratumOf.f k l0_0 l0_1).bind fun t594 => ((spec_FormatList.f k t594).bind fun t597 => (if (((⟨#[103, 101, 110, 117, 115, 32]⟩ : ByteArray) ++ t593) ++ (⟨#[32, 115, 116, 114, 97, 116, 117, 109, 32]⟩ : ByteArray)).size + t597.size ≤ 9223372036854775807 then ((spec_CountSymmetries.f k l0_0 l0_1).bind fun t598 => ((spec_FormatInt.f k t598).bind fun t599 => (if 11 + t599.size ≤ 9223372036854775807 then (some (([(((⟨#[115, 113, 117, 97, 114, 101, 115, 32]⟩ : ByteArray) ++ t586) ++ (⟨#[32]⟩ : ByteArray)) ++ t587, (⟨#[97, 110, 103, 108, 101, 115, 32]⟩ : ByteArray) ++ t591, (((⟨#[103, 101, 110, 117, 115, 32]⟩ : ByteArray) ++ t593) ++ (⟨#[32, 115, 116, 114, 97, 116, 117, 109, 32]⟩ : ByteArray)) ++ t597, (⟨#[115, 121, 109, 109, 101, 116, 114, 105, 101, 115, 32]⟩ : ByteArray) ++ t599] : List ByteArray))) else (none)))) else (none)))) else (none)) else (none)))) else (none)))) else (none))) else (none)) else (none))) = some r := H
 have A4 := Aside0.mk A40
 clear A40
 replace H := Option.bind_eq_some_iff.mp H
 obtain ⟨t586, A50, H⟩ := H
 replace H : (if 8 + t586.size ≤ 9223372036854775807 then (if ((⟨#[115, 113, 117, 97, 114, 101, 115, 32]⟩ : ByteArray) ++ t586).size + 1 ≤ 9223372036854775807 then ((spec_FormatSurface.f k l0_0 l0_1).bind fun t587 => (if (((⟨#[115, 113, 117, 97, 114, 101, 115, 32]⟩ : ByteArray) ++ t586) ++ (⟨#[32]⟩ : ByteArray)).size + t587.size ≤ 9223372036854775807 then ((spec_AnglesOf.f k l0_0 l0_1).bind fun t588 => ((spec_FormatList.f k t588).bind fun t591 => (if 7 + t591.size ≤ 9223372036854775807 then ((spec_GenusOf.f k l0_0 l0_1).bind fun t592 => ((spec_FormatInt.f k t592).bind fun t593 => (if 6 + t593.size ≤ 9223372036854775807 then (if ((⟨#[103, 101, 110, 117, 115, 32]⟩ : ByteArray) ++ t593).size + 9 ≤ 9223372036854775807 then ((spec_StratumOf.f k l0_0 l0_1).bind fun t594 => ((spec_FormatList.f k t594).bind fun t597 => (if (((⟨#[103, 101, 110, 117, 115, 32]⟩ : ByteArray) ++ t593) ++ (⟨#[32, 115, 116, 114, 97, 116, 117, 109, 32]⟩ : ByteArray)).size + t597.size ≤ 9223372036854775807 then ((spec_CountSymmetries.f k l0_0 l0_1).bind fun t598 => ((spec_FormatInt.f k t598).bind fun t599 => (if 11 + t599.size ≤ 9223372036854775807 then (some (([(((⟨#[115, 113, 117, 97, 114, 101, 115, 32]⟩ : ByteArray) ++ t586) ++ (⟨#[32]⟩ : ByteArray)) ++ t587, (⟨#[97, 110, 103, 108, 101, 115, 32]⟩ : ByteArray) ++ t591, (((⟨#[103, 101, 110, 117, 115, 32]⟩ : ByteArray) ++ t593) ++ (⟨#[32, 115, 116, 114, 97, 116, 117, 109, 32]⟩ : ByteArray)) ++ t597, (⟨#[115, 121, 109, 109, 101, 116, 114, 105, 101, 115, 32]⟩ : ByteArray) ++ t599] : List ByteArray))) else (none)))) else (none)))) else (none)) else (none)))) else (none)))) else (none))) else (none)) else (none)) = some r := H
 have A5 := Aside0.mk A50
 clear A50
 by_cases c6 : 8 + t586.size ≤ 9223372036854775807
 {
 rw [if_pos c6] at H
 have c6b0 := eq_true c6
 have c6b1 : decide (8 + t586.size ≤ 9223372036854775807) = true := decide_eq_true c6
 try have c6b2 : (9223372036854775807 < 8 + t586.size) = False := eq_false (Nat.not_lt.2 c6)
 by_cases c7 : ((⟨#[115, 113, 117, 97, 114, 101, 115, 32]⟩ : ByteArray) ++ t586).size + 1 ≤ 9223372036854775807
 {
 rw [if_pos c7] at H
 have c7b0 := eq_true c7
 have c7b1 : decide (((⟨#[115, 113, 117, 97, 114, 101, 115, 32]⟩ : ByteArray) ++ t586).size + 1 ≤ 9223372036854775807) = true := decide_eq_true c7
 try have c7b2 : (9223372036854775807 < ((⟨#[115, 113, 117, 97, 114, 101, 115, 32]⟩ : ByteArray) ++ t586).size + 1) = False := eq_false (Nat.not_lt.2 c7)
 try have c7b3 : (9223372036854775807 < 8 + t586.size + 1) = False := eq_false (Nat.not_lt.2 (by have hz_ := c7; simp only [ByteArray.size_append] at hz_; first | exact hz_ | omega))
 replace H := Option.bind_eq_some_iff.mp H
 obtain ⟨t587, A80, H⟩ := H
 replace H : (if (((⟨#[115, 113, 117, 97, 114, 101, 115, 32]⟩ : ByteArray) ++ t586) ++ (⟨#[32]⟩ : ByteArray)).size + t587.size ≤ 9223372036854775807 then ((spec_AnglesOf.f k l0_0 l0_1).bind fun t588 => ((spec_FormatList.f k t588).bind fun t591 => (if 7 + t591.size ≤ 9223372036854775807 then ((spec_GenusOf.f k l0_0 l0_1).bind fun t592 => ((spec_FormatInt.f k t592).bind fun t593 => (if 6 + t593.size ≤ 9223372036854775807 then (if ((⟨#[103, 101, 110, 117, 115, 32]⟩ : ByteArray) ++ t593).size + 9 ≤ 9223372036854775807 then ((spec_StratumOf.f k l0_0 l0_1).bind fun t594 => ((spec_FormatList.f k t594).bind fun t597 => (if (((⟨#[103, 101, 110, 117, 115, 32]⟩ : ByteArray) ++ t593) ++ (⟨#[32, 115, 116, 114, 97, 116, 117, 109, 32]⟩ : ByteArray)).size + t597.size ≤ 9223372036854775807 then ((spec_CountSymmetries.f k l0_0 l0_1).bind fun t598 => ((spec_FormatInt.f k t598).bind fun t599 => (if 11 + t599.size ≤ 9223372036854775807 then (some (([(((⟨#[115, 113, 117, 97, 114, 101, 115, 32]⟩ : ByteArray) ++ t586) ++ (⟨#[32]⟩ : ByteArray)) ++ t587, (⟨#[97, 110, 103, 108, 101, 115, 32]⟩ : ByteArray) ++ t591, (((⟨#[103, 101, 110, 117, 115, 32]⟩ : ByteArray) ++ t593) ++ (⟨#[32, 115, 116, 114, 97, 116, 117, 109, 32]⟩ : ByteArray)) ++ t597, (⟨#[115, 121, 109, 109, 101, 116, 114, 105, 101, 115, 32]⟩ : ByteArray) ++ t599] : List ByteArray))) else (none)))) else (none)))) else (none)) else (none)))) else (none)))) else (none)) = some r := H
 have A8 := Aside0.mk A80
 clear A80
 by_cases c9 : (((⟨#[115, 113, 117, 97, 114, 101, 115, 32]⟩ : ByteArray) ++ t586) ++ (⟨#[32]⟩ : ByteArray)).size + t587.size ≤ 9223372036854775807
 {
 rw [if_pos c9] at H
 have c9b0 := eq_true c9
 have c9b1 : decide ((((⟨#[115, 113, 117, 97, 114, 101, 115, 32]⟩ : ByteArray) ++ t586) ++ (⟨#[32]⟩ : ByteArray)).size + t587.size ≤ 9223372036854775807) = true := decide_eq_true c9
 try have c9b2 : (9223372036854775807 < (((⟨#[115, 113, 117, 97, 114, 101, 115, 32]⟩ : ByteArray) ++ t586) ++ (⟨#[32]⟩ : ByteArray)).size + t587.size) = False := eq_false (Nat.not_lt.2 c9)
 try have c9b3 : (9223372036854775807 < 8 + t586.size + 1 + t587.size) = False := eq_false (Nat.not_lt.2 (by have hz_ := c9; simp only [ByteArray.size_append] at hz_; first | exact hz_ | omega))
 replace H := Option.bind_eq_some_iff.mp H
 obtain ⟨t588, A100, H⟩ := H
 replace H : ((spec_FormatList.f k t588).bind fun t591 => (if 7 + t591.size ≤ 9223372036854775807 then ((spec_GenusOf.f k l0_0 l0_1).bind fun t592 => ((spec_FormatInt.f k t592).bind fun t593 => (if 6 + t593.size ≤ 9223372036854775807 then (if ((⟨#[103, 101, 110, 117, 115, 32]⟩ : ByteArray) ++ t593).size + 9 ≤ 9223372036854775807 then ((spec_StratumOf.f k l0_0 l0_1).bind fun t594 => ((spec_FormatList.f k t594).bind fun t597 => (if (((⟨#[103, 101, 110, 117, 115, 32]⟩ : ByteArray) ++ t593) ++ (⟨#[32, 115, 116, 114, 97, 116, 117, 109, 32]⟩ : ByteArray)).size + t597.size ≤ 9223372036854775807 then ((spec_CountSymmetries.f k l0_0 l0_1).bind fun t598 => ((spec_FormatInt.f k t598).bind fun t599 => (if 11 + t599.size ≤ 9223372036854775807 then (some (([(((⟨#[115, 113, 117, 97, 114, 101, 115, 32]⟩ : ByteArray) ++ t586) ++ (⟨#[32]⟩ : ByteArray)) ++ t587, (⟨#[97, 110, 103, 108, 101, 115, 32]⟩ : ByteArray) ++ t591, (((⟨#[103, 101, 110, 117, 115, 32]⟩ : ByteArray) ++ t593) ++ (⟨#[32, 115, 116, 114, 97, 116, 117, 109, 32]⟩ : ByteArray)) ++ t597, (⟨#[115, 121, 109, 109, 101, 116, 114, 105, 101, 115, 32]⟩ : ByteArray) ++ t599] : List ByteArray))) else (none)))) else (none)))) else (none)) else (none)))) else (none))) = some r := H
 have A10 := Aside0.mk A100
 clear A100
 replace H := Option.bind_eq_some_iff.mp H
 obtain ⟨t591, A110, H⟩ := H
 replace H : (if 7 + t591.size ≤ 9223372036854775807 then ((spec_GenusOf.f k l0_0 l0_1).bind fun t592 => ((spec_FormatInt.f k t592).bind fun t593 => (if 6 + t593.size ≤ 9223372036854775807 then (if ((⟨#[103, 101, 110, 117, 115, 32]⟩ : ByteArray) ++ t593).size + 9 ≤ 9223372036854775807 then ((spec_StratumOf.f k l0_0 l0_1).bind fun t594 => ((spec_FormatList.f k t594).bind fun t597 => (if (((⟨#[103, 101, 110, 117, 115, 32]⟩ : ByteArray) ++ t593) ++ (⟨#[32, 115, 116, 114, 97, 116, 117, 109, 32]⟩ : ByteArray)).size + t597.size ≤ 9223372036854775807 then ((spec_CountSymmetries.f k l0_0 l0_1).bind fun t598 => ((spec_FormatInt.f k t598).bind fun t599 => (if 11 + t599.size ≤ 9223372036854775807 then (some (([(((⟨#[115, 113, 117, 97, 114, 101, 115, 32]⟩ : ByteArray) ++ t586) ++ (⟨#[32]⟩ : ByteArray)) ++ t587, (⟨#[97, 110, 103, 108, 101, 115, 32]⟩ : ByteArray) ++ t591, (((⟨#[103, 101, 110, 117, 115, 32]⟩ : ByteArray) ++ t593) ++ (⟨#[32, 115, 116, 114, 97, 116, 117, 109, 32]⟩ : ByteArray)) ++ t597, (⟨#[115, 121, 109, 109, 101, 116, 114, 105, 101, 115, 32]⟩ : ByteArray) ++ t599] : List ByteArray))) else (none)))) else (none)))) else (none)) else (none)))) else (none)) = some r := H
 have A11 := Aside0.mk A110
 clear A110
 by_cases c12 : 7 + t591.size ≤ 9223372036854775807
 {
 rw [if_pos c12] at H
 have c12b0 := eq_true c12
 have c12b1 : decide (7 + t591.size ≤ 9223372036854775807) = true := decide_eq_true c12
 try have c12b2 : (9223372036854775807 < 7 + t591.size) = False := eq_false (Nat.not_lt.2 c12)
 replace H := Option.bind_eq_some_iff.mp H
 obtain ⟨t592, A130, H⟩ := H
 replace H : ((spec_FormatInt.f k t592).bind fun t593 => (if 6 + t593.size ≤ 9223372036854775807 then (if ((⟨#[103, 101, 110, 117, 115, 32]⟩ : ByteArray) ++ t593).size + 9 ≤ 9223372036854775807 then ((spec_StratumOf.f k l0_0 l0_1).bind fun t594 => ((spec_FormatList.f k t594).bind fun t597 => (if (((⟨#[103, 101, 110, 117, 115, 32]⟩ : ByteArray) ++ t593) ++ (⟨#[32, 115, 116, 114, 97, 116, 117, 109, 32]⟩ : ByteArray)).size + t597.size ≤ 9223372036854775807 then ((spec_CountSymmetries.f k l0_0 l0_1).bind fun t598 => ((spec_FormatInt.f k t598).bind fun t599 => (if 11 + t599.size ≤ 9223372036854775807 then (some (([(((⟨#[115, 113, 117, 97, 114, 101, 115, 32]⟩ : ByteArray) ++ t586) ++ (⟨#[32]⟩ : ByteArray)) ++ t587, (⟨#[97, 110, 103, 108, 101, 115, 32]⟩ : ByteArray) ++ t591, (((⟨#[103, 101, 110, 117, 115, 32]⟩ : ByteArray) ++ t593) ++ (⟨#[32, 115, 116, 114, 97, 116, 117, 109, 32]⟩ : ByteArray)) ++ t597, (⟨#[115, 121, 109, 109, 101, 116, 114, 105, 101, 115, 32]⟩ : ByteArray) ++ t599] : List ByteArray))) else (none)))) else (none)))) else (none)) else (none))) = some r := H
 have A13 := Aside0.mk A130
 clear A130
 replace H := Option.bind_eq_some_iff.mp H
 obtain ⟨t593, A140, H⟩ := H
 replace H : (if 6 + t593.size ≤ 9223372036854775807 then (if ((⟨#[103, 101, 110, 117, 115, 32]⟩ : ByteArray) ++ t593).size + 9 ≤ 9223372036854775807 then ((spec_StratumOf.f k l0_0 l0_1).bind fun t594 => ((spec_FormatList.f k t594).bind fun t597 => (if (((⟨#[103, 101, 110, 117, 115, 32]⟩ : ByteArray) ++ t593) ++ (⟨#[32, 115, 116, 114, 97, 116, 117, 109, 32]⟩ : ByteArray)).size + t597.size ≤ 9223372036854775807 then ((spec_CountSymmetries.f k l0_0 l0_1).bind fun t598 => ((spec_FormatInt.f k t598).bind fun t599 => (if 11 + t599.size ≤ 9223372036854775807 then (some (([(((⟨#[115, 113, 117, 97, 114, 101, 115, 32]⟩ : ByteArray) ++ t586) ++ (⟨#[32]⟩ : ByteArray)) ++ t587, (⟨#[97, 110, 103, 108, 101, 115, 32]⟩ : ByteArray) ++ t591, (((⟨#[103, 101, 110, 117, 115, 32]⟩ : ByteArray) ++ t593) ++ (⟨#[32, 115, 116, 114, 97, 116, 117, 109, 32]⟩ : ByteArray)) ++ t597, (⟨#[115, 121, 109, 109, 101, 116, 114, 105, 101, 115, 32]⟩ : ByteArray) ++ t599] : List ByteArray))) else (none)))) else (none)))) else (none)) else (none)) = some r := H
 have A14 := Aside0.mk A140
 clear A140
 by_cases c15 : 6 + t593.size ≤ 9223372036854775807
 {
 rw [if_pos c15] at H
 have c15b0 := eq_true c15
 have c15b1 : decide (6 + t593.size ≤ 9223372036854775807) = true := decide_eq_true c15
 try have c15b2 : (9223372036854775807 < 6 + t593.size) = False := eq_false (Nat.not_lt.2 c15)
 by_cases c16 : ((⟨#[103, 101, 110, 117, 115, 32]⟩ : ByteArray) ++ t593).size + 9 ≤ 9223372036854775807
 {
 rw [if_pos c16] at H
 have c16b0 := eq_true c16
 have c16b1 : decide (((⟨#[103, 101, 110, 117, 115, 32]⟩ : ByteArray) ++ t593).size + 9 ≤ 9223372036854775807) = true := decide_eq_true c16
 try have c16b2 : (9223372036854775807 < ((⟨#[103, 101, 110, 117, 115, 32]⟩ : ByteArray) ++ t593).size + 9) = False := eq_false (Nat.not_lt.2 c16)
 try have c16b3 : (9223372036854775807 < 6 + t593.size + 9) = False := eq_false (Nat.not_lt.2 (by have hz_ := c16; simp only [ByteArray.size_append] at hz_; first | exact hz_ | omega))
 replace H := Option.bind_eq_some_iff.mp H
 obtain ⟨t594, A170, H⟩ := H
 replace H : ((spec_FormatList.f k t594).bind fun t597 => (if (((⟨#[103, 101, 110, 117, 115, 32]⟩ : ByteArray) ++ t593) ++ (⟨#[32, 115, 116, 114, 97, 116, 117, 109, 32]⟩ : ByteArray)).size + t597.size ≤ 9223372036854775807 then ((spec_CountSymmetries.f k l0_0 l0_1).bind fun t598 => ((spec_FormatInt.f k t598).bind fun t599 => (if 11 + t599.size ≤ 9223372036854775807 then (some (([(((⟨#[115, 113, 117, 97, 114, 101, 115, 32]⟩ : ByteArray) ++ t586) ++ (⟨#[32]⟩ : ByteArray)) ++ t587, (⟨#[97, 110, 103, 108, 101, 115, 32]⟩ : ByteArray) ++ t591, (((⟨#[103, 101, 110, 117, 115, 32]⟩ : ByteArray) ++ t593) ++ (⟨#[32, 115, 116, 114, 97, 116, 117, 109, 32]⟩ : ByteArray)) ++ t597, (⟨#[115, 121, 109, 109, 101, 116, 114, 105, 101, 115, 32]⟩ : ByteArray) ++ t599] : List ByteArray))) else (none)))) else (none))) = some r := H
 have A17 := Aside0.mk A170
 clear A170
 replace H := Option.bind_eq_some_iff.mp H
 obtain ⟨t597, A180, H⟩ := H
 replace H : (if (((⟨#[103, 101, 110, 117, 115, 32]⟩ : ByteArray) ++ t593) ++ (⟨#[32, 115, 116, 114, 97, 116, 117, 109, 32]⟩ : ByteArray)).size + t597.size ≤ 9223372036854775807 then ((spec_CountSymmetries.f k l0_0 l0_1).bind fun t598 => ((spec_FormatInt.f k t598).bind fun t599 => (if 11 + t599.size ≤ 9223372036854775807 then (some (([(((⟨#[115, 113, 117, 97, 114, 101, 115, 32]⟩ : ByteArray) ++ t586) ++ (⟨#[32]⟩ : ByteArray)) ++ t587, (⟨#[97, 110, 103, 108, 101, 115, 32]⟩ : ByteArray) ++ t591, (((⟨#[103, 101, 110, 117, 115, 32]⟩ : ByteArray) ++ t593) ++ (⟨#[32, 115, 116, 114, 97, 116, 117, 109, 32]⟩ : ByteArray)) ++ t597, (⟨#[115, 121, 109, 109, 101, 116, 114, 105, 101, 115, 32]⟩ : ByteArray) ++ t599] : List ByteArray))) else (none)))) else (none)) = some r := H
 have A18 := Aside0.mk A180
 clear A180
 by_cases c19 : (((⟨#[103, 101, 110, 117, 115, 32]⟩ : ByteArray) ++ t593) ++ (⟨#[32, 115, 116, 114, 97, 116, 117, 109, 32]⟩ : ByteArray)).size + t597.size ≤ 9223372036854775807
 {
 rw [if_pos c19] at H
 have c19b0 := eq_true c19
 have c19b1 : decide ((((⟨#[103, 101, 110, 117, 115, 32]⟩ : ByteArray) ++ t593) ++ (⟨#[32, 115, 116, 114, 97, 116, 117, 109, 32]⟩ : ByteArray)).size + t597.size ≤ 9223372036854775807) = true := decide_eq_true c19
 try have c19b2 : (9223372036854775807 < (((⟨#[103, 101, 110, 117, 115, 32]⟩ : ByteArray) ++ t593) ++ (⟨#[32, 115, 116, 114, 97, 116, 117, 109, 32]⟩ : ByteArray)).size + t597.size) = False := eq_false (Nat.not_lt.2 c19)
 try have c19b3 : (9223372036854775807 < 6 + t593.size + 9 + t597.size) = False := eq_false (Nat.not_lt.2 (by have hz_ := c19; simp only [ByteArray.size_append] at hz_; first | exact hz_ | omega))
 replace H := Option.bind_eq_some_iff.mp H
 obtain ⟨t598, A200, H⟩ := H
 replace H : ((spec_FormatInt.f k t598).bind fun t599 => (if 11 + t599.size ≤ 9223372036854775807 then (some (([(((⟨#[115, 113, 117, 97, 114, 101, 115, 32]⟩ : ByteArray) ++ t586) ++ (⟨#[32]⟩ : ByteArray)) ++ t587, (⟨#[97, 110, 103, 108, 101, 115, 32]⟩ : ByteArray) ++ t591, (((⟨#[103, 101, 110, 117, 115, 32]⟩ : ByteArray) ++ t593) ++ (⟨#[32, 115, 116, 114, 97, 116, 117, 109, 32]⟩ : ByteArray)) ++ t597, (⟨#[115, 121, 109, 109, 101, 116, 114, 105, 101, 115, 32]⟩ : ByteArray) ++ t599] : List ByteArray))) else (none))) = some r := H
 have A20 := Aside0.mk A200
 clear A200
 replace H := Option.bind_eq_some_iff.mp H
 obtain ⟨t599, A210, H⟩ := H
 replace H : (if 11 + t599.size ≤ 9223372036854775807 then (some (([(((⟨#[115, 113, 117, 97, 114, 101, 115, 32]⟩ : ByteArray) ++ t586) ++ (⟨#[32]⟩ : ByteArray)) ++ t587, (⟨#[97, 110, 103, 108, 101, 115, 32]⟩ : ByteArray) ++ t591, (((⟨#[103, 101, 110, 117, 115, 32]⟩ : ByteArray) ++ t593) ++ (⟨#[32, 115, 116, 114, 97, 116, 117, 109, 32]⟩ : ByteArray)) ++ t597, (⟨#[115, 121, 109, 109, 101, 116, 114, 105, 101, 115, 32]⟩ : ByteArray) ++ t599] : List ByteArray))) else (none)) = some r := H
 have A21 := Aside0.mk A210
 clear A210
 by_cases c22 : 11 + t599.size ≤ 9223372036854775807
 {
 rw [if_pos c22] at H
 have c22b0 := eq_true c22
 have c22b1 : decide (11 + t599.size ≤ 9223372036854775807) = true := decide_eq_true c22
 try have c22b2 : (9223372036854775807 < 11 + t599.size) = False := eq_false (Nat.not_lt.2 c22)
 obtain ⟨y600, hy600⟩ : ∃ y_ : List ByteArray, y_ = (([(((⟨#[115, 113, 117, 97, 114, 101, 115, 32]⟩ : ByteArray) ++ t586) ++ (⟨#[32]⟩ : ByteArray)) ++ t587, (⟨#[97, 110, 103, 108, 101, 115, 32]⟩ : ByteArray) ++ t591, (((⟨#[103, 101, 110, 117, 115, 32]⟩ : ByteArray) ++ t593) ++ (⟨#[32, 115, 116, 114, 97, 116, 117, 109, 32]⟩ : ByteArray)) ++ t597, (⟨#[115, 121, 109, 109, 101, 116, 114, 105, 101, 115, 32]⟩ : ByteArray) ++ t599] : List ByteArray)) := ⟨_, rfl⟩
 replace H : (some y600) = some r := by first | (rw [hy600]; with_reducible exact H) | (have H2_ := (Option.bind_some _ _).symm.trans H; rw [hy600]; with_reducible exact H2_) | (have H2_ := (Option.bind_some _ _).symm.trans H; with_reducible exact H2_) | with_reducible exact H | (rw [hy600]; exact H) | exact H
 have Ny600 := Aside0.mk hy600
 clear hy600
 obtain rfl := Option.some.inj H
 go_enter Tryz.func20, Tryz.ntmps20
 try go_wp2_with (first | ((with_reducible refine gate_dst (N := 1) rfl ?_); refine box_event ?hg (N := 1) ?hd (cs := #[.slice A0_0 l0_0.length c0_0, .slice A0_1 l0_1.length c0_1]) (t := 25) ?hr ?_; (case hd => rfl); (case hg => rfl); (case hr => first | (go_simp; done) | (go_simp; rfl)); intro gb583 hg w23 hbox hb; have n0_ := Aside0.mk (below_step (bX HB.out) hb); have n1_ := Aside0.mk (hbox); have n2_ := Aside0.mk ((szX (below_size (bX HB.out)) hg : w.heap.size ≤ gb583)); have n3_ := Aside0.mk ((szX (below_size (bX HB.out)) hg : w.heap.size ≤ gb583)); clear HB; have HB := n0_; have BK583 := n1_; have GW583 := n2_; have GE583 := n3_; clear n0_ n1_ n2_ n3_ hb hbox hg; have hcz24_0 := cz20 BK583.out; have hcz24_1 := cz21 BK583.out; have hfz24_0 := blk_frozen BK583.out 0; have hfz24_1 := blk_frozen BK583.out 1) | ((with_reducible refine gate_callee (f := 50) rfl ?_); refine goesL_ (some 4) rfl rfl Tryz.func50 (by kernel_rfl) rfl #[.agg #[.slice A0_0 l0_0.length c0_0, .slice A0_1 l0_1.length c0_1]] rfl aX ?_; (with_reducible refine (spec_SurfaceOk.calls k _ _ l0_0 _ _ l0_1 true _ ?side1 ?side2 ?side3 ?side4 A2.out).mono ?_); (case side1 => exact cX (Kd.C_below HR0_0.out HB.out)); (case side2 => exact HC0_0.out); (case side3 => exact cX (Kd.C_below HR0_1.out HB.out)); (case side4 => exact HC0_1.out); rintro e w25 ⟨rfl, hb⟩; refine ⟨_, rfl, ?_⟩; have n0_ := Aside0.mk (bbX BK583.out hb); have n1_ := Aside0.mk (below_step (bX1 HB.out GE583.out) hb); clear BK583 HB; have BK583 := n0_; have HB := n1_; clear n0_ n1_; (try clear hb); (try clear hb2); (try clear hk); (try clear hi)))
 have n0_ := Aside0.mk (blk_drew BK583.out)
 have n1_ := Aside0.mk (below_drew1 HB.out)
 clear BK583 HB
 have BK583 := n0_
 have HB := n1_
 clear n0_ n1_
 refine start_ (n := 27) (S := fun w' => w'.cell? ⟨gb583, 0, none⟩ = some (.slice A0_0 l0_0.length c0_0) ∧ w'.cell? ⟨gb583, 1, none⟩ = some (.slice A0_1 l0_1.length c0_1)) (ds := []) #[ff,ff,ff,ff,ff,ff,ff,ff,ff,ff,ff,ff,ff,ff,ff,ff,ff,ff,ff,ff,ff,ff,ff,ff,ff,ff,ff] (by kernel_rfl) rfl rfl ⟨cz20 BK583.out, cz21 BK583.out⟩ (fun hHeld => ?_); refine with_tabW spec_SurfaceLines.tab3 spec_SurfaceLines.bits3 (fun HT_ HW_ => ?_)
 generalize w25.drew = w26 at BK583 HB hHeld ⊢
 refine tX2 0 6 (fl 27 1) rfl rfl HT_.out HW_.out hHeld ?_
 refine tX2 5 11 (fl 27 33) rfl rfl HT_.out HW_.out hHeld ?_
 refine tX2 8 14 (fl 27 289) rfl rfl HT_.out HW_.out hHeld ?_
 refine tX2 12 18 (fl 27 4385) rfl rfl HT_.out HW_.out hHeld ?_
 refine tX2 17 23 (fl 27 135457) rfl rfl HT_.out HW_.out hHeld ?_
 refine tX2 21 27 (fl 27 2232609) rfl rfl HT_.out HW_.out hHeld ?_
 refine one_ (i := 1) (N := some 7) #[tt,tt,ff,ff,ff,tt,ff,ff,tt,ff,ff,ff,tt,ff,ff,ff,ff,tt,ff,ff,ff,tt,ff,ff,ff,ff,ff] rfl rfl (one_of HT_.out (by kernel_rfl)) (by decide) (fun K hK => ?_)
 refine goes_ Tryz.func59 (by kernel_rfl) rfl #[.agg #[.slice A0_0 l0_0.length c0_0, .slice A0_1 l0_1.length c0_1]] (by rfl) rfl rfl aX ?_
 with_reducible refine (spec_CountSquares.calls k _ _ l0_0 _ _ l0_1 t585 _ ?side1 ?side2 ?side3 ?side4 A4.out).mono ?_
 (case side1 => exact cX (Kd.C_below HR0_0.out HB.out))
 (case side2 => exact HC0_0.out)
 (case side3 => exact cX (Kd.C_below HR0_1.out HB.out))
 (case side4 => exact HC0_1.out)
 rintro e w27 ⟨rfl, hb⟩
 refine ⟨_, rfl, ?_⟩
 have n0_ := Aside0.mk (bbX BK583.out hb)
 have n1_ := Aside0.mk (below_step (bX1 HB.out GE583.out) hb)
 clear BK583 HB
 have BK583 := n0_
 have HB := n1_
 clear n0_ n1_
 (try clear hb)
 (try clear hb2)
 (try clear hk)
 (try clear hi)
 refine hK.out _ _ ⟨cz20 BK583.out, cz21 BK583.out⟩ (fun hHeld => ?_)
 clear hK K
 refine norm_ (a' := ?_) ?_ ?_
 rotate_left
 {
 show Act.put _ (some 7) _ = _
 simp only [Act.put, zA, zB, zC, i64_w, i32_w]
 rfl
 }
 refine one_ (i := 2) (N := some 8) #[tt,tt,tt,ff,ff,tt,ff,ff,tt,ff,ff,ff,tt,ff,ff,ff,ff,tt,ff,ff,ff,tt,ff,ff,ff,ff,ff] rfl rfl (one_of HT_.out (by kernel_rfl)) (by decide) (fun K hK => ?_)
 refine goes_ Tryz.func52 (by kernel_rfl) rfl #[.int .i64 t585] (by rfl) rfl rfl aX ?_
 with_reducible refine (spec_FormatInt.calls k t585 t586 _ A5.out).mono ?_
 rintro e w28 ⟨rfl, hb⟩
 refine ⟨_, rfl, ?_⟩
 have n0_ := Aside0.mk (bbX BK583.out hb)
 have n1_ := Aside0.mk (below_step (bX1 HB.out GE583.out) hb)
 clear BK583 HB
 have BK583 := n0_
 have HB := n1_
 clear n0_ n1_
 (try clear hb)
 (try clear hb2)
 (try clear hk)
 (try clear hi)
 refine hK.out _ _ ⟨cz20 BK583.out, cz21 BK583.out⟩ (fun hHeld => ?_)
 clear hK K
 refine norm_ (a' := ?_) ?_ ?_
 rotate_left
 {
 show Act.put _ (some 8) _ = _
 simp only [Act.put, zA, zB, zC, i64_w, i32_w]
 rfl
 }
 refine pX 3 9 (fl 27 2232623) rfl rfl HT_.out ?_
 refine pX 4 10 (fl 27 2232639) rfl rfl HT_.out ?_
 refine one_ (i := 6) (N := some 12) #[tt,tt,tt,tt,tt,tt,tt,ff,tt,ff,ff,ff,tt,ff,ff,ff,ff,tt,ff,ff,ff,tt,ff,ff,ff,ff,ff] rfl rfl (one_of HT_.out (by kernel_rfl)) (by decide) (fun K hK => ?_)
 refine goes_ Tryz.func60 (by kernel_rfl) rfl #[.agg #[.slice A0_0 l0_0.length c0_0, .slice A0_1 l0_1.length c0_1]] (by rfl) rfl rfl aX ?_
 with_reducible refine (spec_FormatSurface.calls k _ _ l0_0 _ _ l0_1 t587 _ ?side1 ?side2 ?side3 ?side4 A8.out).mono ?_
 (case side1 => exact cX (Kd.C_below HR0_0.out HB.out))
 (case side2 => exact HC0_0.out)
 (case side3 => exact cX (Kd.C_below HR0_1.out HB.out))
 (case side4 => exact HC0_1.out)
 rintro e w29 ⟨rfl, hb⟩
 refine ⟨_, rfl, ?_⟩
 have n0_ := Aside0.mk (bbX BK583.out hb)
 have n1_ := Aside0.mk (below_step (bX1 HB.out GE583.out) hb)
 clear BK583 HB
 have BK583 := n0_
 have HB := n1_
 clear n0_ n1_
 (try clear hb)
 (try clear hb2)
 (try clear hk)
 (try clear hi)
 refine hK.out _ _ ⟨cz20 BK583.out, cz21 BK583.out⟩ (fun hHeld => ?_)
 clear hK K
 refine norm_ (a' := ?_) ?_ ?_
 rotate_left
 {
 show Act.put _ (some 12) _ = _
 simp only [Act.put, zA, zB, zC, i64_w, i32_w]
 rfl
 }
 refine pX 7 13 (fl 27 2232831) rfl rfl HT_.out ?_
 refine one_ (i := 9) (N := some 15) #[tt,tt,tt,tt,tt,tt,tt,tt,tt,tt,ff,ff,tt,ff,ff,ff,ff,tt,ff,ff,ff,tt,ff,ff,ff,ff,ff] rfl rfl (one_of HT_.out (by kernel_rfl)) (by decide) (fun K hK => ?_)
 refine goes_ Tryz.func61 (by kernel_rfl) rfl #[.agg #[.slice A0_0 l0_0.length c0_0, .slice A0_1 l0_1.length c0_1]] (by rfl) rfl rfl aX ?_
 with_reducible refine (spec_AnglesOf.calls k _ _ l0_0 _ _ l0_1 t588 _ ?side1 ?side2 ?side3 ?side4 A10.out).mono ?_
 (case side1 => exact cX (Kd.C_below HR0_0.out HB.out))
 (case side2 => exact HC0_0.out)
 (case side3 => exact cX (Kd.C_below HR0_1.out HB.out))
 (case side4 => exact HC0_1.out)
 rintro e w30 ⟨v589, rfl, ho0, hb⟩
 refine ⟨_, rfl, ?_⟩
 have n0_ := Aside0.mk (Kd.R_lower ho0 (below_size (bX1 HB.out GE583.out)))
 have n1_ := Aside0.mk (bbX BK583.out hb)
 have n2_ := Aside0.mk (below_step (bX1 HB.out GE583.out) hb)
 clear BK583 HB
 have HO590 := n0_
 have BK583 := n1_
 have HB := n2_
 clear n0_ n1_ n2_
 (try clear hb)
 (try clear hb2)
 (try clear hk)
 (try clear hi)
 (try clear ho0)
 obtain ⟨Ao31, co31, eo31⟩ := Kd.R_slice HO590.out
 (first | subst eo31 | (injection eo31 with f1_ f2_ f3_; have f4_ := f1_.symm; have f5_ := f3_.symm; clear f1_ f2_ f3_; subst f4_; subst f5_))
 refine hK.out _ _ ⟨cz20 BK583.out, cz21 BK583.out⟩ (fun hHeld => ?_)
 clear hK K
 refine norm_ (a' := ?_) ?_ ?_
 rotate_left
 {
 show Act.put _ (some 15) _ = _
 simp only [Act.put, zA, zB, zC, i64_w, i32_w]
 rfl
 }
 refine one_ (i := 10) (N := some 16) #[tt,tt,tt,tt,tt,tt,tt,tt,tt,tt,tt,ff,tt,ff,ff,ff,ff,tt,ff,ff,ff,tt,ff,ff,ff,ff,ff] rfl rfl (one_of HT_.out (by kernel_rfl)) (by decide) (fun K hK => ?_)
 refine goes_ Tryz.func54 (by kernel_rfl) rfl #[.slice Ao31 t588.length co31] (by rfl) rfl rfl aX ?_
 with_reducible refine (spec_FormatList.calls k _ _ t588 t591 _ ?side1 ?side2 A11.out).mono ?_
 (case side1 => exact cX (Kd.R_reads' HO590.out).2.2)
 (case side2 => exact (Kd.R_reads' HO590.out).2.1)
 rintro e w32 ⟨rfl, hb⟩
 refine ⟨_, rfl, ?_⟩
 have n0_ := Aside0.mk (Kd.R_below (rX HO590.out) hb)
 have n1_ := Aside0.mk (bbX BK583.out hb)
 have n2_ := Aside0.mk (below_step (bX1 HB.out GE583.out) hb)
 clear HO590 BK583 HB
 have HO590 := n0_
 have BK583 := n1_
 have HB := n2_
 clear n0_ n1_ n2_
 (try clear hb)
 (try clear hb2)
 (try clear hk)
 (try clear hi)
 refine hK.out _ _ ⟨cz20 BK583.out, cz21 BK583.out⟩ (fun hHeld => ?_)
 clear hK K
 refine norm_ (a' := ?_) ?_ ?_
 rotate_left
 {
 show Act.put _ (some 16) _ = _
 simp only [Act.put, zA, zB, zC, i64_w, i32_w]
 rfl
 }
 refine pX 11 17 (fl 27 2236415) rfl rfl HT_.out ?_
 refine one_ (i := 13) (N := some 19) #[tt,tt,tt,tt,tt,tt,tt,tt,tt,tt,tt,tt,tt,tt,ff,ff,ff,tt,ff,ff,ff,tt,ff,ff,ff,ff,ff] rfl rfl (one_of HT_.out (by kernel_rfl)) (by decide) (fun K hK => ?_)
 refine goes_ Tryz.func62 (by kernel_rfl) rfl #[.agg #[.slice A0_0 l0_0.length c0_0, .slice A0_1 l0_1.length c0_1]] (by rfl) rfl rfl aX ?_
 with_reducible refine (spec_GenusOf.calls k _ _ l0_0 _ _ l0_1 t592 _ ?side1 ?side2 ?side3 ?side4 A13.out).mono ?_
 (case side1 => exact cX (Kd.C_below HR0_0.out HB.out))
 (case side2 => exact HC0_0.out)
 (case side3 => exact cX (Kd.C_below HR0_1.out HB.out))
 (case side4 => exact HC0_1.out)
 rintro e w33 ⟨rfl, hb⟩
 refine ⟨_, rfl, ?_⟩
 have n0_ := Aside0.mk (Kd.R_below (rX HO590.out) hb)
 have n1_ := Aside0.mk (bbX BK583.out hb)
 have n2_ := Aside0.mk (below_step (bX1 HB.out GE583.out) hb)
 clear HO590 BK583 HB
 have HO590 := n0_
 have BK583 := n1_
 have HB := n2_
 clear n0_ n1_ n2_
 (try clear hb)
 (try clear hb2)
 (try clear hk)
 (try clear hi)
 refine hK.out _ _ ⟨cz20 BK583.out, cz21 BK583.out⟩ (fun hHeld => ?_)
 clear hK K
 refine norm_ (a' := ?_) ?_ ?_
 rotate_left
 {
 show Act.put _ (some 19) _ = _
 simp only [Act.put, zA, zB, zC, i64_w, i32_w]
 rfl
 }
 refine one_ (i := 14) (N := some 20) #[tt,tt,tt,tt,tt,tt,tt,tt,tt,tt,tt,tt,tt,tt,tt,ff,ff,tt,ff,ff,ff,tt,ff,ff,ff,ff,ff] rfl rfl (one_of HT_.out (by kernel_rfl)) (by decide) (fun K hK => ?_)
 refine goes_ Tryz.func52 (by kernel_rfl) rfl #[.int .i64 t592] (by rfl) rfl rfl aX ?_
 with_reducible refine (spec_FormatInt.calls k t592 t593 _ A14.out).mono ?_
 rintro e w34 ⟨rfl, hb⟩
 refine ⟨_, rfl, ?_⟩
 have n0_ := Aside0.mk (Kd.R_below (rX HO590.out) hb)
 have n1_ := Aside0.mk (bbX BK583.out hb)
 have n2_ := Aside0.mk (below_step (bX1 HB.out GE583.out) hb)
 clear HO590 BK583 HB
 have HO590 := n0_
 have BK583 := n1_
 have HB := n2_
 clear n0_ n1_ n2_
 (try clear hb)
 (try clear hb2)
 (try clear hk)
 (try clear hi)
 refine hK.out _ _ ⟨cz20 BK583.out, cz21 BK583.out⟩ (fun hHeld => ?_)
 clear hK K
 refine norm_ (a' := ?_) ?_ ?_
 rotate_left
 {
 show Act.put _ (some 20) _ = _
 simp only [Act.put, zA, zB, zC, i64_w, i32_w]
 rfl
 }
 refine pX 15 21 (fl 27 2293759) rfl rfl HT_.out ?_
 refine pX 16 22 (fl 27 2359295) rfl rfl HT_.out ?_
 refine one_ (i := 18) (N := some 24) #[tt,tt,tt,tt,tt,tt,tt,tt,tt,tt,tt,tt,tt,tt,tt,tt,tt,tt,tt,ff,ff,tt,ff,ff,ff,ff,ff] rfl rfl (one_of HT_.out (by kernel_rfl)) (by decide) (fun K hK => ?_)
 refine goes_ Tryz.func63 (by kernel_rfl) rfl #[.agg #[.slice A0_0 l0_0.length c0_0, .slice A0_1 l0_1.length c0_1]] (by rfl) rfl rfl aX ?_
 with_reducible refine (spec_StratumOf.calls k _ _ l0_0 _ _ l0_1 t594 _ ?side1 ?side2 ?side3 ?side4 A17.out).mono ?_
 (case side1 => exact cX (Kd.C_below HR0_0.out HB.out))
 (case side2 => exact HC0_0.out)
 (case side3 => exact cX (Kd.C_below HR0_1.out HB.out))
 (case side4 => exact HC0_1.out)
 rintro e w35 ⟨v595, rfl, ho0, hb⟩
 refine ⟨_, rfl, ?_⟩
 have n0_ := Aside0.mk (Kd.R_elder' (rX HO590.out) (Kd.R_base ho0) hb)
 have n1_ := Aside0.mk (Kd.R_lower (Kd.R_new' ho0 (Kd.R_lt (rX HO590.out))) (below_size (bX1 HB.out GE583.out)))
 have n2_ := Aside0.mk (bbX BK583.out hb)
 have n3_ := Aside0.mk (below_step (bX1 HB.out GE583.out) hb)
 clear HO590 BK583 HB
 have HO590 := n0_
 have HO596 := n1_
 have BK583 := n2_
 have HB := n3_
 clear n0_ n1_ n2_ n3_
 (try clear hb)
 (try clear hb2)
 (try clear hk)
 (try clear hi)
 (try clear ho0)
 obtain ⟨Ao36, co36, eo36⟩ := Kd.R_slice HO596.out
 (first | subst eo36 | (injection eo36 with f1_ f2_ f3_; have f4_ := f1_.symm; have f5_ := f3_.symm; clear f1_ f2_ f3_; subst f4_; subst f5_))
 refine hK.out _ _ ⟨cz20 BK583.out, cz21 BK583.out⟩ (fun hHeld => ?_)
 clear hK K
 refine norm_ (a' := ?_) ?_ ?_
 rotate_left
 {
 show Act.put _ (some 24) _ = _
 simp only [Act.put, zA, zB, zC, i64_w, i32_w]
 rfl
 }
 refine one_ (i := 19) (N := some 25) #[tt,tt,tt,tt,tt,tt,tt,tt,tt,tt,tt,tt,tt,tt,tt,tt,tt,tt,tt,tt,ff,tt,ff,ff,ff,ff,ff] rfl rfl (one_of HT_.out (by kernel_rfl)) (by decide) (fun K hK => ?_)
 refine goes_ Tryz.func54 (by kernel_rfl) rfl #[.slice Ao36 t594.length co36] (by rfl) rfl rfl aX ?_
 with_reducible refine (spec_FormatList.calls k _ _ t594 t597 _ ?side1 ?side2 A18.out).mono ?_
 (case side1 => exact cX (Kd.R_reads' HO596.out).2.2)
 (case side2 => exact (Kd.R_reads' HO596.out).2.1)
 rintro e w37 ⟨rfl, hb⟩
 refine ⟨_, rfl, ?_⟩
 have n0_ := Aside0.mk (Kd.R_below (rX HO590.out) hb)
 have n1_ := Aside0.mk (Kd.R_below (rX HO596.out) hb)
 have n2_ := Aside0.mk (bbX BK583.out hb)
 have n3_ := Aside0.mk (below_step (bX1 HB.out GE583.out) hb)
 clear HO590 HO596 BK583 HB
 have HO590 := n0_
 have HO596 := n1_
 have BK583 := n2_
 have HB := n3_
 clear n0_ n1_ n2_ n3_
 (try clear hb)
 (try clear hb2)
 (try clear hk)
 (try clear hi)
 refine hK.out _ _ ⟨cz20 BK583.out, cz21 BK583.out⟩ (fun hHeld => ?_)
 clear hK K
 refine norm_ (a' := ?_) ?_ ?_
 rotate_left
 {
 show Act.put _ (some 25) _ = _
 simp only [Act.put, zA, zB, zC, i64_w, i32_w]
 rfl
 }
 refine pX 20 26 (fl 27 4194303) rfl rfl HT_.out ?_
 refine one_ (i := 22) (N := some 28) #[tt,tt,tt,tt,tt,tt,tt,tt,tt,tt,tt,tt,tt,tt,tt,tt,tt,tt,tt,tt,tt,tt,tt,ff,ff,ff,ff] rfl rfl (one_of HT_.out (by kernel_rfl)) (by decide) (fun K hK => ?_)
 refine goes_ Tryz.func64 (by kernel_rfl) rfl #[.agg #[.slice A0_0 l0_0.length c0_0, .slice A0_1 l0_1.length c0_1]] (by rfl) rfl rfl aX ?_
 with_reducible refine (spec_CountSymmetries.calls k _ _ l0_0 _ _ l0_1 t598 _ ?side1 ?side2 ?side3 ?side4 A20.out).mono ?_
 (case side1 => exact cX (Kd.C_below HR0_0.out HB.out))
 (case side2 => exact HC0_0.out)
 (case side3 => exact cX (Kd.C_below HR0_1.out HB.out))
 (case side4 => exact HC0_1.out)
 rintro e w38 ⟨rfl, hb⟩
 refine ⟨_, rfl, ?_⟩
 have n0_ := Aside0.mk (Kd.R_below (rX HO590.out) hb)
 have n1_ := Aside0.mk (Kd.R_below (rX HO596.out) hb)
 have n2_ := Aside0.mk (bbX BK583.out hb)
 have n3_ := Aside0.mk (below_step (bX1 HB.out GE583.out) hb)
 clear HO590 HO596 BK583 HB
 have HO590 := n0_
 have HO596 := n1_
 have BK583 := n2_
 have HB := n3_
 clear n0_ n1_ n2_ n3_
 (try clear hb)
 (try clear hb2)
 (try clear hk)
 (try clear hi)
 refine hK.out _ _ ⟨cz20 BK583.out, cz21 BK583.out⟩ (fun hHeld => ?_)
 clear hK K
 refine norm_ (a' := ?_) ?_ ?_
 rotate_left
 {
 show Act.put _ (some 28) _ = _
 simp only [Act.put, zA, zB, zC, i64_w, i32_w]
 rfl
 }
 refine one_ (i := 23) (N := some 29) #[tt,tt,tt,tt,tt,tt,tt,tt,tt,tt,tt,tt,tt,tt,tt,tt,tt,tt,tt,tt,tt,tt,tt,tt,ff,ff,ff] rfl rfl (one_of HT_.out (by kernel_rfl)) (by decide) (fun K hK => ?_)
 refine goes_ Tryz.func52 (by kernel_rfl) rfl #[.int .i64 t598] (by rfl) rfl rfl aX ?_
 with_reducible refine (spec_FormatInt.calls k t598 t599 _ A21.out).mono ?_
 rintro e w39 ⟨rfl, hb⟩
 refine ⟨_, rfl, ?_⟩
 have n0_ := Aside0.mk (Kd.R_below (rX HO590.out) hb)
 have n1_ := Aside0.mk (Kd.R_below (rX HO596.out) hb)
 have n2_ := Aside0.mk (bbX BK583.out hb)
 have n3_ := Aside0.mk (below_step (bX1 HB.out GE583.out) hb)
 clear HO590 HO596 BK583 HB
 have HO590 := n0_
 have HO596 := n1_
 have BK583 := n2_
 have HB := n3_
 clear n0_ n1_ n2_ n3_
 (try clear hb)
 (try clear hb2)
 (try clear hk)
 (try clear hi)
 refine hK.out _ _ ⟨cz20 BK583.out, cz21 BK583.out⟩ (fun hHeld => ?_)
 clear hK K
 refine norm_ (a' := ?_) ?_ ?_
 rotate_left
 {
 show Act.put _ (some 29) _ = _
 simp only [Act.put, zA, zB, zC, i64_w, i32_w]
 rfl
 }
 refine pX 24 30 (fl 27 33554431) rfl rfl HT_.out ?_
 refine one_ (i := 25) (N := some 31) #[tt,tt,tt,tt,tt,tt,tt,tt,tt,tt,tt,tt,tt,tt,tt,tt,tt,tt,tt,tt,tt,tt,tt,tt,tt,tt,ff] rfl rfl (one_of HT_.out (by kernel_rfl)) (by decide) (fun K hK => ?_)
 refine Kd.R_lit_step Kd.string _ 9 ?hg (N := 31) ?hd (xs := ([(((⟨#[115, 113, 117, 97, 114, 101, 115, 32]⟩ : ByteArray) ++ t586) ++ (⟨#[32]⟩ : ByteArray)) ++ t587, (⟨#[97, 110, 103, 108, 101, 115, 32]⟩ : ByteArray) ++ t591, (((⟨#[103, 101, 110, 117, 115, 32]⟩ : ByteArray) ++ t593) ++ (⟨#[32, 115, 116, 114, 97, 116, 117, 109, 32]⟩ : ByteArray)) ++ t597, (⟨#[115, 121, 109, 109, 101, 116, 114, 105, 101, 115, 32]⟩ : ByteArray) ++ t599] : List ByteArray)) (inner := [.string ((((⟨#[115, 113, 117, 97, 114, 101, 115, 32]⟩ : ByteArray) ++ t586) ++ (⟨#[32]⟩ : ByteArray)) ++ t587), .string ((⟨#[97, 110, 103, 108, 101, 115, 32]⟩ : ByteArray) ++ t591), .string ((((⟨#[103, 101, 110, 117, 115, 32]⟩ : ByteArray) ++ t593) ++ (⟨#[32, 115, 116, 114, 97, 116, 117, 109, 32]⟩ : ByteArray)) ++ t597), .string ((⟨#[115, 121, 109, 109, 101, 116, 114, 105, 101, 115, 32]⟩ : ByteArray) ++ t599)]) (ok := fun _ => True) (okp := fun _ => True) ?hr ?hp (fun _ hk => hk) trivial (Below.refl _ _) (Nat.le_refl _) (by simp) ?_; (case hd => rfl); (case hg => rfl); (case hr => first | (go_simp; done) | (go_simp; rfl)); (case hp => exact (Reps.one (show Kd.M Kd.string _ _ _ ((((⟨#[115, 113, 117, 97, 114, 101, 115, 32]⟩ : ByteArray) ++ t586) ++ (⟨#[32]⟩ : ByteArray)) ++ t587) [.string ((((⟨#[115, 113, 117, 97, 114, 101, 115, 32]⟩ : ByteArray) ++ t586) ++ (⟨#[32]⟩ : ByteArray)) ++ t587)] from rfl) (Reps.one (show Kd.M Kd.string _ _ _ ((⟨#[97, 110, 103, 108, 101, 115, 32]⟩ : ByteArray) ++ t591) [.string ((⟨#[97, 110, 103, 108, 101, 115, 32]⟩ : ByteArray) ++ t591)] from rfl) (Reps.one (show Kd.M Kd.string _ _ _ ((((⟨#[103, 101, 110, 117, 115, 32]⟩ : ByteArray) ++ t593) ++ (⟨#[32, 115, 116, 114, 97, 116, 117, 109, 32]⟩ : ByteArray)) ++ t597) [.string ((((⟨#[103, 101, 110, 117, 115, 32]⟩ : ByteArray) ++ t593) ++ (⟨#[32, 115, 116, 114, 97, 116, 117, 109, 32]⟩ : ByteArray)) ++ t597)] from rfl) (Reps.one (show Kd.M Kd.string _ _ _ ((⟨#[115, 121, 109, 109, 101, 116, 114, 105, 101, 115, 32]⟩ : ByteArray) ++ t599) [.string ((⟨#[115, 121, 109, 109, 101, 116, 114, 105, 101, 115, 32]⟩ : ByteArray) ++ t599)] from rfl) (Reps.none _ _))))))
 intro v601 w40 ho41 hb hg_ hnew_
 clear hg_ hnew_
 (first | rw [← Ny600.out] at ho41 | (simp only [Int.reduceToNat] at ho41; rw [← Ny600.out] at ho41))
 have n0_ := Aside0.mk (Kd.R_below (rX HO590.out) hb)
 have n1_ := Aside0.mk (Kd.R_below (rX HO596.out) hb)
 have n2_ := Aside0.mk (Kd.R_lower ho41 (below_size (bX1 HB.out GE583.out)))
 have n3_ := Aside0.mk (bbX BK583.out hb)
 have n4_ := Aside0.mk (below_step (bX1 HB.out GE583.out) hb)
 clear HO590 HO596 BK583 HB
 have HO590 := n0_
 have HO596 := n1_
 have HO602 := n2_
 have BK583 := n3_
 have HB := n4_
 clear n0_ n1_ n2_ n3_ n4_ hb ho41
 refine hK.out _ _ ⟨cz20 BK583.out, cz21 BK583.out⟩ (fun hHeld => ?_)
 clear hK K
 refine norm_ (a' := ?_) ?_ ?_
 rotate_left
 {
 show Act.put _ (some 31) _ = _
 simp only [Act.put, zA, zB, zC, i64_w, i32_w]
 rfl
 }
 refine pX 26 2 (fl 27 134217727) rfl rfl HT_.out ?_
 refine done_ (done_of HT_.out (by kernel_rfl)) ?_
 try go_wp2
 go_ret
 exact ⟨_, eX, by (with_reducible repeat (first|apply rA|apply rN|apply rD)); exact HO602.out, bX1 HB.out GE583.out⟩
 }
 {
 rw [if_neg c22] at H
 exact absurd H (by simp)
 }
 }
 {
 rw [if_neg c19] at H
 exact absurd H (by simp)
 }
 }
 {
 rw [if_neg c16] at H
 exact absurd H (by simp)
 }
 }
 {
 rw [if_neg c15] at H
 exact absurd H (by simp)
 }
 }
 {
 rw [if_neg c12] at H
 exact absurd H (by simp)
 }
 }
 {
 rw [if_neg c9] at H
 exact absurd H (by simp)
 }
 }
 {
 rw [if_neg c7] at H
 exact absurd H (by simp)
 }
 }
 {
 rw [if_neg c6] at H
 exact absurd H (by simp)
 }
 }
 {
 replace c3 := Bool.eq_false_iff.mpr c3
 subst c3
 have H1 : (some ([] : List ByteArray)) = some r := by rw [if_neg (show ¬ (false = true) by decide)] at H; exact H
 clear H
 have H := H1
 clear H1
 obtain rfl := Option.some.inj H
 go_enter Tryz.func20, Tryz.ntmps20
 go_wp2_with (first | ((with_reducible refine gate_dst (N := 1) rfl ?_); refine box_event ?hg (N := 1) ?hd (cs := #[.slice A0_0 l0_0.length c0_0, .slice A0_1 l0_1.length c0_1]) (t := 25) ?hr ?_; (case hd => rfl); (case hg => rfl); (case hr => first | (go_simp; done) | (go_simp; rfl)); intro gb583 hg w42 hbox hb; have n0_ := Aside0.mk (below_step (bX HB.out) hb); have n1_ := Aside0.mk (hbox); have n2_ := Aside0.mk ((szX (below_size (bX HB.out)) hg : w.heap.size ≤ gb583)); have n3_ := Aside0.mk ((szX (below_size (bX HB.out)) hg : w.heap.size ≤ gb583)); clear HB; have HB := n0_; have BK583 := n1_; have GW583 := n2_; have GE583 := n3_; clear n0_ n1_ n2_ n3_ hb hbox hg; have hcz43_0 := cz20 BK583.out; have hcz43_1 := cz21 BK583.out; have hfz43_0 := blk_frozen BK583.out 0; have hfz43_1 := blk_frozen BK583.out 1) | ((with_reducible refine gate_callee (f := 50) rfl ?_); refine goesL_ (some 4) rfl rfl Tryz.func50 (by kernel_rfl) rfl #[.agg #[.slice A0_0 l0_0.length c0_0, .slice A0_1 l0_1.length c0_1]] rfl aX ?_; (with_reducible refine (spec_SurfaceOk.calls k _ _ l0_0 _ _ l0_1 false _ ?side1 ?side2 ?side3 ?side4 A2.out).mono ?_); (case side1 => exact cX (Kd.C_below HR0_0.out HB.out)); (case side2 => exact HC0_0.out); (case side3 => exact cX (Kd.C_below HR0_1.out HB.out)); (case side4 => exact HC0_1.out); rintro e w44 ⟨rfl, hb⟩; refine ⟨_, rfl, ?_⟩; have n0_ := Aside0.mk (bbX BK583.out hb); have n1_ := Aside0.mk (below_step (bX1 HB.out GE583.out) hb); clear BK583 HB; have BK583 := n0_; have HB := n1_; clear n0_ n1_; (try clear hb); (try clear hb2); (try clear hk); (try clear hi)))
 go_ret
 exact ⟨_, eX, by first | exact Kd.R_nil _ _ _ _ _ | exact Kd.N_nil _ _ _ _ _ | exact Kd.V_nil _ _ _ _ _ | exact Kd.Q_nil _ _ _ _ _ | exact Kd.S_nil _ _ _ _ _, bX1 HB.out GE583.out⟩
 }

/-! ### laws_eqStringS: function 21 -/
def laws_eqStringS.l0 : Nat → List ByteArray → List ByteArray → Int → Option (Bool)
 | 0, _, _, _ => none
 | k + 1, x0, x1, x5 => if x5 < (x0.length : Int) then (if 0 ≤ x5 then (if x5 < (x1.length : Int) then (if (rdOf ByteArray.empty x0 x5).toList = (rdOf ByteArray.empty x1 x5).toList then (laws_eqStringS.l0 k x0 x1 (wrap64 (x5 + 1))) else (some false)) else (none)) else (none)) else (some true)
def laws_eqStringS.f (k : Nat) (l0 : List ByteArray) (l1 : List ByteArray) : Option (Bool) := if (l0.length : Int) = (l1.length : Int) then (laws_eqStringS.l0 k l0 l1 0) else (some false)
set_option maxHeartbeats 8000000 in
set_option maxRecDepth 100000 in
theorem laws_eqStringS.calls (k : Nat) (A0 : Option Addr) (c0 : Nat) (l0 : List ByteArray) (A1 : Option Addr) (c1 : Nat) (l1 : List ByteArray) (r : Bool) (w : World) (hr0 : Kd.C Kd.string w A0 l0.length l0) (hc0 : l0.length ≤ c0) (hr1 : Kd.C Kd.string w A1 l1.length l1) (hc1 : l1.length ≤ c1) (h : laws_eqStringS.f k l0 l1 = some r) :
  Calls Tryz.prog 21 #[.slice A0 l0.length c0, .slice A1 l1.length c1] w fun e w' => e = .returned (.bool r) ∧ Drawn0 w w' := by
 have HR0 := Aside0.mk hr0
 have HC0 := Aside0.mk hc0
 clear hr0 hc0
 have HR1 := Aside0.mk hr1
 have HC1 := Aside0.mk hc1
 clear hr1 hc1
 have H : (if (l0.length : Int) = (l1.length : Int) then (laws_eqStringS.l0 k l0 l1 0) else (some false)) = some r := h
 clear h
 by_cases c3 : (l0.length : Int) = (l1.length : Int)
 {
 rw [if_pos c3] at H
 have c3b0 : ((l0.length : Int) == (l1.length : Int)) = true := beq_iff_eq.mpr c3
 have c3b1 : ((l0.length : Int) != (l1.length : Int)) = false := bne_eq_false_iff_eq.mpr c3
 have c3b2 : (l0.length == l1.length) = true := by first | simpa using c3 | (simp at c3 ⊢; omega)
 clear c3
 have H' := Aside0.mk H
 clear H
 go_enter Tryz.func21, Tryz.ntmps21
 go_wp2
 repeat (go_quiet (fail); try go_wp2)
 go_loopg [5] k (fun kq v5 w' => ∃ (x5_1 : Int), v5 = .int .i64 x5_1 ∧ Aside0 (laws_eqStringS.l0 kq l0 l1 x5_1 = some r) ∧ Aside0 (kq ≤ k) ∧ Drawn0 w w')
 case atStart => exact ⟨(0), vX, H', ⟨Nat.le_refl _⟩, by repeat (first | exact Drawn0.refl _ | apply Drawn0.step)⟩
 case round =>
 clear H'
 try clear c1
 try clear c2
 try clear p2
 try clear c3
 try clear c3b0
 try clear c3b1
 try clear c3b2
 obtain ⟨x5_1, rfl, HA, HK1, ⟨m1, rfl⟩⟩ := hrel
 cases gk with
 | zero => exact absurd HA.out (by simp [laws_eqStringS.l0])
 | succ k1 =>
 have H := HA.out
 clear HA
 simp only [laws_eqStringS.l0] at H
 by_cases c4 : x5_1 < (l0.length : Int)
 {
 rw [if_pos c4] at H
 have c4b0 : decide (x5_1 < (l0.length : Int)) = true := decide_eq_true c4
 clear c4
 by_cases c5 : 0 ≤ x5_1
 {
 rw [if_pos c5] at H
 have c5b0 : decide (0 ≤ x5_1) = true := decide_eq_true c5
 clear c5
 by_cases c6 : x5_1 < (l1.length : Int)
 {
 rw [if_pos c6] at H
 have c6b0 : decide (x5_1 < (l1.length : Int)) = true := decide_eq_true c6
 clear c6
 by_cases c7 : (rdOf ByteArray.empty l0 x5_1).toList = (rdOf ByteArray.empty l1 x5_1).toList
 {
 rw [if_pos c7] at H
 have c7b0 : ((rdOf ByteArray.empty l0 x5_1).toList == (rdOf ByteArray.empty l1 x5_1).toList) = true := beq_iff_eq.mpr c7
 have c7b1 : ((rdOf ByteArray.empty l0 x5_1).toList != (rdOf ByteArray.empty l1 x5_1).toList) = false := bne_eq_false_iff_eq.mpr c7
 clear c7
 have H' := Aside0.mk H
 clear H
 have p603 : 0 ≤ (x5_1 : Int) := dX
 have q603 : x5_1 < (l0.length : Int) := dX
 obtain ⟨ad603, e603, hx603_0⟩ := Kd.at_string HR0.out x5_1 p603 q603
 cases e603
 replace p603 := eq_true p603
 replace q603 := eq_true q603
 have p604 : 0 ≤ (x5_1 : Int) := dX
 have q604 : x5_1 < (l1.length : Int) := dX
 obtain ⟨ad604, e604, hx604_0⟩ := Kd.at_string HR1.out x5_1 p604 q604
 cases e604
 replace p604 := eq_true p604
 replace q604 := eq_true q604
 go_wp2
 repeat (go_quiet (fail); try go_wp2)
 go_roundg k1
 case measure => have := HK1.out; omega
 case rel => exact ⟨(wrap64 (x5_1 + 1)), vX, H', ⟨by have := HK1.out; omega⟩, by repeat (first | exact Drawn0.refl _ | apply Drawn0.step)⟩
 }
 {
 rw [if_neg c7] at H
 have c7b0 : ((rdOf ByteArray.empty l0 x5_1).toList == (rdOf ByteArray.empty l1 x5_1).toList) = false := beq_eq_false_iff_ne.mpr c7
 have c7b1 : ((rdOf ByteArray.empty l0 x5_1).toList != (rdOf ByteArray.empty l1 x5_1).toList) = true := bne_iff_ne.mpr c7
 obtain rfl := Option.some.inj H
 have p603 : 0 ≤ (x5_1 : Int) := dX
 have q603 : x5_1 < (l0.length : Int) := dX
 obtain ⟨ad603, e603, hx603_0⟩ := Kd.at_string HR0.out x5_1 p603 q603
 cases e603
 replace p603 := eq_true p603
 replace q603 := eq_true q603
 have p604 : 0 ≤ (x5_1 : Int) := dX
 have q604 : x5_1 < (l1.length : Int) := dX
 obtain ⟨ad604, e604, hx604_0⟩ := Kd.at_string HR1.out x5_1 p604 q604
 cases e604
 replace p604 := eq_true p604
 replace q604 := eq_true q604
 go_wp2
 repeat (go_quiet (fail); try go_wp2)
 go_ret
 exact ⟨by first | rfl | (simp; done) | (simp [*]; done), by repeat (first | exact Drawn0.refl _ | apply Drawn0.step)⟩
 }
 }
 {
 rw [if_neg c6] at H
 exact absurd H (by simp)
 }
 }
 {
 rw [if_neg c5] at H
 exact absurd H (by simp)
 }
 }
 {
 rw [if_neg c4] at H
 have c4b0 : decide (x5_1 < (l0.length : Int)) = false := decide_eq_false c4
 clear c4
 obtain rfl := Option.some.inj H
 go_wp2
 repeat (go_quiet (fail); try go_wp2)
 go_ret
 exact ⟨by first | rfl | (simp; done) | (simp [*]; done), by repeat (first | exact Drawn0.refl _ | apply Drawn0.step)⟩
 }
 }
 {
 rw [if_neg c3] at H
 have c3b0 : ((l0.length : Int) == (l1.length : Int)) = false := beq_eq_false_iff_ne.mpr c3
 have c3b1 : ((l0.length : Int) != (l1.length : Int)) = true := bne_iff_ne.mpr c3
 have c3b2 : (l0.length == l1.length) = false := by first | simpa using c3 | (simp at c3 ⊢; omega)
 obtain rfl := Option.some.inj H
 go_enter Tryz.func21, Tryz.ntmps21
 go_wp2
 repeat (go_quiet (fail); try go_wp2)
 go_ret
 exact ⟨by first | rfl | (simp; done) | (simp [*]; done), by repeat (first | exact Drawn0.refl _ | apply Drawn0.step)⟩
 }

/-! ### laws_markIntS: function 65 -/
def laws_markIntS.l0 : Nat → List Int → Int → Int → Option (Int × List Int)
 | 0, _, _, _ => none
 | k + 1, x0, x1, x5 => if x5 < (x0.length : Int) then (if 0 ≤ x5 then (laws_markIntS.l0 k (x0.set (x5 : Int).toNat x1) (wrap64 (x1 + 1)) (wrap64 (x5 + 1))) else (none)) else (some (x1, x0))
def laws_markIntS.f (k : Nat) (l0 : List Int) (a1 : Int) : Option (Int × List Int) := laws_markIntS.l0 k l0 a1 0
set_option maxHeartbeats 8000000 in
set_option maxRecDepth 100000 in
theorem laws_markIntS.calls (k : Nat) (P0_ : Nat → Prop) (u9000_ : Value) (l0 : List Int) (a1 : Int) (r1 : Int) (r2 : List Int) (w0 w : World) (hB : Below w0.heap.size w0 w) (ho0 : Kd.R (Kd.int .i64) 3 w w0.heap.size P0_ u9000_ l0) (h : laws_markIntS.f k l0 a1 = some (r1, r2)) :
  Calls Tryz.prog 65 #[u9000_, .int .i64 a1] w fun e w' => e = .returned (.int .i64 r1) ∧ Kd.R (Kd.int .i64) 3 w' w0.heap.size (fun k_ => (P0_ k_ ∨ w.heap.size ≤ k_)) u9000_ r2 ∧ Below w0.heap.size w0 w' ∧ Kept w w' (fun k_ => P0_ k_) := by
 have HO0 := Aside0.mk (show Kd.R (Kd.int .i64) 3 w w0.heap.size (fun k_ => (P0_ k_ ∨ w.heap.size ≤ k_)) u9000_ l0 from Kd.R_mono ho0 (fun k_ hk => (.inl hk)))
 have HK := Aside0.mk (Kept.refl w (fun k_ => P0_ k_))
 have HW0 := Aside0.mk hB.size
 have HB := Aside0.mk hB
 clear hB
 have H : (laws_markIntS.l0 k l0 a1 0) = some (r1, r2) := h
 clear h
 have H' := Aside0.mk H
 clear H
 go_enter Tryz.func65, Tryz.ntmps65
 go_wp2
 go_loopg [1, 5] k (fun kq v1 v5 w' => ∃ (x0_1 : List Int) (x1_1 : Int) (x5_1 : Int), v1 = .int .i64 x1_1 ∧ v5 = .int .i64 x5_1 ∧ Aside0 (laws_markIntS.l0 kq x0_1 x1_1 x5_1 = some (r1, r2)) ∧ Aside0 (kq ≤ k) ∧ Aside0 (Kd.R (Kd.int .i64) 3 w' w0.heap.size (fun k_ => (P0_ k_ ∨ w.heap.size ≤ k_)) u9000_ x0_1) ∧ Aside0 (Kept w w' (fun k_ => P0_ k_)) ∧ Aside0 (Below w0.heap.size w0 w'))
 case atStart => exact ⟨(l0), (a1), (0), vX, vX, H', ⟨Nat.le_refl _⟩, ⟨rX HO0.out⟩, ⟨by repeat (first | (with_reducible first | exact HK.out | apply Kept.alloc | apply Kept.drewN | apply Kept.drew) | exact HK.out)⟩, ⟨bX HB.out⟩⟩
 case round =>
 clear H'
 try clear p2
 obtain ⟨x0_1, x1_1, x5_1, rfl, rfl, HA, HK1, HO_0, HK, HB⟩ := hrel
 cases gk with
 | zero => exact absurd HA.out (by simp [laws_markIntS.l0])
 | succ k1 =>
 have H := HA.out
 clear HA
 simp only [laws_markIntS.l0] at H
 by_cases c3 : x5_1 < (x0_1.length : Int)
 {
 rw [if_pos c3] at H
 have c3b0 : decide (x5_1 < (x0_1.length : Int)) = true := decide_eq_true c3
 clear c3
 by_cases c4 : 0 ≤ x5_1
 {
 rw [if_pos c4] at H
 have c4b0 : decide (0 ≤ x5_1) = true := decide_eq_true c4
 clear c4
 obtain ⟨y605, hy605⟩ : ∃ y_ : List Int, y_ = (x0_1.set (x5_1 : Int).toNat x1_1) := ⟨_, rfl⟩
 replace H : (laws_markIntS.l0 k1 y605 (wrap64 (x1_1 + 1)) (wrap64 (x5_1 + 1))) = some (r1, r2) := by first | (rw [hy605]; with_reducible exact H) | (have H2_ := (Option.bind_some _ _).symm.trans H; rw [hy605]; with_reducible exact H2_) | (have H2_ := (Option.bind_some _ _).symm.trans H; with_reducible exact H2_) | with_reducible exact H | (rw [hy605]; exact H) | exact H
 have Ny605 := Aside0.mk hy605
 clear hy605
 have H' := Aside0.mk H
 clear H
 obtain ⟨Ao6, co6, eo6⟩ := Kd.R_slice HO_0.out
 subst eo6
 have p5 : 0 ≤ (x5_1 : Int) := dX
 have q5 : (x5_1 : Int) < ((x0_1.length : Int) : Int) := dX
 obtain ⟨go5, co5, eo5, gb5, gl5, cl5, HG5⟩ := Kd.R_form HO_0.out (by omega)
 (first | cases eo5 | (injection eo5 with ea_ en_ ec_; (first | subst ea_ | (injection ea_ with ea_; subst ea_)); subst ec_; clear en_))
 have GB5 := Aside0.mk gb5
 have GG5 := Aside0.mk HG5
 clear gb5 gl5 HG5
 have HMgo5 := Aside0.mk (show (P0_ go5 ∨ w.heap.size ≤ go5) from (HO_0.out.1 _ rfl))
 obtain ⟨hx5_0, hf5_0⟩ := Kd.R_celln 0 HO_0.out (x5_1 : Int) p5 q5
 replace p5 := eq_true p5
 replace q5 := eq_true q5
 have HP7 := Kd.R_putg HO_0.out (x5_1 : Int) x1_1
 go_wp2_with (first | ((with_reducible refine gate_store (t := 3) (p := 15) rfl ?_); refine store_event (t := 3) (p := 15) (v := ?vo_w8) (w1 := (wr.setCell ⟨go5, (x5_1 : Int).toNat, none⟩ (.int .i64 x1_1))) ?hg ?ho ?hn ?hr ?_; (case ho => rfl); (case hg => rfl); (case hn => rfl); (case hr => first | (go_simp; done) | (go_simp; rfl)); intro w8 hw; have hg : wr.grownBy w8 (some go5) := (by rw [hw]; exact HP7.2); have hp_ : Kd.R (Kd.int .i64) 3 w8 w0.heap.size (fun k_ => (P0_ k_ ∨ w.heap.size ≤ k_)) (.slice (some ⟨go5, 0, none⟩) x0_1.length co6) y605 := (by rw [hw, Ny605.out]; exact HP7.1); clear HP7; have n0_ := Aside0.mk (hp_); have n1_ := Aside0.mk ((by rw [hw]; exact below_set (HB.out) GB5.out : Below w0.heap.size w0 w8)); have n2_ := Aside0.mk (Kept.of_grown (S := (fun k_ => P0_ k_)) hg (by repeat (first | (with_reducible first | exact HK.out | apply Kept.alloc | apply Kept.drewN | apply Kept.drew) | exact HK.out)) (fun k_ e_ => (HO_0.out.1 k_ e_))); clear HO_0 HB HK; have HO_0 := n0_; have HB := n1_; have HK := n2_; clear n0_ n1_ n2_ hg hw hp_))
 go_roundg k1
 case measure => have := HK1.out; omega
 case rel => exact ⟨(y605), (wrap64 (x1_1 + 1)), (wrap64 (x5_1 + 1)), vX, vX, H', ⟨by have := HK1.out; omega⟩, ⟨rX HO_0.out⟩, ⟨by repeat (first | (with_reducible first | exact HK.out | apply Kept.alloc | apply Kept.drewN | apply Kept.drew) | exact HK.out)⟩, ⟨bX HB.out⟩⟩
 }
 {
 rw [if_neg c4] at H
 exact absurd H (by simp)
 }
 }
 {
 rw [if_neg c3] at H
 have c3b0 : decide (x5_1 < (x0_1.length : Int)) = false := decide_eq_false c3
 clear c3
 simp only [Option.some.injEq, Prod.mk.injEq] at H
 obtain ⟨rfl, rfl⟩ := H
 obtain ⟨Ao9, co9, eo9⟩ := Kd.R_slice HO_0.out
 subst eo9
 go_wp2
 go_ret
 exact ⟨eX, by (with_reducible repeat (first|apply rA|apply rN|apply rD)); exact HO_0.out, bX HB.out, by repeat (first | (with_reducible first | exact HK.out | apply Kept.alloc | apply Kept.drewN | apply Kept.drew) | exact HK.out)⟩
 }

/-! ### laws_markSurface: function 22 -/
def laws_markSurface.f (k : Nat) (l0_0 : List Int) (l0_1 : List Int) (a1 : Int) : Option (Int × List Int × List Int) := (laws_markIntS.f k l0_0 a1).bind fun bt607 => ((laws_markIntS.f k l0_1 bt607.1).bind fun bt609 => (some (bt609.1, bt607.2, bt609.2)))
set_option maxHeartbeats 8000000 in
set_option maxRecDepth 100000 in
theorem laws_markSurface.calls (k : Nat) (P0_0_ : Nat → Prop) (u9000_ : Value) (l0_0 : List Int) (P0_1_ : Nat → Prop) (u9001_ : Value) (l0_1 : List Int) (a1 : Int) (r1 : Int) (r2 : List Int) (r3 : List Int) (w0 w : World) (hB : Below w0.heap.size w0 w) (ho0_0 : Kd.R (Kd.int .i64) 3 w w0.heap.size P0_0_ u9000_ l0_0) (hp0_0_0_1 : ∀ k_, P0_0_ k_ → ¬ P0_1_ k_) (ho0_1 : Kd.R (Kd.int .i64) 3 w w0.heap.size P0_1_ u9001_ l0_1) (hp0_1_0_0 : ∀ k_, P0_1_ k_ → ¬ P0_0_ k_) (h : laws_markSurface.f k l0_0 l0_1 a1 = some (r1, r2, r3)) :
  Calls Tryz.prog 22 #[.agg #[u9000_, u9001_], .int .i64 a1] w fun e w' => e = .returned (.int .i64 r1) ∧ Kd.R (Kd.int .i64) 3 w' w0.heap.size (fun k_ => ((P0_0_ k_ ∨ P0_1_ k_) ∨ w.heap.size ≤ k_)) u9000_ r2 ∧ Kd.R (Kd.int .i64) 3 w' w0.heap.size (fun k_ => ((P0_0_ k_ ∨ P0_1_ k_) ∨ w.heap.size ≤ k_)) u9001_ r3 ∧ Below w0.heap.size w0 w' ∧ Kept w w' (fun k_ => P0_0_ k_ ∨ P0_1_ k_) := by
 have hu25 := Tryz.underlying25
 have HO0_0 := Aside0.mk (show Kd.R (Kd.int .i64) 3 w w0.heap.size (fun k_ => ((P0_0_ k_ ∨ P0_1_ k_) ∨ w.heap.size ≤ k_) ∧ some k_ ≠ (u9001_ : Value).ownBlock) u9000_ l0_0 from Kd.R_mono ho0_0 (fun k_ hk => ⟨(.inl (.inl hk)), fun e_ => hp0_0_0_1 k_ hk (ho0_1.1 k_ e_.symm)⟩))
 have HO0_1 := Aside0.mk (show Kd.R (Kd.int .i64) 3 w w0.heap.size (fun k_ => ((P0_0_ k_ ∨ P0_1_ k_) ∨ w.heap.size ≤ k_) ∧ some k_ ≠ (u9000_ : Value).ownBlock) u9001_ l0_1 from Kd.R_mono ho0_1 (fun k_ hk => ⟨(.inl (.inr hk)), fun e_ => hp0_1_0_0 k_ hk (ho0_0.1 k_ e_.symm)⟩))
 have HK := Aside0.mk (Kept.refl w (fun k_ => P0_0_ k_ ∨ P0_1_ k_))
 have HW0 := Aside0.mk hB.size
 have HB := Aside0.mk hB
 clear hB
 have H : ((laws_markIntS.f k l0_0 a1).bind fun bt607 => ((laws_markIntS.f k l0_1 bt607.1).bind fun bt609 => (some (bt609.1, bt607.2, bt609.2)))) = some (r1, r2, r3) := h
 clear h
 replace H := Option.bind_eq_some_iff.mp H
 obtain ⟨⟨t607, t608⟩, A30, H⟩ := H
 replace H : ((laws_markIntS.f k l0_1 t607).bind fun bt609 => (some (bt609.1, t608, bt609.2))) = some (r1, r2, r3) := H
 have A3 := Aside0.mk A30
 clear A30
 replace H := Option.bind_eq_some_iff.mp H
 obtain ⟨⟨t609, t610⟩, A40, H⟩ := H
 replace H : (some (t609, t608, t610)) = some (r1, r2, r3) := H
 have A4 := Aside0.mk A40
 clear A40
 simp only [Option.some.injEq, Prod.mk.injEq] at H
 obtain ⟨rfl, rfl, rfl⟩ := H
 obtain ⟨Ao5, co5, eo5⟩ := Kd.R_slice HO0_0.out
 subst eo5
 obtain ⟨Ao6, co6, eo6⟩ := Kd.R_slice HO0_1.out
 subst eo6
 go_enter Tryz.func22, Tryz.ntmps22
 go_wp2_with (first | ((with_reducible refine gate_dst (N := 2) rfl ?_); refine box_event ?hg (N := 2) ?hd (cs := #[.slice Ao5 l0_0.length co5, .slice Ao6 l0_1.length co6]) (t := 25) ?hr ?_; (case hd => rfl); (case hg => rfl); (case hr => first | (go_simp; done) | (go_simp; rfl)); intro gb606 hg w7 hbox hb; have n0_ := Aside0.mk (Kd.R_below (rX HO0_0.out) hb); have n1_ := Aside0.mk (Kd.R_below (rX HO0_1.out) hb); have n2_ := Aside0.mk (Kept.below (S := (fun k_ => P0_0_ k_ ∨ P0_1_ k_)) (by repeat (first | (with_reducible first | exact HK.out | apply Kept.alloc | apply Kept.drewN | apply Kept.drew) | exact HK.out)) hb); have n3_ := Aside0.mk (below_step (bX HB.out) hb); have n4_ := Aside0.mk (hbox); have n5_ := Aside0.mk ((by rw [hg]; exact (by first | exact HK.out.1 | exact (show Kept w _ (fun k_ => P0_0_ k_ ∨ P0_1_ k_) from by repeat (first | (with_reducible first | exact HK.out | apply Kept.alloc | apply Kept.drewN | apply Kept.drew) | exact HK.out)).1) : w.heap.size ≤ gb606)); have n6_ := Aside0.mk ((szX (below_size (bX HB.out)) hg : w0.heap.size ≤ gb606)); clear HO0_0 HO0_1 HK HB; have HO0_0 := n0_; have HO0_1 := n1_; have HK := n2_; have HB := n3_; have BK606 := n4_; have GW606 := n5_; have GE606 := n6_; clear n0_ n1_ n2_ n3_ n4_ n5_ n6_ hb hbox hg; have hcz8_0 : w7.cell? ⟨gb606, 0, none⟩ = some (.slice Ao5 l0_0.length co5) := (blk_cell BK606.out 0).trans rfl; have hcz8_1 : w7.cell? ⟨gb606, 1, none⟩ = some (.slice Ao6 l0_1.length co6) := (blk_cell BK606.out 1).trans rfl; have hfz8_0 := blk_frozen BK606.out 0; have hfz8_1 := blk_frozen BK606.out 1) | ((with_reducible refine gate_callee (f := 65) rfl ?_); refine goesL_ (some 8) rfl rfl Tryz.func65 (by kernel_rfl) rfl #[.slice Ao5 l0_0.length co5, .int .i64 a1] rfl aX ?_; (with_reducible refine (laws_markIntS.calls k (fun k_ => some k_ = (.slice Ao5 l0_0.length co5 : Value).ownBlock) (.slice Ao5 l0_0.length co5) l0_0 a1 t607 t608 w0 _ ?side1 ?side2 A3.out).mono ?_); (case side1 => repeat (first | (with_reducible first | exact HB.out|apply bA|apply bN|apply bD | refine below_set ?_ GE606.out) | exact HB.out)); (case side2 => exact Kd.R_tight rfl HO0_0.out); rintro e w9 ⟨rfl, hy0, hb, hkp⟩; refine ⟨_, rfl, ?_⟩; have n0_ := Aside0.mk (Kd.R_reok rfl hy0 (fun k_ e_ => HO0_0.out.1 k_ e_)); have n1_ := Aside0.mk (Kd.R_mono (ok' := fun k_ => ((P0_0_ k_ ∨ P0_1_ k_) ∨ w.heap.size ≤ k_) ∧ some k_ ≠ (.slice Ao5 l0_0.length co5 : Value).ownBlock) (Kd.R_keptB (HO0_1.out) hkp (fun k_ hk_ hs_ => (hk_.2) hs_)) (fun k_ hk_ => ⟨hk_.1.1, hk_.1.2⟩)); have n2_ := Aside0.mk (blk_kept (kX BK606.out) hkp (fun hs_ => (fun e_ => (Kd.R_ne HO0_0.out BK606.out (by decide)) e_) hs_)); have n3_ := Aside0.mk (Kept.then_ (S := (fun k_ => P0_0_ k_ ∨ P0_1_ k_)) (by repeat (first | (with_reducible first | exact HK.out | apply Kept.alloc | apply Kept.drewN | apply Kept.drew | refine Kept.setCell ?_ (.inr GW606.out) _) | exact HK.out)) hkp (fun k_ hs_ => (fun e_ => (HO0_0.out.1 k_ e_.symm).1) hs_)); have n4_ := Aside0.mk (hb); clear HO0_0 HO0_1 BK606 HK HB; have HO0_0 := n0_; have HO0_1 := n1_; have BK606 := n2_; have HK := n3_; have HB := n4_; clear n0_ n1_ n2_ n3_ n4_; (try clear hb); (try clear hkp); (try clear hy0); have hcz10_0 : w9.cell? ⟨gb606, 0, none⟩ = some (.slice Ao5 l0_0.length co5) := (blk_cell BK606.out 0).trans rfl; have hcz10_1 : w9.cell? ⟨gb606, 1, none⟩ = some (.slice Ao6 l0_1.length co6) := (blk_cell BK606.out 1).trans rfl; have hfz10_0 := blk_frozen BK606.out 0; have hfz10_1 := blk_frozen BK606.out 1) | ((with_reducible refine gate_callee (f := 65) rfl ?_); refine goesL_ (some 12) rfl rfl Tryz.func65 (by kernel_rfl) rfl #[.slice Ao6 l0_1.length co6, .int .i64 t607] rfl aX ?_; (with_reducible refine (laws_markIntS.calls k (fun k_ => some k_ = (.slice Ao6 l0_1.length co6 : Value).ownBlock) (.slice Ao6 l0_1.length co6) l0_1 t607 t609 t610 w0 _ ?side1 ?side2 A4.out).mono ?_); (case side1 => repeat (first | (with_reducible first | exact HB.out|apply bA|apply bN|apply bD | refine below_set ?_ GE606.out) | exact HB.out)); (case side2 => exact Kd.R_tight rfl HO0_1.out); rintro e w11 ⟨rfl, hy0, hb, hkp⟩; refine ⟨_, rfl, ?_⟩; have n0_ := Aside0.mk (Kd.R_mono (ok' := fun k_ => ((P0_0_ k_ ∨ P0_1_ k_) ∨ w.heap.size ≤ k_) ∧ some k_ ≠ (.slice Ao6 l0_1.length co6 : Value).ownBlock) (Kd.R_keptB (HO0_0.out) hkp (fun k_ hk_ hs_ => (hk_.2) hs_)) (fun k_ hk_ => ⟨hk_.1.1, hk_.1.2⟩)); have n1_ := Aside0.mk (Kd.R_reok rfl hy0 (fun k_ e_ => HO0_1.out.1 k_ e_)); have n2_ := Aside0.mk (blk_kept (kX BK606.out) hkp (fun hs_ => (fun e_ => (Kd.R_ne HO0_1.out BK606.out (by decide)) e_) hs_)); have n3_ := Aside0.mk (Kept.then_ (S := (fun k_ => P0_0_ k_ ∨ P0_1_ k_)) (by repeat (first | (with_reducible first | exact HK.out | apply Kept.alloc | apply Kept.drewN | apply Kept.drew | refine Kept.setCell ?_ (.inr GW606.out) _) | exact HK.out)) hkp (fun k_ hs_ => (fun e_ => (HO0_1.out.1 k_ e_.symm).1) hs_)); have n4_ := Aside0.mk (hb); clear HO0_0 HO0_1 BK606 HK HB; have HO0_0 := n0_; have HO0_1 := n1_; have BK606 := n2_; have HK := n3_; have HB := n4_; clear n0_ n1_ n2_ n3_ n4_; (try clear hb); (try clear hkp); (try clear hy0)))
 go_ret
 exact ⟨eX, by (with_reducible repeat (first|apply rA|apply rN|apply rD)); exact Kd.R_mono HO0_0.out (fun _ hk => hk.1), by (with_reducible repeat (first|apply rA|apply rN|apply rD)); exact Kd.R_mono HO0_1.out (fun _ hk => hk.1), bX1 HB.out GE606.out, by repeat (first | (with_reducible first | exact HK.out | apply Kept.alloc | apply Kept.drewN | apply Kept.drew | refine Kept.setCell ?_ (.inr GW606.out) _) | exact HK.out)⟩

/-! ### laws_markText: function 66 -/
def laws_markText.l0 : Nat → Int → ByteArray → Option (ByteArray)
 | 0, _, _ => none
 | k + 1, x0, x3 => if x0 > 0 then ((some (([(wrap64 (48 + (Int.tmod x0 10))) % 256] : List Int) : List Int)).bind fun y611 => (if (strOfNums y611).size + x3.size ≤ 9223372036854775807 then (laws_markText.l0 k (wrap64 (Int.tdiv x0 10)) ((strOfNums y611) ++ x3)) else (none))) else (if 1 + x3.size ≤ 9223372036854775807 then (some ((⟨#[109]⟩ : ByteArray) ++ x3)) else (none))
def laws_markText.f (k : Nat) (a0 : Int) : Option (ByteArray) := if a0 ≤ 0 then (some (⟨#[109, 48]⟩ : ByteArray)) else (laws_markText.l0 k a0 (⟨#[]⟩ : ByteArray))
set_option maxHeartbeats 8000000 in
set_option maxRecDepth 100000 in
theorem laws_markText.calls (k : Nat) (a0 : Int) (r : ByteArray) (w : World) (h : laws_markText.f k a0 = some r) :
  Calls Tryz.prog 66 #[.int .i64 a0] w fun e w' => e = .returned (.string r) ∧ Below w.heap.size w w' := by
 have HB := Aside0.mk (Below.refl w.heap.size w)
 have H : (if a0 ≤ 0 then (some (⟨#[109, 48]⟩ : ByteArray)) else (laws_markText.l0 k a0 (⟨#[]⟩ : ByteArray))) = some r := h
 clear h
 by_cases c2 : a0 ≤ 0
 {
 rw [if_pos c2] at H
 have c2b0 : decide (a0 ≤ 0) = true := decide_eq_true c2
 clear c2
 obtain rfl := Option.some.inj H
 go_enter Tryz.func66, Tryz.ntmps66
 go_wp2
 go_ret
 exact ⟨eX, bX HB.out⟩
 }
 {
 rw [if_neg c2] at H
 have c2b0 : decide (a0 ≤ 0) = false := decide_eq_false c2
 clear c2
 have H' := Aside0.mk H
 clear H
 go_enter Tryz.func66, Tryz.ntmps66
 go_wp2
 go_loopg [0, 3] k (fun kq v0 v3 w' => ∃ (x0_1 : Int) (x3_1 : ByteArray), v0 = .int .i64 x0_1 ∧ v3 = .string x3_1 ∧ Aside0 (laws_markText.l0 kq x0_1 x3_1 = some r) ∧ Aside0 (kq ≤ k) ∧ Aside0 (Below w.heap.size w w'))
 case atStart => exact ⟨(a0), ((⟨#[]⟩ : ByteArray)), vX, vX, H', ⟨Nat.le_refl _⟩, ⟨bX HB.out⟩⟩
 case round =>
 clear H'
 try clear c2
 try clear c2b0
 try clear p2
 obtain ⟨x0_1, x3_1, rfl, rfl, HA, HK1, HB⟩ := hrel
 cases gk with
 | zero => exact absurd HA.out (by simp [laws_markText.l0])
 | succ k1 =>
 have H := HA.out
 clear HA
 simp only [laws_markText.l0] at H
 by_cases c3 : x0_1 > 0
 {
 rw [if_pos c3] at H
 have c3b0 : decide (0 < x0_1) = true := decide_eq_true c3
 clear c3
 obtain ⟨y611, hy611⟩ : ∃ y_ : List Int, y_ = (([(wrap64 (48 + (Int.tmod x0_1 10))) % 256] : List Int)) := ⟨_, rfl⟩
 replace H : (if (strOfNums y611).size + x3_1.size ≤ 9223372036854775807 then (laws_markText.l0 k1 (wrap64 (Int.tdiv x0_1 10)) ((strOfNums y611) ++ x3_1)) else (none)) = some r := by first | (rw [hy611]; with_reducible exact H) | (have H2_ := (Option.bind_some _ _).symm.trans H; rw [hy611]; with_reducible exact H2_) | (have H2_ := (Option.bind_some _ _).symm.trans H; with_reducible exact H2_) | with_reducible exact H | (rw [hy611]; exact H) | exact H
 have Ny611 := Aside0.mk hy611
 clear hy611
 by_cases c4 : (strOfNums y611).size + x3_1.size ≤ 9223372036854775807
 {
 rw [if_pos c4] at H
 have c4b0 := eq_true c4
 have c4b1 : decide ((strOfNums y611).size + x3_1.size ≤ 9223372036854775807) = true := decide_eq_true c4
 try have c4b2 : (9223372036854775807 < (strOfNums y611).size + x3_1.size) = False := eq_false (Nat.not_lt.2 c4)
 have H' := Aside0.mk H
 clear H
 go_wp2_with (first | ((with_reducible refine gate_dst (N := 12) rfl ?_); refine Kd.R_lit (Kd.int .u8) _ 5 ?hg (N := 12) ?hd (xs := ([(wrap64 (48 + (Int.tmod x0_1 10))) % 256] : List Int)) (inner := [.int .u8 ((wrap64 (48 + (Int.tmod x0_1 10))) % 256)]) (ok := fun _ => True) (okp := fun _ => True) ?hr ?hp (fun _ hk => hk) trivial (Below.refl _ _) (Nat.le_refl _) (by simp) ?_; (case hd => rfl); (case hg => rfl); (case hr => first | (go_simp; done) | (go_simp; rfl)); (case hp => exact (Reps.one (show Kd.M (Kd.int .u8) _ _ _ ((wrap64 (48 + (Int.tmod x0_1 10))) % 256) [.int .u8 ((wrap64 (48 + (Int.tmod x0_1 10))) % 256)] from rfl) (Reps.none _ _))); intro v612 w5 ho6 hb hg_ hnew_; clear hg_ hnew_; (first | rw [← Ny611.out] at ho6 | (simp only [Int.reduceToNat] at ho6; rw [← Ny611.out] at ho6)); have n0_ := Aside0.mk (Kd.R_lower ho6 (below_size (bX HB.out))); have n1_ := Aside0.mk (below_step (bX HB.out) hb); clear HB; have HO613 := n0_; have HB := n1_; clear n0_ n1_ hb ho6; have hcv7 := own_string (P := Tryz.prog) Tryz.underlying22 Tryz.underlying5 Tryz.underlying9 (Kd.own_of_R HO613.out)))
 go_roundg k1
 case measure => have := HK1.out; omega
 case rel => exact ⟨(wrap64 (Int.tdiv x0_1 10)), ((strOfNums y611) ++ x3_1), vX, vX, H', ⟨by have := HK1.out; omega⟩, ⟨bX HB.out⟩⟩
 }
 {
 rw [if_neg c4] at H
 exact absurd H (by simp)
 }
 }
 {
 rw [if_neg c3] at H
 have c3b0 : decide (0 < x0_1) = false := decide_eq_false c3
 clear c3
 by_cases c8 : 1 + x3_1.size ≤ 9223372036854775807
 {
 rw [if_pos c8] at H
 have c8b0 := eq_true c8
 have c8b1 : decide (1 + x3_1.size ≤ 9223372036854775807) = true := decide_eq_true c8
 try have c8b2 : (9223372036854775807 < 1 + x3_1.size) = False := eq_false (Nat.not_lt.2 c8)
 obtain rfl := Option.some.inj H
 go_wp2
 go_ret
 exact ⟨eX, bX HB.out⟩
 }
 {
 rw [if_neg c8] at H
 exact absurd H (by simp)
 }
 }
 }

/-! ### laws_markStringS: function 23 -/
def laws_markStringS.l0 : Nat → List ByteArray → Int → Int → Option (Int × List ByteArray)
 | 0, _, _, _ => none
 | k + 1, x0, x1, x5 => if x5 < (x0.length : Int) then ((laws_markText.f k x1).bind fun t614 => (if 0 ≤ x5 then (laws_markStringS.l0 k (x0.set (x5 : Int).toNat t614) (wrap64 (x1 + 1)) (wrap64 (x5 + 1))) else (none))) else (some (x1, x0))
def laws_markStringS.f (k : Nat) (l0 : List ByteArray) (a1 : Int) : Option (Int × List ByteArray) := laws_markStringS.l0 k l0 a1 0
set_option maxHeartbeats 8000000 in
set_option maxRecDepth 100000 in
theorem laws_markStringS.calls (k : Nat) (P0_ : Nat → Prop) (u9000_ : Value) (l0 : List ByteArray) (a1 : Int) (r1 : Int) (r2 : List ByteArray) (w0 w : World) (hB : Below w0.heap.size w0 w) (ho0 : Kd.R Kd.string 9 w w0.heap.size P0_ u9000_ l0) (h : laws_markStringS.f k l0 a1 = some (r1, r2)) :
  Calls Tryz.prog 23 #[u9000_, .int .i64 a1] w fun e w' => e = .returned (.int .i64 r1) ∧ Kd.R Kd.string 9 w' w0.heap.size (fun k_ => (P0_ k_ ∨ w.heap.size ≤ k_)) u9000_ r2 ∧ Below w0.heap.size w0 w' ∧ Kept w w' (fun k_ => P0_ k_) := by
 have HO0 := Aside0.mk (show Kd.R Kd.string 9 w w0.heap.size (fun k_ => (P0_ k_ ∨ w.heap.size ≤ k_)) u9000_ l0 from Kd.R_mono ho0 (fun k_ hk => (.inl hk)))
 have HK := Aside0.mk (Kept.refl w (fun k_ => P0_ k_))
 have HW0 := Aside0.mk hB.size
 have HB := Aside0.mk hB
 clear hB
 have H : (laws_markStringS.l0 k l0 a1 0) = some (r1, r2) := h
 clear h
 have H' := Aside0.mk H
 clear H
 go_enter Tryz.func23, Tryz.ntmps23
 go_wp2
 go_loopg [1, 5] k (fun kq v1 v5 w' => ∃ (x0_1 : List ByteArray) (x1_1 : Int) (x5_1 : Int), v1 = .int .i64 x1_1 ∧ v5 = .int .i64 x5_1 ∧ Aside0 (laws_markStringS.l0 kq x0_1 x1_1 x5_1 = some (r1, r2)) ∧ Aside0 (kq ≤ k) ∧ Aside0 (Kd.R Kd.string 9 w' w0.heap.size (fun k_ => (P0_ k_ ∨ w.heap.size ≤ k_)) u9000_ x0_1) ∧ Aside0 (Kept w w' (fun k_ => P0_ k_)) ∧ Aside0 (Below w0.heap.size w0 w'))
 case atStart => exact ⟨(l0), (a1), (0), vX, vX, H', ⟨Nat.le_refl _⟩, ⟨rX HO0.out⟩, ⟨by repeat (first | (with_reducible first | exact HK.out | apply Kept.alloc | apply Kept.drewN | apply Kept.drew) | exact HK.out)⟩, ⟨bX HB.out⟩⟩
 case round =>
 clear H'
 try clear c2
 try clear p2
 obtain ⟨x0_1, x1_1, x5_1, rfl, rfl, HA, HK1, HO_0, HK, HB⟩ := hrel
 cases gk with
 | zero => exact absurd HA.out (by simp [laws_markStringS.l0])
 | succ k1 =>
 have H := HA.out
 clear HA
 simp only [laws_markStringS.l0] at H
 by_cases c3 : x5_1 < (x0_1.length : Int)
 {
 rw [if_pos c3] at H
 have c3b0 : decide (x5_1 < (x0_1.length : Int)) = true := decide_eq_true c3
 clear c3
 replace H := Option.bind_eq_some_iff.mp H
 obtain ⟨t614, A40, H⟩ := H
 replace H : (if 0 ≤ x5_1 then (laws_markStringS.l0 k1 (x0_1.set (x5_1 : Int).toNat t614) (wrap64 (x1_1 + 1)) (wrap64 (x5_1 + 1))) else (none)) = some (r1, r2) := H
 have A4 := Aside0.mk A40
 clear A40
 by_cases c5 : 0 ≤ x5_1
 {
 rw [if_pos c5] at H
 have c5b0 : decide (0 ≤ x5_1) = true := decide_eq_true c5
 clear c5
 obtain ⟨y615, hy615⟩ : ∃ y_ : List ByteArray, y_ = (x0_1.set (x5_1 : Int).toNat t614) := ⟨_, rfl⟩
 replace H : (laws_markStringS.l0 k1 y615 (wrap64 (x1_1 + 1)) (wrap64 (x5_1 + 1))) = some (r1, r2) := by first | (rw [hy615]; with_reducible exact H) | (have H2_ := (Option.bind_some _ _).symm.trans H; rw [hy615]; with_reducible exact H2_) | (have H2_ := (Option.bind_some _ _).symm.trans H; with_reducible exact H2_) | with_reducible exact H | (rw [hy615]; exact H) | exact H
 have Ny615 := Aside0.mk hy615
 clear hy615
 have H' := Aside0.mk H
 clear H
 obtain ⟨Ao7, co7, eo7⟩ := Kd.R_slice HO_0.out
 subst eo7
 go_wp2_with (first | ((with_reducible refine gate_callee (f := 66) rfl ?_); refine goesL_ (some 15) rfl rfl Tryz.func66 (by kernel_rfl) rfl #[.int .i64 x1_1] rfl aX ?_; (with_reducible refine (laws_markText.calls k1 x1_1 t614 _ A4.out).mono ?_); rintro e w8 ⟨rfl, hb⟩; refine ⟨_, rfl, ?_⟩; have n0_ := Aside0.mk (Kd.R_below (rX HO_0.out) hb); have n1_ := Aside0.mk (Kept.below (S := (fun k_ => P0_ k_)) (by repeat (first | (with_reducible first | exact HK.out | apply Kept.alloc | apply Kept.drewN | apply Kept.drew) | exact HK.out)) hb); have n2_ := Aside0.mk (below_step (bX HB.out) hb); clear HO_0 HK HB; have HO_0 := n0_; have HK := n1_; have HB := n2_; clear n0_ n1_ n2_; (try clear hb); (try clear hb2); (try clear hk); (try clear hi); have p6 : 0 ≤ (x5_1 : Int) := dX; have q6 : (x5_1 : Int) < ((x0_1.length : Int) : Int) := dX; obtain ⟨go6, co6, eo6, gb6, gl6, cl6, HG6⟩ := Kd.R_form HO_0.out (by omega); (first | cases eo6 | (injection eo6 with ea_ en_ ec_; (first | subst ea_ | (injection ea_ with ea_; subst ea_)); subst ec_; clear en_)); have GB6 := Aside0.mk gb6; have GG6 := Aside0.mk HG6; clear gb6 gl6 HG6; have HMgo6 := Aside0.mk (show (P0_ go6 ∨ w.heap.size ≤ go6) from (HO_0.out.1 _ rfl)); obtain ⟨hx6_0, hf6_0⟩ := Kd.R_celln (⟨#[]⟩ : ByteArray) HO_0.out (x5_1 : Int) p6 q6; replace p6 := eq_true p6; replace q6 := eq_true q6; obtain ⟨hy9_, hz9_⟩ := Kd.R_celln (⟨#[]⟩ : ByteArray) HO_0.out (x5_1 : Int) (dX) (dX); have HP9 := Kd.R_putg HO_0.out (x5_1 : Int) t614) | ((with_reducible refine gate_store (t := 9) (p := 16) rfl ?_); refine store_event (t := 9) (p := 16) (v := ?vo_w10) (w1 := (w8.setCell ⟨go6, (x5_1 : Int).toNat, none⟩ (.string t614))) ?hg ?ho ?hn ?hr ?_; (case ho => rfl); (case hg => rfl); (case hn => rfl); (case hr => first | (go_simp; done) | (go_simp; rfl)); intro w10 hw; have hg : w8.grownBy w10 (some go6) := (by rw [hw]; exact HP9.2); have hp_ : Kd.R Kd.string 9 w10 w0.heap.size (fun k_ => (P0_ k_ ∨ w.heap.size ≤ k_)) (.slice (some ⟨go6, 0, none⟩) x0_1.length co7) y615 := (by rw [hw, Ny615.out]; exact HP9.1); clear HP9; have n0_ := Aside0.mk (hp_); have n1_ := Aside0.mk ((by rw [hw]; exact below_set (HB.out) GB6.out : Below w0.heap.size w0 w10)); have n2_ := Aside0.mk (Kept.of_grown (S := (fun k_ => P0_ k_)) hg (by repeat (first | (with_reducible first | exact HK.out | apply Kept.alloc | apply Kept.drewN | apply Kept.drew) | exact HK.out)) (fun k_ e_ => (HO_0.out.1 k_ e_))); clear HO_0 HB HK; have HO_0 := n0_; have HB := n1_; have HK := n2_; clear n0_ n1_ n2_ hg hw hp_))
 go_roundg k1
 case measure => have := HK1.out; omega
 case rel => exact ⟨(y615), (wrap64 (x1_1 + 1)), (wrap64 (x5_1 + 1)), vX, vX, H', ⟨by have := HK1.out; omega⟩, ⟨rX HO_0.out⟩, ⟨by repeat (first | (with_reducible first | exact HK.out | apply Kept.alloc | apply Kept.drewN | apply Kept.drew) | exact HK.out)⟩, ⟨bX HB.out⟩⟩
 }
 {
 rw [if_neg c5] at H
 exact absurd H (by simp)
 }
 }
 {
 rw [if_neg c3] at H
 have c3b0 : decide (x5_1 < (x0_1.length : Int)) = false := decide_eq_false c3
 clear c3
 simp only [Option.some.injEq, Prod.mk.injEq] at H
 obtain ⟨rfl, rfl⟩ := H
 obtain ⟨Ao11, co11, eo11⟩ := Kd.R_slice HO_0.out
 subst eo11
 go_wp2
 go_ret
 exact ⟨eX, by (with_reducible repeat (first|apply rA|apply rN|apply rD)); exact HO_0.out, bX HB.out, by repeat (first | (with_reducible first | exact HK.out | apply Kept.alloc | apply Kept.drewN | apply Kept.drew) | exact HK.out)⟩
 }

/-! ### laws_heldStringS: function 24 -/
def laws_heldStringS.l0 : Nat → List ByteArray → Int → Int → Option (Int)
 | 0, _, _, _ => none
 | k + 1, x0, x1, x5 => if x5 < (x0.length : Int) then (if 0 ≤ x5 then ((laws_markText.f k x1).bind fun t617 => (if (rdOf ByteArray.empty x0 x5).toList = t617.toList then (laws_heldStringS.l0 k x0 (wrap64 (x1 + 1)) (wrap64 (x5 + 1))) else (some (-1)))) else (none)) else (some x1)
def laws_heldStringS.f (k : Nat) (l0 : List ByteArray) (a1 : Int) : Option (Int) := laws_heldStringS.l0 k l0 a1 0
set_option maxHeartbeats 8000000 in
set_option maxRecDepth 100000 in
theorem laws_heldStringS.calls (k : Nat) (A0 : Option Addr) (c0 : Nat) (l0 : List ByteArray) (a1 : Int) (r : Int) (w : World) (hr0 : Kd.C Kd.string w A0 l0.length l0) (hc0 : l0.length ≤ c0) (h : laws_heldStringS.f k l0 a1 = some r) :
  Calls Tryz.prog 24 #[.slice A0 l0.length c0, .int .i64 a1] w fun e w' => e = .returned (.int .i64 r) ∧ Below w.heap.size w w' := by
 have HR0 := Aside0.mk hr0
 have HC0 := Aside0.mk hc0
 clear hr0 hc0
 have HB := Aside0.mk (Below.refl w.heap.size w)
 have H : (laws_heldStringS.l0 k l0 a1 0) = some r := h
 clear h
 have H' := Aside0.mk H
 clear H
 go_enter Tryz.func24, Tryz.ntmps24
 go_wp2
 go_loopg [1, 5] k (fun kq v1 v5 w' => ∃ (x1_1 : Int) (x5_1 : Int), v1 = .int .i64 x1_1 ∧ v5 = .int .i64 x5_1 ∧ Aside0 (laws_heldStringS.l0 kq l0 x1_1 x5_1 = some r) ∧ Aside0 (kq ≤ k) ∧ Aside0 (Below w.heap.size w w'))
 case atStart => exact ⟨(a1), (0), vX, vX, H', ⟨Nat.le_refl _⟩, ⟨bX HB.out⟩⟩
 case round =>
 clear H'
 try clear c2
 try clear p2
 obtain ⟨x1_1, x5_1, rfl, rfl, HA, HK1, HB⟩ := hrel
 cases gk with
 | zero => exact absurd HA.out (by simp [laws_heldStringS.l0])
 | succ k1 =>
 have H := HA.out
 clear HA
 simp only [laws_heldStringS.l0] at H
 by_cases c3 : x5_1 < (l0.length : Int)
 {
 rw [if_pos c3] at H
 have c3b0 : decide (x5_1 < (l0.length : Int)) = true := decide_eq_true c3
 clear c3
 by_cases c4 : 0 ≤ x5_1
 {
 rw [if_pos c4] at H
 have c4b0 : decide (0 ≤ x5_1) = true := decide_eq_true c4
 clear c4
 replace H := Option.bind_eq_some_iff.mp H
 obtain ⟨t617, A50, H⟩ := H
 replace H : (if (rdOf ByteArray.empty l0 x5_1).toList = t617.toList then (laws_heldStringS.l0 k1 l0 (wrap64 (x1_1 + 1)) (wrap64 (x5_1 + 1))) else (some (-1))) = some r := H
 have A5 := Aside0.mk A50
 clear A50
 by_cases c6 : (rdOf ByteArray.empty l0 x5_1).toList = t617.toList
 {
 rw [if_pos c6] at H
 have c6b0 : ((rdOf ByteArray.empty l0 x5_1).toList == t617.toList) = true := beq_iff_eq.mpr c6
 have c6b1 : ((rdOf ByteArray.empty l0 x5_1).toList != t617.toList) = false := bne_eq_false_iff_eq.mpr c6
 clear c6
 have H' := Aside0.mk H
 clear H
 try go_wp2
 have n0_ := Aside0.mk (below_drew1 HB.out)
 clear HB
 have HB := n0_
 clear n0_
 have p616 : 0 ≤ (x5_1 : Int) := dX
 have q616 : x5_1 < (l0.length : Int) := dX
 obtain ⟨ad616, e616, hx616_0⟩ := Kd.at_string HR0.out x5_1 p616 q616
 have hw616_0 := hx616_0
 cases e616
 replace hx616_0 := (HB.out.cell (World.block_lt_of_cell? w _ hx616_0)).trans hx616_0
 replace p616 := eq_true p616
 replace q616 := eq_true q616
 refine start_ (n := 7) (S := fun w' => w'.cell? (ad616.add (x5_1).toNat) = some (.string (rdOf ByteArray.empty l0 x5_1))) (ds := []) #[false, false, false, false, false, false, false] (by kernel_rfl) rfl rfl (((HB.out.cell (World.block_lt_of_cell? w _ hw616_0)).trans hw616_0)) (fun hHeld => ?_)
 generalize wr.drew = w7 at HB hx616_0 hHeld ⊢
 refine pure_ (i := 0) (N := some 12) (v := ?_) (a' := ?_) #[true, false, false, false, false, false, false] rfl rfl (by kernel_rfl) (fun _ _ _ h => h) (Or.inl ⟨by rfl, ?_⟩) ?_ ?_
 rotate_left
 {
 intro w'
 go_simp
 with_reducible rfl
 }
 rotate_left
 {
 simp only [Act.put, zA, zB, zC, i64_w, i32_w]
 rfl
 }
 refine pure_ (i := 1) (N := some 13) (v := ?_) (a' := ?_) #[true, true, false, false, false, false, false] rfl rfl (by kernel_rfl) (fun _ _ _ h => h) (Or.inl ⟨by rfl, ?_⟩) ?_ ?_
 rotate_left
 {
 intro w'
 go_simp
 with_reducible rfl
 }
 rotate_left
 {
 simp only [Act.put, zA, zB, zC, i64_w, i32_w]
 rfl
 }
 refine pure_ (i := 2) (N := some 14) (v := ?_) (a' := ?_) #[true, true, true, false, false, false, false] rfl rfl (by kernel_rfl) (fun _ _ _ h => h) (Or.inl ⟨by rfl, ?_⟩) ?_ ?_
 rotate_left
 {
 intro w'
 go_simp
 with_reducible rfl
 }
 rotate_left
 {
 simp only [Act.put, zA, zB, zC, i64_w, i32_w]
 rfl
 }
 refine pure_ (i := 4) (N := some 16) (v := ?_) (a' := ?_) #[true, true, true, false, true, false, false] rfl rfl (by kernel_rfl) (fun _ _ _ h => h) (Or.inl ⟨by rfl, ?_⟩) ?_ ?_
 rotate_left
 {
 intro w'
 go_simp
 with_reducible rfl
 }
 rotate_left
 {
 simp only [Act.put, zA, zB, zC, i64_w, i32_w]
 rfl
 }
 refine take_ (i := 3) (N := some 15) (v := ?_) (a' := ?_) #[true, true, true, true, true, false, false] rfl rfl (by kernel_rfl) (fun _ _ _ h => h) (Or.inl ⟨by rfl, ?_⟩) hHeld ?_ ?_
 rotate_left
 {
 intro w' s0
 go_simp
 with_reducible rfl
 }
 rotate_left
 {
 simp only [Act.put, zA, zB, zC, i64_w, i32_w]
 rfl
 }
 refine one_ (i := 5) (N := some 17) #[true, true, true, true, true, true, false] rfl rfl (by kernel_rfl) (by decide) (fun K hK => ?_)
 refine goes_ Tryz.func66 (by kernel_rfl) rfl #[.int .i64 x1_1] (by rfl) rfl rfl aX ?_
 with_reducible refine (laws_markText.calls k1 x1_1 t617 _ A5.out).mono ?_
 rintro e w8 ⟨rfl, hb⟩
 refine ⟨_, rfl, ?_⟩
 have n0_ := Aside0.mk (below_step (bX HB.out) hb)
 clear HB
 have HB := n0_
 clear n0_
 (try clear hb)
 (try clear hb2)
 (try clear hk)
 (try clear hi)
 refine hK.out _ _ (((HB.out.cell (World.block_lt_of_cell? w _ hw616_0)).trans hw616_0)) (fun hHeld => ?_)
 clear hK K
 refine norm_ (a' := ?_) ?_ ?_
 rotate_left
 {
 show Act.put _ (some 17) _ = _
 simp only [Act.put, zA, zB, zC, i64_w, i32_w]
 rfl
 }
 refine pure_ (i := 6) (N := some 18) (v := ?_) (a' := ?_) #[true, true, true, true, true, true, true] rfl rfl (by kernel_rfl) (fun _ _ _ h => h) (Or.inl ⟨by rfl, ?_⟩) ?_ ?_
 rotate_left
 {
 intro w'
 go_simp
 with_reducible rfl
 }
 rotate_left
 {
 simp only [Act.put, zA, zB, zC, i64_w, i32_w]
 rfl
 }
 refine done_ (by kernel_rfl) ?_
 try go_wp2
 go_roundg k1
 case measure => have := HK1.out; omega
 case rel => exact ⟨(wrap64 (x1_1 + 1)), (wrap64 (x5_1 + 1)), vX, vX, H', ⟨by have := HK1.out; omega⟩, ⟨bX HB.out⟩⟩
 }
 {
 rw [if_neg c6] at H
 have c6b0 : ((rdOf ByteArray.empty l0 x5_1).toList == t617.toList) = false := beq_eq_false_iff_ne.mpr c6
 have c6b1 : ((rdOf ByteArray.empty l0 x5_1).toList != t617.toList) = true := bne_iff_ne.mpr c6
 obtain rfl := Option.some.inj H
 try go_wp2
 have n0_ := Aside0.mk (below_drew1 HB.out)
 clear HB
 have HB := n0_
 clear n0_
 have p616 : 0 ≤ (x5_1 : Int) := dX
 have q616 : x5_1 < (l0.length : Int) := dX
 obtain ⟨ad616, e616, hx616_0⟩ := Kd.at_string HR0.out x5_1 p616 q616
 have hw616_0 := hx616_0
 cases e616
 replace hx616_0 := (HB.out.cell (World.block_lt_of_cell? w _ hx616_0)).trans hx616_0
 replace p616 := eq_true p616
 replace q616 := eq_true q616
 refine start_ (n := 7) (S := fun w' => w'.cell? (ad616.add (x5_1).toNat) = some (.string (rdOf ByteArray.empty l0 x5_1))) (ds := []) #[false, false, false, false, false, false, false] (by kernel_rfl) rfl rfl (((HB.out.cell (World.block_lt_of_cell? w _ hw616_0)).trans hw616_0)) (fun hHeld => ?_)
 generalize wr.drew = w9 at HB hx616_0 hHeld ⊢
 refine pure_ (i := 0) (N := some 12) (v := ?_) (a' := ?_) #[true, false, false, false, false, false, false] rfl rfl (by kernel_rfl) (fun _ _ _ h => h) (Or.inl ⟨by rfl, ?_⟩) ?_ ?_
 rotate_left
 {
 intro w'
 go_simp
 with_reducible rfl
 }
 rotate_left
 {
 simp only [Act.put, zA, zB, zC, i64_w, i32_w]
 rfl
 }
 refine pure_ (i := 1) (N := some 13) (v := ?_) (a' := ?_) #[true, true, false, false, false, false, false] rfl rfl (by kernel_rfl) (fun _ _ _ h => h) (Or.inl ⟨by rfl, ?_⟩) ?_ ?_
 rotate_left
 {
 intro w'
 go_simp
 with_reducible rfl
 }
 rotate_left
 {
 simp only [Act.put, zA, zB, zC, i64_w, i32_w]
 rfl
 }
 refine pure_ (i := 2) (N := some 14) (v := ?_) (a' := ?_) #[true, true, true, false, false, false, false] rfl rfl (by kernel_rfl) (fun _ _ _ h => h) (Or.inl ⟨by rfl, ?_⟩) ?_ ?_
 rotate_left
 {
 intro w'
 go_simp
 with_reducible rfl
 }
 rotate_left
 {
 simp only [Act.put, zA, zB, zC, i64_w, i32_w]
 rfl
 }
 refine pure_ (i := 4) (N := some 16) (v := ?_) (a' := ?_) #[true, true, true, false, true, false, false] rfl rfl (by kernel_rfl) (fun _ _ _ h => h) (Or.inl ⟨by rfl, ?_⟩) ?_ ?_
 rotate_left
 {
 intro w'
 go_simp
 with_reducible rfl
 }
 rotate_left
 {
 simp only [Act.put, zA, zB, zC, i64_w, i32_w]
 rfl
 }
 refine take_ (i := 3) (N := some 15) (v := ?_) (a' := ?_) #[true, true, true, true, true, false, false] rfl rfl (by kernel_rfl) (fun _ _ _ h => h) (Or.inl ⟨by rfl, ?_⟩) hHeld ?_ ?_
 rotate_left
 {
 intro w' s0
 go_simp
 with_reducible rfl
 }
 rotate_left
 {
 simp only [Act.put, zA, zB, zC, i64_w, i32_w]
 rfl
 }
 refine one_ (i := 5) (N := some 17) #[true, true, true, true, true, true, false] rfl rfl (by kernel_rfl) (by decide) (fun K hK => ?_)
 refine goes_ Tryz.func66 (by kernel_rfl) rfl #[.int .i64 x1_1] (by rfl) rfl rfl aX ?_
 with_reducible refine (laws_markText.calls k1 x1_1 t617 _ A5.out).mono ?_
 rintro e w10 ⟨rfl, hb⟩
 refine ⟨_, rfl, ?_⟩
 have n0_ := Aside0.mk (below_step (bX HB.out) hb)
 clear HB
 have HB := n0_
 clear n0_
 (try clear hb)
 (try clear hb2)
 (try clear hk)
 (try clear hi)
 refine hK.out _ _ (((HB.out.cell (World.block_lt_of_cell? w _ hw616_0)).trans hw616_0)) (fun hHeld => ?_)
 clear hK K
 refine norm_ (a' := ?_) ?_ ?_
 rotate_left
 {
 show Act.put _ (some 17) _ = _
 simp only [Act.put, zA, zB, zC, i64_w, i32_w]
 rfl
 }
 refine pure_ (i := 6) (N := some 18) (v := ?_) (a' := ?_) #[true, true, true, true, true, true, true] rfl rfl (by kernel_rfl) (fun _ _ _ h => h) (Or.inl ⟨by rfl, ?_⟩) ?_ ?_
 rotate_left
 {
 intro w'
 go_simp
 with_reducible rfl
 }
 rotate_left
 {
 simp only [Act.put, zA, zB, zC, i64_w, i32_w]
 rfl
 }
 refine done_ (by kernel_rfl) ?_
 try go_wp2
 go_ret
 exact ⟨eX, bX HB.out⟩
 }
 }
 {
 rw [if_neg c4] at H
 exact absurd H (by simp)
 }
 }
 {
 rw [if_neg c3] at H
 have c3b0 : decide (x5_1 < (l0.length : Int)) = false := decide_eq_false c3
 clear c3
 obtain rfl := Option.some.inj H
 go_wp2
 go_ret
 exact ⟨eX, bX HB.out⟩
 }

end Go.Proofs.YthhdgeafdnikcaaGreatDoor.S
