-- PRINTED by print.py (a twelfth state) out of the translation. Not trusted: Lean checks it.
import Derived.Test.YthhdgeafdnikcaaGreatDoorS0
import Derived.Test.YthhdgeafdnikcaaGreatDoorS4
import Derived.Test.YthhdgeafdnikcaaGreatDoorS5
import Derived.Test.YthhdgeafdnikcaaGreatDoorS9
namespace Go.Proofs.YthhdgeafdnikcaaGreatDoor.S
open Go.RowKit Go.Proofs.YthhdgeafdnikcaaGreatDoorW.PrintWords Go.Proofs.YthhdgeafdnikcaaGreatDoorW.PrintLast Go.Proofs.YthhdgeafdnikcaaGreatDoorW.PrintMore
attribute [local go_sem] max2_int min2_int max_two min_two max_three min_three max_four min_four   -- for this text's walks alone
set_option linter.unusedVariables false
set_option linter.unusedSimpArgs false

/-! ### laws_FnExactSurfaceLines: function 5 -/
def laws_FnExactSurfaceLines.j0 : Nat → List ByteArray → List ByteArray → Bool → List Int → List Int → Option (Bool)
 | 0, _, _, _, _, _ => none
 | k + 1, x4, x6, x42, x619000, x619001 => if x42 = true then (some false) else ((laws_markStringS.f k x6 1).bind fun bt651 => ((laws_heldStringS.f k bt651.2 1).bind fun t653 => (if t653 < 0 then (some false) else (if t653 = bt651.1 then ((laws_toSurface.f k x619000 x619001).bind fun bt654 => ((impl_SurfaceLines.f k bt654.1 bt654.2).bind fun t660 => ((laws_eqStringS.f k t660 x4).bind fun t663 => (if t663 = true then ((laws_heldStringS.f k bt651.2 1).bind fun t664 => (if t664 < 0 then (some false) else (if t664 = bt651.1 then (some true) else (some false)))) else (some false))))) else (some false)))))
def laws_FnExactSurfaceLines.f (k : Nat) (l0_0 : List Int) (l0_1 : List Int) : Option (Bool) := (laws_szSurface.f l0_0 l0_1 1048576).bind fun t619 => (if t619 < 0 then (some true) else ((laws_toSurface.f k l0_0 l0_1).bind fun bt620 => ((spec_SurfaceLines.f k bt620.1 bt620.2).bind fun t626 => ((laws_toSurface.f k l0_0 l0_1).bind fun bt629 => ((impl_SurfaceLines.f k bt629.1 bt629.2).bind fun t636 => ((laws_eqStringS.f k t636 t626).bind fun t639 => (if t639 = true then ((laws_toSurface.f k l0_0 l0_1).bind fun bt640 => ((laws_eqSurface.f k bt629.1 bt629.2 bt640.1 bt640.2).bind fun t646 => (if t646 = true then ((laws_markSurface.f k bt629.1 bt629.2 1).bind fun bt647 => (if bt647.1 < 0 then (laws_FnExactSurfaceLines.j0 k t626 t636 true l0_0 l0_1) else ((laws_eqStringS.f k t636 t626).bind fun t650 => (laws_FnExactSurfaceLines.j0 k t626 t636 (!t650) l0_0 l0_1)))) else (some false)))) else (some false))))))))
set_option maxHeartbeats 8000000 in
set_option maxRecDepth 100000 in
theorem laws_FnExactSurfaceLines.calls (k : Nat) (A0_0 : Option Addr) (c0_0 : Nat) (l0_0 : List Int) (A0_1 : Option Addr) (c0_1 : Nat) (l0_1 : List Int) (r : Bool) (w : World) (hr0_0 : Kd.C (Kd.int .i64) w A0_0 l0_0.length l0_0) (hc0_0 : l0_0.length ≤ c0_0) (hr0_1 : Kd.C (Kd.int .i64) w A0_1 l0_1.length l0_1) (hc0_1 : l0_1.length ≤ c0_1) (htab_ : PowTab w) (hrt_ : r = true) (h : laws_FnExactSurfaceLines.f k l0_0 l0_1 = some r) :
  Calls Tryz.prog 5 #[.agg #[.slice A0_0 l0_0.length c0_0, .slice A0_1 l0_1.length c0_1]] w fun e w' => e = .returned (.bool r) ∧ Below w.heap.size w w' := by
 have hu41 := Tryz.underlying41
 have hu25 := Tryz.underlying25
 have HR0_0 := Aside0.mk hr0_0
 have HC0_0 := Aside0.mk hc0_0
 clear hr0_0 hc0_0
 have HR0_1 := Aside0.mk hr0_1
 have HC0_1 := Aside0.mk hc0_1
 clear hr0_1 hc0_1
 have HB := Aside0.mk (Below.refl w.heap.size w)
 have H : ((laws_szSurface.f l0_0 l0_1 1048576).bind fun t619 => (if t619 < 0 then (some true) else ((laws_toSurface.f k l0_0 l0_1).bind fun bt620 => ((spec_SurfaceLines.f k bt620.1 bt620.2).bind fun t626 => ((laws_toSurface.f k l0_0 l0_1).bind fun bt629 => ((impl_SurfaceLines.f k bt629.1 bt629.2).bind fun t636 => ((laws_eqStringS.f k t636 t626).bind fun t639 => (if t639 = true then ((laws_toSurface.f k l0_0 l0_1).bind fun bt640 => ((laws_eqSurface.f k bt629.1 bt629.2 bt640.1 bt640.2).bind fun t646 => (if t646 = true then ((laws_markSurface.f k bt629.1 bt629.2 1).bind fun bt647 => (if bt647.1 < 0 then (laws_FnExactSurfaceLines.j0 k t626 t636 true l0_0 l0_1) else ((laws_eqStringS.f k t636 t626).bind fun t650 => (laws_FnExactSurfaceLines.j0 k t626 t636 (!t650) l0_0 l0_1)))) else (some false)))) else (some false))))))))) = some r := h
 clear h
 have HTAB := Aside0.mk htab_
 clear htab_
 have HRT := Aside0.mk hrt_
 clear hrt_
 replace H := Option.bind_eq_some_iff.mp H
 obtain ⟨t619, A20, H⟩ := H
 replace H : (if t619 < 0 then (some true) else ((laws_toSurface.f k l0_0 l0_1).bind fun bt620 => ((spec_SurfaceLines.f k bt620.1 bt620.2).bind fun t626 => ((laws_toSurface.f k l0_0 l0_1).bind fun bt629 => ((impl_SurfaceLines.f k bt629.1 bt629.2).bind fun t636 => ((laws_eqStringS.f k t636 t626).bind fun t639 => (if t639 = true then ((laws_toSurface.f k l0_0 l0_1).bind fun bt640 => ((laws_eqSurface.f k bt629.1 bt629.2 bt640.1 bt640.2).bind fun t646 => (if t646 = true then ((laws_markSurface.f k bt629.1 bt629.2 1).bind fun bt647 => (if bt647.1 < 0 then (laws_FnExactSurfaceLines.j0 k t626 t636 true l0_0 l0_1) else ((laws_eqStringS.f k t636 t626).bind fun t650 => (laws_FnExactSurfaceLines.j0 k t626 t636 (!t650) l0_0 l0_1)))) else (some false)))) else (some false)))))))) = some r := H
 have A2 := Aside0.mk A20
 clear A20
 by_cases c3 : t619 < 0
 {
 rw [if_pos c3] at H
 have c3b0 : decide (t619 < 0) = true := decide_eq_true c3
 clear c3
 obtain rfl := Option.some.inj H
 go_enter Tryz.func5, Tryz.ntmps5
 go_wp2_with (first | ((with_reducible refine gate_dst (N := 1) rfl ?_); refine box_event ?hg (N := 1) ?hd (cs := #[.slice A0_0 l0_0.length c0_0, .slice A0_1 l0_1.length c0_1]) (t := 41) ?hr ?_; (case hd => rfl); (case hg => rfl); (case hr => first | (go_simp; done) | (go_simp; rfl)); intro gb618 hg w4 hbox hb; have n0_ := Aside0.mk (below_step (bX HB.out) hb); have n1_ := Aside0.mk (hbox); have n2_ := Aside0.mk ((szX (below_size (bX HB.out)) hg : w.heap.size ≤ gb618)); have n3_ := Aside0.mk ((szX (below_size (bX HB.out)) hg : w.heap.size ≤ gb618)); clear HB; have HB := n0_; have BK618 := n1_; have GW618 := n2_; have GE618 := n3_; clear n0_ n1_ n2_ n3_ hb hbox hg; have hcz5_0 := cz20 BK618.out; have hcz5_1 := cz21 BK618.out; have hfz5_0 := blk_frozen BK618.out 0; have hfz5_1 := blk_frozen BK618.out 1) | ((with_reducible refine gate_callee (f := 15) rfl ?_); refine goesL_ (some 13) rfl rfl Tryz.func15 (by kernel_rfl) rfl #[.agg #[.slice A0_0 l0_0.length c0_0, .slice A0_1 l0_1.length c0_1], .int .i64 1048576] rfl aX ?_; (with_reducible refine (laws_szSurface.calls _ _ l0_0 _ _ l0_1 1048576 t619 _ ?side1 ?side2 ?side3 ?side4 A2.out).mono ?_); (case side1 => exact cX (Kd.C_below HR0_0.out HB.out)); (case side2 => exact HC0_0.out); (case side3 => exact cX (Kd.C_below HR0_1.out HB.out)); (case side4 => exact HC0_1.out); rintro e w6 ⟨rfl, hb⟩; refine ⟨_, rfl, ?_⟩; have n0_ := Aside0.mk (bbX BK618.out hb); have n1_ := Aside0.mk (below_step (bX1 HB.out GE618.out) hb); clear BK618 HB; have BK618 := n0_; have HB := n1_; clear n0_ n1_; (try clear hb); (try clear hb2); (try clear hk); (try clear hi)))
 go_ret
 exact ⟨eX, bX1 HB.out GE618.out⟩
 }
 {
 rw [if_neg c3] at H
 have c3b0 : decide (t619 < 0) = false := decide_eq_false c3
 clear c3
 replace H := Option.bind_eq_some_iff.mp H
 obtain ⟨⟨t620, t623⟩, A70, H⟩ := H
 replace H : ((spec_SurfaceLines.f k t620 t623).bind fun t626 => ((laws_toSurface.f k l0_0 l0_1).bind fun bt629 => ((impl_SurfaceLines.f k bt629.1 bt629.2).bind fun t636 => ((laws_eqStringS.f k t636 t626).bind fun t639 => (if t639 = true then ((laws_toSurface.f k l0_0 l0_1).bind fun bt640 => ((laws_eqSurface.f k bt629.1 bt629.2 bt640.1 bt640.2).bind fun t646 => (if t646 = true then ((laws_markSurface.f k bt629.1 bt629.2 1).bind fun bt647 => (if bt647.1 < 0 then (laws_FnExactSurfaceLines.j0 k t626 t636 true l0_0 l0_1) else ((laws_eqStringS.f k t636 t626).bind fun t650 => (laws_FnExactSurfaceLines.j0 k t626 t636 (!t650) l0_0 l0_1)))) else (some false)))) else (some false)))))) = some r := H
 have A7 := Aside0.mk A70
 clear A70
 replace H := Option.bind_eq_some_iff.mp H
 obtain ⟨t626, A80, H⟩ := H
 replace H : ((laws_toSurface.f k l0_0 l0_1).bind fun bt629 => ((impl_SurfaceLines.f k bt629.1 bt629.2).bind fun t636 => ((laws_eqStringS.f k t636 t626).bind fun t639 => (if t639 = true then ((laws_toSurface.f k l0_0 l0_1).bind fun bt640 => ((laws_eqSurface.f k bt629.1 bt629.2 bt640.1 bt640.2).bind fun t646 => (if t646 = true then ((laws_markSurface.f k bt629.1 bt629.2 1).bind fun bt647 => (if bt647.1 < 0 then (laws_FnExactSurfaceLines.j0 k t626 t636 true l0_0 l0_1) else ((laws_eqStringS.f k t636 t626).bind fun t650 => (laws_FnExactSurfaceLines.j0 k t626 t636 (!t650) l0_0 l0_1)))) else (some false)))) else (some false))))) = some r := H
 have A8 := Aside0.mk A80
 clear A80
 replace H := Option.bind_eq_some_iff.mp H
 obtain ⟨⟨t629, t632⟩, A90, H⟩ := H
 replace H : ((impl_SurfaceLines.f k t629 t632).bind fun t636 => ((laws_eqStringS.f k t636 t626).bind fun t639 => (if t639 = true then ((laws_toSurface.f k l0_0 l0_1).bind fun bt640 => ((laws_eqSurface.f k t629 t632 bt640.1 bt640.2).bind fun t646 => (if t646 = true then ((laws_markSurface.f k t629 t632 1).bind fun bt647 => (if bt647.1 < 0 then (laws_FnExactSurfaceLines.j0 k t626 t636 true l0_0 l0_1) else ((laws_eqStringS.f k t636 t626).bind fun t650 => (laws_FnExactSurfaceLines.j0 k t626 t636 (!t650) l0_0 l0_1)))) else (some false)))) else (some false)))) = some r := H
 have A9 := Aside0.mk A90
 clear A90
 replace H := Option.bind_eq_some_iff.mp H
 obtain ⟨t636, A100, H⟩ := H
 replace H : ((laws_eqStringS.f k t636 t626).bind fun t639 => (if t639 = true then ((laws_toSurface.f k l0_0 l0_1).bind fun bt640 => ((laws_eqSurface.f k t629 t632 bt640.1 bt640.2).bind fun t646 => (if t646 = true then ((laws_markSurface.f k t629 t632 1).bind fun bt647 => (if bt647.1 < 0 then (laws_FnExactSurfaceLines.j0 k t626 t636 true l0_0 l0_1) else ((laws_eqStringS.f k t636 t626).bind fun t650 => (laws_FnExactSurfaceLines.j0 k t626 t636 (!t650) l0_0 l0_1)))) else (some false)))) else (some false))) = some r := H
 have A10 := Aside0.mk A100
 clear A100
 replace H := Option.bind_eq_some_iff.mp H
 obtain ⟨t639, A110, H⟩ := H
 replace H : (if t639 = true then ((laws_toSurface.f k l0_0 l0_1).bind fun bt640 => ((laws_eqSurface.f k t629 t632 bt640.1 bt640.2).bind fun t646 => (if t646 = true then ((laws_markSurface.f k t629 t632 1).bind fun bt647 => (if bt647.1 < 0 then (laws_FnExactSurfaceLines.j0 k t626 t636 true l0_0 l0_1) else ((laws_eqStringS.f k t636 t626).bind fun t650 => (laws_FnExactSurfaceLines.j0 k t626 t636 (!t650) l0_0 l0_1)))) else (some false)))) else (some false)) = some r := H
 have A11 := Aside0.mk A110
 clear A110
 by_cases c12 : t639 = true
 {
 subst c12
 have H1 : ((laws_toSurface.f k l0_0 l0_1).bind fun bt640 => ((laws_eqSurface.f k t629 t632 bt640.1 bt640.2).bind fun t646 => (if t646 = true then ((laws_markSurface.f k t629 t632 1).bind fun bt647 => (if bt647.1 < 0 then (laws_FnExactSurfaceLines.j0 k t626 t636 true l0_0 l0_1) else ((laws_eqStringS.f k t636 t626).bind fun t650 => (laws_FnExactSurfaceLines.j0 k t626 t636 (!t650) l0_0 l0_1)))) else (some false)))) = some r := by rw [if_pos rfl] at H; exact H
 clear H
 have H := H1
 clear H1
 replace H := Option.bind_eq_some_iff.mp H
 obtain ⟨⟨t640, t643⟩, A130, H⟩ := H
 replace H : ((laws_eqSurface.f k t629 t632 t640 t643).bind fun t646 => (if t646 = true then ((laws_markSurface.f k t629 t632 1).bind fun bt647 => (if bt647.1 < 0 then (laws_FnExactSurfaceLines.j0 k t626 t636 true l0_0 l0_1) else ((laws_eqStringS.f k t636 t626).bind fun t650 => (laws_FnExactSurfaceLines.j0 k t626 t636 (!t650) l0_0 l0_1)))) else (some false))) = some r := H
 have A13 := Aside0.mk A130
 clear A130
 replace H := Option.bind_eq_some_iff.mp H
 obtain ⟨t646, A140, H⟩ := H
 replace H : (if t646 = true then ((laws_markSurface.f k t629 t632 1).bind fun bt647 => (if bt647.1 < 0 then (laws_FnExactSurfaceLines.j0 k t626 t636 true l0_0 l0_1) else ((laws_eqStringS.f k t636 t626).bind fun t650 => (laws_FnExactSurfaceLines.j0 k t626 t636 (!t650) l0_0 l0_1)))) else (some false)) = some r := H
 have A14 := Aside0.mk A140
 clear A140
 by_cases c15 : t646 = true
 {
 subst c15
 have H1 : ((laws_markSurface.f k t629 t632 1).bind fun bt647 => (if bt647.1 < 0 then (laws_FnExactSurfaceLines.j0 k t626 t636 true l0_0 l0_1) else ((laws_eqStringS.f k t636 t626).bind fun t650 => (laws_FnExactSurfaceLines.j0 k t626 t636 (!t650) l0_0 l0_1)))) = some r := by rw [if_pos rfl] at H; exact H
 clear H
 have H := H1
 clear H1
 replace H := Option.bind_eq_some_iff.mp H
 obtain ⟨⟨t647, t648, t649⟩, A160, H⟩ := H
 replace H : (if t647 < 0 then (laws_FnExactSurfaceLines.j0 k t626 t636 true l0_0 l0_1) else ((laws_eqStringS.f k t636 t626).bind fun t650 => (laws_FnExactSurfaceLines.j0 k t626 t636 (!t650) l0_0 l0_1))) = some r := H
 have A16 := Aside0.mk A160
 clear A160
 have HC17 := Aside0.mk H
 clear H
 go_enter Tryz.func5, Tryz.ntmps5
 try go_wp2_with (first | ((with_reducible refine gate_dst (N := 1) rfl ?_); refine box_event ?hg (N := 1) ?hd (cs := #[.slice A0_0 l0_0.length c0_0, .slice A0_1 l0_1.length c0_1]) (t := 41) ?hr ?_; (case hd => rfl); (case hg => rfl); (case hr => first | (go_simp; done) | (go_simp; rfl)); intro gb618 hg w18 hbox hb; have n0_ := Aside0.mk (below_step (bX HB.out) hb); have n1_ := Aside0.mk (hbox); have n2_ := Aside0.mk ((szX (below_size (bX HB.out)) hg : w.heap.size ≤ gb618)); have n3_ := Aside0.mk ((szX (below_size (bX HB.out)) hg : w.heap.size ≤ gb618)); clear HB; have HB := n0_; have BK618 := n1_; have GW618 := n2_; have GE618 := n3_; clear n0_ n1_ n2_ n3_ hb hbox hg; have hcz19_0 := cz20 BK618.out; have hcz19_1 := cz21 BK618.out; have hfz19_0 := blk_frozen BK618.out 0; have hfz19_1 := blk_frozen BK618.out 1) | ((with_reducible refine gate_callee (f := 15) rfl ?_); refine goesL_ (some 13) rfl rfl Tryz.func15 (by kernel_rfl) rfl #[.agg #[.slice A0_0 l0_0.length c0_0, .slice A0_1 l0_1.length c0_1], .int .i64 1048576] rfl aX ?_; (with_reducible refine (laws_szSurface.calls _ _ l0_0 _ _ l0_1 1048576 t619 _ ?side1 ?side2 ?side3 ?side4 A2.out).mono ?_); (case side1 => exact cX (Kd.C_below HR0_0.out HB.out)); (case side2 => exact HC0_0.out); (case side3 => exact cX (Kd.C_below HR0_1.out HB.out)); (case side4 => exact HC0_1.out); rintro e w20 ⟨rfl, hb⟩; refine ⟨_, rfl, ?_⟩; have n0_ := Aside0.mk (bbX BK618.out hb); have n1_ := Aside0.mk (below_step (bX1 HB.out GE618.out) hb); clear BK618 HB; have BK618 := n0_; have HB := n1_; clear n0_ n1_; (try clear hb); (try clear hb2); (try clear hk); (try clear hi); have hcz21_0 := cz20 BK618.out; have hcz21_1 := cz21 BK618.out; have hfz21_0 := blk_frozen BK618.out 0; have hfz21_1 := blk_frozen BK618.out 1) | ((with_reducible refine gate_callee (f := 17) rfl ?_); refine goesL_ (some 17) rfl rfl Tryz.func17 (by kernel_rfl) rfl #[.agg #[.slice A0_0 l0_0.length c0_0, .slice A0_1 l0_1.length c0_1]] rfl aX ?_; (with_reducible refine (laws_toSurface.calls k _ _ l0_0 _ _ l0_1 t620 t623 _ ?side1 ?side2 ?side3 ?side4 A7.out).mono ?_); (case side1 => exact cX (Kd.C_below HR0_0.out HB.out)); (case side2 => exact HC0_0.out); (case side3 => exact cX (Kd.C_below HR0_1.out HB.out)); (case side4 => exact HC0_1.out); rintro e w22 ⟨v621, v624, rfl, ho0, ho1, hb⟩; refine ⟨_, rfl, ?_⟩; have n0_ := Aside0.mk (Kd.R_lower ho0 (below_size (bX1 HB.out GE618.out))); have n1_ := Aside0.mk (Kd.R_lower ho1 (below_size (bX1 HB.out GE618.out))); have n2_ := Aside0.mk (bbX BK618.out hb); have n3_ := Aside0.mk (below_step (bX1 HB.out GE618.out) hb); clear BK618 HB; have HO622 := n0_; have HO625 := n1_; have BK618 := n2_; have HB := n3_; clear n0_ n1_ n2_ n3_; (try clear hb); (try clear hb2); (try clear hk); (try clear hi); (try clear ho0); (try clear ho1); obtain ⟨Ao23, co23, eo23⟩ := Kd.R_slice HO622.out; subst eo23; obtain ⟨Ao24, co24, eo24⟩ := Kd.R_slice HO625.out; subst eo24) | ((with_reducible refine gate_callee (f := 20) rfl ?_); refine goesL_ (some 18) rfl rfl Tryz.func20 (by kernel_rfl) rfl #[.agg #[.slice Ao23 t620.length co23, .slice Ao24 t623.length co24]] rfl aX ?_; (with_reducible refine (spec_SurfaceLines.calls k _ _ t620 _ _ t623 t626 _ ?side1 ?side2 ?side3 ?side4 A8.out).mono ?_); (case side1 => exact cX (Kd.R_reads' HO622.out).2.2); (case side2 => exact (Kd.R_reads' HO622.out).2.1); (case side3 => exact cX (Kd.R_reads' HO625.out).2.2); (case side4 => exact (Kd.R_reads' HO625.out).2.1); rintro e w25 ⟨v627, rfl, ho0, hb⟩; refine ⟨_, rfl, ?_⟩; have n0_ := Aside0.mk (Kd.R_below (rX HO622.out) hb); have n1_ := Aside0.mk (Kd.R_below (rX HO625.out) hb); have n2_ := Aside0.mk (Kd.R_lower ho0 (below_size (bX1 HB.out GE618.out))); have n3_ := Aside0.mk (bbX BK618.out hb); have n4_ := Aside0.mk (below_step (bX1 HB.out GE618.out) hb); clear HO622 HO625 BK618 HB; have HO622 := n0_; have HO625 := n1_; have HO628 := n2_; have BK618 := n3_; have HB := n4_; clear n0_ n1_ n2_ n3_ n4_; (try clear hb); (try clear hb2); (try clear hk); (try clear hi); (try clear ho0); have hcz26_0 := cz20 BK618.out; have hcz26_1 := cz21 BK618.out; have hfz26_0 := blk_frozen BK618.out 0; have hfz26_1 := blk_frozen BK618.out 1) | ((with_reducible refine gate_callee (f := 17) rfl ?_); refine goesL_ (some 20) rfl rfl Tryz.func17 (by kernel_rfl) rfl #[.agg #[.slice A0_0 l0_0.length c0_0, .slice A0_1 l0_1.length c0_1]] rfl aX ?_; (with_reducible refine (laws_toSurface.calls k _ _ l0_0 _ _ l0_1 t629 t632 _ ?side1 ?side2 ?side3 ?side4 A9.out).mono ?_); (case side1 => exact cX (Kd.C_below HR0_0.out HB.out)); (case side2 => exact HC0_0.out); (case side3 => exact cX (Kd.C_below HR0_1.out HB.out)); (case side4 => exact HC0_1.out); rintro e w27 ⟨v630, v633, rfl, ho0, ho1, hb⟩; refine ⟨_, rfl, ?_⟩; have n0_ := Aside0.mk (Kd.R_mono (Kd.R_told (Kd.R_told (Kd.R_old (rX HO622.out) hb) (Kd.R_base ho0)) (Kd.R_base ho1)) (fun _ h_ => h_.1)); have n1_ := Aside0.mk (Kd.R_mono (Kd.R_told (Kd.R_told (Kd.R_old (rX HO625.out) hb) (Kd.R_base ho0)) (Kd.R_base ho1)) (fun _ h_ => h_.1)); have n2_ := Aside0.mk (Kd.R_below (rX HO628.out) hb); have n3_ := Aside0.mk (Kd.R_lower (Kd.R_new' (Kd.R_new' ho0 (Kd.R_lt (rX HO622.out))) (Kd.R_lt (rX HO625.out))) (below_size (bX1 HB.out GE618.out))); have n4_ := Aside0.mk (Kd.R_lower (Kd.R_new' (Kd.R_new' ho1 (Kd.R_lt (rX HO622.out))) (Kd.R_lt (rX HO625.out))) (below_size (bX1 HB.out GE618.out))); have n5_ := Aside0.mk (bbX BK618.out hb); have n6_ := Aside0.mk (below_step (bX1 HB.out GE618.out) hb); clear HO622 HO625 HO628 BK618 HB; have HO622 := n0_; have HO625 := n1_; have HO628 := n2_; have HO631 := n3_; have HO634 := n4_; have BK618 := n5_; have HB := n6_; clear n0_ n1_ n2_ n3_ n4_ n5_ n6_; (try clear hb); (try clear hb2); (try clear hk); (try clear hi); (try clear ho0); (try clear ho1)) | ((with_reducible refine gate_dst (N := 5) rfl ?_); refine box_event ?hg (N := 5) ?hd (cs := #[.slice none 0 0, .slice none 0 0]) (t := 25) ?hr ?_; (case hd => rfl); (case hg => rfl); (case hr => first | (go_simp; done) | (go_simp; rfl)); intro gb635 hg w28 hbox hb; have n0_ := Aside0.mk (Kd.R_below (rX HO622.out) hb); have n1_ := Aside0.mk (Kd.R_below (rX HO625.out) hb); have n2_ := Aside0.mk (Kd.R_below (rX HO628.out) hb); have n3_ := Aside0.mk (Kd.R_below (rX HO631.out) hb); have n4_ := Aside0.mk (Kd.R_below (rX HO634.out) hb); have n5_ := Aside0.mk (bbX BK618.out hb); have n6_ := Aside0.mk (below_step (bX1 HB.out GE618.out) hb); have n7_ := Aside0.mk (hbox); have n8_ := Aside0.mk ((szX (below_size (bX1 HB.out GE618.out)) hg : w.heap.size ≤ gb635)); have n9_ := Aside0.mk ((szX (below_size (bX1 HB.out GE618.out)) hg : w.heap.size ≤ gb635)); have n10_ := Aside0.mk (neX BK618.out hg); have n11_ := Aside0.mk (nfX BK618.out hg); clear HO622 HO625 HO628 HO631 HO634 BK618 HB; have HO622 := n0_; have HO625 := n1_; have HO628 := n2_; have HO631 := n3_; have HO634 := n4_; have BK618 := n5_; have HB := n6_; have BK635 := n7_; have GW635 := n8_; have GE635 := n9_; have NB618_635 := n10_; have NB635_618 := n11_; clear n0_ n1_ n2_ n3_ n4_ n5_ n6_ n7_ n8_ n9_ n10_ n11_ hb hbox hg; obtain ⟨Ao29, co29, eo29⟩ := Kd.R_slice HO631.out; subst eo29; have hnb30 := NB635_618.out; have hnc30 := NB618_635.out; have hcz31_0 := cz20 BK635.out; have hcz31_1 := cz21 BK635.out; have hfz31_0 := blk_frozen BK635.out 0; have hfz31_1 := blk_frozen BK635.out 1; obtain ⟨Ao32, co32, eo32⟩ := Kd.R_slice HO634.out; subst eo32) | ((with_reducible refine gate_callee (f := 7) rfl ?_); refine goesL_ (some 22) rfl rfl Tryz.func7 (by kernel_rfl) rfl #[.agg #[.slice Ao29 t629.length co29, .slice Ao32 t632.length co32]] rfl aX ?_; (with_reducible refine (impl_SurfaceLines.calls k _ _ t629 _ _ t632 t636 _ ?side1 ?side2 ?side3 ?side4 ?side5 A10.out).mono ?_); (case side1 => exact rcX (fr2 HO631.out BK635.out (.slice Ao29 t629.length co29) (.slice Ao32 t632.length co32))); (case side2 => exact (Kd.R_reads' HO631.out).2.1); (case side3 => exact rcX (fr2 HO634.out BK635.out (.slice Ao29 t629.length co29) (.slice Ao32 t632.length co32))); (case side4 => exact (Kd.R_reads' HO634.out).2.1); (case side5 => exact PowTab.below HTAB.out (bX2 HB.out GE618.out GE635.out)); rintro e w33 ⟨v637, rfl, ho0, hb⟩; refine ⟨_, rfl, ?_⟩; have n0_ := Aside0.mk (Kd.R_below (rX (fr2 HO622.out BK635.out (.slice Ao29 t629.length co29) (.slice Ao32 t632.length co32))) hb); have n1_ := Aside0.mk (Kd.R_below (rX (fr2 HO625.out BK635.out (.slice Ao29 t629.length co29) (.slice Ao32 t632.length co32))) hb); have n2_ := Aside0.mk (Kd.R_elder' (rX (fr2 HO628.out BK635.out (.slice Ao29 t629.length co29) (.slice Ao32 t632.length co32))) (Kd.R_base ho0) hb); have n3_ := Aside0.mk (Kd.R_below (rX (fr2 HO631.out BK635.out (.slice Ao29 t629.length co29) (.slice Ao32 t632.length co32))) hb); have n4_ := Aside0.mk (Kd.R_below (rX (fr2 HO634.out BK635.out (.slice Ao29 t629.length co29) (.slice Ao32 t632.length co32))) hb); have n5_ := Aside0.mk (Kd.R_lower (Kd.R_new' ho0 (Kd.R_lt (rX (fr2 HO628.out BK635.out (.slice Ao29 t629.length co29) (.slice Ao32 t632.length co32))))) (below_size (bX2 HB.out GE618.out GE635.out))); have n6_ := Aside0.mk (blk_below (g := gb618) (o := .cells #[.slice A0_0 l0_0.length c0_0, .slice A0_1 l0_1.length c0_1] 41 (0, 0)) (by (with_reducible repeat (first|refine kN ?_ _|refine kD ?_|refine kA ?_ _)); refine blk_far ?_ NB618_635.out _; (with_reducible repeat (first|refine kN ?_ _|refine kD ?_|refine kA ?_ _)); refine blk_far ?_ NB618_635.out _; (with_reducible repeat (first|refine kN ?_ _|refine kD ?_|refine kA ?_ _)); exact BK618.out) hb); have n7_ := Aside0.mk (blk_below (g := gb635) (o := .cells #[.slice Ao29 t629.length co29, .slice Ao32 t632.length co32] 25 (0, 0)) (by (with_reducible repeat (first|refine kN ?_ _|refine kD ?_|refine kA ?_ _)); refine blk_put (cs := #[.slice Ao29 t629.length co29, .slice none 0 0]) ?_ 1 _ rfl; (with_reducible repeat (first|refine kN ?_ _|refine kD ?_|refine kA ?_ _)); refine blk_put (cs := #[.slice none 0 0, .slice none 0 0]) ?_ 0 _ rfl; (with_reducible repeat (first|refine kN ?_ _|refine kD ?_|refine kA ?_ _)); exact BK635.out) hb); have n8_ := Aside0.mk (below_step (bX2 HB.out GE618.out GE635.out) hb); clear HO622 HO625 HO628 HO631 HO634 BK618 BK635 HB; have HO622 := n0_; have HO625 := n1_; have HO628 := n2_; have HO631 := n3_; have HO634 := n4_; have HO638 := n5_; have BK618 := n6_; have BK635 := n7_; have HB := n8_; clear n0_ n1_ n2_ n3_ n4_ n5_ n6_ n7_ n8_; (try clear hb); (try clear hb2); (try clear hk); (try clear hi); (try clear ho0); obtain ⟨Ao34, co34, eo34⟩ := Kd.R_slice HO638.out; subst eo34; obtain ⟨Ao35, co35, eo35⟩ := Kd.R_slice HO628.out; subst eo35) | ((with_reducible refine gate_callee (f := 21) rfl ?_); refine goesL_ (some 25) rfl rfl Tryz.func21 (by kernel_rfl) rfl #[.slice Ao34 t636.length co34, .slice Ao35 t626.length co35] rfl aX ?_; (with_reducible refine (laws_eqStringS.calls k _ _ t636 _ _ t626 true _ ?side1 ?side2 ?side3 ?side4 A11.out).mono ?_); (case side1 => exact cX (Kd.R_reads' HO638.out).2.2); (case side2 => exact (Kd.R_reads' HO638.out).2.1); (case side3 => exact cX (Kd.R_reads' HO628.out).2.2); (case side4 => exact (Kd.R_reads' HO628.out).2.1); rintro e w' ⟨rfl, ⟨nd, rfl⟩⟩; refine ⟨_, rfl, ?_⟩))
 (try (rw [drewN_self w33]; generalize hq_ : World.drewN w33 _ = w33; have n0_ : Aside0 (Kd.R (Kd.int .i64) 3 w33 w.heap.size _ (.slice Ao23 t620.length co23) t620) := ⟨by rw [← hq_]; exact (rM HO622.out (fun _ hk => hk))⟩; have n1_ : Aside0 (Kd.R (Kd.int .i64) 3 w33 w.heap.size _ (.slice Ao24 t623.length co24) t623) := ⟨by rw [← hq_]; exact (rM HO625.out (fun _ hk => hk))⟩; have n2_ : Aside0 (Kd.R Kd.string 9 w33 w.heap.size _ (.slice Ao35 t626.length co35) t626) := ⟨by rw [← hq_]; exact (rM HO628.out (fun _ hk => hk))⟩; have n3_ : Aside0 (Kd.R (Kd.int .i64) 3 w33 w.heap.size _ (.slice Ao29 t629.length co29) t629) := ⟨by rw [← hq_]; exact (rM HO631.out (fun _ hk => hk))⟩; have n4_ : Aside0 (Kd.R (Kd.int .i64) 3 w33 w.heap.size _ (.slice Ao32 t632.length co32) t632) := ⟨by rw [← hq_]; exact (rM HO634.out (fun _ hk => hk))⟩; have n5_ : Aside0 (Kd.R Kd.string 9 w33 w.heap.size _ (.slice Ao34 t636.length co34) t636) := ⟨by rw [← hq_]; exact (rM HO638.out (fun _ hk => hk))⟩; have n6_ : Aside0 (w33.heap[gb618]? = some (.cells #[.slice A0_0 l0_0.length c0_0, .slice A0_1 l0_1.length c0_1] 41 (0, 0))) := ⟨by rw [← hq_]; exact (kX BK618.out)⟩; have n7_ : Aside0 (w33.heap[gb635]? = some (.cells #[.slice Ao29 t629.length co29, .slice Ao32 t632.length co32] 25 (0, 0))) := ⟨by rw [← hq_]; exact (kX BK635.out)⟩; have n8_ : Aside0 (Below w.heap.size w w33) := ⟨by rw [← hq_]; exact (bX2 HB.out GE618.out GE635.out)⟩; clear HO622 HO625 HO628 HO631 HO634 HO638 BK618 BK635 HB hq_; have HO622 := n0_; have HO625 := n1_; have HO628 := n2_; have HO631 := n3_; have HO634 := n4_; have HO638 := n5_; have BK618 := n6_; have BK635 := n7_; have HB := n8_; clear n0_ n1_ n2_ n3_ n4_ n5_ n6_ n7_ n8_))
 have n0_ := Aside0.mk (Kd.R_drew HO622.out)
 have n1_ := Aside0.mk (Kd.R_drew HO625.out)
 have n2_ := Aside0.mk (Kd.R_drew HO628.out)
 have n3_ := Aside0.mk (Kd.R_drew HO631.out)
 have n4_ := Aside0.mk (Kd.R_drew HO634.out)
 have n5_ := Aside0.mk (Kd.R_drew HO638.out)
 have n6_ := Aside0.mk (blk_drew BK618.out)
 have n7_ := Aside0.mk (blk_drew BK635.out)
 have n8_ := Aside0.mk (below_drew1 HB.out)
 clear HO622 HO625 HO628 HO631 HO634 HO638 BK618 BK635 HB
 have HO622 := n0_
 have HO625 := n1_
 have HO628 := n2_
 have HO631 := n3_
 have HO634 := n4_
 have HO638 := n5_
 have BK618 := n6_
 have BK635 := n7_
 have HB := n8_
 clear n0_ n1_ n2_ n3_ n4_ n5_ n6_ n7_ n8_
 refine start_ (n := 5) (S := fun w' => w'.cell? ⟨gb635, 0, none⟩ = some (.slice Ao29 t629.length co29) ∧ w'.cell? ⟨gb635, 1, none⟩ = some (.slice Ao32 t632.length co32) ∧ w'.cell? ⟨gb618, 0, none⟩ = some (.slice A0_0 l0_0.length c0_0) ∧ w'.cell? ⟨gb618, 1, none⟩ = some (.slice A0_1 l0_1.length c0_1)) (ds := []) #[false, false, false, false, false] (by kernel_rfl) rfl rfl ⟨cz20 BK635.out, cz21 BK635.out, cz20 BK618.out, cz21 BK618.out⟩ (fun hHeld => ?_)
 generalize w33.drew = w36 at HO622 HO625 HO628 HO631 HO634 HO638 BK618 BK635 HB hHeld ⊢
 refine take_ (i := 0) (N := some 27) (v := ?_) (a' := ?_) #[true, false, false, false, false] rfl rfl (by kernel_rfl) (fun _ _ _ h => h) (Or.inl ⟨by rfl, ?_⟩) hHeld ?_ ?_
 rotate_left
 {
 rintro w' ⟨s0, s1, s2, s3⟩
 go_simp
 with_reducible rfl
 }
 rotate_left
 {
 simp only [Act.put, zA, zB, zC, i64_w, i32_w]
 rfl
 }
 refine take_ (i := 1) (N := some 28) (v := ?_) (a' := ?_) #[true, true, false, false, false] rfl rfl (by kernel_rfl) (fun _ _ _ h => h) (Or.inl ⟨by rfl, ?_⟩) hHeld ?_ ?_
 rotate_left
 {
 rintro w' ⟨s0, s1, s2, s3⟩
 go_simp
 with_reducible rfl
 }
 rotate_left
 {
 simp only [Act.put, zA, zB, zC, i64_w, i32_w]
 rfl
 }
 refine one_ (i := 2) (N := some 29) #[true, true, true, false, false] rfl rfl (by kernel_rfl) (by decide) (fun K hK => ?_)
 refine goes_ Tryz.func17 (by kernel_rfl) rfl #[.agg #[.slice A0_0 l0_0.length c0_0, .slice A0_1 l0_1.length c0_1]] (by rfl) rfl rfl aX ?_
 with_reducible refine (laws_toSurface.calls k _ _ l0_0 _ _ l0_1 t640 t643 _ ?side1 ?side2 ?side3 ?side4 A13.out).mono ?_
 (case side1 => exact cX (Kd.C_below HR0_0.out HB.out))
 (case side2 => exact HC0_0.out)
 (case side3 => exact cX (Kd.C_below HR0_1.out HB.out))
 (case side4 => exact HC0_1.out)
 rintro e w37 ⟨v641, v644, rfl, ho0, ho1, hb⟩
 refine ⟨_, rfl, ?_⟩
 have n0_ := Aside0.mk (Kd.R_mono (Kd.R_told (Kd.R_told (Kd.R_old (rX HO622.out) hb) (Kd.R_base ho0)) (Kd.R_base ho1)) (fun _ h_ => h_.1))
 have n1_ := Aside0.mk (Kd.R_mono (Kd.R_told (Kd.R_told (Kd.R_old (rX HO625.out) hb) (Kd.R_base ho0)) (Kd.R_base ho1)) (fun _ h_ => h_.1))
 have n2_ := Aside0.mk (Kd.R_below (rX HO628.out) hb)
 have n3_ := Aside0.mk (Kd.R_mono (Kd.R_told (Kd.R_told (Kd.R_old (rX HO631.out) hb) (Kd.R_base ho0)) (Kd.R_base ho1)) (fun _ h_ => h_.1))
 have n4_ := Aside0.mk (Kd.R_mono (Kd.R_told (Kd.R_told (Kd.R_old (rX HO634.out) hb) (Kd.R_base ho0)) (Kd.R_base ho1)) (fun _ h_ => h_.1))
 have n5_ := Aside0.mk (Kd.R_below (rX HO638.out) hb)
 have n6_ := Aside0.mk (Kd.R_lower (Kd.R_new' (Kd.R_new' (Kd.R_new' (Kd.R_new' ho0 (Kd.R_lt (rX HO622.out))) (Kd.R_lt (rX HO625.out))) (Kd.R_lt (rX HO631.out))) (Kd.R_lt (rX HO634.out))) (below_size (bX2 HB.out GE618.out GE635.out)))
 have n7_ := Aside0.mk (Kd.R_lower (Kd.R_new' (Kd.R_new' (Kd.R_new' (Kd.R_new' ho1 (Kd.R_lt (rX HO622.out))) (Kd.R_lt (rX HO625.out))) (Kd.R_lt (rX HO631.out))) (Kd.R_lt (rX HO634.out))) (below_size (bX2 HB.out GE618.out GE635.out)))
 have n8_ := Aside0.mk (bbX BK618.out hb)
 have n9_ := Aside0.mk (bbX BK635.out hb)
 have n10_ := Aside0.mk (below_step (bX2 HB.out GE618.out GE635.out) hb)
 clear HO622 HO625 HO628 HO631 HO634 HO638 BK618 BK635 HB
 have HO622 := n0_
 have HO625 := n1_
 have HO628 := n2_
 have HO631 := n3_
 have HO634 := n4_
 have HO638 := n5_
 have HO642 := n6_
 have HO645 := n7_
 have BK618 := n8_
 have BK635 := n9_
 have HB := n10_
 clear n0_ n1_ n2_ n3_ n4_ n5_ n6_ n7_ n8_ n9_ n10_
 (try clear hb)
 (try clear hb2)
 (try clear hk)
 (try clear hi)
 (try clear ho0)
 (try clear ho1)
 obtain ⟨Ao38, co38, eo38⟩ := Kd.R_slice HO642.out
 (first | subst eo38 | (injection eo38 with f1_ f2_ f3_; have f4_ := f1_.symm; have f5_ := f3_.symm; clear f1_ f2_ f3_; subst f4_; subst f5_))
 obtain ⟨Ao39, co39, eo39⟩ := Kd.R_slice HO645.out
 (first | subst eo39 | (injection eo39 with f1_ f2_ f3_; have f4_ := f1_.symm; have f5_ := f3_.symm; clear f1_ f2_ f3_; subst f4_; subst f5_))
 refine hK.out _ _ ⟨cz20 BK635.out, cz21 BK635.out, cz20 BK618.out, cz21 BK618.out⟩ (fun hHeld => ?_)
 clear hK K
 refine norm_ (a' := ?_) ?_ ?_
 rotate_left
 {
 show Act.put _ (some 29) _ = _
 simp only [Act.put, zA, zB, zC, i64_w, i32_w]
 rfl
 }
 refine one_ (i := 3) (N := some 30) #[true, true, true, true, false] rfl rfl (by kernel_rfl) (by decide) (fun K hK => ?_)
 refine goes_ Tryz.func19 (by kernel_rfl) rfl #[.agg #[.slice Ao29 t629.length co29, .slice Ao32 t632.length co32], .agg #[.slice Ao38 t640.length co38, .slice Ao39 t643.length co39]] (by rfl) rfl rfl aX ?_
 with_reducible refine (laws_eqSurface.calls k _ _ t629 _ _ t632 _ _ t640 _ _ t643 true _ ?side1 ?side2 ?side3 ?side4 ?side5 ?side6 ?side7 ?side8 A14.out).mono ?_
 (case side1 => exact cX (Kd.R_reads' HO631.out).2.2)
 (case side2 => exact (Kd.R_reads' HO631.out).2.1)
 (case side3 => exact cX (Kd.R_reads' HO634.out).2.2)
 (case side4 => exact (Kd.R_reads' HO634.out).2.1)
 (case side5 => exact cX (Kd.R_reads' HO642.out).2.2)
 (case side6 => exact (Kd.R_reads' HO642.out).2.1)
 (case side7 => exact cX (Kd.R_reads' HO645.out).2.2)
 (case side8 => exact (Kd.R_reads' HO645.out).2.1)
 rintro e w40 ⟨rfl, hb⟩
 refine ⟨_, rfl, ?_⟩
 have n0_ := Aside0.mk (Kd.R_below (rX HO622.out) hb)
 have n1_ := Aside0.mk (Kd.R_below (rX HO625.out) hb)
 have n2_ := Aside0.mk (Kd.R_below (rX HO628.out) hb)
 have n3_ := Aside0.mk (Kd.R_below (rX HO631.out) hb)
 have n4_ := Aside0.mk (Kd.R_below (rX HO634.out) hb)
 have n5_ := Aside0.mk (Kd.R_below (rX HO638.out) hb)
 have n6_ := Aside0.mk (Kd.R_below (rX HO642.out) hb)
 have n7_ := Aside0.mk (Kd.R_below (rX HO645.out) hb)
 have n8_ := Aside0.mk (bbX BK618.out hb)
 have n9_ := Aside0.mk (bbX BK635.out hb)
 have n10_ := Aside0.mk (below_step (bX2 HB.out GE618.out GE635.out) hb)
 clear HO622 HO625 HO628 HO631 HO634 HO638 HO642 HO645 BK618 BK635 HB
 have HO622 := n0_
 have HO625 := n1_
 have HO628 := n2_
 have HO631 := n3_
 have HO634 := n4_
 have HO638 := n5_
 have HO642 := n6_
 have HO645 := n7_
 have BK618 := n8_
 have BK635 := n9_
 have HB := n10_
 clear n0_ n1_ n2_ n3_ n4_ n5_ n6_ n7_ n8_ n9_ n10_
 (try clear hb)
 (try clear hb2)
 (try clear hk)
 (try clear hi)
 refine hK.out _ _ ⟨cz20 BK635.out, cz21 BK635.out, cz20 BK618.out, cz21 BK618.out⟩ (fun hHeld => ?_)
 clear hK K
 refine norm_ (a' := ?_) ?_ ?_
 rotate_left
 {
 show Act.put _ (some 30) _ = _
 simp only [Act.put, zA, zB, zC, i64_w, i32_w]
 rfl
 }
 refine pure_ (i := 4) (N := some 31) (v := ?_) (a' := ?_) #[true, true, true, true, true] rfl rfl (by kernel_rfl) (fun _ _ _ h => h) (Or.inl ⟨by rfl, ?_⟩) ?_ ?_
 rotate_left
 {
 intro w'
 go_simp
 with_reducible rfl
 }
 rotate_left
 {
 simp only [Act.put, zA, zB, zC, i64_w, i32_w]
 rfl
 }
 refine done_ (by kernel_rfl) ?_
 have hcz41_0 := cz20 BK635.out
 have hcz41_1 := cz21 BK635.out
 have hfz41_0 := blk_frozen BK635.out 0
 have hfz41_1 := blk_frozen BK635.out 1
 go_upto_region 14 with (first | ((with_reducible refine gate_callee (f := 22) rfl ?_); refine goesL_ (some 34) rfl rfl Tryz.func22 (by kernel_rfl) rfl #[.agg #[.slice Ao29 t629.length co29, .slice Ao32 t632.length co32], .int .i64 1] rfl aX ?_; (with_reducible refine (laws_markSurface.calls k (fun k_ => some k_ = (.slice Ao29 t629.length co29 : Value).ownBlock) (.slice Ao29 t629.length co29) t629 (fun k_ => some k_ = (.slice Ao32 t632.length co32 : Value).ownBlock) (.slice Ao32 t632.length co32) t632 1 t647 t648 t649 w _ ?side1 ?side2 ?side3 ?side4 ?side5 A16.out).mono ?_); (case side1 => repeat (first | (with_reducible first | exact HB.out|apply bA|apply bN|apply bD | refine below_set ?_ GE618.out | refine below_set ?_ GE635.out) | exact HB.out)); (case side2 => exact Kd.R_tight rfl HO631.out); (case side3 => exact fun k_ e_ => (HO631.out.1 k_ e_.symm).1.1.1.1); (case side4 => exact Kd.R_tight rfl HO634.out); (case side5 => exact fun k_ e_ => (HO634.out.1 k_ e_.symm).1.1.1.1); rintro e w42 ⟨rfl, hy0, hy1, hb, hkp⟩; refine ⟨_, rfl, ?_⟩; have n0_ := Aside0.mk (blk_kept (kX BK618.out) hkp (fun hs_ => Or.elim hs_ (fun e_ => (fun e_ => (Kd.R_ne HO631.out BK618.out (by decide)) e_) e_) (fun e_ => (fun e_ => (Kd.R_ne HO634.out BK618.out (by decide)) e_) e_))); have n1_ := Aside0.mk (Kd.R_mono (ok' := fun k_ => some k_ ≠ (.slice Ao24 t623.length co24 : Value).ownBlock ∧ some k_ ≠ (.slice Ao29 t629.length co29 : Value).ownBlock ∧ some k_ ≠ (.slice Ao32 t632.length co32 : Value).ownBlock ∧ some k_ ≠ (.slice Ao38 t640.length co38 : Value).ownBlock ∧ some k_ ≠ (.slice Ao39 t643.length co39 : Value).ownBlock) (Kd.R_keptB (HO622.out) hkp (fun k_ hk_ hs_ => Or.elim hs_ (fun e_ => (hk_.1.1.1.2) e_) (fun e_ => (hk_.1.1.2) e_))) (fun k_ hk_ => ⟨hk_.1.1.1.1.1, hk_.1.1.1.1.2, hk_.1.1.1.2, hk_.1.1.2, hk_.1.2⟩)); have n2_ := Aside0.mk (Kd.R_mono (ok' := fun k_ => some k_ ≠ (.slice Ao23 t620.length co23 : Value).ownBlock ∧ some k_ ≠ (.slice Ao29 t629.length co29 : Value).ownBlock ∧ some k_ ≠ (.slice Ao32 t632.length co32 : Value).ownBlock ∧ some k_ ≠ (.slice Ao38 t640.length co38 : Value).ownBlock ∧ some k_ ≠ (.slice Ao39 t643.length co39 : Value).ownBlock) (Kd.R_keptB (HO625.out) hkp (fun k_ hk_ hs_ => Or.elim hs_ (fun e_ => (hk_.1.1.1.2) e_) (fun e_ => (hk_.1.1.2) e_))) (fun k_ hk_ => ⟨hk_.1.1.1.1.1, hk_.1.1.1.1.2, hk_.1.1.1.2, hk_.1.1.2, hk_.1.2⟩)); have n3_ := Aside0.mk (Kd.R_mono (ok' := fun k_ => some k_ ≠ (.slice Ao34 t636.length co34 : Value).ownBlock) (Kd.R_keptB ((Kd.R_apart' (Kd.R_apart' HO628.out (Kd.R_typed HO631.out) (by decide)) (Kd.R_typed HO634.out) (by decide))) hkp (fun k_ hk_ hs_ => Or.elim hs_ (fun e_ => (hk_.1.2) e_) (fun e_ => (hk_.2) e_))) (fun k_ hk_ => hk_.1.1.1.2)); have n4_ := Aside0.mk (Kd.R_reok rfl hy0 (fun k_ e_ => HO631.out.1 k_ e_)); have n5_ := Aside0.mk (Kd.R_reok rfl hy1 (fun k_ e_ => HO634.out.1 k_ e_)); have n6_ := Aside0.mk (blk_kept (kX BK635.out) hkp (fun hs_ => Or.elim hs_ (fun e_ => (fun e_ => (Kd.R_ne HO631.out BK635.out (by decide)) e_) e_) (fun e_ => (fun e_ => (Kd.R_ne HO634.out BK635.out (by decide)) e_) e_))); have n7_ := Aside0.mk (Kd.R_mono (ok' := fun k_ => some k_ ≠ (.slice Ao35 t626.length co35 : Value).ownBlock) (Kd.R_keptB ((Kd.R_apart' (Kd.R_apart' HO638.out (Kd.R_typed HO631.out) (by decide)) (Kd.R_typed HO634.out) (by decide))) hkp (fun k_ hk_ hs_ => Or.elim hs_ (fun e_ => (hk_.1.2) e_) (fun e_ => (hk_.2) e_))) (fun k_ hk_ => hk_.1.1.1.2)); have n8_ := Aside0.mk (Kd.R_mono (ok' := fun k_ => some k_ ≠ (.slice Ao23 t620.length co23 : Value).ownBlock ∧ some k_ ≠ (.slice Ao24 t623.length co24 : Value).ownBlock ∧ some k_ ≠ (.slice Ao29 t629.length co29 : Value).ownBlock ∧ some k_ ≠ (.slice Ao32 t632.length co32 : Value).ownBlock ∧ some k_ ≠ (.slice Ao39 t643.length co39 : Value).ownBlock) (Kd.R_keptB (HO642.out) hkp (fun k_ hk_ hs_ => Or.elim hs_ (fun e_ => (hk_.1.2) e_) (fun e_ => (hk_.2) e_))) (fun k_ hk_ => ⟨hk_.1.1.1.1.2, hk_.1.1.1.2, hk_.1.1.2, hk_.1.2, hk_.1.1.1.1.1⟩)); have n9_ := Aside0.mk (Kd.R_mono (ok' := fun k_ => some k_ ≠ (.slice Ao23 t620.length co23 : Value).ownBlock ∧ some k_ ≠ (.slice Ao24 t623.length co24 : Value).ownBlock ∧ some k_ ≠ (.slice Ao29 t629.length co29 : Value).ownBlock ∧ some k_ ≠ (.slice Ao32 t632.length co32 : Value).ownBlock ∧ some k_ ≠ (.slice Ao38 t640.length co38 : Value).ownBlock) (Kd.R_keptB (HO645.out) hkp (fun k_ hk_ hs_ => Or.elim hs_ (fun e_ => (hk_.1.2) e_) (fun e_ => (hk_.2) e_))) (fun k_ hk_ => ⟨hk_.1.1.1.1.2, hk_.1.1.1.2, hk_.1.1.2, hk_.1.2, hk_.1.1.1.1.1⟩)); have n10_ := Aside0.mk (hb); clear BK618 HO622 HO625 HO628 HO631 HO634 BK635 HO638 HO642 HO645 HB; have BK618 := n0_; have HO622 := n1_; have HO625 := n2_; have HO628 := n3_; have HO631 := n4_; have HO634 := n5_; have BK635 := n6_; have HO638 := n7_; have HO642 := n8_; have HO645 := n9_; have HB := n10_; clear n0_ n1_ n2_ n3_ n4_ n5_ n6_ n7_ n8_ n9_ n10_; (try clear hb); (try clear hkp); (try clear hy0); (try clear hy1)))
 (try simp only [Act.put, List.setIfInBounds_toArray, List.set_cons_zero, List.set_cons_succ])
 go_cut [42] (fun v42 wc => ∃ (kq : Nat) (x42_16 : Bool), v42 = .bool x42_16 ∧ Aside0 (laws_FnExactSurfaceLines.j0 kq t626 t636 x42_16 l0_0 l0_1 = some r) ∧ Aside0 (kq ≤ k) ∧ Aside0 (Kd.R Kd.string 9 wc w.heap.size (fun k_ => some k_ ≠ ((.slice Ao34 t636.length co34) : Value).ownBlock) (.slice Ao35 t626.length co35) t626) ∧ Aside0 (Kd.R Kd.string 9 wc w.heap.size (fun k_ => some k_ ≠ ((.slice Ao35 t626.length co35) : Value).ownBlock) (.slice Ao34 t636.length co34) t636) ∧ Aside0 (Kd.R (Kd.int .i64) 3 wc w.heap.size (fun k_ => some k_ ≠ ((.slice Ao32 t632.length co32) : Value).ownBlock) (.slice Ao29 t629.length co29) t648) ∧ Aside0 (Kd.R (Kd.int .i64) 3 wc w.heap.size (fun k_ => some k_ ≠ ((.slice Ao29 t629.length co29) : Value).ownBlock) (.slice Ao32 t632.length co32) t649) ∧ Aside0 (wc.heap[gb618]? = some (.cells #[(.slice A0_0 l0_0.length c0_0), (.slice A0_1 l0_1.length c0_1)] 41 (0, 0))) ∧ Aside0 (wc.heap[gb635]? = some (.cells #[(.slice Ao29 t629.length co29), (.slice Ao32 t632.length co32)] 25 (0, 0))) ∧ Aside0 (Below w.heap.size w wc))
 case first =>
  have H := HC17.out
  clear HC17
  by_cases c43 : t647 < 0
  {
  rw [if_pos c43] at H
  have c43b0 : decide (t647 < 0) = true := decide_eq_true c43
  clear c43
  (first | rw [c43b0] | (simp only [i64_w, i32_w]; rw [c43b0]) | skip)
  have H' := Aside0.mk H
  clear H
  go_wp2
  go_meet
  case rel => exact ⟨_, (true), vX, H', ⟨by first | omega | exact Nat.le_refl _⟩, ⟨rX HO628.out⟩, ⟨rX HO638.out⟩, ⟨rM HO631.out (fun _ hk => hk.1.1.1.1)⟩, ⟨rM HO634.out (fun _ hk => hk.1.1.1.1)⟩, ⟨kX BK618.out⟩, ⟨kX BK635.out⟩, ⟨bX2 HB.out GE618.out GE635.out⟩⟩
  }
  {
  rw [if_neg c43] at H
  have c43b0 : decide (t647 < 0) = false := decide_eq_false c43
  clear c43
  (first | rw [c43b0] | (simp only [i64_w, i32_w]; rw [c43b0]) | skip)
  replace H := Option.bind_eq_some_iff.mp H
  obtain ⟨t650, A440, H⟩ := H
  replace H : (laws_FnExactSurfaceLines.j0 k t626 t636 (!t650) l0_0 l0_1) = some r := H
  have A44 := Aside0.mk A440
  clear A440
  have H' := Aside0.mk H
  clear H
  go_wp2_with (first | (go_at_call 21; (with_reducible refine (laws_eqStringS.calls k _ _ t636 _ _ t626 t650 _ ?side1 ?side2 ?side3 ?side4 A44.out).mono ?_); (case side1 => exact cX (Kd.R_reads' HO638.out).2.2); (case side2 => exact (Kd.R_reads' HO638.out).2.1); (case side3 => exact cX (Kd.R_reads' HO628.out).2.2); (case side4 => exact (Kd.R_reads' HO628.out).2.1); rintro e w' ⟨rfl, ⟨nd, rfl⟩⟩))
  go_meet
  case rel => exact ⟨_, (!t650), vX, H', ⟨by first | omega | exact Nat.le_refl _⟩, ⟨rX HO628.out⟩, ⟨rX HO638.out⟩, ⟨rM HO631.out (fun _ hk => hk.1.1.1.1)⟩, ⟨rM HO634.out (fun _ hk => hk.1.1.1.1)⟩, ⟨kX BK618.out⟩, ⟨kX BK635.out⟩, ⟨bX2 HB.out GE618.out GE635.out⟩⟩
  }
 case rest =>
 clear HC17
 try clear c1
 try clear c2
 try clear p2
 try clear c3
 try clear c3b0
 try clear c4
 try clear c5
 try clear c7
 try clear c12
 try clear c15
 try clear c17
 try clear c19
 try clear c20
 try clear c21
 try clear c22
 try clear c30
 try clear c43
 try clear c43b0
 try clear hcz19_0
 try clear hcz19_1
 try clear hcz21_0
 try clear hcz21_1
 try clear hcz26_0
 try clear hcz26_1
 try clear hcz31_0
 try clear hcz31_1
 try clear hcz41_0
 try clear hcz41_1
 try clear hcz5_0
 try clear hcz5_1
 try clear hfz19_0
 try clear hfz19_1
 try clear hfz21_0
 try clear hfz21_1
 try clear hfz26_0
 try clear hfz26_1
 try clear hfz31_0
 try clear hfz31_1
 try clear hfz41_0
 try clear hfz41_1
 try clear hfz5_0
 try clear hfz5_1
 obtain ⟨kq, x42_16, rfl, HA, HJ16, HO_4, HO_6, HO_636000, HO_636001, BK618, BK635, HB⟩ := hcut
 have hl636000_16 := (Kd.R_reads' HO_636000.out).1
 rw [hl636000_16] at HO_636000
 (try simp only [hl636000_16])
 (try simp only [hl636000_16] at BK618)
 (try simp only [hl636000_16] at BK635)
 (try simp only [hl636000_16] at HO_4)
 (try simp only [hl636000_16] at HO_6)
 (try simp only [hl636000_16] at HO_636001)
 have hl636001_16 := (Kd.R_reads' HO_636001.out).1
 rw [hl636001_16] at HO_636001
 (try simp only [hl636001_16])
 (try simp only [hl636001_16] at BK618)
 (try simp only [hl636001_16] at BK635)
 (try simp only [hl636001_16] at HO_4)
 (try simp only [hl636001_16] at HO_6)
 (try simp only [hl636001_16] at HO_636000)
 cases kq with
 | zero => exact absurd HA.out (by simp [laws_FnExactSurfaceLines.j0])
 | succ kj16 =>
 have H := HA.out
 clear HA
 simp only [laws_FnExactSurfaceLines.j0] at H
 by_cases c45 : x42_16 = true
 {
 subst c45
 have H1 : (some false) = some r := by rw [if_pos rfl] at H; exact H
 clear H
 have H := H1
 clear H1
 exact absurd ((Option.some.inj H).trans HRT.out) (by decide)
 }
 {
 replace c45 := Bool.eq_false_iff.mpr c45
 subst c45
 have H1 : ((laws_markStringS.f kj16 t636 1).bind fun bt651 => ((laws_heldStringS.f kj16 bt651.2 1).bind fun t653 => (if t653 < 0 then (some false) else (if t653 = bt651.1 then ((laws_toSurface.f kj16 l0_0 l0_1).bind fun bt654 => ((impl_SurfaceLines.f kj16 bt654.1 bt654.2).bind fun t660 => ((laws_eqStringS.f kj16 t660 t626).bind fun t663 => (if t663 = true then ((laws_heldStringS.f kj16 bt651.2 1).bind fun t664 => (if t664 < 0 then (some false) else (if t664 = bt651.1 then (some true) else (some false)))) else (some false))))) else (some false))))) = some r := by rw [if_neg (show ¬ (false = true) by decide)] at H; exact H
 clear H
 have H := H1
 clear H1
 replace H := Option.bind_eq_some_iff.mp H
 obtain ⟨⟨t651, t652⟩, A460, H⟩ := H
 replace H : ((laws_heldStringS.f kj16 t652 1).bind fun t653 => (if t653 < 0 then (some false) else (if t653 = t651 then ((laws_toSurface.f kj16 l0_0 l0_1).bind fun bt654 => ((impl_SurfaceLines.f kj16 bt654.1 bt654.2).bind fun t660 => ((laws_eqStringS.f kj16 t660 t626).bind fun t663 => (if t663 = true then ((laws_heldStringS.f kj16 t652 1).bind fun t664 => (if t664 < 0 then (some false) else (if t664 = t651 then (some true) else (some false)))) else (some false))))) else (some false)))) = some r := H
 have A46 := Aside0.mk A460
 clear A460
 replace H := Option.bind_eq_some_iff.mp H
 obtain ⟨t653, A470, H⟩ := H
 replace H : (if t653 < 0 then (some false) else (if t653 = t651 then ((laws_toSurface.f kj16 l0_0 l0_1).bind fun bt654 => ((impl_SurfaceLines.f kj16 bt654.1 bt654.2).bind fun t660 => ((laws_eqStringS.f kj16 t660 t626).bind fun t663 => (if t663 = true then ((laws_heldStringS.f kj16 t652 1).bind fun t664 => (if t664 < 0 then (some false) else (if t664 = t651 then (some true) else (some false)))) else (some false))))) else (some false))) = some r := H
 have A47 := Aside0.mk A470
 clear A470
 by_cases c48 : t653 < 0
 {
 rw [if_pos c48] at H
 have c48b0 : decide (t653 < 0) = true := decide_eq_true c48
 clear c48
 exact absurd ((Option.some.inj H).trans HRT.out) (by decide)
 }
 {
 rw [if_neg c48] at H
 have c48b0 : decide (t653 < 0) = false := decide_eq_false c48
 clear c48
 by_cases c49 : t653 = t651
 {
 rw [if_pos c49] at H
 have c49b0 : (t653 == t651) = true := beq_iff_eq.mpr c49
 have c49b1 : (t653 != t651) = false := bne_eq_false_iff_eq.mpr c49
 clear c49
 replace H := Option.bind_eq_some_iff.mp H
 obtain ⟨⟨t654, t657⟩, A500, H⟩ := H
 replace H : ((impl_SurfaceLines.f kj16 t654 t657).bind fun t660 => ((laws_eqStringS.f kj16 t660 t626).bind fun t663 => (if t663 = true then ((laws_heldStringS.f kj16 t652 1).bind fun t664 => (if t664 < 0 then (some false) else (if t664 = t651 then (some true) else (some false)))) else (some false)))) = some r := H
 have A50 := Aside0.mk A500
 clear A500
 replace H := Option.bind_eq_some_iff.mp H
 obtain ⟨t660, A510, H⟩ := H
 replace H : ((laws_eqStringS.f kj16 t660 t626).bind fun t663 => (if t663 = true then ((laws_heldStringS.f kj16 t652 1).bind fun t664 => (if t664 < 0 then (some false) else (if t664 = t651 then (some true) else (some false)))) else (some false))) = some r := H
 have A51 := Aside0.mk A510
 clear A510
 replace H := Option.bind_eq_some_iff.mp H
 obtain ⟨t663, A520, H⟩ := H
 replace H : (if t663 = true then ((laws_heldStringS.f kj16 t652 1).bind fun t664 => (if t664 < 0 then (some false) else (if t664 = t651 then (some true) else (some false)))) else (some false)) = some r := H
 have A52 := Aside0.mk A520
 clear A520
 by_cases c53 : t663 = true
 {
 subst c53
 have H1 : ((laws_heldStringS.f kj16 t652 1).bind fun t664 => (if t664 < 0 then (some false) else (if t664 = t651 then (some true) else (some false)))) = some r := by rw [if_pos rfl] at H; exact H
 clear H
 have H := H1
 clear H1
 replace H := Option.bind_eq_some_iff.mp H
 obtain ⟨t664, A540, H⟩ := H
 replace H : (if t664 < 0 then (some false) else (if t664 = t651 then (some true) else (some false))) = some r := H
 have A54 := Aside0.mk A540
 clear A540
 by_cases c55 : t664 < 0
 {
 rw [if_pos c55] at H
 have c55b0 : decide (t664 < 0) = true := decide_eq_true c55
 clear c55
 exact absurd ((Option.some.inj H).trans HRT.out) (by decide)
 }
 {
 rw [if_neg c55] at H
 have c55b0 : decide (t664 < 0) = false := decide_eq_false c55
 clear c55
 by_cases c56 : t664 = t651
 {
 rw [if_pos c56] at H
 have c56b0 : (t664 == t651) = true := beq_iff_eq.mpr c56
 have c56b1 : (t664 != t651) = false := bne_eq_false_iff_eq.mpr c56
 clear c56
 obtain rfl := Option.some.inj H
 go_wp2_with (first | ((with_reducible refine gate_callee (f := 23) rfl ?_); refine goesL_ (some 45) rfl rfl Tryz.func23 (by kernel_rfl) rfl #[.slice Ao34 t636.length co34, .int .i64 1] rfl aX ?_; (with_reducible refine (laws_markStringS.calls kj16 (fun k_ => some k_ = (.slice Ao34 t636.length co34 : Value).ownBlock) (.slice Ao34 t636.length co34) t636 1 t651 t652 w _ ?side1 ?side2 A46.out).mono ?_); (case side1 => repeat (first | (with_reducible first | exact HB.out|apply bA|apply bN|apply bD | refine below_set ?_ GE618.out | refine below_set ?_ GE635.out) | exact HB.out)); (case side2 => exact Kd.R_tight rfl HO_6.out); rintro e w57 ⟨rfl, hy0, hb, hkp⟩; refine ⟨_, rfl, ?_⟩; have n0_ := Aside0.mk (Kd.R_mono (ok' := fun k_ => some k_ ≠ (.slice Ao34 t636.length co34 : Value).ownBlock) (Kd.R_keptB (HO_4.out) hkp (fun k_ hk_ hs_ => (hk_) hs_)) (fun k_ hk_ => hk_.1)); have n1_ := Aside0.mk (Kd.R_reok rfl hy0 (fun k_ e_ => HO_6.out.1 k_ e_)); have n2_ := Aside0.mk (Kd.R_mono (ok' := fun k_ => some k_ ≠ (.slice Ao32 t649.length co32 : Value).ownBlock) (Kd.R_keptB ((Kd.R_apart' HO_636000.out (Kd.R_typed HO_6.out) (by decide))) hkp (fun k_ hk_ hs_ => (hk_.2) hs_)) (fun k_ hk_ => hk_.1.1)); have n3_ := Aside0.mk (Kd.R_mono (ok' := fun k_ => some k_ ≠ (.slice Ao29 t648.length co29 : Value).ownBlock) (Kd.R_keptB ((Kd.R_apart' HO_636001.out (Kd.R_typed HO_6.out) (by decide))) hkp (fun k_ hk_ hs_ => (hk_.2) hs_)) (fun k_ hk_ => hk_.1.1)); have n4_ := Aside0.mk (blk_kept (kX BK618.out) hkp (fun hs_ => (fun e_ => (Kd.R_ne HO_6.out BK618.out (by decide)) e_) hs_)); have n5_ := Aside0.mk (blk_kept (kX BK635.out) hkp (fun hs_ => (fun e_ => (Kd.R_ne HO_6.out BK635.out (by decide)) e_) hs_)); have n6_ := Aside0.mk (hb); clear HO_4 HO_6 HO_636000 HO_636001 BK618 BK635 HB; have HO_4 := n0_; have HO_6 := n1_; have HO_636000 := n2_; have HO_636001 := n3_; have BK618 := n4_; have BK635 := n5_; have HB := n6_; clear n0_ n1_ n2_ n3_ n4_ n5_ n6_; (try clear hb); (try clear hkp); (try clear hy0)) | ((with_reducible refine gate_callee (f := 24) rfl ?_); refine goesL_ (some 48) rfl rfl Tryz.func24 (by kernel_rfl) rfl #[.slice Ao34 t652.length co34, .int .i64 1] rfl (by (try simp only [List.map_toArray, List.map_cons, List.map_nil]); first | done | (rw [show t652.length = t636.length from (Kd.R_reads' HO_6.out).1.symm] <;> rfl) | rfl | (simp only [List.length_drop, List.length_take]; rfl)) ?_; (with_reducible refine (laws_heldStringS.calls kj16 _ _ t652 1 t653 _ ?side1 ?side2 A47.out).mono ?_); (case side1 => exact cX (Kd.R_reads' HO_6.out).2.2); (case side2 => rw [show t652.length = t636.length from (Kd.R_reads' HO_6.out).1.symm]; exact (Kd.R_reads' HO_6.out).2.1); rintro e w58 ⟨rfl, hb⟩; refine ⟨_, rfl, ?_⟩; have n0_ := Aside0.mk (Kd.R_below (rX HO_4.out) hb); have n1_ := Aside0.mk (Kd.R_below (rX HO_6.out) hb); have n2_ := Aside0.mk (Kd.R_below (rX HO_636000.out) hb); have n3_ := Aside0.mk (Kd.R_below (rX HO_636001.out) hb); have n4_ := Aside0.mk (bbX BK618.out hb); have n5_ := Aside0.mk (bbX BK635.out hb); have n6_ := Aside0.mk (below_step (bX2 HB.out GE618.out GE635.out) hb); clear HO_4 HO_6 HO_636000 HO_636001 BK618 BK635 HB; have HO_4 := n0_; have HO_6 := n1_; have HO_636000 := n2_; have HO_636001 := n3_; have BK618 := n4_; have BK635 := n5_; have HB := n6_; clear n0_ n1_ n2_ n3_ n4_ n5_ n6_; (try clear hb); (try clear hb2); (try clear hk); (try clear hi); have hnb59 := NB618_635.out; have hnc59 := NB635_618.out; have hcz60_0 := cz20 BK618.out; have hcz60_1 := cz21 BK618.out; have hfz60_0 := blk_frozen BK618.out 0; have hfz60_1 := blk_frozen BK618.out 1) | ((with_reducible refine gate_callee (f := 17) rfl ?_); refine goesL_ (some 55) rfl rfl Tryz.func17 (by kernel_rfl) rfl #[.agg #[.slice A0_0 l0_0.length c0_0, .slice A0_1 l0_1.length c0_1]] rfl aX ?_; (with_reducible refine (laws_toSurface.calls kj16 _ _ l0_0 _ _ l0_1 t654 t657 _ ?side1 ?side2 ?side3 ?side4 A50.out).mono ?_); (case side1 => exact cX (Kd.C_below HR0_0.out HB.out)); (case side2 => exact HC0_0.out); (case side3 => exact cX (Kd.C_below HR0_1.out HB.out)); (case side4 => exact HC0_1.out); rintro e w61 ⟨v655, v658, rfl, ho0, ho1, hb⟩; refine ⟨_, rfl, ?_⟩; have n0_ := Aside0.mk (Kd.R_below (rX HO_4.out) hb); have n1_ := Aside0.mk (Kd.R_below (rX HO_6.out) hb); have n2_ := Aside0.mk (Kd.R_mono (Kd.R_told (Kd.R_told (Kd.R_old (rX HO_636000.out) hb) (Kd.R_base ho0)) (Kd.R_base ho1)) (fun _ h_ => h_.1)); have n3_ := Aside0.mk (Kd.R_mono (Kd.R_told (Kd.R_told (Kd.R_old (rX HO_636001.out) hb) (Kd.R_base ho0)) (Kd.R_base ho1)) (fun _ h_ => h_.1)); have n4_ := Aside0.mk (Kd.R_lower (Kd.R_new' (Kd.R_new' ho0 (Kd.R_lt (rX HO_636000.out))) (Kd.R_lt (rX HO_636001.out))) (below_size (bX2 HB.out GE618.out GE635.out))); have n5_ := Aside0.mk (Kd.R_lower (Kd.R_new' (Kd.R_new' ho1 (Kd.R_lt (rX HO_636000.out))) (Kd.R_lt (rX HO_636001.out))) (below_size (bX2 HB.out GE618.out GE635.out))); have n6_ := Aside0.mk (bbX BK618.out hb); have n7_ := Aside0.mk (bbX BK635.out hb); have n8_ := Aside0.mk (below_step (bX2 HB.out GE618.out GE635.out) hb); clear HO_4 HO_6 HO_636000 HO_636001 BK618 BK635 HB; have HO_4 := n0_; have HO_6 := n1_; have HO_636000 := n2_; have HO_636001 := n3_; have HO656 := n4_; have HO659 := n5_; have BK618 := n6_; have BK635 := n7_; have HB := n8_; clear n0_ n1_ n2_ n3_ n4_ n5_ n6_ n7_ n8_; (try clear hb); (try clear hb2); (try clear hk); (try clear hi); (try clear ho0); (try clear ho1); obtain ⟨Ao62, co62, eo62⟩ := Kd.R_slice HO656.out; subst eo62; obtain ⟨Ao63, co63, eo63⟩ := Kd.R_slice HO659.out; subst eo63) | ((with_reducible refine gate_callee (f := 7) rfl ?_); refine goesL_ (some 56) rfl rfl Tryz.func7 (by kernel_rfl) rfl #[.agg #[.slice Ao62 t654.length co62, .slice Ao63 t657.length co63]] rfl aX ?_; (with_reducible refine (impl_SurfaceLines.calls kj16 _ _ t654 _ _ t657 t660 _ ?side1 ?side2 ?side3 ?side4 ?side5 A51.out).mono ?_); (case side1 => exact cX (Kd.R_reads' HO656.out).2.2); (case side2 => exact (Kd.R_reads' HO656.out).2.1); (case side3 => exact cX (Kd.R_reads' HO659.out).2.2); (case side4 => exact (Kd.R_reads' HO659.out).2.1); (case side5 => exact PowTab.below HTAB.out (bX2 HB.out GE618.out GE635.out)); rintro e w64 ⟨v661, rfl, ho0, hb⟩; refine ⟨_, rfl, ?_⟩; have n0_ := Aside0.mk (Kd.R_elder' (rX HO_4.out) (Kd.R_base ho0) hb); have n1_ := Aside0.mk (Kd.R_elder' (rX HO_6.out) (Kd.R_base ho0) hb); have n2_ := Aside0.mk (Kd.R_below (rX HO_636000.out) hb); have n3_ := Aside0.mk (Kd.R_below (rX HO_636001.out) hb); have n4_ := Aside0.mk (Kd.R_below (rX HO656.out) hb); have n5_ := Aside0.mk (Kd.R_below (rX HO659.out) hb); have n6_ := Aside0.mk (Kd.R_lower (Kd.R_new' (Kd.R_new' ho0 (Kd.R_lt (rX HO_4.out))) (Kd.R_lt (rX HO_6.out))) (below_size (bX2 HB.out GE618.out GE635.out))); have n7_ := Aside0.mk (bbX BK618.out hb); have n8_ := Aside0.mk (bbX BK635.out hb); have n9_ := Aside0.mk (below_step (bX2 HB.out GE618.out GE635.out) hb); clear HO_4 HO_6 HO_636000 HO_636001 HO656 HO659 BK618 BK635 HB; have HO_4 := n0_; have HO_6 := n1_; have HO_636000 := n2_; have HO_636001 := n3_; have HO656 := n4_; have HO659 := n5_; have HO662 := n6_; have BK618 := n7_; have BK635 := n8_; have HB := n9_; clear n0_ n1_ n2_ n3_ n4_ n5_ n6_ n7_ n8_ n9_; (try clear hb); (try clear hb2); (try clear hk); (try clear hi); (try clear ho0); obtain ⟨Ao65, co65, eo65⟩ := Kd.R_slice HO662.out; subst eo65) | ((with_reducible refine gate_callee (f := 21) rfl ?_); refine goesL_ (some 59) rfl rfl Tryz.func21 (by kernel_rfl) rfl #[.slice Ao65 t660.length co65, .slice Ao35 t626.length co35] rfl aX ?_; (with_reducible refine (laws_eqStringS.calls kj16 _ _ t660 _ _ t626 true _ ?side1 ?side2 ?side3 ?side4 A52.out).mono ?_); (case side1 => exact cX (Kd.R_reads' HO662.out).2.2); (case side2 => exact (Kd.R_reads' HO662.out).2.1); (case side3 => exact cX (Kd.R_reads' HO_4.out).2.2); (case side4 => exact (Kd.R_reads' HO_4.out).2.1); rintro e w' ⟨rfl, ⟨nd, rfl⟩⟩; refine ⟨_, rfl, ?_⟩) | ((with_reducible refine gate_callee (f := 24) rfl ?_); refine goesL_ (some 63) rfl rfl Tryz.func24 (by kernel_rfl) rfl #[.slice Ao34 t652.length co34, .int .i64 1] rfl (by (try simp only [List.map_toArray, List.map_cons, List.map_nil]); first | done | (rw [show t652.length = t636.length from (Kd.R_reads' HO_6.out).1.symm] <;> rfl) | rfl | (simp only [List.length_drop, List.length_take]; rfl)) ?_; (with_reducible refine (laws_heldStringS.calls kj16 _ _ t652 1 t664 _ ?side1 ?side2 A54.out).mono ?_); (case side1 => exact cX (Kd.R_reads' HO_6.out).2.2); (case side2 => rw [show t652.length = t636.length from (Kd.R_reads' HO_6.out).1.symm]; exact (Kd.R_reads' HO_6.out).2.1); rintro e w66 ⟨rfl, hb⟩; refine ⟨_, rfl, ?_⟩; have n0_ := Aside0.mk (Kd.R_below (rX HO_4.out) hb); have n1_ := Aside0.mk (Kd.R_below (rX HO_6.out) hb); have n2_ := Aside0.mk (Kd.R_below (rX HO_636000.out) hb); have n3_ := Aside0.mk (Kd.R_below (rX HO_636001.out) hb); have n4_ := Aside0.mk (Kd.R_below (rX HO656.out) hb); have n5_ := Aside0.mk (Kd.R_below (rX HO659.out) hb); have n6_ := Aside0.mk (Kd.R_below (rX HO662.out) hb); have n7_ := Aside0.mk (bbX BK618.out hb); have n8_ := Aside0.mk (bbX BK635.out hb); have n9_ := Aside0.mk (below_step (bX2 HB.out GE618.out GE635.out) hb); clear HO_4 HO_6 HO_636000 HO_636001 HO656 HO659 HO662 BK618 BK635 HB; have HO_4 := n0_; have HO_6 := n1_; have HO_636000 := n2_; have HO_636001 := n3_; have HO656 := n4_; have HO659 := n5_; have HO662 := n6_; have BK618 := n7_; have BK635 := n8_; have HB := n9_; clear n0_ n1_ n2_ n3_ n4_ n5_ n6_ n7_ n8_ n9_; (try clear hb); (try clear hb2); (try clear hk); (try clear hi)))
 go_ret
 exact ⟨eX, bX2 HB.out GE618.out GE635.out⟩
 }
 {
 rw [if_neg c56] at H
 have c56b0 : (t664 == t651) = false := beq_eq_false_iff_ne.mpr c56
 have c56b1 : (t664 != t651) = true := bne_iff_ne.mpr c56
 exact absurd ((Option.some.inj H).trans HRT.out) (by decide)
 }
 }
 }
 {
 replace c53 := Bool.eq_false_iff.mpr c53
 subst c53
 have H1 : (some false) = some r := by rw [if_neg (show ¬ (false = true) by decide)] at H; exact H
 clear H
 have H := H1
 clear H1
 exact absurd ((Option.some.inj H).trans HRT.out) (by decide)
 }
 }
 {
 rw [if_neg c49] at H
 have c49b0 : (t653 == t651) = false := beq_eq_false_iff_ne.mpr c49
 have c49b1 : (t653 != t651) = true := bne_iff_ne.mpr c49
 exact absurd ((Option.some.inj H).trans HRT.out) (by decide)
 }
 }
 }
 }
 {
 replace c15 := Bool.eq_false_iff.mpr c15
 subst c15
 have H1 : (some false) = some r := by rw [if_neg (show ¬ (false = true) by decide)] at H; exact H
 clear H
 have H := H1
 clear H1
 exact absurd ((Option.some.inj H).trans HRT.out) (by decide)
 }
 }
 {
 replace c12 := Bool.eq_false_iff.mpr c12
 subst c12
 have H1 : (some false) = some r := by rw [if_neg (show ¬ (false = true) by decide)] at H; exact H
 clear H
 have H := H1
 clear H1
 exact absurd ((Option.some.inj H).trans HRT.out) (by decide)
 }
 }

end Go.Proofs.YthhdgeafdnikcaaGreatDoor.S
