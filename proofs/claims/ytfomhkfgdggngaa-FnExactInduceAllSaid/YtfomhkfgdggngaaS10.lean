-- PRINTED by print.py (a twelfth state) out of the translation. Not trusted: Lean checks it.
import Derived.Test.YtfomhkfgdggngaaS0
import Derived.Test.YtfomhkfgdggngaaS1
import Derived.Test.YtfomhkfgdggngaaS3
import Derived.Test.YtfomhkfgdggngaaS4
import Derived.Test.YtfomhkfgdggngaaS5
import Derived.Test.YtfomhkfgdggngaaS8
import Derived.Test.YtfomhkfgdggngaaS9
namespace Go.Proofs.Ytfomhkfgdggngaa.S
open Go.RowKit Go.Proofs.YtfomhkfgdggngaaW.PrintWords Go.Proofs.YtfomhkfgdggngaaW.PrintLast Go.Proofs.YtfomhkfgdggngaaW.PrintMore
attribute [local go_sem] max2_int min2_int max_two min_two max_three min_three max_four min_four   -- for this text's walks alone
set_option linter.unusedVariables false
set_option linter.unusedSimpArgs false

/-! ### laws_FnExactInduceAll: function 4 -/
mutual
def laws_FnExactInduceAll.j0 : Nat → Int → Bool → Int → Bool → Bool → List Int → List Int → List Int → List Int → List Int → List Int → List Int → List Int → List Int → List Int → List Int → List Int → Option (Bool)
 | 0, _, _, _, _, _, _, _, _, _, _, _, _, _, _, _, _, _ => none
 | k + 1, x5, x6, x9, x10, x50, x422000, x422001, x422002, x444000, x444001, x444002, x454000, x454001, x454002, x466000, x466001, x466002 => if x50 = true then (some false) else ((laws_toExchange.f k x422000 x422001 x422002).bind fun bt467 => ((laws_eqExchange.f k x454000 x454001 x454002 bt467.1 bt467.2.1 bt467.2.2).bind fun t476 => (if t476 = true then ((laws_markExchange.f k x454000 x454001 x454002 1).bind fun bt477 => (if bt477.1 < 0 then (laws_FnExactInduceAll.j1 k x5 x6 true x422000 x422001 x422002 x444000 x444001 x444002 x466000 x466001 x466002) else ((laws_eqExchange.f k x466000 x466001 x466002 x444000 x444001 x444002).bind fun t481 => (if t481 = true then (if x9 = x5 then (laws_FnExactInduceAll.j1 k x5 x6 (x10 != x6) x422000 x422001 x422002 x444000 x444001 x444002 x466000 x466001 x466002) else (laws_FnExactInduceAll.j1 k x5 x6 true x422000 x422001 x422002 x444000 x444001 x444002 x466000 x466001 x466002)) else (laws_FnExactInduceAll.j1 k x5 x6 true x422000 x422001 x422002 x444000 x444001 x444002 x466000 x466001 x466002))))) else (some false))))
def laws_FnExactInduceAll.j1 : Nat → Int → Bool → Bool → List Int → List Int → List Int → List Int → List Int → List Int → List Int → List Int → List Int → Option (Bool)
 | 0, _, _, _, _, _, _, _, _, _, _, _, _ => none
 | k + 1, x5, x6, x76, x422000, x422001, x422002, x444000, x444001, x444002, x466000, x466001, x466002 => if x76 = true then (some false) else ((laws_markExchange.f k x466000 x466001 x466002 1).bind fun bt482 => ((laws_heldExchange.f k bt482.2.1 bt482.2.2.1 bt482.2.2.2 1).bind fun t486 => (if t486 < 0 then (some false) else (if t486 = bt482.1 then ((laws_toExchange.f k x422000 x422001 x422002).bind fun bt487 => ((impl_InduceAll.f k bt487.1 bt487.2.1 bt487.2.2).bind fun bt496 => ((laws_eqExchange.f k bt496.1 bt496.2.1 bt496.2.2.1 x444000 x444001 x444002).bind fun t508 => (if t508 = true then (if bt496.2.2.2.1 = x5 then (laws_FnExactInduceAll.j2 k bt482.1 (bt496.2.2.2.2 != x6) bt482.2.1 bt482.2.2.1 bt482.2.2.2) else (laws_FnExactInduceAll.j2 k bt482.1 true bt482.2.1 bt482.2.2.1 bt482.2.2.2)) else (laws_FnExactInduceAll.j2 k bt482.1 true bt482.2.1 bt482.2.2.1 bt482.2.2.2))))) else (some false)))))
def laws_FnExactInduceAll.j2 : Nat → Int → Bool → List Int → List Int → List Int → Option (Bool)
 | 0, _, _, _, _, _ => none
 | k + 1, x12, x108, x466000, x466001, x466002 => if x108 = true then (some false) else ((laws_heldExchange.f k x466000 x466001 x466002 1).bind fun t509 => (if t509 < 0 then (some false) else (if t509 = x12 then (some true) else (some false))))
end
def laws_FnExactInduceAll.f (k : Nat) (l0_0 : List Int) (l0_1 : List Int) (l0_2 : List Int) : Option (Bool) := (laws_szExchange.f l0_0 l0_1 l0_2 1048576).bind fun t422 => (if t422 < 0 then (some true) else ((laws_toExchange.f k l0_0 l0_1 l0_2).bind fun bt423 => ((spec_InduceAll.f k bt423.1 bt423.2.1 bt423.2.2).bind fun bt432 => ((laws_toExchange.f k l0_0 l0_1 l0_2).bind fun bt444 => ((impl_InduceAll.f k bt444.1 bt444.2.1 bt444.2.2).bind fun bt454 => ((laws_eqExchange.f k bt454.1 bt454.2.1 bt454.2.2.1 bt432.1 bt432.2.1 bt432.2.2.1).bind fun t466 => (if t466 = true then (if bt454.2.2.2.1 = bt432.2.2.2.1 then (laws_FnExactInduceAll.j0 k bt432.2.2.2.1 bt432.2.2.2.2 bt454.2.2.2.1 bt454.2.2.2.2 (bt454.2.2.2.2 != bt432.2.2.2.2) l0_0 l0_1 l0_2 bt432.1 bt432.2.1 bt432.2.2.1 bt444.1 bt444.2.1 bt444.2.2 bt454.1 bt454.2.1 bt454.2.2.1) else (laws_FnExactInduceAll.j0 k bt432.2.2.2.1 bt432.2.2.2.2 bt454.2.2.2.1 bt454.2.2.2.2 true l0_0 l0_1 l0_2 bt432.1 bt432.2.1 bt432.2.2.1 bt444.1 bt444.2.1 bt444.2.2 bt454.1 bt454.2.1 bt454.2.2.1)) else (laws_FnExactInduceAll.j0 k bt432.2.2.2.1 bt432.2.2.2.2 bt454.2.2.2.1 bt454.2.2.2.2 true l0_0 l0_1 l0_2 bt432.1 bt432.2.1 bt432.2.2.1 bt444.1 bt444.2.1 bt444.2.2 bt454.1 bt454.2.1 bt454.2.2.1))))))))
set_option maxHeartbeats 8000000 in
set_option maxRecDepth 100000 in
theorem laws_FnExactInduceAll.calls (k : Nat) (A0_0 : Option Addr) (c0_0 : Nat) (l0_0 : List Int) (A0_1 : Option Addr) (c0_1 : Nat) (l0_1 : List Int) (A0_2 : Option Addr) (c0_2 : Nat) (l0_2 : List Int) (r : Bool) (w : World) (hr0_0 : Kd.C (Kd.int .i64) w A0_0 l0_0.length l0_0) (hc0_0 : l0_0.length ≤ c0_0) (hr0_1 : Kd.C (Kd.int .i64) w A0_1 l0_1.length l0_1) (hc0_1 : l0_1.length ≤ c0_1) (hr0_2 : Kd.C (Kd.int .i64) w A0_2 l0_2.length l0_2) (hc0_2 : l0_2.length ≤ c0_2) (hrt_ : r = true) (h : laws_FnExactInduceAll.f k l0_0 l0_1 l0_2 = some r) :
  Calls Try.prog 4 #[.agg #[.slice A0_0 l0_0.length c0_0, .slice A0_1 l0_1.length c0_1, .slice A0_2 l0_2.length c0_2]] w fun e w' => e = .returned (.bool r) ∧ Below w.heap.size w w' := by
 have hu24 := Try.underlying24
 have hu26 := Try.underlying26
 have HR0_0 := Aside0.mk hr0_0
 have HC0_0 := Aside0.mk hc0_0
 clear hr0_0 hc0_0
 have HR0_1 := Aside0.mk hr0_1
 have HC0_1 := Aside0.mk hc0_1
 clear hr0_1 hc0_1
 have HR0_2 := Aside0.mk hr0_2
 have HC0_2 := Aside0.mk hc0_2
 clear hr0_2 hc0_2
 have HB := Aside0.mk (Below.refl w.heap.size w)
 have H : ((laws_szExchange.f l0_0 l0_1 l0_2 1048576).bind fun t422 => (if t422 < 0 then (some true) else ((laws_toExchange.f k l0_0 l0_1 l0_2).bind fun bt423 => ((spec_InduceAll.f k bt423.1 bt423.2.1 bt423.2.2).bind fun bt432 => ((laws_toExchange.f k l0_0 l0_1 l0_2).bind fun bt444 => ((impl_InduceAll.f k bt444.1 bt444.2.1 bt444.2.2).bind fun bt454 => ((laws_eqExchange.f k bt454.1 bt454.2.1 bt454.2.2.1 bt432.1 bt432.2.1 bt432.2.2.1).bind fun t466 => (if t466 = true then (if bt454.2.2.2.1 = bt432.2.2.2.1 then (laws_FnExactInduceAll.j0 k bt432.2.2.2.1 bt432.2.2.2.2 bt454.2.2.2.1 bt454.2.2.2.2 (bt454.2.2.2.2 != bt432.2.2.2.2) l0_0 l0_1 l0_2 bt432.1 bt432.2.1 bt432.2.2.1 bt444.1 bt444.2.1 bt444.2.2 bt454.1 bt454.2.1 bt454.2.2.1) else (laws_FnExactInduceAll.j0 k bt432.2.2.2.1 bt432.2.2.2.2 bt454.2.2.2.1 bt454.2.2.2.2 true l0_0 l0_1 l0_2 bt432.1 bt432.2.1 bt432.2.2.1 bt444.1 bt444.2.1 bt444.2.2 bt454.1 bt454.2.1 bt454.2.2.1)) else (laws_FnExactInduceAll.j0 k bt432.2.2.2.1 bt432.2.2.2.2 bt454.2.2.2.1 bt454.2.2.2.2 true l0_0 l0_1 l0_2 bt432.1 bt432.2.1 bt432.2.2.1 bt444.1 bt444.2.1 bt444.2.2 bt454.1 bt454.2.1 bt454.2.2.1))))))))) = some r := h
 clear h
 have HRT := Aside0.mk hrt_
 clear hrt_
 replace H := Option.bind_eq_some_iff.mp H
 obtain ⟨t422, A20, H⟩ := H
 replace H : (if t422 < 0 then (some true) else ((laws_toExchange.f k l0_0 l0_1 l0_2).bind fun bt423 => ((spec_InduceAll.f k bt423.1 bt423.2.1 bt423.2.2).bind fun bt432 => ((laws_toExchange.f k l0_0 l0_1 l0_2).bind fun bt444 => ((impl_InduceAll.f k bt444.1 bt444.2.1 bt444.2.2).bind fun bt454 => ((laws_eqExchange.f k bt454.1 bt454.2.1 bt454.2.2.1 bt432.1 bt432.2.1 bt432.2.2.1).bind fun t466 => (if t466 = true then (if bt454.2.2.2.1 = bt432.2.2.2.1 then (laws_FnExactInduceAll.j0 k bt432.2.2.2.1 bt432.2.2.2.2 bt454.2.2.2.1 bt454.2.2.2.2 (bt454.2.2.2.2 != bt432.2.2.2.2) l0_0 l0_1 l0_2 bt432.1 bt432.2.1 bt432.2.2.1 bt444.1 bt444.2.1 bt444.2.2 bt454.1 bt454.2.1 bt454.2.2.1) else (laws_FnExactInduceAll.j0 k bt432.2.2.2.1 bt432.2.2.2.2 bt454.2.2.2.1 bt454.2.2.2.2 true l0_0 l0_1 l0_2 bt432.1 bt432.2.1 bt432.2.2.1 bt444.1 bt444.2.1 bt444.2.2 bt454.1 bt454.2.1 bt454.2.2.1)) else (laws_FnExactInduceAll.j0 k bt432.2.2.2.1 bt432.2.2.2.2 bt454.2.2.2.1 bt454.2.2.2.2 true l0_0 l0_1 l0_2 bt432.1 bt432.2.1 bt432.2.2.1 bt444.1 bt444.2.1 bt444.2.2 bt454.1 bt454.2.1 bt454.2.2.1)))))))) = some r := H
 have A2 := Aside0.mk A20
 clear A20
 by_cases c3 : t422 < 0
 {
 rw [if_pos c3] at H
 have c3b0 : decide (t422 < 0) = true := decide_eq_true c3
 clear c3
 obtain rfl := Option.some.inj H
 go_enter Try.func4, Try.ntmps4
 go_wp2_with (first | ((with_reducible refine gate_dst (N := 1) rfl ?_); refine box_event ?hg (N := 1) ?hd (cs := #[.slice A0_0 l0_0.length c0_0, .slice A0_1 l0_1.length c0_1, .slice A0_2 l0_2.length c0_2]) (t := 24) ?hr ?_; (case hd => rfl); (case hg => rfl); (case hr => first | (go_simp; done) | (go_simp; rfl)); intro gb421 hg w4 hbox hb; have n0_ := Aside0.mk (below_step (bX HB.out) hb); have n1_ := Aside0.mk (hbox); have n2_ := Aside0.mk ((szX (below_size (bX HB.out)) hg : w.heap.size ≤ gb421)); have n3_ := Aside0.mk ((szX (below_size (bX HB.out)) hg : w.heap.size ≤ gb421)); clear HB; have HB := n0_; have BK421 := n1_; have GW421 := n2_; have GE421 := n3_; clear n0_ n1_ n2_ n3_ hb hbox hg; have hcz5_0 := cz30 BK421.out; have hcz5_1 := cz31 BK421.out; have hcz5_2 := cz32 BK421.out; have hfz5_0 := blk_frozen BK421.out 0; have hfz5_1 := blk_frozen BK421.out 1; have hfz5_2 := blk_frozen BK421.out 2) | ((with_reducible refine gate_callee (f := 6) rfl ?_); refine goesL_ (some 19) rfl rfl Try.func6 (by kernel_rfl) rfl #[.agg #[.slice A0_0 l0_0.length c0_0, .slice A0_1 l0_1.length c0_1, .slice A0_2 l0_2.length c0_2], .int .i64 1048576] rfl aX ?_; (with_reducible refine (laws_szExchange.calls _ _ l0_0 _ _ l0_1 _ _ l0_2 1048576 t422 _ ?side1 ?side2 ?side3 ?side4 ?side5 ?side6 A2.out).mono ?_); (case side1 => exact cX (Kd.C_below HR0_0.out HB.out)); (case side2 => exact HC0_0.out); (case side3 => exact cX (Kd.C_below HR0_1.out HB.out)); (case side4 => exact HC0_1.out); (case side5 => exact cX (Kd.C_below HR0_2.out HB.out)); (case side6 => exact HC0_2.out); rintro e w6 ⟨rfl, hb⟩; refine ⟨_, rfl, ?_⟩; have n0_ := Aside0.mk (bbX BK421.out hb); have n1_ := Aside0.mk (below_step (bX1 HB.out GE421.out) hb); clear BK421 HB; have BK421 := n0_; have HB := n1_; clear n0_ n1_; (try clear hb); (try clear hb2); (try clear hk); (try clear hi)))
 go_ret
 exact ⟨eX, bX1 HB.out GE421.out⟩
 }
 {
 rw [if_neg c3] at H
 have c3b0 : decide (t422 < 0) = false := decide_eq_false c3
 clear c3
 replace H := Option.bind_eq_some_iff.mp H
 obtain ⟨⟨t423, t426, t429⟩, A70, H⟩ := H
 replace H : ((spec_InduceAll.f k t423 t426 t429).bind fun bt432 => ((laws_toExchange.f k l0_0 l0_1 l0_2).bind fun bt444 => ((impl_InduceAll.f k bt444.1 bt444.2.1 bt444.2.2).bind fun bt454 => ((laws_eqExchange.f k bt454.1 bt454.2.1 bt454.2.2.1 bt432.1 bt432.2.1 bt432.2.2.1).bind fun t466 => (if t466 = true then (if bt454.2.2.2.1 = bt432.2.2.2.1 then (laws_FnExactInduceAll.j0 k bt432.2.2.2.1 bt432.2.2.2.2 bt454.2.2.2.1 bt454.2.2.2.2 (bt454.2.2.2.2 != bt432.2.2.2.2) l0_0 l0_1 l0_2 bt432.1 bt432.2.1 bt432.2.2.1 bt444.1 bt444.2.1 bt444.2.2 bt454.1 bt454.2.1 bt454.2.2.1) else (laws_FnExactInduceAll.j0 k bt432.2.2.2.1 bt432.2.2.2.2 bt454.2.2.2.1 bt454.2.2.2.2 true l0_0 l0_1 l0_2 bt432.1 bt432.2.1 bt432.2.2.1 bt444.1 bt444.2.1 bt444.2.2 bt454.1 bt454.2.1 bt454.2.2.1)) else (laws_FnExactInduceAll.j0 k bt432.2.2.2.1 bt432.2.2.2.2 bt454.2.2.2.1 bt454.2.2.2.2 true l0_0 l0_1 l0_2 bt432.1 bt432.2.1 bt432.2.2.1 bt444.1 bt444.2.1 bt444.2.2 bt454.1 bt454.2.1 bt454.2.2.1)))))) = some r := H
 have A7 := Aside0.mk A70
 clear A70
 replace H := Option.bind_eq_some_iff.mp H
 obtain ⟨⟨t432, t435, t438, t441, t442⟩, A80, H⟩ := H
 replace H : ((laws_toExchange.f k l0_0 l0_1 l0_2).bind fun bt444 => ((impl_InduceAll.f k bt444.1 bt444.2.1 bt444.2.2).bind fun bt454 => ((laws_eqExchange.f k bt454.1 bt454.2.1 bt454.2.2.1 t432 t435 t438).bind fun t466 => (if t466 = true then (if bt454.2.2.2.1 = t441 then (laws_FnExactInduceAll.j0 k t441 t442 bt454.2.2.2.1 bt454.2.2.2.2 (bt454.2.2.2.2 != t442) l0_0 l0_1 l0_2 t432 t435 t438 bt444.1 bt444.2.1 bt444.2.2 bt454.1 bt454.2.1 bt454.2.2.1) else (laws_FnExactInduceAll.j0 k t441 t442 bt454.2.2.2.1 bt454.2.2.2.2 true l0_0 l0_1 l0_2 t432 t435 t438 bt444.1 bt444.2.1 bt444.2.2 bt454.1 bt454.2.1 bt454.2.2.1)) else (laws_FnExactInduceAll.j0 k t441 t442 bt454.2.2.2.1 bt454.2.2.2.2 true l0_0 l0_1 l0_2 t432 t435 t438 bt444.1 bt444.2.1 bt444.2.2 bt454.1 bt454.2.1 bt454.2.2.1))))) = some r := H
 have A8 := Aside0.mk A80
 clear A80
 replace H := Option.bind_eq_some_iff.mp H
 obtain ⟨⟨t444, t447, t450⟩, A90, H⟩ := H
 replace H : ((impl_InduceAll.f k t444 t447 t450).bind fun bt454 => ((laws_eqExchange.f k bt454.1 bt454.2.1 bt454.2.2.1 t432 t435 t438).bind fun t466 => (if t466 = true then (if bt454.2.2.2.1 = t441 then (laws_FnExactInduceAll.j0 k t441 t442 bt454.2.2.2.1 bt454.2.2.2.2 (bt454.2.2.2.2 != t442) l0_0 l0_1 l0_2 t432 t435 t438 t444 t447 t450 bt454.1 bt454.2.1 bt454.2.2.1) else (laws_FnExactInduceAll.j0 k t441 t442 bt454.2.2.2.1 bt454.2.2.2.2 true l0_0 l0_1 l0_2 t432 t435 t438 t444 t447 t450 bt454.1 bt454.2.1 bt454.2.2.1)) else (laws_FnExactInduceAll.j0 k t441 t442 bt454.2.2.2.1 bt454.2.2.2.2 true l0_0 l0_1 l0_2 t432 t435 t438 t444 t447 t450 bt454.1 bt454.2.1 bt454.2.2.1)))) = some r := H
 have A9 := Aside0.mk A90
 clear A90
 replace H := Option.bind_eq_some_iff.mp H
 obtain ⟨⟨t454, t457, t460, t463, t464⟩, A100, H⟩ := H
 replace H : ((laws_eqExchange.f k t454 t457 t460 t432 t435 t438).bind fun t466 => (if t466 = true then (if t463 = t441 then (laws_FnExactInduceAll.j0 k t441 t442 t463 t464 (t464 != t442) l0_0 l0_1 l0_2 t432 t435 t438 t444 t447 t450 t454 t457 t460) else (laws_FnExactInduceAll.j0 k t441 t442 t463 t464 true l0_0 l0_1 l0_2 t432 t435 t438 t444 t447 t450 t454 t457 t460)) else (laws_FnExactInduceAll.j0 k t441 t442 t463 t464 true l0_0 l0_1 l0_2 t432 t435 t438 t444 t447 t450 t454 t457 t460))) = some r := H
 have A10 := Aside0.mk A100
 clear A100
 have HC11 := Aside0.mk H
 clear H
 go_enter Try.func4, Try.ntmps4
 go_upto_region 8 with (first | ((with_reducible refine gate_dst (N := 1) rfl ?_); refine box_event ?hg (N := 1) ?hd (cs := #[.slice A0_0 l0_0.length c0_0, .slice A0_1 l0_1.length c0_1, .slice A0_2 l0_2.length c0_2]) (t := 24) ?hr ?_; (case hd => rfl); (case hg => rfl); (case hr => first | (go_simp; done) | (go_simp; rfl)); intro gb421 hg w12 hbox hb; have n0_ := Aside0.mk (below_step (bX HB.out) hb); have n1_ := Aside0.mk (hbox); have n2_ := Aside0.mk ((szX (below_size (bX HB.out)) hg : w.heap.size ≤ gb421)); have n3_ := Aside0.mk ((szX (below_size (bX HB.out)) hg : w.heap.size ≤ gb421)); clear HB; have HB := n0_; have BK421 := n1_; have GW421 := n2_; have GE421 := n3_; clear n0_ n1_ n2_ n3_ hb hbox hg; have hcz13_0 := cz30 BK421.out; have hcz13_1 := cz31 BK421.out; have hcz13_2 := cz32 BK421.out; have hfz13_0 := blk_frozen BK421.out 0; have hfz13_1 := blk_frozen BK421.out 1; have hfz13_2 := blk_frozen BK421.out 2) | ((with_reducible refine gate_callee (f := 6) rfl ?_); refine goesL_ (some 19) rfl rfl Try.func6 (by kernel_rfl) rfl #[.agg #[.slice A0_0 l0_0.length c0_0, .slice A0_1 l0_1.length c0_1, .slice A0_2 l0_2.length c0_2], .int .i64 1048576] rfl aX ?_; (with_reducible refine (laws_szExchange.calls _ _ l0_0 _ _ l0_1 _ _ l0_2 1048576 t422 _ ?side1 ?side2 ?side3 ?side4 ?side5 ?side6 A2.out).mono ?_); (case side1 => exact cX (Kd.C_below HR0_0.out HB.out)); (case side2 => exact HC0_0.out); (case side3 => exact cX (Kd.C_below HR0_1.out HB.out)); (case side4 => exact HC0_1.out); (case side5 => exact cX (Kd.C_below HR0_2.out HB.out)); (case side6 => exact HC0_2.out); rintro e w14 ⟨rfl, hb⟩; refine ⟨_, rfl, ?_⟩; have n0_ := Aside0.mk (bbX BK421.out hb); have n1_ := Aside0.mk (below_step (bX1 HB.out GE421.out) hb); clear BK421 HB; have BK421 := n0_; have HB := n1_; clear n0_ n1_; (try clear hb); (try clear hb2); (try clear hk); (try clear hi); have hcz15_0 := cz30 BK421.out; have hcz15_1 := cz31 BK421.out; have hcz15_2 := cz32 BK421.out; have hfz15_0 := blk_frozen BK421.out 0; have hfz15_1 := blk_frozen BK421.out 1; have hfz15_2 := blk_frozen BK421.out 2) | ((with_reducible refine gate_callee (f := 8) rfl ?_); refine goesL_ (some 24) rfl rfl Try.func8 (by kernel_rfl) rfl #[.agg #[.slice A0_0 l0_0.length c0_0, .slice A0_1 l0_1.length c0_1, .slice A0_2 l0_2.length c0_2]] rfl aX ?_; (with_reducible refine (laws_toExchange.calls k _ _ l0_0 _ _ l0_1 _ _ l0_2 t423 t426 t429 _ ?side1 ?side2 ?side3 ?side4 ?side5 ?side6 A7.out).mono ?_); (case side1 => exact cX (Kd.C_below HR0_0.out HB.out)); (case side2 => exact HC0_0.out); (case side3 => exact cX (Kd.C_below HR0_1.out HB.out)); (case side4 => exact HC0_1.out); (case side5 => exact cX (Kd.C_below HR0_2.out HB.out)); (case side6 => exact HC0_2.out); rintro e w16 ⟨v424, v427, v430, rfl, ho0, ho1, ho2, hb⟩; refine ⟨_, rfl, ?_⟩; have n0_ := Aside0.mk (Kd.R_lower ho0 (below_size (bX1 HB.out GE421.out))); have n1_ := Aside0.mk (Kd.R_lower ho1 (below_size (bX1 HB.out GE421.out))); have n2_ := Aside0.mk (Kd.R_lower ho2 (below_size (bX1 HB.out GE421.out))); have n3_ := Aside0.mk (bbX BK421.out hb); have n4_ := Aside0.mk (below_step (bX1 HB.out GE421.out) hb); clear BK421 HB; have HO425 := n0_; have HO428 := n1_; have HO431 := n2_; have BK421 := n3_; have HB := n4_; clear n0_ n1_ n2_ n3_ n4_; (try clear hb); (try clear hb2); (try clear hk); (try clear hi); (try clear ho0); (try clear ho1); (try clear ho2); obtain ⟨Ao17, co17, eo17⟩ := Kd.R_slice HO425.out; subst eo17; obtain ⟨Ao18, co18, eo18⟩ := Kd.R_slice HO428.out; subst eo18; obtain ⟨Ao19, co19, eo19⟩ := Kd.R_slice HO431.out; subst eo19) | ((with_reducible refine gate_callee (f := 13) rfl ?_); refine goesL_ (some 25) rfl rfl Try.func13 (by kernel_rfl) rfl #[.agg #[.slice Ao17 t423.length co17, .slice Ao18 t426.length co18, .slice Ao19 t429.length co19]] rfl aX ?_; (with_reducible refine (spec_InduceAll.calls k _ _ t423 _ _ t426 _ _ t429 t432 t435 t438 t441 t442 _ ?side1 ?side2 ?side3 ?side4 ?side5 ?side6 A8.out).mono ?_); (case side1 => exact cX (Kd.R_reads' HO425.out).2.2); (case side2 => exact (Kd.R_reads' HO425.out).2.1); (case side3 => exact cX (Kd.R_reads' HO428.out).2.2); (case side4 => exact (Kd.R_reads' HO428.out).2.1); (case side5 => exact cX (Kd.R_reads' HO431.out).2.2); (case side6 => exact (Kd.R_reads' HO431.out).2.1); rintro e w20 ⟨v433, v436, v439, rfl, ho0, ho1, ho2, hb⟩; refine ⟨_, rfl, ?_⟩; have n0_ := Aside0.mk (Kd.R_mono (Kd.R_told (Kd.R_told (Kd.R_told (Kd.R_old (rX HO425.out) hb) (Kd.R_base ho0)) (Kd.R_base ho1)) (Kd.R_base ho2)) (fun _ h_ => h_.1)); have n1_ := Aside0.mk (Kd.R_mono (Kd.R_told (Kd.R_told (Kd.R_told (Kd.R_old (rX HO428.out) hb) (Kd.R_base ho0)) (Kd.R_base ho1)) (Kd.R_base ho2)) (fun _ h_ => h_.1)); have n2_ := Aside0.mk (Kd.R_mono (Kd.R_told (Kd.R_told (Kd.R_told (Kd.R_old (rX HO431.out) hb) (Kd.R_base ho0)) (Kd.R_base ho1)) (Kd.R_base ho2)) (fun _ h_ => h_.1)); have n3_ := Aside0.mk (Kd.R_lower (Kd.R_new' (Kd.R_new' (Kd.R_new' ho0 (Kd.R_lt (rX HO425.out))) (Kd.R_lt (rX HO428.out))) (Kd.R_lt (rX HO431.out))) (below_size (bX1 HB.out GE421.out))); have n4_ := Aside0.mk (Kd.R_lower (Kd.R_new' (Kd.R_new' (Kd.R_new' ho1 (Kd.R_lt (rX HO425.out))) (Kd.R_lt (rX HO428.out))) (Kd.R_lt (rX HO431.out))) (below_size (bX1 HB.out GE421.out))); have n5_ := Aside0.mk (Kd.R_lower (Kd.R_new' (Kd.R_new' (Kd.R_new' ho2 (Kd.R_lt (rX HO425.out))) (Kd.R_lt (rX HO428.out))) (Kd.R_lt (rX HO431.out))) (below_size (bX1 HB.out GE421.out))); have n6_ := Aside0.mk (bbX BK421.out hb); have n7_ := Aside0.mk (below_step (bX1 HB.out GE421.out) hb); clear HO425 HO428 HO431 BK421 HB; have HO425 := n0_; have HO428 := n1_; have HO431 := n2_; have HO434 := n3_; have HO437 := n4_; have HO440 := n5_; have BK421 := n6_; have HB := n7_; clear n0_ n1_ n2_ n3_ n4_ n5_ n6_ n7_; (try clear hb); (try clear hb2); (try clear hk); (try clear hi); (try clear ho0); (try clear ho1); (try clear ho2)) | ((with_reducible refine gate_dst (N := 4) rfl ?_); refine box_event ?hg (N := 4) ?hd (cs := #[.slice none 0 0, .slice none 0 0, .slice none 0 0]) (t := 26) ?hr ?_; (case hd => rfl); (case hg => rfl); (case hr => first | (go_simp; done) | (go_simp; rfl)); intro gb443 hg w21 hbox hb; have n0_ := Aside0.mk (Kd.R_below (rX HO425.out) hb); have n1_ := Aside0.mk (Kd.R_below (rX HO428.out) hb); have n2_ := Aside0.mk (Kd.R_below (rX HO431.out) hb); have n3_ := Aside0.mk (Kd.R_below (rX HO434.out) hb); have n4_ := Aside0.mk (Kd.R_below (rX HO437.out) hb); have n5_ := Aside0.mk (Kd.R_below (rX HO440.out) hb); have n6_ := Aside0.mk (bbX BK421.out hb); have n7_ := Aside0.mk (below_step (bX1 HB.out GE421.out) hb); have n8_ := Aside0.mk (hbox); have n9_ := Aside0.mk ((szX (below_size (bX1 HB.out GE421.out)) hg : w.heap.size ≤ gb443)); have n10_ := Aside0.mk ((szX (below_size (bX1 HB.out GE421.out)) hg : w.heap.size ≤ gb443)); have n11_ := Aside0.mk (neX BK421.out hg); have n12_ := Aside0.mk (nfX BK421.out hg); clear HO425 HO428 HO431 HO434 HO437 HO440 BK421 HB; have HO425 := n0_; have HO428 := n1_; have HO431 := n2_; have HO434 := n3_; have HO437 := n4_; have HO440 := n5_; have BK421 := n6_; have HB := n7_; have BK443 := n8_; have GW443 := n9_; have GE443 := n10_; have NB421_443 := n11_; have NB443_421 := n12_; clear n0_ n1_ n2_ n3_ n4_ n5_ n6_ n7_ n8_ n9_ n10_ n11_ n12_ hb hbox hg; obtain ⟨Ao22, co22, eo22⟩ := Kd.R_slice HO434.out; subst eo22; have hnb23 := NB443_421.out; have hnc23 := NB421_443.out; have hcz24_0 := cz30 BK443.out; have hcz24_1 := cz31 BK443.out; have hcz24_2 := cz32 BK443.out; have hfz24_0 := blk_frozen BK443.out 0; have hfz24_1 := blk_frozen BK443.out 1; have hfz24_2 := blk_frozen BK443.out 2; obtain ⟨Ao25, co25, eo25⟩ := Kd.R_slice HO437.out; subst eo25; obtain ⟨Ao26, co26, eo26⟩ := Kd.R_slice HO440.out; subst eo26; have hcz27_0 := cz30 BK421.out; have hcz27_1 := cz31 BK421.out; have hcz27_2 := cz32 BK421.out; have hfz27_0 := blk_frozen BK421.out 0; have hfz27_1 := blk_frozen BK421.out 1; have hfz27_2 := blk_frozen BK421.out 2) | ((with_reducible refine gate_callee (f := 8) rfl ?_); refine goesL_ (some 30) rfl rfl Try.func8 (by kernel_rfl) rfl #[.agg #[.slice A0_0 l0_0.length c0_0, .slice A0_1 l0_1.length c0_1, .slice A0_2 l0_2.length c0_2]] rfl aX ?_; (with_reducible refine (laws_toExchange.calls k _ _ l0_0 _ _ l0_1 _ _ l0_2 t444 t447 t450 _ ?side1 ?side2 ?side3 ?side4 ?side5 ?side6 A9.out).mono ?_); (case side1 => exact Kd.C_below HR0_0.out (bX2 HB.out GE421.out GE443.out)); (case side2 => exact HC0_0.out); (case side3 => exact Kd.C_below HR0_1.out (bX2 HB.out GE421.out GE443.out)); (case side4 => exact HC0_1.out); (case side5 => exact Kd.C_below HR0_2.out (bX2 HB.out GE421.out GE443.out)); (case side6 => exact HC0_2.out); rintro e w28 ⟨v445, v448, v451, rfl, ho0, ho1, ho2, hb⟩; refine ⟨_, rfl, ?_⟩; have n0_ := Aside0.mk (Kd.R_mono (Kd.R_told (Kd.R_told (Kd.R_told (Kd.R_old (rX (fr3 HO425.out BK443.out (.slice Ao22 t432.length co22) (.slice Ao25 t435.length co25) (.slice Ao26 t438.length co26))) hb) (Kd.R_base ho0)) (Kd.R_base ho1)) (Kd.R_base ho2)) (fun _ h_ => h_.1)); have n1_ := Aside0.mk (Kd.R_mono (Kd.R_told (Kd.R_told (Kd.R_told (Kd.R_old (rX (fr3 HO428.out BK443.out (.slice Ao22 t432.length co22) (.slice Ao25 t435.length co25) (.slice Ao26 t438.length co26))) hb) (Kd.R_base ho0)) (Kd.R_base ho1)) (Kd.R_base ho2)) (fun _ h_ => h_.1)); have n2_ := Aside0.mk (Kd.R_mono (Kd.R_told (Kd.R_told (Kd.R_told (Kd.R_old (rX (fr3 HO431.out BK443.out (.slice Ao22 t432.length co22) (.slice Ao25 t435.length co25) (.slice Ao26 t438.length co26))) hb) (Kd.R_base ho0)) (Kd.R_base ho1)) (Kd.R_base ho2)) (fun _ h_ => h_.1)); have n3_ := Aside0.mk (Kd.R_mono (Kd.R_told (Kd.R_told (Kd.R_told (Kd.R_old (rX (fr3 HO434.out BK443.out (.slice Ao22 t432.length co22) (.slice Ao25 t435.length co25) (.slice Ao26 t438.length co26))) hb) (Kd.R_base ho0)) (Kd.R_base ho1)) (Kd.R_base ho2)) (fun _ h_ => h_.1)); have n4_ := Aside0.mk (Kd.R_mono (Kd.R_told (Kd.R_told (Kd.R_told (Kd.R_old (rX (fr3 HO437.out BK443.out (.slice Ao22 t432.length co22) (.slice Ao25 t435.length co25) (.slice Ao26 t438.length co26))) hb) (Kd.R_base ho0)) (Kd.R_base ho1)) (Kd.R_base ho2)) (fun _ h_ => h_.1)); have n5_ := Aside0.mk (Kd.R_mono (Kd.R_told (Kd.R_told (Kd.R_told (Kd.R_old (rX (fr3 HO440.out BK443.out (.slice Ao22 t432.length co22) (.slice Ao25 t435.length co25) (.slice Ao26 t438.length co26))) hb) (Kd.R_base ho0)) (Kd.R_base ho1)) (Kd.R_base ho2)) (fun _ h_ => h_.1)); have n6_ := Aside0.mk (Kd.R_lower (Kd.R_new' (Kd.R_new' (Kd.R_new' (Kd.R_new' (Kd.R_new' (Kd.R_new' ho0 (Kd.R_lt (rX (fr3 HO425.out BK443.out (.slice Ao22 t432.length co22) (.slice Ao25 t435.length co25) (.slice Ao26 t438.length co26))))) (Kd.R_lt (rX (fr3 HO428.out BK443.out (.slice Ao22 t432.length co22) (.slice Ao25 t435.length co25) (.slice Ao26 t438.length co26))))) (Kd.R_lt (rX (fr3 HO431.out BK443.out (.slice Ao22 t432.length co22) (.slice Ao25 t435.length co25) (.slice Ao26 t438.length co26))))) (Kd.R_lt (rX (fr3 HO434.out BK443.out (.slice Ao22 t432.length co22) (.slice Ao25 t435.length co25) (.slice Ao26 t438.length co26))))) (Kd.R_lt (rX (fr3 HO437.out BK443.out (.slice Ao22 t432.length co22) (.slice Ao25 t435.length co25) (.slice Ao26 t438.length co26))))) (Kd.R_lt (rX (fr3 HO440.out BK443.out (.slice Ao22 t432.length co22) (.slice Ao25 t435.length co25) (.slice Ao26 t438.length co26))))) (below_size (bX2 HB.out GE421.out GE443.out))); have n7_ := Aside0.mk (Kd.R_lower (Kd.R_new' (Kd.R_new' (Kd.R_new' (Kd.R_new' (Kd.R_new' (Kd.R_new' ho1 (Kd.R_lt (rX (fr3 HO425.out BK443.out (.slice Ao22 t432.length co22) (.slice Ao25 t435.length co25) (.slice Ao26 t438.length co26))))) (Kd.R_lt (rX (fr3 HO428.out BK443.out (.slice Ao22 t432.length co22) (.slice Ao25 t435.length co25) (.slice Ao26 t438.length co26))))) (Kd.R_lt (rX (fr3 HO431.out BK443.out (.slice Ao22 t432.length co22) (.slice Ao25 t435.length co25) (.slice Ao26 t438.length co26))))) (Kd.R_lt (rX (fr3 HO434.out BK443.out (.slice Ao22 t432.length co22) (.slice Ao25 t435.length co25) (.slice Ao26 t438.length co26))))) (Kd.R_lt (rX (fr3 HO437.out BK443.out (.slice Ao22 t432.length co22) (.slice Ao25 t435.length co25) (.slice Ao26 t438.length co26))))) (Kd.R_lt (rX (fr3 HO440.out BK443.out (.slice Ao22 t432.length co22) (.slice Ao25 t435.length co25) (.slice Ao26 t438.length co26))))) (below_size (bX2 HB.out GE421.out GE443.out))); have n8_ := Aside0.mk (Kd.R_lower (Kd.R_new' (Kd.R_new' (Kd.R_new' (Kd.R_new' (Kd.R_new' (Kd.R_new' ho2 (Kd.R_lt (rX (fr3 HO425.out BK443.out (.slice Ao22 t432.length co22) (.slice Ao25 t435.length co25) (.slice Ao26 t438.length co26))))) (Kd.R_lt (rX (fr3 HO428.out BK443.out (.slice Ao22 t432.length co22) (.slice Ao25 t435.length co25) (.slice Ao26 t438.length co26))))) (Kd.R_lt (rX (fr3 HO431.out BK443.out (.slice Ao22 t432.length co22) (.slice Ao25 t435.length co25) (.slice Ao26 t438.length co26))))) (Kd.R_lt (rX (fr3 HO434.out BK443.out (.slice Ao22 t432.length co22) (.slice Ao25 t435.length co25) (.slice Ao26 t438.length co26))))) (Kd.R_lt (rX (fr3 HO437.out BK443.out (.slice Ao22 t432.length co22) (.slice Ao25 t435.length co25) (.slice Ao26 t438.length co26))))) (Kd.R_lt (rX (fr3 HO440.out BK443.out (.slice Ao22 t432.length co22) (.slice Ao25 t435.length co25) (.slice Ao26 t438.length co26))))) (below_size (bX2 HB.out GE421.out GE443.out))); have n9_ := Aside0.mk (blk_below (g := gb421) (o := .cells #[.slice A0_0 l0_0.length c0_0, .slice A0_1 l0_1.length c0_1, .slice A0_2 l0_2.length c0_2] 24 (0, 0)) (by (with_reducible repeat (first|refine kN ?_ _|refine kD ?_|refine kA ?_ _)); refine blk_far ?_ NB421_443.out _; (with_reducible repeat (first|refine kN ?_ _|refine kD ?_|refine kA ?_ _)); refine blk_far ?_ NB421_443.out _; (with_reducible repeat (first|refine kN ?_ _|refine kD ?_|refine kA ?_ _)); refine blk_far ?_ NB421_443.out _; (with_reducible repeat (first|refine kN ?_ _|refine kD ?_|refine kA ?_ _)); exact BK421.out) hb); have n10_ := Aside0.mk (blk_below (g := gb443) (o := .cells #[.slice Ao22 t432.length co22, .slice Ao25 t435.length co25, .slice Ao26 t438.length co26] 26 (0, 0)) (by (with_reducible repeat (first|refine kN ?_ _|refine kD ?_|refine kA ?_ _)); refine blk_put (cs := #[.slice Ao22 t432.length co22, .slice Ao25 t435.length co25, .slice none 0 0]) ?_ 2 _ rfl; (with_reducible repeat (first|refine kN ?_ _|refine kD ?_|refine kA ?_ _)); refine blk_put (cs := #[.slice Ao22 t432.length co22, .slice none 0 0, .slice none 0 0]) ?_ 1 _ rfl; (with_reducible repeat (first|refine kN ?_ _|refine kD ?_|refine kA ?_ _)); refine blk_put (cs := #[.slice none 0 0, .slice none 0 0, .slice none 0 0]) ?_ 0 _ rfl; (with_reducible repeat (first|refine kN ?_ _|refine kD ?_|refine kA ?_ _)); exact BK443.out) hb); have n11_ := Aside0.mk (below_step (bX2 HB.out GE421.out GE443.out) hb); clear HO425 HO428 HO431 HO434 HO437 HO440 BK421 BK443 HB; have HO425 := n0_; have HO428 := n1_; have HO431 := n2_; have HO434 := n3_; have HO437 := n4_; have HO440 := n5_; have HO446 := n6_; have HO449 := n7_; have HO452 := n8_; have BK421 := n9_; have BK443 := n10_; have HB := n11_; clear n0_ n1_ n2_ n3_ n4_ n5_ n6_ n7_ n8_ n9_ n10_ n11_; (try clear hb); (try clear hb2); (try clear hk); (try clear hi); (try clear ho0); (try clear ho1); (try clear ho2)) | ((with_reducible refine gate_dst (N := 7) rfl ?_); refine box_event ?hg (N := 7) ?hd (cs := #[.slice none 0 0, .slice none 0 0, .slice none 0 0]) (t := 26) ?hr ?_; (case hd => rfl); (case hg => rfl); (case hr => first | (go_simp; done) | (go_simp; rfl)); intro gb453 hg w29 hbox hb; have n0_ := Aside0.mk (Kd.R_below (rX HO425.out) hb); have n1_ := Aside0.mk (Kd.R_below (rX HO428.out) hb); have n2_ := Aside0.mk (Kd.R_below (rX HO431.out) hb); have n3_ := Aside0.mk (Kd.R_below (rX HO434.out) hb); have n4_ := Aside0.mk (Kd.R_below (rX HO437.out) hb); have n5_ := Aside0.mk (Kd.R_below (rX HO440.out) hb); have n6_ := Aside0.mk (Kd.R_below (rX HO446.out) hb); have n7_ := Aside0.mk (Kd.R_below (rX HO449.out) hb); have n8_ := Aside0.mk (Kd.R_below (rX HO452.out) hb); have n9_ := Aside0.mk (bbX BK421.out hb); have n10_ := Aside0.mk (bbX BK443.out hb); have n11_ := Aside0.mk (below_step (bX2 HB.out GE421.out GE443.out) hb); have n12_ := Aside0.mk (hbox); have n13_ := Aside0.mk ((szX (below_size (bX2 HB.out GE421.out GE443.out)) hg : w.heap.size ≤ gb453)); have n14_ := Aside0.mk ((szX (below_size (bX2 HB.out GE421.out GE443.out)) hg : w.heap.size ≤ gb453)); have n15_ := Aside0.mk (neX BK421.out hg); have n16_ := Aside0.mk (nfX BK421.out hg); have n17_ := Aside0.mk (neX BK443.out hg); have n18_ := Aside0.mk (nfX BK443.out hg); clear HO425 HO428 HO431 HO434 HO437 HO440 HO446 HO449 HO452 BK421 BK443 HB; have HO425 := n0_; have HO428 := n1_; have HO431 := n2_; have HO434 := n3_; have HO437 := n4_; have HO440 := n5_; have HO446 := n6_; have HO449 := n7_; have HO452 := n8_; have BK421 := n9_; have BK443 := n10_; have HB := n11_; have BK453 := n12_; have GW453 := n13_; have GE453 := n14_; have NB421_453 := n15_; have NB453_421 := n16_; have NB443_453 := n17_; have NB453_443 := n18_; clear n0_ n1_ n2_ n3_ n4_ n5_ n6_ n7_ n8_ n9_ n10_ n11_ n12_ n13_ n14_ n15_ n16_ n17_ n18_ hb hbox hg; obtain ⟨Ao30, co30, eo30⟩ := Kd.R_slice HO446.out; subst eo30; have hnb31 := NB453_421.out; have hnc31 := NB421_453.out; have hnb32 := NB453_443.out; have hnc32 := NB443_453.out; have hcz33_0 := cz30 BK453.out; have hcz33_1 := cz31 BK453.out; have hcz33_2 := cz32 BK453.out; have hfz33_0 := blk_frozen BK453.out 0; have hfz33_1 := blk_frozen BK453.out 1; have hfz33_2 := blk_frozen BK453.out 2; obtain ⟨Ao34, co34, eo34⟩ := Kd.R_slice HO449.out; subst eo34; obtain ⟨Ao35, co35, eo35⟩ := Kd.R_slice HO452.out; subst eo35) | ((with_reducible refine gate_callee (f := 14) rfl ?_); refine goesL_ (some 33) rfl rfl Try.func14 (by kernel_rfl) rfl #[.agg #[.slice Ao30 t444.length co30, .slice Ao34 t447.length co34, .slice Ao35 t450.length co35]] rfl aX ?_; (with_reducible refine (impl_InduceAll.calls k _ _ t444 _ _ t447 _ _ t450 t454 t457 t460 t463 t464 _ ?side1 ?side2 ?side3 ?side4 ?side5 ?side6 A10.out).mono ?_); (case side1 => exact rcX (fr3 HO446.out BK453.out (.slice Ao30 t444.length co30) (.slice Ao34 t447.length co34) (.slice Ao35 t450.length co35))); (case side2 => exact (Kd.R_reads' HO446.out).2.1); (case side3 => exact rcX (fr3 HO449.out BK453.out (.slice Ao30 t444.length co30) (.slice Ao34 t447.length co34) (.slice Ao35 t450.length co35))); (case side4 => exact (Kd.R_reads' HO449.out).2.1); (case side5 => exact rcX (fr3 HO452.out BK453.out (.slice Ao30 t444.length co30) (.slice Ao34 t447.length co34) (.slice Ao35 t450.length co35))); (case side6 => exact (Kd.R_reads' HO452.out).2.1); rintro e w36 ⟨v455, v458, v461, rfl, ho0, ho1, ho2, hb⟩; refine ⟨_, rfl, ?_⟩; have n0_ := Aside0.mk (Kd.R_mono (Kd.R_told (Kd.R_told (Kd.R_told (Kd.R_old (rX (fr3 HO425.out BK453.out (.slice Ao30 t444.length co30) (.slice Ao34 t447.length co34) (.slice Ao35 t450.length co35))) hb) (Kd.R_base ho0)) (Kd.R_base ho1)) (Kd.R_base ho2)) (fun _ h_ => h_.1)); have n1_ := Aside0.mk (Kd.R_mono (Kd.R_told (Kd.R_told (Kd.R_told (Kd.R_old (rX (fr3 HO428.out BK453.out (.slice Ao30 t444.length co30) (.slice Ao34 t447.length co34) (.slice Ao35 t450.length co35))) hb) (Kd.R_base ho0)) (Kd.R_base ho1)) (Kd.R_base ho2)) (fun _ h_ => h_.1)); have n2_ := Aside0.mk (Kd.R_mono (Kd.R_told (Kd.R_told (Kd.R_told (Kd.R_old (rX (fr3 HO431.out BK453.out (.slice Ao30 t444.length co30) (.slice Ao34 t447.length co34) (.slice Ao35 t450.length co35))) hb) (Kd.R_base ho0)) (Kd.R_base ho1)) (Kd.R_base ho2)) (fun _ h_ => h_.1)); have n3_ := Aside0.mk (Kd.R_mono (Kd.R_told (Kd.R_told (Kd.R_told (Kd.R_old (rX (fr3 HO434.out BK453.out (.slice Ao30 t444.length co30) (.slice Ao34 t447.length co34) (.slice Ao35 t450.length co35))) hb) (Kd.R_base ho0)) (Kd.R_base ho1)) (Kd.R_base ho2)) (fun _ h_ => h_.1)); have n4_ := Aside0.mk (Kd.R_mono (Kd.R_told (Kd.R_told (Kd.R_told (Kd.R_old (rX (fr3 HO437.out BK453.out (.slice Ao30 t444.length co30) (.slice Ao34 t447.length co34) (.slice Ao35 t450.length co35))) hb) (Kd.R_base ho0)) (Kd.R_base ho1)) (Kd.R_base ho2)) (fun _ h_ => h_.1)); have n5_ := Aside0.mk (Kd.R_mono (Kd.R_told (Kd.R_told (Kd.R_told (Kd.R_old (rX (fr3 HO440.out BK453.out (.slice Ao30 t444.length co30) (.slice Ao34 t447.length co34) (.slice Ao35 t450.length co35))) hb) (Kd.R_base ho0)) (Kd.R_base ho1)) (Kd.R_base ho2)) (fun _ h_ => h_.1)); have n6_ := Aside0.mk (Kd.R_mono (Kd.R_told (Kd.R_told (Kd.R_told (Kd.R_old (rX (fr3 HO446.out BK453.out (.slice Ao30 t444.length co30) (.slice Ao34 t447.length co34) (.slice Ao35 t450.length co35))) hb) (Kd.R_base ho0)) (Kd.R_base ho1)) (Kd.R_base ho2)) (fun _ h_ => h_.1)); have n7_ := Aside0.mk (Kd.R_mono (Kd.R_told (Kd.R_told (Kd.R_told (Kd.R_old (rX (fr3 HO449.out BK453.out (.slice Ao30 t444.length co30) (.slice Ao34 t447.length co34) (.slice Ao35 t450.length co35))) hb) (Kd.R_base ho0)) (Kd.R_base ho1)) (Kd.R_base ho2)) (fun _ h_ => h_.1)); have n8_ := Aside0.mk (Kd.R_mono (Kd.R_told (Kd.R_told (Kd.R_told (Kd.R_old (rX (fr3 HO452.out BK453.out (.slice Ao30 t444.length co30) (.slice Ao34 t447.length co34) (.slice Ao35 t450.length co35))) hb) (Kd.R_base ho0)) (Kd.R_base ho1)) (Kd.R_base ho2)) (fun _ h_ => h_.1)); have n9_ := Aside0.mk (Kd.R_lower (Kd.R_new' (Kd.R_new' (Kd.R_new' (Kd.R_new' (Kd.R_new' (Kd.R_new' (Kd.R_new' (Kd.R_new' (Kd.R_new' ho0 (Kd.R_lt (rX (fr3 HO425.out BK453.out (.slice Ao30 t444.length co30) (.slice Ao34 t447.length co34) (.slice Ao35 t450.length co35))))) (Kd.R_lt (rX (fr3 HO428.out BK453.out (.slice Ao30 t444.length co30) (.slice Ao34 t447.length co34) (.slice Ao35 t450.length co35))))) (Kd.R_lt (rX (fr3 HO431.out BK453.out (.slice Ao30 t444.length co30) (.slice Ao34 t447.length co34) (.slice Ao35 t450.length co35))))) (Kd.R_lt (rX (fr3 HO434.out BK453.out (.slice Ao30 t444.length co30) (.slice Ao34 t447.length co34) (.slice Ao35 t450.length co35))))) (Kd.R_lt (rX (fr3 HO437.out BK453.out (.slice Ao30 t444.length co30) (.slice Ao34 t447.length co34) (.slice Ao35 t450.length co35))))) (Kd.R_lt (rX (fr3 HO440.out BK453.out (.slice Ao30 t444.length co30) (.slice Ao34 t447.length co34) (.slice Ao35 t450.length co35))))) (Kd.R_lt (rX (fr3 HO446.out BK453.out (.slice Ao30 t444.length co30) (.slice Ao34 t447.length co34) (.slice Ao35 t450.length co35))))) (Kd.R_lt (rX (fr3 HO449.out BK453.out (.slice Ao30 t444.length co30) (.slice Ao34 t447.length co34) (.slice Ao35 t450.length co35))))) (Kd.R_lt (rX (fr3 HO452.out BK453.out (.slice Ao30 t444.length co30) (.slice Ao34 t447.length co34) (.slice Ao35 t450.length co35))))) (below_size (bX3 HB.out GE421.out GE443.out GE453.out))); have n10_ := Aside0.mk (Kd.R_lower (Kd.R_new' (Kd.R_new' (Kd.R_new' (Kd.R_new' (Kd.R_new' (Kd.R_new' (Kd.R_new' (Kd.R_new' (Kd.R_new' ho1 (Kd.R_lt (rX (fr3 HO425.out BK453.out (.slice Ao30 t444.length co30) (.slice Ao34 t447.length co34) (.slice Ao35 t450.length co35))))) (Kd.R_lt (rX (fr3 HO428.out BK453.out (.slice Ao30 t444.length co30) (.slice Ao34 t447.length co34) (.slice Ao35 t450.length co35))))) (Kd.R_lt (rX (fr3 HO431.out BK453.out (.slice Ao30 t444.length co30) (.slice Ao34 t447.length co34) (.slice Ao35 t450.length co35))))) (Kd.R_lt (rX (fr3 HO434.out BK453.out (.slice Ao30 t444.length co30) (.slice Ao34 t447.length co34) (.slice Ao35 t450.length co35))))) (Kd.R_lt (rX (fr3 HO437.out BK453.out (.slice Ao30 t444.length co30) (.slice Ao34 t447.length co34) (.slice Ao35 t450.length co35))))) (Kd.R_lt (rX (fr3 HO440.out BK453.out (.slice Ao30 t444.length co30) (.slice Ao34 t447.length co34) (.slice Ao35 t450.length co35))))) (Kd.R_lt (rX (fr3 HO446.out BK453.out (.slice Ao30 t444.length co30) (.slice Ao34 t447.length co34) (.slice Ao35 t450.length co35))))) (Kd.R_lt (rX (fr3 HO449.out BK453.out (.slice Ao30 t444.length co30) (.slice Ao34 t447.length co34) (.slice Ao35 t450.length co35))))) (Kd.R_lt (rX (fr3 HO452.out BK453.out (.slice Ao30 t444.length co30) (.slice Ao34 t447.length co34) (.slice Ao35 t450.length co35))))) (below_size (bX3 HB.out GE421.out GE443.out GE453.out))); have n11_ := Aside0.mk (Kd.R_lower (Kd.R_new' (Kd.R_new' (Kd.R_new' (Kd.R_new' (Kd.R_new' (Kd.R_new' (Kd.R_new' (Kd.R_new' (Kd.R_new' ho2 (Kd.R_lt (rX (fr3 HO425.out BK453.out (.slice Ao30 t444.length co30) (.slice Ao34 t447.length co34) (.slice Ao35 t450.length co35))))) (Kd.R_lt (rX (fr3 HO428.out BK453.out (.slice Ao30 t444.length co30) (.slice Ao34 t447.length co34) (.slice Ao35 t450.length co35))))) (Kd.R_lt (rX (fr3 HO431.out BK453.out (.slice Ao30 t444.length co30) (.slice Ao34 t447.length co34) (.slice Ao35 t450.length co35))))) (Kd.R_lt (rX (fr3 HO434.out BK453.out (.slice Ao30 t444.length co30) (.slice Ao34 t447.length co34) (.slice Ao35 t450.length co35))))) (Kd.R_lt (rX (fr3 HO437.out BK453.out (.slice Ao30 t444.length co30) (.slice Ao34 t447.length co34) (.slice Ao35 t450.length co35))))) (Kd.R_lt (rX (fr3 HO440.out BK453.out (.slice Ao30 t444.length co30) (.slice Ao34 t447.length co34) (.slice Ao35 t450.length co35))))) (Kd.R_lt (rX (fr3 HO446.out BK453.out (.slice Ao30 t444.length co30) (.slice Ao34 t447.length co34) (.slice Ao35 t450.length co35))))) (Kd.R_lt (rX (fr3 HO449.out BK453.out (.slice Ao30 t444.length co30) (.slice Ao34 t447.length co34) (.slice Ao35 t450.length co35))))) (Kd.R_lt (rX (fr3 HO452.out BK453.out (.slice Ao30 t444.length co30) (.slice Ao34 t447.length co34) (.slice Ao35 t450.length co35))))) (below_size (bX3 HB.out GE421.out GE443.out GE453.out))); have n12_ := Aside0.mk (blk_below (g := gb421) (o := .cells #[.slice A0_0 l0_0.length c0_0, .slice A0_1 l0_1.length c0_1, .slice A0_2 l0_2.length c0_2] 24 (0, 0)) (by (with_reducible repeat (first|refine kN ?_ _|refine kD ?_|refine kA ?_ _)); refine blk_far ?_ NB421_453.out _; (with_reducible repeat (first|refine kN ?_ _|refine kD ?_|refine kA ?_ _)); refine blk_far ?_ NB421_453.out _; (with_reducible repeat (first|refine kN ?_ _|refine kD ?_|refine kA ?_ _)); refine blk_far ?_ NB421_453.out _; (with_reducible repeat (first|refine kN ?_ _|refine kD ?_|refine kA ?_ _)); exact BK421.out) hb); have n13_ := Aside0.mk (blk_below (g := gb443) (o := .cells #[.slice Ao22 t432.length co22, .slice Ao25 t435.length co25, .slice Ao26 t438.length co26] 26 (0, 0)) (by (with_reducible repeat (first|refine kN ?_ _|refine kD ?_|refine kA ?_ _)); refine blk_far ?_ NB443_453.out _; (with_reducible repeat (first|refine kN ?_ _|refine kD ?_|refine kA ?_ _)); refine blk_far ?_ NB443_453.out _; (with_reducible repeat (first|refine kN ?_ _|refine kD ?_|refine kA ?_ _)); refine blk_far ?_ NB443_453.out _; (with_reducible repeat (first|refine kN ?_ _|refine kD ?_|refine kA ?_ _)); exact BK443.out) hb); have n14_ := Aside0.mk (blk_below (g := gb453) (o := .cells #[.slice Ao30 t444.length co30, .slice Ao34 t447.length co34, .slice Ao35 t450.length co35] 26 (0, 0)) (by (with_reducible repeat (first|refine kN ?_ _|refine kD ?_|refine kA ?_ _)); refine blk_put (cs := #[.slice Ao30 t444.length co30, .slice Ao34 t447.length co34, .slice none 0 0]) ?_ 2 _ rfl; (with_reducible repeat (first|refine kN ?_ _|refine kD ?_|refine kA ?_ _)); refine blk_put (cs := #[.slice Ao30 t444.length co30, .slice none 0 0, .slice none 0 0]) ?_ 1 _ rfl; (with_reducible repeat (first|refine kN ?_ _|refine kD ?_|refine kA ?_ _)); refine blk_put (cs := #[.slice none 0 0, .slice none 0 0, .slice none 0 0]) ?_ 0 _ rfl; (with_reducible repeat (first|refine kN ?_ _|refine kD ?_|refine kA ?_ _)); exact BK453.out) hb); have n15_ := Aside0.mk (below_step (bX3 HB.out GE421.out GE443.out GE453.out) hb); clear HO425 HO428 HO431 HO434 HO437 HO440 HO446 HO449 HO452 BK421 BK443 BK453 HB; have HO425 := n0_; have HO428 := n1_; have HO431 := n2_; have HO434 := n3_; have HO437 := n4_; have HO440 := n5_; have HO446 := n6_; have HO449 := n7_; have HO452 := n8_; have HO456 := n9_; have HO459 := n10_; have HO462 := n11_; have BK421 := n12_; have BK443 := n13_; have BK453 := n14_; have HB := n15_; clear n0_ n1_ n2_ n3_ n4_ n5_ n6_ n7_ n8_ n9_ n10_ n11_ n12_ n13_ n14_ n15_; (try clear hb); (try clear hb2); (try clear hk); (try clear hi); (try clear ho0); (try clear ho1); (try clear ho2)) | ((with_reducible refine gate_dst (N := 8) rfl ?_); refine box_event ?hg (N := 8) ?hd (cs := #[.slice none 0 0, .slice none 0 0, .slice none 0 0]) (t := 26) ?hr ?_; (case hd => rfl); (case hg => rfl); (case hr => first | (go_simp; done) | (go_simp; rfl)); intro gb465 hg w37 hbox hb; have n0_ := Aside0.mk (Kd.R_below (rX HO425.out) hb); have n1_ := Aside0.mk (Kd.R_below (rX HO428.out) hb); have n2_ := Aside0.mk (Kd.R_below (rX HO431.out) hb); have n3_ := Aside0.mk (Kd.R_below (rX HO434.out) hb); have n4_ := Aside0.mk (Kd.R_below (rX HO437.out) hb); have n5_ := Aside0.mk (Kd.R_below (rX HO440.out) hb); have n6_ := Aside0.mk (Kd.R_below (rX HO446.out) hb); have n7_ := Aside0.mk (Kd.R_below (rX HO449.out) hb); have n8_ := Aside0.mk (Kd.R_below (rX HO452.out) hb); have n9_ := Aside0.mk (Kd.R_below (rX HO456.out) hb); have n10_ := Aside0.mk (Kd.R_below (rX HO459.out) hb); have n11_ := Aside0.mk (Kd.R_below (rX HO462.out) hb); have n12_ := Aside0.mk (bbX BK421.out hb); have n13_ := Aside0.mk (bbX BK443.out hb); have n14_ := Aside0.mk (bbX BK453.out hb); have n15_ := Aside0.mk (below_step (bX3 HB.out GE421.out GE443.out GE453.out) hb); have n16_ := Aside0.mk (hbox); have n17_ := Aside0.mk ((szX (below_size (bX3 HB.out GE421.out GE443.out GE453.out)) hg : w.heap.size ≤ gb465)); have n18_ := Aside0.mk ((szX (below_size (bX3 HB.out GE421.out GE443.out GE453.out)) hg : w.heap.size ≤ gb465)); have n19_ := Aside0.mk (neX BK421.out hg); have n20_ := Aside0.mk (nfX BK421.out hg); have n21_ := Aside0.mk (neX BK443.out hg); have n22_ := Aside0.mk (nfX BK443.out hg); have n23_ := Aside0.mk (neX BK453.out hg); have n24_ := Aside0.mk (nfX BK453.out hg); clear HO425 HO428 HO431 HO434 HO437 HO440 HO446 HO449 HO452 HO456 HO459 HO462 BK421 BK443 BK453 HB; have HO425 := n0_; have HO428 := n1_; have HO431 := n2_; have HO434 := n3_; have HO437 := n4_; have HO440 := n5_; have HO446 := n6_; have HO449 := n7_; have HO452 := n8_; have HO456 := n9_; have HO459 := n10_; have HO462 := n11_; have BK421 := n12_; have BK443 := n13_; have BK453 := n14_; have HB := n15_; have BK465 := n16_; have GW465 := n17_; have GE465 := n18_; have NB421_465 := n19_; have NB465_421 := n20_; have NB443_465 := n21_; have NB465_443 := n22_; have NB453_465 := n23_; have NB465_453 := n24_; clear n0_ n1_ n2_ n3_ n4_ n5_ n6_ n7_ n8_ n9_ n10_ n11_ n12_ n13_ n14_ n15_ n16_ n17_ n18_ n19_ n20_ n21_ n22_ n23_ n24_ hb hbox hg; obtain ⟨Ao38, co38, eo38⟩ := Kd.R_slice HO456.out; subst eo38; have hnb39 := NB465_421.out; have hnc39 := NB421_465.out; have hnb40 := NB465_443.out; have hnc40 := NB443_465.out; have hnb41 := NB465_453.out; have hnc41 := NB453_465.out; have hcz42_0 := cz30 BK465.out; have hcz42_1 := cz31 BK465.out; have hcz42_2 := cz32 BK465.out; have hfz42_0 := blk_frozen BK465.out 0; have hfz42_1 := blk_frozen BK465.out 1; have hfz42_2 := blk_frozen BK465.out 2; obtain ⟨Ao43, co43, eo43⟩ := Kd.R_slice HO459.out; subst eo43; obtain ⟨Ao44, co44, eo44⟩ := Kd.R_slice HO462.out; subst eo44))
 (try simp only [Act.put, List.setIfInBounds_toArray, List.set_cons_zero, List.set_cons_succ])
 go_cut [50] (fun v50 wc => ∃ (kq : Nat) (x50_10 : Bool), v50 = .bool x50_10 ∧ Aside0 (laws_FnExactInduceAll.j0 kq t441 t442 t463 t464 x50_10 l0_0 l0_1 l0_2 t432 t435 t438 t444 t447 t450 t454 t457 t460 = some r) ∧ Aside0 (kq ≤ k) ∧ Aside0 (Kd.R (Kd.int .i64) 3 wc w.heap.size (fun k_ => some k_ ≠ ((.slice Ao25 t435.length co25) : Value).ownBlock ∧ some k_ ≠ ((.slice Ao26 t438.length co26) : Value).ownBlock ∧ some k_ ≠ ((.slice Ao30 t444.length co30) : Value).ownBlock ∧ some k_ ≠ ((.slice Ao34 t447.length co34) : Value).ownBlock ∧ some k_ ≠ ((.slice Ao35 t450.length co35) : Value).ownBlock ∧ some k_ ≠ ((.slice Ao38 t454.length co38) : Value).ownBlock ∧ some k_ ≠ ((.slice Ao43 t457.length co43) : Value).ownBlock ∧ some k_ ≠ ((.slice Ao44 t460.length co44) : Value).ownBlock) (.slice Ao22 t432.length co22) t432) ∧ Aside0 (Kd.R (Kd.int .i64) 3 wc w.heap.size (fun k_ => some k_ ≠ ((.slice Ao22 t432.length co22) : Value).ownBlock ∧ some k_ ≠ ((.slice Ao26 t438.length co26) : Value).ownBlock ∧ some k_ ≠ ((.slice Ao30 t444.length co30) : Value).ownBlock ∧ some k_ ≠ ((.slice Ao34 t447.length co34) : Value).ownBlock ∧ some k_ ≠ ((.slice Ao35 t450.length co35) : Value).ownBlock ∧ some k_ ≠ ((.slice Ao38 t454.length co38) : Value).ownBlock ∧ some k_ ≠ ((.slice Ao43 t457.length co43) : Value).ownBlock ∧ some k_ ≠ ((.slice Ao44 t460.length co44) : Value).ownBlock) (.slice Ao25 t435.length co25) t435) ∧ Aside0 (Kd.R (Kd.int .i64) 3 wc w.heap.size (fun k_ => some k_ ≠ ((.slice Ao22 t432.length co22) : Value).ownBlock ∧ some k_ ≠ ((.slice Ao25 t435.length co25) : Value).ownBlock ∧ some k_ ≠ ((.slice Ao30 t444.length co30) : Value).ownBlock ∧ some k_ ≠ ((.slice Ao34 t447.length co34) : Value).ownBlock ∧ some k_ ≠ ((.slice Ao35 t450.length co35) : Value).ownBlock ∧ some k_ ≠ ((.slice Ao38 t454.length co38) : Value).ownBlock ∧ some k_ ≠ ((.slice Ao43 t457.length co43) : Value).ownBlock ∧ some k_ ≠ ((.slice Ao44 t460.length co44) : Value).ownBlock) (.slice Ao26 t438.length co26) t438) ∧ Aside0 (Kd.R (Kd.int .i64) 3 wc w.heap.size (fun k_ => some k_ ≠ ((.slice Ao22 t432.length co22) : Value).ownBlock ∧ some k_ ≠ ((.slice Ao25 t435.length co25) : Value).ownBlock ∧ some k_ ≠ ((.slice Ao26 t438.length co26) : Value).ownBlock ∧ some k_ ≠ ((.slice Ao34 t447.length co34) : Value).ownBlock ∧ some k_ ≠ ((.slice Ao35 t450.length co35) : Value).ownBlock ∧ some k_ ≠ ((.slice Ao38 t454.length co38) : Value).ownBlock ∧ some k_ ≠ ((.slice Ao43 t457.length co43) : Value).ownBlock ∧ some k_ ≠ ((.slice Ao44 t460.length co44) : Value).ownBlock) (.slice Ao30 t444.length co30) t444) ∧ Aside0 (Kd.R (Kd.int .i64) 3 wc w.heap.size (fun k_ => some k_ ≠ ((.slice Ao22 t432.length co22) : Value).ownBlock ∧ some k_ ≠ ((.slice Ao25 t435.length co25) : Value).ownBlock ∧ some k_ ≠ ((.slice Ao26 t438.length co26) : Value).ownBlock ∧ some k_ ≠ ((.slice Ao30 t444.length co30) : Value).ownBlock ∧ some k_ ≠ ((.slice Ao35 t450.length co35) : Value).ownBlock ∧ some k_ ≠ ((.slice Ao38 t454.length co38) : Value).ownBlock ∧ some k_ ≠ ((.slice Ao43 t457.length co43) : Value).ownBlock ∧ some k_ ≠ ((.slice Ao44 t460.length co44) : Value).ownBlock) (.slice Ao34 t447.length co34) t447) ∧ Aside0 (Kd.R (Kd.int .i64) 3 wc w.heap.size (fun k_ => some k_ ≠ ((.slice Ao22 t432.length co22) : Value).ownBlock ∧ some k_ ≠ ((.slice Ao25 t435.length co25) : Value).ownBlock ∧ some k_ ≠ ((.slice Ao26 t438.length co26) : Value).ownBlock ∧ some k_ ≠ ((.slice Ao30 t444.length co30) : Value).ownBlock ∧ some k_ ≠ ((.slice Ao34 t447.length co34) : Value).ownBlock ∧ some k_ ≠ ((.slice Ao38 t454.length co38) : Value).ownBlock ∧ some k_ ≠ ((.slice Ao43 t457.length co43) : Value).ownBlock ∧ some k_ ≠ ((.slice Ao44 t460.length co44) : Value).ownBlock) (.slice Ao35 t450.length co35) t450) ∧ Aside0 (Kd.R (Kd.int .i64) 3 wc w.heap.size (fun k_ => some k_ ≠ ((.slice Ao22 t432.length co22) : Value).ownBlock ∧ some k_ ≠ ((.slice Ao25 t435.length co25) : Value).ownBlock ∧ some k_ ≠ ((.slice Ao26 t438.length co26) : Value).ownBlock ∧ some k_ ≠ ((.slice Ao30 t444.length co30) : Value).ownBlock ∧ some k_ ≠ ((.slice Ao34 t447.length co34) : Value).ownBlock ∧ some k_ ≠ ((.slice Ao35 t450.length co35) : Value).ownBlock ∧ some k_ ≠ ((.slice Ao43 t457.length co43) : Value).ownBlock ∧ some k_ ≠ ((.slice Ao44 t460.length co44) : Value).ownBlock) (.slice Ao38 t454.length co38) t454) ∧ Aside0 (Kd.R (Kd.int .i64) 3 wc w.heap.size (fun k_ => some k_ ≠ ((.slice Ao22 t432.length co22) : Value).ownBlock ∧ some k_ ≠ ((.slice Ao25 t435.length co25) : Value).ownBlock ∧ some k_ ≠ ((.slice Ao26 t438.length co26) : Value).ownBlock ∧ some k_ ≠ ((.slice Ao30 t444.length co30) : Value).ownBlock ∧ some k_ ≠ ((.slice Ao34 t447.length co34) : Value).ownBlock ∧ some k_ ≠ ((.slice Ao35 t450.length co35) : Value).ownBlock ∧ some k_ ≠ ((.slice Ao38 t454.length co38) : Value).ownBlock ∧ some k_ ≠ ((.slice Ao44 t460.length co44) : Value).ownBlock) (.slice Ao43 t457.length co43) t457) ∧ Aside0 (Kd.R (Kd.int .i64) 3 wc w.heap.size (fun k_ => some k_ ≠ ((.slice Ao22 t432.length co22) : Value).ownBlock ∧ some k_ ≠ ((.slice Ao25 t435.length co25) : Value).ownBlock ∧ some k_ ≠ ((.slice Ao26 t438.length co26) : Value).ownBlock ∧ some k_ ≠ ((.slice Ao30 t444.length co30) : Value).ownBlock ∧ some k_ ≠ ((.slice Ao34 t447.length co34) : Value).ownBlock ∧ some k_ ≠ ((.slice Ao35 t450.length co35) : Value).ownBlock ∧ some k_ ≠ ((.slice Ao38 t454.length co38) : Value).ownBlock ∧ some k_ ≠ ((.slice Ao43 t457.length co43) : Value).ownBlock) (.slice Ao44 t460.length co44) t460) ∧ Aside0 (wc.heap[gb421]? = some (.cells #[(.slice A0_0 l0_0.length c0_0), (.slice A0_1 l0_1.length c0_1), (.slice A0_2 l0_2.length c0_2)] 24 (0, 0))) ∧ Aside0 (wc.heap[gb443]? = some (.cells #[(.slice Ao22 t432.length co22), (.slice Ao25 t435.length co25), (.slice Ao26 t438.length co26)] 26 (0, 0))) ∧ Aside0 (wc.heap[gb453]? = some (.cells #[(.slice Ao30 t444.length co30), (.slice Ao34 t447.length co34), (.slice Ao35 t450.length co35)] 26 (0, 0))) ∧ Aside0 (wc.heap[gb465]? = some (.cells #[(.slice Ao38 t454.length co38), (.slice Ao43 t457.length co43), (.slice Ao44 t460.length co44)] 26 (0, 0))) ∧ Aside0 (Below w.heap.size w wc))
 case first =>
  have H := HC11.out
  clear HC11
  replace H := Option.bind_eq_some_iff.mp H
  obtain ⟨t466, A450, H⟩ := H
  replace H : (if t466 = true then (if t463 = t441 then (laws_FnExactInduceAll.j0 k t441 t442 t463 t464 (t464 != t442) l0_0 l0_1 l0_2 t432 t435 t438 t444 t447 t450 t454 t457 t460) else (laws_FnExactInduceAll.j0 k t441 t442 t463 t464 true l0_0 l0_1 l0_2 t432 t435 t438 t444 t447 t450 t454 t457 t460)) else (laws_FnExactInduceAll.j0 k t441 t442 t463 t464 true l0_0 l0_1 l0_2 t432 t435 t438 t444 t447 t450 t454 t457 t460)) = some r := H
  have A45 := Aside0.mk A450
  clear A450
  by_cases c46 : t466 = true
  {
  subst c46
  have H1 : (if t463 = t441 then (laws_FnExactInduceAll.j0 k t441 t442 t463 t464 (t464 != t442) l0_0 l0_1 l0_2 t432 t435 t438 t444 t447 t450 t454 t457 t460) else (laws_FnExactInduceAll.j0 k t441 t442 t463 t464 true l0_0 l0_1 l0_2 t432 t435 t438 t444 t447 t450 t454 t457 t460)) = some r := by rw [if_pos rfl] at H; exact H
  clear H
  have H := H1
  clear H1
  by_cases c47 : t463 = t441
  {
  rw [if_pos c47] at H
  have c47b0 : (t463 == t441) = true := beq_iff_eq.mpr c47
  have c47b1 : (t463 != t441) = false := bne_eq_false_iff_eq.mpr c47
  clear c47
  (first | rw [c47b0] | (simp only [i64_w, i32_w]; rw [c47b0]) | skip)
  have H' := Aside0.mk H
  clear H
  have hnb48 := NB465_421.out
  have hnc48 := NB421_465.out
  have hnb49 := NB465_443.out
  have hnc49 := NB443_465.out
  have hnb50 := NB465_453.out
  have hnc50 := NB453_465.out
  have hcz51_0 := cz30 BK465.out
  have hcz51_1 := cz31 BK465.out
  have hcz51_2 := cz32 BK465.out
  have hfz51_0 := blk_frozen BK465.out 0
  have hfz51_1 := blk_frozen BK465.out 1
  have hfz51_2 := blk_frozen BK465.out 2
  have hnb52 := NB443_421.out
  have hnc52 := NB421_443.out
  have hnb53 := NB443_453.out
  have hnc53 := NB453_443.out
  have hcz54_0 := cz30 BK443.out
  have hcz54_1 := cz31 BK443.out
  have hcz54_2 := cz32 BK443.out
  have hfz54_0 := blk_frozen BK443.out 0
  have hfz54_1 := blk_frozen BK443.out 1
  have hfz54_2 := blk_frozen BK443.out 2
  go_wp2_with (first | ((with_reducible refine gate_callee (f := 10) rfl ?_); refine goesL_ (some 39) rfl rfl Try.func10 (by kernel_rfl) rfl #[.agg #[.slice Ao38 t454.length co38, .slice Ao43 t457.length co43, .slice Ao44 t460.length co44], .agg #[.slice Ao22 t432.length co22, .slice Ao25 t435.length co25, .slice Ao26 t438.length co26]] rfl aX ?_; (with_reducible refine (laws_eqExchange.calls k _ _ t454 _ _ t457 _ _ t460 _ _ t432 _ _ t435 _ _ t438 true _ ?side1 ?side2 ?side3 ?side4 ?side5 ?side6 ?side7 ?side8 ?side9 ?side10 ?side11 ?side12 A45.out).mono ?_); (case side1 => exact rcX (fr3 HO456.out BK465.out (.slice Ao38 t454.length co38) (.slice Ao43 t457.length co43) (.slice Ao44 t460.length co44))); (case side2 => exact (Kd.R_reads' HO456.out).2.1); (case side3 => exact rcX (fr3 HO459.out BK465.out (.slice Ao38 t454.length co38) (.slice Ao43 t457.length co43) (.slice Ao44 t460.length co44))); (case side4 => exact (Kd.R_reads' HO459.out).2.1); (case side5 => exact rcX (fr3 HO462.out BK465.out (.slice Ao38 t454.length co38) (.slice Ao43 t457.length co43) (.slice Ao44 t460.length co44))); (case side6 => exact (Kd.R_reads' HO462.out).2.1); (case side7 => exact rcX (fr3 HO434.out BK465.out (.slice Ao38 t454.length co38) (.slice Ao43 t457.length co43) (.slice Ao44 t460.length co44))); (case side8 => exact (Kd.R_reads' HO434.out).2.1); (case side9 => exact rcX (fr3 HO437.out BK465.out (.slice Ao38 t454.length co38) (.slice Ao43 t457.length co43) (.slice Ao44 t460.length co44))); (case side10 => exact (Kd.R_reads' HO437.out).2.1); (case side11 => exact rcX (fr3 HO440.out BK465.out (.slice Ao38 t454.length co38) (.slice Ao43 t457.length co43) (.slice Ao44 t460.length co44))); (case side12 => exact (Kd.R_reads' HO440.out).2.1); rintro e w55 ⟨rfl, hb⟩; refine ⟨_, rfl, ?_⟩; have n0_ := Aside0.mk (Kd.R_below (rX (fr3 HO425.out BK465.out (.slice Ao38 t454.length co38) (.slice Ao43 t457.length co43) (.slice Ao44 t460.length co44))) hb); have n1_ := Aside0.mk (Kd.R_below (rX (fr3 HO428.out BK465.out (.slice Ao38 t454.length co38) (.slice Ao43 t457.length co43) (.slice Ao44 t460.length co44))) hb); have n2_ := Aside0.mk (Kd.R_below (rX (fr3 HO431.out BK465.out (.slice Ao38 t454.length co38) (.slice Ao43 t457.length co43) (.slice Ao44 t460.length co44))) hb); have n3_ := Aside0.mk (Kd.R_below (rX (fr3 HO434.out BK465.out (.slice Ao38 t454.length co38) (.slice Ao43 t457.length co43) (.slice Ao44 t460.length co44))) hb); have n4_ := Aside0.mk (Kd.R_below (rX (fr3 HO437.out BK465.out (.slice Ao38 t454.length co38) (.slice Ao43 t457.length co43) (.slice Ao44 t460.length co44))) hb); have n5_ := Aside0.mk (Kd.R_below (rX (fr3 HO440.out BK465.out (.slice Ao38 t454.length co38) (.slice Ao43 t457.length co43) (.slice Ao44 t460.length co44))) hb); have n6_ := Aside0.mk (Kd.R_below (rX (fr3 HO446.out BK465.out (.slice Ao38 t454.length co38) (.slice Ao43 t457.length co43) (.slice Ao44 t460.length co44))) hb); have n7_ := Aside0.mk (Kd.R_below (rX (fr3 HO449.out BK465.out (.slice Ao38 t454.length co38) (.slice Ao43 t457.length co43) (.slice Ao44 t460.length co44))) hb); have n8_ := Aside0.mk (Kd.R_below (rX (fr3 HO452.out BK465.out (.slice Ao38 t454.length co38) (.slice Ao43 t457.length co43) (.slice Ao44 t460.length co44))) hb); have n9_ := Aside0.mk (Kd.R_below (rX (fr3 HO456.out BK465.out (.slice Ao38 t454.length co38) (.slice Ao43 t457.length co43) (.slice Ao44 t460.length co44))) hb); have n10_ := Aside0.mk (Kd.R_below (rX (fr3 HO459.out BK465.out (.slice Ao38 t454.length co38) (.slice Ao43 t457.length co43) (.slice Ao44 t460.length co44))) hb); have n11_ := Aside0.mk (Kd.R_below (rX (fr3 HO462.out BK465.out (.slice Ao38 t454.length co38) (.slice Ao43 t457.length co43) (.slice Ao44 t460.length co44))) hb); have n12_ := Aside0.mk (blk_below (g := gb421) (o := .cells #[.slice A0_0 l0_0.length c0_0, .slice A0_1 l0_1.length c0_1, .slice A0_2 l0_2.length c0_2] 24 (0, 0)) (by (with_reducible repeat (first|refine kN ?_ _|refine kD ?_|refine kA ?_ _)); refine blk_far ?_ NB421_465.out _; (with_reducible repeat (first|refine kN ?_ _|refine kD ?_|refine kA ?_ _)); refine blk_far ?_ NB421_465.out _; (with_reducible repeat (first|refine kN ?_ _|refine kD ?_|refine kA ?_ _)); refine blk_far ?_ NB421_465.out _; (with_reducible repeat (first|refine kN ?_ _|refine kD ?_|refine kA ?_ _)); exact BK421.out) hb); have n13_ := Aside0.mk (blk_below (g := gb443) (o := .cells #[.slice Ao22 t432.length co22, .slice Ao25 t435.length co25, .slice Ao26 t438.length co26] 26 (0, 0)) (by (with_reducible repeat (first|refine kN ?_ _|refine kD ?_|refine kA ?_ _)); refine blk_far ?_ NB443_465.out _; (with_reducible repeat (first|refine kN ?_ _|refine kD ?_|refine kA ?_ _)); refine blk_far ?_ NB443_465.out _; (with_reducible repeat (first|refine kN ?_ _|refine kD ?_|refine kA ?_ _)); refine blk_far ?_ NB443_465.out _; (with_reducible repeat (first|refine kN ?_ _|refine kD ?_|refine kA ?_ _)); exact BK443.out) hb); have n14_ := Aside0.mk (blk_below (g := gb453) (o := .cells #[.slice Ao30 t444.length co30, .slice Ao34 t447.length co34, .slice Ao35 t450.length co35] 26 (0, 0)) (by (with_reducible repeat (first|refine kN ?_ _|refine kD ?_|refine kA ?_ _)); refine blk_far ?_ NB453_465.out _; (with_reducible repeat (first|refine kN ?_ _|refine kD ?_|refine kA ?_ _)); refine blk_far ?_ NB453_465.out _; (with_reducible repeat (first|refine kN ?_ _|refine kD ?_|refine kA ?_ _)); refine blk_far ?_ NB453_465.out _; (with_reducible repeat (first|refine kN ?_ _|refine kD ?_|refine kA ?_ _)); exact BK453.out) hb); have n15_ := Aside0.mk (blk_below (g := gb465) (o := .cells #[.slice Ao38 t454.length co38, .slice Ao43 t457.length co43, .slice Ao44 t460.length co44] 26 (0, 0)) (by (with_reducible repeat (first|refine kN ?_ _|refine kD ?_|refine kA ?_ _)); refine blk_put (cs := #[.slice Ao38 t454.length co38, .slice Ao43 t457.length co43, .slice none 0 0]) ?_ 2 _ rfl; (with_reducible repeat (first|refine kN ?_ _|refine kD ?_|refine kA ?_ _)); refine blk_put (cs := #[.slice Ao38 t454.length co38, .slice none 0 0, .slice none 0 0]) ?_ 1 _ rfl; (with_reducible repeat (first|refine kN ?_ _|refine kD ?_|refine kA ?_ _)); refine blk_put (cs := #[.slice none 0 0, .slice none 0 0, .slice none 0 0]) ?_ 0 _ rfl; (with_reducible repeat (first|refine kN ?_ _|refine kD ?_|refine kA ?_ _)); exact BK465.out) hb); have n16_ := Aside0.mk (below_step (by repeat (first | (with_reducible first | exact HB.out|apply bA|apply bN|apply bD | refine below_set ?_ GE421.out | refine below_set ?_ GE443.out | refine below_set ?_ GE453.out | refine below_set ?_ GE465.out) | exact HB.out)) hb); clear HO425 HO428 HO431 HO434 HO437 HO440 HO446 HO449 HO452 HO456 HO459 HO462 BK421 BK443 BK453 BK465 HB; have HO425 := n0_; have HO428 := n1_; have HO431 := n2_; have HO434 := n3_; have HO437 := n4_; have HO440 := n5_; have HO446 := n6_; have HO449 := n7_; have HO452 := n8_; have HO456 := n9_; have HO459 := n10_; have HO462 := n11_; have BK421 := n12_; have BK443 := n13_; have BK453 := n14_; have BK465 := n15_; have HB := n16_; clear n0_ n1_ n2_ n3_ n4_ n5_ n6_ n7_ n8_ n9_ n10_ n11_ n12_ n13_ n14_ n15_ n16_; (try clear hb); (try clear hb2); (try clear hk); (try clear hi)))
  go_meet
  case rel => exact ⟨_, ((t464 != t442)), vX, H', ⟨by first | omega | exact Nat.le_refl _⟩, ⟨rM HO434.out (fun _ hk => ⟨hk.1.1.1.1.1.1.1.1.1.1, ⟨hk.1.1.1.1.1.1.1.1.1.2, ⟨hk.1.1.1.1.1.2, ⟨hk.1.1.1.1.2, ⟨hk.1.1.1.2, ⟨hk.1.1.2, ⟨hk.1.2, hk.2⟩⟩⟩⟩⟩⟩⟩)⟩, ⟨rM HO437.out (fun _ hk => ⟨hk.1.1.1.1.1.1.1.1.1.1, ⟨hk.1.1.1.1.1.1.1.1.1.2, ⟨hk.1.1.1.1.1.2, ⟨hk.1.1.1.1.2, ⟨hk.1.1.1.2, ⟨hk.1.1.2, ⟨hk.1.2, hk.2⟩⟩⟩⟩⟩⟩⟩)⟩, ⟨rM HO440.out (fun _ hk => ⟨hk.1.1.1.1.1.1.1.1.1.1, ⟨hk.1.1.1.1.1.1.1.1.1.2, ⟨hk.1.1.1.1.1.2, ⟨hk.1.1.1.1.2, ⟨hk.1.1.1.2, ⟨hk.1.1.2, ⟨hk.1.2, hk.2⟩⟩⟩⟩⟩⟩⟩)⟩, ⟨rM HO446.out (fun _ hk => ⟨hk.1.1.1.1.1.2, ⟨hk.1.1.1.1.2, ⟨hk.1.1.1.2, ⟨hk.1.1.1.1.1.1.1.1.1.1, ⟨hk.1.1.1.1.1.1.1.1.1.2, ⟨hk.1.1.2, ⟨hk.1.2, hk.2⟩⟩⟩⟩⟩⟩⟩)⟩, ⟨rM HO449.out (fun _ hk => ⟨hk.1.1.1.1.1.2, ⟨hk.1.1.1.1.2, ⟨hk.1.1.1.2, ⟨hk.1.1.1.1.1.1.1.1.1.1, ⟨hk.1.1.1.1.1.1.1.1.1.2, ⟨hk.1.1.2, ⟨hk.1.2, hk.2⟩⟩⟩⟩⟩⟩⟩)⟩, ⟨rM HO452.out (fun _ hk => ⟨hk.1.1.1.1.1.2, ⟨hk.1.1.1.1.2, ⟨hk.1.1.1.2, ⟨hk.1.1.1.1.1.1.1.1.1.1, ⟨hk.1.1.1.1.1.1.1.1.1.2, ⟨hk.1.1.2, ⟨hk.1.2, hk.2⟩⟩⟩⟩⟩⟩⟩)⟩, ⟨rM HO456.out (fun _ hk => ⟨hk.1.1.1.1.1.2, ⟨hk.1.1.1.1.2, ⟨hk.1.1.1.2, ⟨hk.1.1.2, ⟨hk.1.2, ⟨hk.2, ⟨hk.1.1.1.1.1.1.1.1.1.1, hk.1.1.1.1.1.1.1.1.1.2⟩⟩⟩⟩⟩⟩⟩)⟩, ⟨rM HO459.out (fun _ hk => ⟨hk.1.1.1.1.1.2, ⟨hk.1.1.1.1.2, ⟨hk.1.1.1.2, ⟨hk.1.1.2, ⟨hk.1.2, ⟨hk.2, ⟨hk.1.1.1.1.1.1.1.1.1.1, hk.1.1.1.1.1.1.1.1.1.2⟩⟩⟩⟩⟩⟩⟩)⟩, ⟨rM HO462.out (fun _ hk => ⟨hk.1.1.1.1.1.2, ⟨hk.1.1.1.1.2, ⟨hk.1.1.1.2, ⟨hk.1.1.2, ⟨hk.1.2, ⟨hk.2, ⟨hk.1.1.1.1.1.1.1.1.1.1, hk.1.1.1.1.1.1.1.1.1.2⟩⟩⟩⟩⟩⟩⟩)⟩, ⟨kX BK421.out⟩, ⟨kX BK443.out⟩, ⟨kX BK453.out⟩, ⟨kX BK465.out⟩, ⟨by repeat (first | (with_reducible first | exact HB.out|apply bA|apply bN|apply bD | refine below_set ?_ GE421.out | refine below_set ?_ GE443.out | refine below_set ?_ GE453.out | refine below_set ?_ GE465.out) | exact HB.out)⟩⟩
  }
  {
  rw [if_neg c47] at H
  have c47b0 : (t463 == t441) = false := beq_eq_false_iff_ne.mpr c47
  have c47b1 : (t463 != t441) = true := bne_iff_ne.mpr c47
  (first | rw [c47b0] | (simp only [i64_w, i32_w]; rw [c47b0]) | skip)
  have H' := Aside0.mk H
  clear H
  have hnb56 := NB465_421.out
  have hnc56 := NB421_465.out
  have hnb57 := NB465_443.out
  have hnc57 := NB443_465.out
  have hnb58 := NB465_453.out
  have hnc58 := NB453_465.out
  have hcz59_0 := cz30 BK465.out
  have hcz59_1 := cz31 BK465.out
  have hcz59_2 := cz32 BK465.out
  have hfz59_0 := blk_frozen BK465.out 0
  have hfz59_1 := blk_frozen BK465.out 1
  have hfz59_2 := blk_frozen BK465.out 2
  have hnb60 := NB443_421.out
  have hnc60 := NB421_443.out
  have hnb61 := NB443_453.out
  have hnc61 := NB453_443.out
  have hcz62_0 := cz30 BK443.out
  have hcz62_1 := cz31 BK443.out
  have hcz62_2 := cz32 BK443.out
  have hfz62_0 := blk_frozen BK443.out 0
  have hfz62_1 := blk_frozen BK443.out 1
  have hfz62_2 := blk_frozen BK443.out 2
  go_wp2_with (first | ((with_reducible refine gate_callee (f := 10) rfl ?_); refine goesL_ (some 39) rfl rfl Try.func10 (by kernel_rfl) rfl #[.agg #[.slice Ao38 t454.length co38, .slice Ao43 t457.length co43, .slice Ao44 t460.length co44], .agg #[.slice Ao22 t432.length co22, .slice Ao25 t435.length co25, .slice Ao26 t438.length co26]] rfl aX ?_; (with_reducible refine (laws_eqExchange.calls k _ _ t454 _ _ t457 _ _ t460 _ _ t432 _ _ t435 _ _ t438 true _ ?side1 ?side2 ?side3 ?side4 ?side5 ?side6 ?side7 ?side8 ?side9 ?side10 ?side11 ?side12 A45.out).mono ?_); (case side1 => exact rcX (fr3 HO456.out BK465.out (.slice Ao38 t454.length co38) (.slice Ao43 t457.length co43) (.slice Ao44 t460.length co44))); (case side2 => exact (Kd.R_reads' HO456.out).2.1); (case side3 => exact rcX (fr3 HO459.out BK465.out (.slice Ao38 t454.length co38) (.slice Ao43 t457.length co43) (.slice Ao44 t460.length co44))); (case side4 => exact (Kd.R_reads' HO459.out).2.1); (case side5 => exact rcX (fr3 HO462.out BK465.out (.slice Ao38 t454.length co38) (.slice Ao43 t457.length co43) (.slice Ao44 t460.length co44))); (case side6 => exact (Kd.R_reads' HO462.out).2.1); (case side7 => exact rcX (fr3 HO434.out BK465.out (.slice Ao38 t454.length co38) (.slice Ao43 t457.length co43) (.slice Ao44 t460.length co44))); (case side8 => exact (Kd.R_reads' HO434.out).2.1); (case side9 => exact rcX (fr3 HO437.out BK465.out (.slice Ao38 t454.length co38) (.slice Ao43 t457.length co43) (.slice Ao44 t460.length co44))); (case side10 => exact (Kd.R_reads' HO437.out).2.1); (case side11 => exact rcX (fr3 HO440.out BK465.out (.slice Ao38 t454.length co38) (.slice Ao43 t457.length co43) (.slice Ao44 t460.length co44))); (case side12 => exact (Kd.R_reads' HO440.out).2.1); rintro e w63 ⟨rfl, hb⟩; refine ⟨_, rfl, ?_⟩; have n0_ := Aside0.mk (Kd.R_below (rX (fr3 HO425.out BK465.out (.slice Ao38 t454.length co38) (.slice Ao43 t457.length co43) (.slice Ao44 t460.length co44))) hb); have n1_ := Aside0.mk (Kd.R_below (rX (fr3 HO428.out BK465.out (.slice Ao38 t454.length co38) (.slice Ao43 t457.length co43) (.slice Ao44 t460.length co44))) hb); have n2_ := Aside0.mk (Kd.R_below (rX (fr3 HO431.out BK465.out (.slice Ao38 t454.length co38) (.slice Ao43 t457.length co43) (.slice Ao44 t460.length co44))) hb); have n3_ := Aside0.mk (Kd.R_below (rX (fr3 HO434.out BK465.out (.slice Ao38 t454.length co38) (.slice Ao43 t457.length co43) (.slice Ao44 t460.length co44))) hb); have n4_ := Aside0.mk (Kd.R_below (rX (fr3 HO437.out BK465.out (.slice Ao38 t454.length co38) (.slice Ao43 t457.length co43) (.slice Ao44 t460.length co44))) hb); have n5_ := Aside0.mk (Kd.R_below (rX (fr3 HO440.out BK465.out (.slice Ao38 t454.length co38) (.slice Ao43 t457.length co43) (.slice Ao44 t460.length co44))) hb); have n6_ := Aside0.mk (Kd.R_below (rX (fr3 HO446.out BK465.out (.slice Ao38 t454.length co38) (.slice Ao43 t457.length co43) (.slice Ao44 t460.length co44))) hb); have n7_ := Aside0.mk (Kd.R_below (rX (fr3 HO449.out BK465.out (.slice Ao38 t454.length co38) (.slice Ao43 t457.length co43) (.slice Ao44 t460.length co44))) hb); have n8_ := Aside0.mk (Kd.R_below (rX (fr3 HO452.out BK465.out (.slice Ao38 t454.length co38) (.slice Ao43 t457.length co43) (.slice Ao44 t460.length co44))) hb); have n9_ := Aside0.mk (Kd.R_below (rX (fr3 HO456.out BK465.out (.slice Ao38 t454.length co38) (.slice Ao43 t457.length co43) (.slice Ao44 t460.length co44))) hb); have n10_ := Aside0.mk (Kd.R_below (rX (fr3 HO459.out BK465.out (.slice Ao38 t454.length co38) (.slice Ao43 t457.length co43) (.slice Ao44 t460.length co44))) hb); have n11_ := Aside0.mk (Kd.R_below (rX (fr3 HO462.out BK465.out (.slice Ao38 t454.length co38) (.slice Ao43 t457.length co43) (.slice Ao44 t460.length co44))) hb); have n12_ := Aside0.mk (blk_below (g := gb421) (o := .cells #[.slice A0_0 l0_0.length c0_0, .slice A0_1 l0_1.length c0_1, .slice A0_2 l0_2.length c0_2] 24 (0, 0)) (by (with_reducible repeat (first|refine kN ?_ _|refine kD ?_|refine kA ?_ _)); refine blk_far ?_ NB421_465.out _; (with_reducible repeat (first|refine kN ?_ _|refine kD ?_|refine kA ?_ _)); refine blk_far ?_ NB421_465.out _; (with_reducible repeat (first|refine kN ?_ _|refine kD ?_|refine kA ?_ _)); refine blk_far ?_ NB421_465.out _; (with_reducible repeat (first|refine kN ?_ _|refine kD ?_|refine kA ?_ _)); exact BK421.out) hb); have n13_ := Aside0.mk (blk_below (g := gb443) (o := .cells #[.slice Ao22 t432.length co22, .slice Ao25 t435.length co25, .slice Ao26 t438.length co26] 26 (0, 0)) (by (with_reducible repeat (first|refine kN ?_ _|refine kD ?_|refine kA ?_ _)); refine blk_far ?_ NB443_465.out _; (with_reducible repeat (first|refine kN ?_ _|refine kD ?_|refine kA ?_ _)); refine blk_far ?_ NB443_465.out _; (with_reducible repeat (first|refine kN ?_ _|refine kD ?_|refine kA ?_ _)); refine blk_far ?_ NB443_465.out _; (with_reducible repeat (first|refine kN ?_ _|refine kD ?_|refine kA ?_ _)); exact BK443.out) hb); have n14_ := Aside0.mk (blk_below (g := gb453) (o := .cells #[.slice Ao30 t444.length co30, .slice Ao34 t447.length co34, .slice Ao35 t450.length co35] 26 (0, 0)) (by (with_reducible repeat (first|refine kN ?_ _|refine kD ?_|refine kA ?_ _)); refine blk_far ?_ NB453_465.out _; (with_reducible repeat (first|refine kN ?_ _|refine kD ?_|refine kA ?_ _)); refine blk_far ?_ NB453_465.out _; (with_reducible repeat (first|refine kN ?_ _|refine kD ?_|refine kA ?_ _)); refine blk_far ?_ NB453_465.out _; (with_reducible repeat (first|refine kN ?_ _|refine kD ?_|refine kA ?_ _)); exact BK453.out) hb); have n15_ := Aside0.mk (blk_below (g := gb465) (o := .cells #[.slice Ao38 t454.length co38, .slice Ao43 t457.length co43, .slice Ao44 t460.length co44] 26 (0, 0)) (by (with_reducible repeat (first|refine kN ?_ _|refine kD ?_|refine kA ?_ _)); refine blk_put (cs := #[.slice Ao38 t454.length co38, .slice Ao43 t457.length co43, .slice none 0 0]) ?_ 2 _ rfl; (with_reducible repeat (first|refine kN ?_ _|refine kD ?_|refine kA ?_ _)); refine blk_put (cs := #[.slice Ao38 t454.length co38, .slice none 0 0, .slice none 0 0]) ?_ 1 _ rfl; (with_reducible repeat (first|refine kN ?_ _|refine kD ?_|refine kA ?_ _)); refine blk_put (cs := #[.slice none 0 0, .slice none 0 0, .slice none 0 0]) ?_ 0 _ rfl; (with_reducible repeat (first|refine kN ?_ _|refine kD ?_|refine kA ?_ _)); exact BK465.out) hb); have n16_ := Aside0.mk (below_step (by repeat (first | (with_reducible first | exact HB.out|apply bA|apply bN|apply bD | refine below_set ?_ GE421.out | refine below_set ?_ GE443.out | refine below_set ?_ GE453.out | refine below_set ?_ GE465.out) | exact HB.out)) hb); clear HO425 HO428 HO431 HO434 HO437 HO440 HO446 HO449 HO452 HO456 HO459 HO462 BK421 BK443 BK453 BK465 HB; have HO425 := n0_; have HO428 := n1_; have HO431 := n2_; have HO434 := n3_; have HO437 := n4_; have HO440 := n5_; have HO446 := n6_; have HO449 := n7_; have HO452 := n8_; have HO456 := n9_; have HO459 := n10_; have HO462 := n11_; have BK421 := n12_; have BK443 := n13_; have BK453 := n14_; have BK465 := n15_; have HB := n16_; clear n0_ n1_ n2_ n3_ n4_ n5_ n6_ n7_ n8_ n9_ n10_ n11_ n12_ n13_ n14_ n15_ n16_; (try clear hb); (try clear hb2); (try clear hk); (try clear hi)))
  go_meet
  case rel => exact ⟨_, (true), vX, H', ⟨by first | omega | exact Nat.le_refl _⟩, ⟨rM HO434.out (fun _ hk => ⟨hk.1.1.1.1.1.1.1.1.1.1, ⟨hk.1.1.1.1.1.1.1.1.1.2, ⟨hk.1.1.1.1.1.2, ⟨hk.1.1.1.1.2, ⟨hk.1.1.1.2, ⟨hk.1.1.2, ⟨hk.1.2, hk.2⟩⟩⟩⟩⟩⟩⟩)⟩, ⟨rM HO437.out (fun _ hk => ⟨hk.1.1.1.1.1.1.1.1.1.1, ⟨hk.1.1.1.1.1.1.1.1.1.2, ⟨hk.1.1.1.1.1.2, ⟨hk.1.1.1.1.2, ⟨hk.1.1.1.2, ⟨hk.1.1.2, ⟨hk.1.2, hk.2⟩⟩⟩⟩⟩⟩⟩)⟩, ⟨rM HO440.out (fun _ hk => ⟨hk.1.1.1.1.1.1.1.1.1.1, ⟨hk.1.1.1.1.1.1.1.1.1.2, ⟨hk.1.1.1.1.1.2, ⟨hk.1.1.1.1.2, ⟨hk.1.1.1.2, ⟨hk.1.1.2, ⟨hk.1.2, hk.2⟩⟩⟩⟩⟩⟩⟩)⟩, ⟨rM HO446.out (fun _ hk => ⟨hk.1.1.1.1.1.2, ⟨hk.1.1.1.1.2, ⟨hk.1.1.1.2, ⟨hk.1.1.1.1.1.1.1.1.1.1, ⟨hk.1.1.1.1.1.1.1.1.1.2, ⟨hk.1.1.2, ⟨hk.1.2, hk.2⟩⟩⟩⟩⟩⟩⟩)⟩, ⟨rM HO449.out (fun _ hk => ⟨hk.1.1.1.1.1.2, ⟨hk.1.1.1.1.2, ⟨hk.1.1.1.2, ⟨hk.1.1.1.1.1.1.1.1.1.1, ⟨hk.1.1.1.1.1.1.1.1.1.2, ⟨hk.1.1.2, ⟨hk.1.2, hk.2⟩⟩⟩⟩⟩⟩⟩)⟩, ⟨rM HO452.out (fun _ hk => ⟨hk.1.1.1.1.1.2, ⟨hk.1.1.1.1.2, ⟨hk.1.1.1.2, ⟨hk.1.1.1.1.1.1.1.1.1.1, ⟨hk.1.1.1.1.1.1.1.1.1.2, ⟨hk.1.1.2, ⟨hk.1.2, hk.2⟩⟩⟩⟩⟩⟩⟩)⟩, ⟨rM HO456.out (fun _ hk => ⟨hk.1.1.1.1.1.2, ⟨hk.1.1.1.1.2, ⟨hk.1.1.1.2, ⟨hk.1.1.2, ⟨hk.1.2, ⟨hk.2, ⟨hk.1.1.1.1.1.1.1.1.1.1, hk.1.1.1.1.1.1.1.1.1.2⟩⟩⟩⟩⟩⟩⟩)⟩, ⟨rM HO459.out (fun _ hk => ⟨hk.1.1.1.1.1.2, ⟨hk.1.1.1.1.2, ⟨hk.1.1.1.2, ⟨hk.1.1.2, ⟨hk.1.2, ⟨hk.2, ⟨hk.1.1.1.1.1.1.1.1.1.1, hk.1.1.1.1.1.1.1.1.1.2⟩⟩⟩⟩⟩⟩⟩)⟩, ⟨rM HO462.out (fun _ hk => ⟨hk.1.1.1.1.1.2, ⟨hk.1.1.1.1.2, ⟨hk.1.1.1.2, ⟨hk.1.1.2, ⟨hk.1.2, ⟨hk.2, ⟨hk.1.1.1.1.1.1.1.1.1.1, hk.1.1.1.1.1.1.1.1.1.2⟩⟩⟩⟩⟩⟩⟩)⟩, ⟨kX BK421.out⟩, ⟨kX BK443.out⟩, ⟨kX BK453.out⟩, ⟨kX BK465.out⟩, ⟨by repeat (first | (with_reducible first | exact HB.out|apply bA|apply bN|apply bD | refine below_set ?_ GE421.out | refine below_set ?_ GE443.out | refine below_set ?_ GE453.out | refine below_set ?_ GE465.out) | exact HB.out)⟩⟩
  }
  }
  {
  replace c46 := Bool.eq_false_iff.mpr c46
  subst c46
  have H1 : (laws_FnExactInduceAll.j0 k t441 t442 t463 t464 true l0_0 l0_1 l0_2 t432 t435 t438 t444 t447 t450 t454 t457 t460) = some r := by rw [if_neg (show ¬ (false = true) by decide)] at H; exact H
  clear H
  have H := H1
  clear H1
  have H' := Aside0.mk H
  clear H
  have hnb64 := NB465_421.out
  have hnc64 := NB421_465.out
  have hnb65 := NB465_443.out
  have hnc65 := NB443_465.out
  have hnb66 := NB465_453.out
  have hnc66 := NB453_465.out
  have hcz67_0 := cz30 BK465.out
  have hcz67_1 := cz31 BK465.out
  have hcz67_2 := cz32 BK465.out
  have hfz67_0 := blk_frozen BK465.out 0
  have hfz67_1 := blk_frozen BK465.out 1
  have hfz67_2 := blk_frozen BK465.out 2
  have hnb68 := NB443_421.out
  have hnc68 := NB421_443.out
  have hnb69 := NB443_453.out
  have hnc69 := NB453_443.out
  have hcz70_0 := cz30 BK443.out
  have hcz70_1 := cz31 BK443.out
  have hcz70_2 := cz32 BK443.out
  have hfz70_0 := blk_frozen BK443.out 0
  have hfz70_1 := blk_frozen BK443.out 1
  have hfz70_2 := blk_frozen BK443.out 2
  go_wp2_with (first | ((with_reducible refine gate_callee (f := 10) rfl ?_); refine goesL_ (some 39) rfl rfl Try.func10 (by kernel_rfl) rfl #[.agg #[.slice Ao38 t454.length co38, .slice Ao43 t457.length co43, .slice Ao44 t460.length co44], .agg #[.slice Ao22 t432.length co22, .slice Ao25 t435.length co25, .slice Ao26 t438.length co26]] rfl aX ?_; (with_reducible refine (laws_eqExchange.calls k _ _ t454 _ _ t457 _ _ t460 _ _ t432 _ _ t435 _ _ t438 false _ ?side1 ?side2 ?side3 ?side4 ?side5 ?side6 ?side7 ?side8 ?side9 ?side10 ?side11 ?side12 A45.out).mono ?_); (case side1 => exact rcX (fr3 HO456.out BK465.out (.slice Ao38 t454.length co38) (.slice Ao43 t457.length co43) (.slice Ao44 t460.length co44))); (case side2 => exact (Kd.R_reads' HO456.out).2.1); (case side3 => exact rcX (fr3 HO459.out BK465.out (.slice Ao38 t454.length co38) (.slice Ao43 t457.length co43) (.slice Ao44 t460.length co44))); (case side4 => exact (Kd.R_reads' HO459.out).2.1); (case side5 => exact rcX (fr3 HO462.out BK465.out (.slice Ao38 t454.length co38) (.slice Ao43 t457.length co43) (.slice Ao44 t460.length co44))); (case side6 => exact (Kd.R_reads' HO462.out).2.1); (case side7 => exact rcX (fr3 HO434.out BK465.out (.slice Ao38 t454.length co38) (.slice Ao43 t457.length co43) (.slice Ao44 t460.length co44))); (case side8 => exact (Kd.R_reads' HO434.out).2.1); (case side9 => exact rcX (fr3 HO437.out BK465.out (.slice Ao38 t454.length co38) (.slice Ao43 t457.length co43) (.slice Ao44 t460.length co44))); (case side10 => exact (Kd.R_reads' HO437.out).2.1); (case side11 => exact rcX (fr3 HO440.out BK465.out (.slice Ao38 t454.length co38) (.slice Ao43 t457.length co43) (.slice Ao44 t460.length co44))); (case side12 => exact (Kd.R_reads' HO440.out).2.1); rintro e w71 ⟨rfl, hb⟩; refine ⟨_, rfl, ?_⟩; have n0_ := Aside0.mk (Kd.R_below (rX (fr3 HO425.out BK465.out (.slice Ao38 t454.length co38) (.slice Ao43 t457.length co43) (.slice Ao44 t460.length co44))) hb); have n1_ := Aside0.mk (Kd.R_below (rX (fr3 HO428.out BK465.out (.slice Ao38 t454.length co38) (.slice Ao43 t457.length co43) (.slice Ao44 t460.length co44))) hb); have n2_ := Aside0.mk (Kd.R_below (rX (fr3 HO431.out BK465.out (.slice Ao38 t454.length co38) (.slice Ao43 t457.length co43) (.slice Ao44 t460.length co44))) hb); have n3_ := Aside0.mk (Kd.R_below (rX (fr3 HO434.out BK465.out (.slice Ao38 t454.length co38) (.slice Ao43 t457.length co43) (.slice Ao44 t460.length co44))) hb); have n4_ := Aside0.mk (Kd.R_below (rX (fr3 HO437.out BK465.out (.slice Ao38 t454.length co38) (.slice Ao43 t457.length co43) (.slice Ao44 t460.length co44))) hb); have n5_ := Aside0.mk (Kd.R_below (rX (fr3 HO440.out BK465.out (.slice Ao38 t454.length co38) (.slice Ao43 t457.length co43) (.slice Ao44 t460.length co44))) hb); have n6_ := Aside0.mk (Kd.R_below (rX (fr3 HO446.out BK465.out (.slice Ao38 t454.length co38) (.slice Ao43 t457.length co43) (.slice Ao44 t460.length co44))) hb); have n7_ := Aside0.mk (Kd.R_below (rX (fr3 HO449.out BK465.out (.slice Ao38 t454.length co38) (.slice Ao43 t457.length co43) (.slice Ao44 t460.length co44))) hb); have n8_ := Aside0.mk (Kd.R_below (rX (fr3 HO452.out BK465.out (.slice Ao38 t454.length co38) (.slice Ao43 t457.length co43) (.slice Ao44 t460.length co44))) hb); have n9_ := Aside0.mk (Kd.R_below (rX (fr3 HO456.out BK465.out (.slice Ao38 t454.length co38) (.slice Ao43 t457.length co43) (.slice Ao44 t460.length co44))) hb); have n10_ := Aside0.mk (Kd.R_below (rX (fr3 HO459.out BK465.out (.slice Ao38 t454.length co38) (.slice Ao43 t457.length co43) (.slice Ao44 t460.length co44))) hb); have n11_ := Aside0.mk (Kd.R_below (rX (fr3 HO462.out BK465.out (.slice Ao38 t454.length co38) (.slice Ao43 t457.length co43) (.slice Ao44 t460.length co44))) hb); have n12_ := Aside0.mk (blk_below (g := gb421) (o := .cells #[.slice A0_0 l0_0.length c0_0, .slice A0_1 l0_1.length c0_1, .slice A0_2 l0_2.length c0_2] 24 (0, 0)) (by (with_reducible repeat (first|refine kN ?_ _|refine kD ?_|refine kA ?_ _)); refine blk_far ?_ NB421_465.out _; (with_reducible repeat (first|refine kN ?_ _|refine kD ?_|refine kA ?_ _)); refine blk_far ?_ NB421_465.out _; (with_reducible repeat (first|refine kN ?_ _|refine kD ?_|refine kA ?_ _)); refine blk_far ?_ NB421_465.out _; (with_reducible repeat (first|refine kN ?_ _|refine kD ?_|refine kA ?_ _)); exact BK421.out) hb); have n13_ := Aside0.mk (blk_below (g := gb443) (o := .cells #[.slice Ao22 t432.length co22, .slice Ao25 t435.length co25, .slice Ao26 t438.length co26] 26 (0, 0)) (by (with_reducible repeat (first|refine kN ?_ _|refine kD ?_|refine kA ?_ _)); refine blk_far ?_ NB443_465.out _; (with_reducible repeat (first|refine kN ?_ _|refine kD ?_|refine kA ?_ _)); refine blk_far ?_ NB443_465.out _; (with_reducible repeat (first|refine kN ?_ _|refine kD ?_|refine kA ?_ _)); refine blk_far ?_ NB443_465.out _; (with_reducible repeat (first|refine kN ?_ _|refine kD ?_|refine kA ?_ _)); exact BK443.out) hb); have n14_ := Aside0.mk (blk_below (g := gb453) (o := .cells #[.slice Ao30 t444.length co30, .slice Ao34 t447.length co34, .slice Ao35 t450.length co35] 26 (0, 0)) (by (with_reducible repeat (first|refine kN ?_ _|refine kD ?_|refine kA ?_ _)); refine blk_far ?_ NB453_465.out _; (with_reducible repeat (first|refine kN ?_ _|refine kD ?_|refine kA ?_ _)); refine blk_far ?_ NB453_465.out _; (with_reducible repeat (first|refine kN ?_ _|refine kD ?_|refine kA ?_ _)); refine blk_far ?_ NB453_465.out _; (with_reducible repeat (first|refine kN ?_ _|refine kD ?_|refine kA ?_ _)); exact BK453.out) hb); have n15_ := Aside0.mk (blk_below (g := gb465) (o := .cells #[.slice Ao38 t454.length co38, .slice Ao43 t457.length co43, .slice Ao44 t460.length co44] 26 (0, 0)) (by (with_reducible repeat (first|refine kN ?_ _|refine kD ?_|refine kA ?_ _)); refine blk_put (cs := #[.slice Ao38 t454.length co38, .slice Ao43 t457.length co43, .slice none 0 0]) ?_ 2 _ rfl; (with_reducible repeat (first|refine kN ?_ _|refine kD ?_|refine kA ?_ _)); refine blk_put (cs := #[.slice Ao38 t454.length co38, .slice none 0 0, .slice none 0 0]) ?_ 1 _ rfl; (with_reducible repeat (first|refine kN ?_ _|refine kD ?_|refine kA ?_ _)); refine blk_put (cs := #[.slice none 0 0, .slice none 0 0, .slice none 0 0]) ?_ 0 _ rfl; (with_reducible repeat (first|refine kN ?_ _|refine kD ?_|refine kA ?_ _)); exact BK465.out) hb); have n16_ := Aside0.mk (below_step (by repeat (first | (with_reducible first | exact HB.out|apply bA|apply bN|apply bD | refine below_set ?_ GE421.out | refine below_set ?_ GE443.out | refine below_set ?_ GE453.out | refine below_set ?_ GE465.out) | exact HB.out)) hb); clear HO425 HO428 HO431 HO434 HO437 HO440 HO446 HO449 HO452 HO456 HO459 HO462 BK421 BK443 BK453 BK465 HB; have HO425 := n0_; have HO428 := n1_; have HO431 := n2_; have HO434 := n3_; have HO437 := n4_; have HO440 := n5_; have HO446 := n6_; have HO449 := n7_; have HO452 := n8_; have HO456 := n9_; have HO459 := n10_; have HO462 := n11_; have BK421 := n12_; have BK443 := n13_; have BK453 := n14_; have BK465 := n15_; have HB := n16_; clear n0_ n1_ n2_ n3_ n4_ n5_ n6_ n7_ n8_ n9_ n10_ n11_ n12_ n13_ n14_ n15_ n16_; (try clear hb); (try clear hb2); (try clear hk); (try clear hi)))
  go_meet
  case rel => exact ⟨_, (true), vX, H', ⟨by first | omega | exact Nat.le_refl _⟩, ⟨rM HO434.out (fun _ hk => ⟨hk.1.1.1.1.1.1.1.1.1.1, ⟨hk.1.1.1.1.1.1.1.1.1.2, ⟨hk.1.1.1.1.1.2, ⟨hk.1.1.1.1.2, ⟨hk.1.1.1.2, ⟨hk.1.1.2, ⟨hk.1.2, hk.2⟩⟩⟩⟩⟩⟩⟩)⟩, ⟨rM HO437.out (fun _ hk => ⟨hk.1.1.1.1.1.1.1.1.1.1, ⟨hk.1.1.1.1.1.1.1.1.1.2, ⟨hk.1.1.1.1.1.2, ⟨hk.1.1.1.1.2, ⟨hk.1.1.1.2, ⟨hk.1.1.2, ⟨hk.1.2, hk.2⟩⟩⟩⟩⟩⟩⟩)⟩, ⟨rM HO440.out (fun _ hk => ⟨hk.1.1.1.1.1.1.1.1.1.1, ⟨hk.1.1.1.1.1.1.1.1.1.2, ⟨hk.1.1.1.1.1.2, ⟨hk.1.1.1.1.2, ⟨hk.1.1.1.2, ⟨hk.1.1.2, ⟨hk.1.2, hk.2⟩⟩⟩⟩⟩⟩⟩)⟩, ⟨rM HO446.out (fun _ hk => ⟨hk.1.1.1.1.1.2, ⟨hk.1.1.1.1.2, ⟨hk.1.1.1.2, ⟨hk.1.1.1.1.1.1.1.1.1.1, ⟨hk.1.1.1.1.1.1.1.1.1.2, ⟨hk.1.1.2, ⟨hk.1.2, hk.2⟩⟩⟩⟩⟩⟩⟩)⟩, ⟨rM HO449.out (fun _ hk => ⟨hk.1.1.1.1.1.2, ⟨hk.1.1.1.1.2, ⟨hk.1.1.1.2, ⟨hk.1.1.1.1.1.1.1.1.1.1, ⟨hk.1.1.1.1.1.1.1.1.1.2, ⟨hk.1.1.2, ⟨hk.1.2, hk.2⟩⟩⟩⟩⟩⟩⟩)⟩, ⟨rM HO452.out (fun _ hk => ⟨hk.1.1.1.1.1.2, ⟨hk.1.1.1.1.2, ⟨hk.1.1.1.2, ⟨hk.1.1.1.1.1.1.1.1.1.1, ⟨hk.1.1.1.1.1.1.1.1.1.2, ⟨hk.1.1.2, ⟨hk.1.2, hk.2⟩⟩⟩⟩⟩⟩⟩)⟩, ⟨rM HO456.out (fun _ hk => ⟨hk.1.1.1.1.1.2, ⟨hk.1.1.1.1.2, ⟨hk.1.1.1.2, ⟨hk.1.1.2, ⟨hk.1.2, ⟨hk.2, ⟨hk.1.1.1.1.1.1.1.1.1.1, hk.1.1.1.1.1.1.1.1.1.2⟩⟩⟩⟩⟩⟩⟩)⟩, ⟨rM HO459.out (fun _ hk => ⟨hk.1.1.1.1.1.2, ⟨hk.1.1.1.1.2, ⟨hk.1.1.1.2, ⟨hk.1.1.2, ⟨hk.1.2, ⟨hk.2, ⟨hk.1.1.1.1.1.1.1.1.1.1, hk.1.1.1.1.1.1.1.1.1.2⟩⟩⟩⟩⟩⟩⟩)⟩, ⟨rM HO462.out (fun _ hk => ⟨hk.1.1.1.1.1.2, ⟨hk.1.1.1.1.2, ⟨hk.1.1.1.2, ⟨hk.1.1.2, ⟨hk.1.2, ⟨hk.2, ⟨hk.1.1.1.1.1.1.1.1.1.1, hk.1.1.1.1.1.1.1.1.1.2⟩⟩⟩⟩⟩⟩⟩)⟩, ⟨kX BK421.out⟩, ⟨kX BK443.out⟩, ⟨kX BK453.out⟩, ⟨kX BK465.out⟩, ⟨by repeat (first | (with_reducible first | exact HB.out|apply bA|apply bN|apply bD | refine below_set ?_ GE421.out | refine below_set ?_ GE443.out | refine below_set ?_ GE453.out | refine below_set ?_ GE465.out) | exact HB.out)⟩⟩
  }
 case rest =>
 clear HC11
 try clear c1
 try clear c2
 try clear p2
 try clear c3
 try clear c3b0
 try clear c4
 try clear c5
 try clear c6
 try clear c8
 try clear c10
 try clear c13
 try clear c14
 try clear c23
 try clear c31
 try clear c32
 try clear c39
 try clear c40
 try clear c41
 try clear c46
 try clear c47
 try clear c47b0
 try clear c47b1
 try clear c48
 try clear c49
 try clear c50
 try clear c52
 try clear c53
 try clear c56
 try clear c57
 try clear c58
 try clear c60
 try clear c61
 try clear c64
 try clear c65
 try clear c66
 try clear c68
 try clear c69
 try clear hcz13_0
 try clear hcz13_1
 try clear hcz13_2
 try clear hcz15_0
 try clear hcz15_1
 try clear hcz15_2
 try clear hcz24_0
 try clear hcz24_1
 try clear hcz24_2
 try clear hcz27_0
 try clear hcz27_1
 try clear hcz27_2
 try clear hcz33_0
 try clear hcz33_1
 try clear hcz33_2
 try clear hcz42_0
 try clear hcz42_1
 try clear hcz42_2
 try clear hcz51_0
 try clear hcz51_1
 try clear hcz51_2
 try clear hcz54_0
 try clear hcz54_1
 try clear hcz54_2
 try clear hcz59_0
 try clear hcz59_1
 try clear hcz59_2
 try clear hcz5_0
 try clear hcz5_1
 try clear hcz5_2
 try clear hcz62_0
 try clear hcz62_1
 try clear hcz62_2
 try clear hcz67_0
 try clear hcz67_1
 try clear hcz67_2
 try clear hcz70_0
 try clear hcz70_1
 try clear hcz70_2
 try clear hfz13_0
 try clear hfz13_1
 try clear hfz13_2
 try clear hfz15_0
 try clear hfz15_1
 try clear hfz15_2
 try clear hfz24_0
 try clear hfz24_1
 try clear hfz24_2
 try clear hfz27_0
 try clear hfz27_1
 try clear hfz27_2
 try clear hfz33_0
 try clear hfz33_1
 try clear hfz33_2
 try clear hfz42_0
 try clear hfz42_1
 try clear hfz42_2
 try clear hfz51_0
 try clear hfz51_1
 try clear hfz51_2
 try clear hfz54_0
 try clear hfz54_1
 try clear hfz54_2
 try clear hfz59_0
 try clear hfz59_1
 try clear hfz59_2
 try clear hfz5_0
 try clear hfz5_1
 try clear hfz5_2
 try clear hfz62_0
 try clear hfz62_1
 try clear hfz62_2
 try clear hfz67_0
 try clear hfz67_1
 try clear hfz67_2
 try clear hfz70_0
 try clear hfz70_1
 try clear hfz70_2
 obtain ⟨kq, x50_10, rfl, HA, HJ10, HO_444000, HO_444001, HO_444002, HO_454000, HO_454001, HO_454002, HO_466000, HO_466001, HO_466002, BK421, BK443, BK453, BK465, HB⟩ := hcut
 cases kq with
 | zero => exact absurd HA.out (by simp [laws_FnExactInduceAll.j0])
 | succ kj10 =>
 have H := HA.out
 clear HA
 simp only [laws_FnExactInduceAll.j0] at H
 by_cases c72 : x50_10 = true
 {
 subst c72
 have H1 : (some false) = some r := by rw [if_pos rfl] at H; exact H
 clear H
 have H := H1
 clear H1
 exact absurd ((Option.some.inj H).trans HRT.out) (by decide)
 }
 {
 replace c72 := Bool.eq_false_iff.mpr c72
 subst c72
 have H1 : ((laws_toExchange.f kj10 l0_0 l0_1 l0_2).bind fun bt467 => ((laws_eqExchange.f kj10 t444 t447 t450 bt467.1 bt467.2.1 bt467.2.2).bind fun t476 => (if t476 = true then ((laws_markExchange.f kj10 t444 t447 t450 1).bind fun bt477 => (if bt477.1 < 0 then (laws_FnExactInduceAll.j1 kj10 t441 t442 true l0_0 l0_1 l0_2 t432 t435 t438 t454 t457 t460) else ((laws_eqExchange.f kj10 t454 t457 t460 t432 t435 t438).bind fun t481 => (if t481 = true then (if t463 = t441 then (laws_FnExactInduceAll.j1 kj10 t441 t442 (t464 != t442) l0_0 l0_1 l0_2 t432 t435 t438 t454 t457 t460) else (laws_FnExactInduceAll.j1 kj10 t441 t442 true l0_0 l0_1 l0_2 t432 t435 t438 t454 t457 t460)) else (laws_FnExactInduceAll.j1 kj10 t441 t442 true l0_0 l0_1 l0_2 t432 t435 t438 t454 t457 t460))))) else (some false)))) = some r := by rw [if_neg (show ¬ (false = true) by decide)] at H; exact H
 clear H
 have H := H1
 clear H1
 replace H := Option.bind_eq_some_iff.mp H
 obtain ⟨⟨t467, t470, t473⟩, A730, H⟩ := H
 replace H : ((laws_eqExchange.f kj10 t444 t447 t450 t467 t470 t473).bind fun t476 => (if t476 = true then ((laws_markExchange.f kj10 t444 t447 t450 1).bind fun bt477 => (if bt477.1 < 0 then (laws_FnExactInduceAll.j1 kj10 t441 t442 true l0_0 l0_1 l0_2 t432 t435 t438 t454 t457 t460) else ((laws_eqExchange.f kj10 t454 t457 t460 t432 t435 t438).bind fun t481 => (if t481 = true then (if t463 = t441 then (laws_FnExactInduceAll.j1 kj10 t441 t442 (t464 != t442) l0_0 l0_1 l0_2 t432 t435 t438 t454 t457 t460) else (laws_FnExactInduceAll.j1 kj10 t441 t442 true l0_0 l0_1 l0_2 t432 t435 t438 t454 t457 t460)) else (laws_FnExactInduceAll.j1 kj10 t441 t442 true l0_0 l0_1 l0_2 t432 t435 t438 t454 t457 t460))))) else (some false))) = some r := H
 have A73 := Aside0.mk A730
 clear A730
 replace H := Option.bind_eq_some_iff.mp H
 obtain ⟨t476, A740, H⟩ := H
 replace H : (if t476 = true then ((laws_markExchange.f kj10 t444 t447 t450 1).bind fun bt477 => (if bt477.1 < 0 then (laws_FnExactInduceAll.j1 kj10 t441 t442 true l0_0 l0_1 l0_2 t432 t435 t438 t454 t457 t460) else ((laws_eqExchange.f kj10 t454 t457 t460 t432 t435 t438).bind fun t481 => (if t481 = true then (if t463 = t441 then (laws_FnExactInduceAll.j1 kj10 t441 t442 (t464 != t442) l0_0 l0_1 l0_2 t432 t435 t438 t454 t457 t460) else (laws_FnExactInduceAll.j1 kj10 t441 t442 true l0_0 l0_1 l0_2 t432 t435 t438 t454 t457 t460)) else (laws_FnExactInduceAll.j1 kj10 t441 t442 true l0_0 l0_1 l0_2 t432 t435 t438 t454 t457 t460))))) else (some false)) = some r := H
 have A74 := Aside0.mk A740
 clear A740
 by_cases c75 : t476 = true
 {
 subst c75
 have H1 : ((laws_markExchange.f kj10 t444 t447 t450 1).bind fun bt477 => (if bt477.1 < 0 then (laws_FnExactInduceAll.j1 kj10 t441 t442 true l0_0 l0_1 l0_2 t432 t435 t438 t454 t457 t460) else ((laws_eqExchange.f kj10 t454 t457 t460 t432 t435 t438).bind fun t481 => (if t481 = true then (if t463 = t441 then (laws_FnExactInduceAll.j1 kj10 t441 t442 (t464 != t442) l0_0 l0_1 l0_2 t432 t435 t438 t454 t457 t460) else (laws_FnExactInduceAll.j1 kj10 t441 t442 true l0_0 l0_1 l0_2 t432 t435 t438 t454 t457 t460)) else (laws_FnExactInduceAll.j1 kj10 t441 t442 true l0_0 l0_1 l0_2 t432 t435 t438 t454 t457 t460))))) = some r := by rw [if_pos rfl] at H; exact H
 clear H
 have H := H1
 clear H1
 replace H := Option.bind_eq_some_iff.mp H
 obtain ⟨⟨t477, t478, t479, t480⟩, A760, H⟩ := H
 replace H : (if t477 < 0 then (laws_FnExactInduceAll.j1 kj10 t441 t442 true l0_0 l0_1 l0_2 t432 t435 t438 t454 t457 t460) else ((laws_eqExchange.f kj10 t454 t457 t460 t432 t435 t438).bind fun t481 => (if t481 = true then (if t463 = t441 then (laws_FnExactInduceAll.j1 kj10 t441 t442 (t464 != t442) l0_0 l0_1 l0_2 t432 t435 t438 t454 t457 t460) else (laws_FnExactInduceAll.j1 kj10 t441 t442 true l0_0 l0_1 l0_2 t432 t435 t438 t454 t457 t460)) else (laws_FnExactInduceAll.j1 kj10 t441 t442 true l0_0 l0_1 l0_2 t432 t435 t438 t454 t457 t460)))) = some r := H
 have A76 := Aside0.mk A760
 clear A760
 have HC77 := Aside0.mk H
 clear H
 try go_wp2
 have n0_ := Aside0.mk (Kd.R_drew HO_444000.out)
 have n1_ := Aside0.mk (Kd.R_drew HO_444001.out)
 have n2_ := Aside0.mk (Kd.R_drew HO_444002.out)
 have n3_ := Aside0.mk (Kd.R_drew HO_454000.out)
 have n4_ := Aside0.mk (Kd.R_drew HO_454001.out)
 have n5_ := Aside0.mk (Kd.R_drew HO_454002.out)
 have n6_ := Aside0.mk (Kd.R_drew HO_466000.out)
 have n7_ := Aside0.mk (Kd.R_drew HO_466001.out)
 have n8_ := Aside0.mk (Kd.R_drew HO_466002.out)
 have n9_ := Aside0.mk (blk_drew BK421.out)
 have n10_ := Aside0.mk (blk_drew BK443.out)
 have n11_ := Aside0.mk (blk_drew BK453.out)
 have n12_ := Aside0.mk (blk_drew BK465.out)
 have n13_ := Aside0.mk (below_drew1 HB.out)
 clear HO_444000 HO_444001 HO_444002 HO_454000 HO_454001 HO_454002 HO_466000 HO_466001 HO_466002 BK421 BK443 BK453 BK465 HB
 have HO_444000 := n0_
 have HO_444001 := n1_
 have HO_444002 := n2_
 have HO_454000 := n3_
 have HO_454001 := n4_
 have HO_454002 := n5_
 have HO_466000 := n6_
 have HO_466001 := n7_
 have HO_466002 := n8_
 have BK421 := n9_
 have BK443 := n10_
 have BK453 := n11_
 have BK465 := n12_
 have HB := n13_
 clear n0_ n1_ n2_ n3_ n4_ n5_ n6_ n7_ n8_ n9_ n10_ n11_ n12_ n13_
 refine start_ (n := 5) (S := fun w' => w'.cell? ⟨gb453, 0, none⟩ = some (.slice Ao30 t444.length co30) ∧ w'.cell? ⟨gb453, 1, none⟩ = some (.slice Ao34 t447.length co34) ∧ w'.cell? ⟨gb453, 2, none⟩ = some (.slice Ao35 t450.length co35) ∧ w'.cell? ⟨gb421, 0, none⟩ = some (.slice A0_0 l0_0.length c0_0) ∧ w'.cell? ⟨gb421, 1, none⟩ = some (.slice A0_1 l0_1.length c0_1) ∧ w'.cell? ⟨gb421, 2, none⟩ = some (.slice A0_2 l0_2.length c0_2)) (ds := []) #[false, false, false, false, false] (by kernel_rfl) rfl rfl ⟨cz30 BK453.out, cz31 BK453.out, cz32 BK453.out, cz30 BK421.out, cz31 BK421.out, cz32 BK421.out⟩ (fun hHeld => ?_)
 generalize wc.drew = w78 at HO_444000 HO_444001 HO_444002 HO_454000 HO_454001 HO_454002 HO_466000 HO_466001 HO_466002 BK421 BK443 BK453 BK465 HB hHeld ⊢
 refine take_ (i := 0) (N := some 51) (v := ?_) (a' := ?_) #[true, false, false, false, false] rfl rfl (by kernel_rfl) (fun _ _ _ h => h) (Or.inl ⟨by rfl, ?_⟩) hHeld ?_ ?_
 rotate_left
 {
 rintro w' ⟨s0, s1, s2, s3, s4, s5⟩
 go_simp
 with_reducible rfl
 }
 rotate_left
 {
 simp only [Act.put, zA, zB, zC, i64_w, i32_w]
 rfl
 }
 refine take_ (i := 1) (N := some 52) (v := ?_) (a' := ?_) #[true, true, false, false, false] rfl rfl (by kernel_rfl) (fun _ _ _ h => h) (Or.inl ⟨by rfl, ?_⟩) hHeld ?_ ?_
 rotate_left
 {
 rintro w' ⟨s0, s1, s2, s3, s4, s5⟩
 go_simp
 with_reducible rfl
 }
 rotate_left
 {
 simp only [Act.put, zA, zB, zC, i64_w, i32_w]
 rfl
 }
 refine one_ (i := 2) (N := some 53) #[true, true, true, false, false] rfl rfl (by kernel_rfl) (by decide) (fun K hK => ?_)
 refine goes_ Try.func8 (by kernel_rfl) rfl #[.agg #[.slice A0_0 l0_0.length c0_0, .slice A0_1 l0_1.length c0_1, .slice A0_2 l0_2.length c0_2]] (by rfl) rfl rfl aX ?_
 with_reducible refine (laws_toExchange.calls kj10 _ _ l0_0 _ _ l0_1 _ _ l0_2 t467 t470 t473 _ ?side1 ?side2 ?side3 ?side4 ?side5 ?side6 A73.out).mono ?_
 (case side1 => exact cX (Kd.C_below HR0_0.out HB.out))
 (case side2 => exact HC0_0.out)
 (case side3 => exact cX (Kd.C_below HR0_1.out HB.out))
 (case side4 => exact HC0_1.out)
 (case side5 => exact cX (Kd.C_below HR0_2.out HB.out))
 (case side6 => exact HC0_2.out)
 rintro e w79 ⟨v468, v471, v474, rfl, ho0, ho1, ho2, hb⟩
 refine ⟨_, rfl, ?_⟩
 have n0_ := Aside0.mk (Kd.R_mono (Kd.R_told (Kd.R_told (Kd.R_told (Kd.R_old (rX HO_444000.out) hb) (Kd.R_base ho0)) (Kd.R_base ho1)) (Kd.R_base ho2)) (fun _ h_ => h_.1))
 have n1_ := Aside0.mk (Kd.R_mono (Kd.R_told (Kd.R_told (Kd.R_told (Kd.R_old (rX HO_444001.out) hb) (Kd.R_base ho0)) (Kd.R_base ho1)) (Kd.R_base ho2)) (fun _ h_ => h_.1))
 have n2_ := Aside0.mk (Kd.R_mono (Kd.R_told (Kd.R_told (Kd.R_told (Kd.R_old (rX HO_444002.out) hb) (Kd.R_base ho0)) (Kd.R_base ho1)) (Kd.R_base ho2)) (fun _ h_ => h_.1))
 have n3_ := Aside0.mk (Kd.R_mono (Kd.R_told (Kd.R_told (Kd.R_told (Kd.R_old (rX HO_454000.out) hb) (Kd.R_base ho0)) (Kd.R_base ho1)) (Kd.R_base ho2)) (fun _ h_ => h_.1))
 have n4_ := Aside0.mk (Kd.R_mono (Kd.R_told (Kd.R_told (Kd.R_told (Kd.R_old (rX HO_454001.out) hb) (Kd.R_base ho0)) (Kd.R_base ho1)) (Kd.R_base ho2)) (fun _ h_ => h_.1))
 have n5_ := Aside0.mk (Kd.R_mono (Kd.R_told (Kd.R_told (Kd.R_told (Kd.R_old (rX HO_454002.out) hb) (Kd.R_base ho0)) (Kd.R_base ho1)) (Kd.R_base ho2)) (fun _ h_ => h_.1))
 have n6_ := Aside0.mk (Kd.R_mono (Kd.R_told (Kd.R_told (Kd.R_told (Kd.R_old (rX HO_466000.out) hb) (Kd.R_base ho0)) (Kd.R_base ho1)) (Kd.R_base ho2)) (fun _ h_ => h_.1))
 have n7_ := Aside0.mk (Kd.R_mono (Kd.R_told (Kd.R_told (Kd.R_told (Kd.R_old (rX HO_466001.out) hb) (Kd.R_base ho0)) (Kd.R_base ho1)) (Kd.R_base ho2)) (fun _ h_ => h_.1))
 have n8_ := Aside0.mk (Kd.R_mono (Kd.R_told (Kd.R_told (Kd.R_told (Kd.R_old (rX HO_466002.out) hb) (Kd.R_base ho0)) (Kd.R_base ho1)) (Kd.R_base ho2)) (fun _ h_ => h_.1))
 have n9_ := Aside0.mk (Kd.R_lower (Kd.R_new' (Kd.R_new' (Kd.R_new' (Kd.R_new' (Kd.R_new' (Kd.R_new' (Kd.R_new' (Kd.R_new' (Kd.R_new' ho0 (Kd.R_lt (rX HO_444000.out))) (Kd.R_lt (rX HO_444001.out))) (Kd.R_lt (rX HO_444002.out))) (Kd.R_lt (rX HO_454000.out))) (Kd.R_lt (rX HO_454001.out))) (Kd.R_lt (rX HO_454002.out))) (Kd.R_lt (rX HO_466000.out))) (Kd.R_lt (rX HO_466001.out))) (Kd.R_lt (rX HO_466002.out))) (below_size (by repeat (first | (with_reducible first | exact HB.out|apply bA|apply bN|apply bD | refine below_set ?_ GE421.out | refine below_set ?_ GE443.out | refine below_set ?_ GE453.out | refine below_set ?_ GE465.out) | exact HB.out))))
 have n10_ := Aside0.mk (Kd.R_lower (Kd.R_new' (Kd.R_new' (Kd.R_new' (Kd.R_new' (Kd.R_new' (Kd.R_new' (Kd.R_new' (Kd.R_new' (Kd.R_new' ho1 (Kd.R_lt (rX HO_444000.out))) (Kd.R_lt (rX HO_444001.out))) (Kd.R_lt (rX HO_444002.out))) (Kd.R_lt (rX HO_454000.out))) (Kd.R_lt (rX HO_454001.out))) (Kd.R_lt (rX HO_454002.out))) (Kd.R_lt (rX HO_466000.out))) (Kd.R_lt (rX HO_466001.out))) (Kd.R_lt (rX HO_466002.out))) (below_size (by repeat (first | (with_reducible first | exact HB.out|apply bA|apply bN|apply bD | refine below_set ?_ GE421.out | refine below_set ?_ GE443.out | refine below_set ?_ GE453.out | refine below_set ?_ GE465.out) | exact HB.out))))
 have n11_ := Aside0.mk (Kd.R_lower (Kd.R_new' (Kd.R_new' (Kd.R_new' (Kd.R_new' (Kd.R_new' (Kd.R_new' (Kd.R_new' (Kd.R_new' (Kd.R_new' ho2 (Kd.R_lt (rX HO_444000.out))) (Kd.R_lt (rX HO_444001.out))) (Kd.R_lt (rX HO_444002.out))) (Kd.R_lt (rX HO_454000.out))) (Kd.R_lt (rX HO_454001.out))) (Kd.R_lt (rX HO_454002.out))) (Kd.R_lt (rX HO_466000.out))) (Kd.R_lt (rX HO_466001.out))) (Kd.R_lt (rX HO_466002.out))) (below_size (by repeat (first | (with_reducible first | exact HB.out|apply bA|apply bN|apply bD | refine below_set ?_ GE421.out | refine below_set ?_ GE443.out | refine below_set ?_ GE453.out | refine below_set ?_ GE465.out) | exact HB.out))))
 have n12_ := Aside0.mk (bbX BK421.out hb)
 have n13_ := Aside0.mk (bbX BK443.out hb)
 have n14_ := Aside0.mk (bbX BK453.out hb)
 have n15_ := Aside0.mk (bbX BK465.out hb)
 have n16_ := Aside0.mk (below_step (by repeat (first | (with_reducible first | exact HB.out|apply bA|apply bN|apply bD | refine below_set ?_ GE421.out | refine below_set ?_ GE443.out | refine below_set ?_ GE453.out | refine below_set ?_ GE465.out) | exact HB.out)) hb)
 clear HO_444000 HO_444001 HO_444002 HO_454000 HO_454001 HO_454002 HO_466000 HO_466001 HO_466002 BK421 BK443 BK453 BK465 HB
 have HO_444000 := n0_
 have HO_444001 := n1_
 have HO_444002 := n2_
 have HO_454000 := n3_
 have HO_454001 := n4_
 have HO_454002 := n5_
 have HO_466000 := n6_
 have HO_466001 := n7_
 have HO_466002 := n8_
 have HO469 := n9_
 have HO472 := n10_
 have HO475 := n11_
 have BK421 := n12_
 have BK443 := n13_
 have BK453 := n14_
 have BK465 := n15_
 have HB := n16_
 clear n0_ n1_ n2_ n3_ n4_ n5_ n6_ n7_ n8_ n9_ n10_ n11_ n12_ n13_ n14_ n15_ n16_
 (try clear hb)
 (try clear hb2)
 (try clear hk)
 (try clear hi)
 (try clear ho0)
 (try clear ho1)
 (try clear ho2)
 obtain ⟨Ao80, co80, eo80⟩ := Kd.R_slice HO469.out
 (first | subst eo80 | (injection eo80 with f1_ f2_ f3_; have f4_ := f1_.symm; have f5_ := f3_.symm; clear f1_ f2_ f3_; subst f4_; subst f5_))
 obtain ⟨Ao81, co81, eo81⟩ := Kd.R_slice HO472.out
 (first | subst eo81 | (injection eo81 with f1_ f2_ f3_; have f4_ := f1_.symm; have f5_ := f3_.symm; clear f1_ f2_ f3_; subst f4_; subst f5_))
 obtain ⟨Ao82, co82, eo82⟩ := Kd.R_slice HO475.out
 (first | subst eo82 | (injection eo82 with f1_ f2_ f3_; have f4_ := f1_.symm; have f5_ := f3_.symm; clear f1_ f2_ f3_; subst f4_; subst f5_))
 refine hK.out _ _ ⟨cz30 BK453.out, cz31 BK453.out, cz32 BK453.out, cz30 BK421.out, cz31 BK421.out, cz32 BK421.out⟩ (fun hHeld => ?_)
 clear hK K
 refine norm_ (a' := ?_) ?_ ?_
 rotate_left
 {
 show Act.put _ (some 53) _ = _
 simp only [Act.put, zA, zB, zC, i64_w, i32_w]
 rfl
 }
 refine one_ (i := 3) (N := some 54) #[true, true, true, true, false] rfl rfl (by kernel_rfl) (by decide) (fun K hK => ?_)
 refine goes_ Try.func10 (by kernel_rfl) rfl #[.agg #[.slice Ao30 t444.length co30, .slice Ao34 t447.length co34, .slice Ao35 t450.length co35], .agg #[.slice Ao80 t467.length co80, .slice Ao81 t470.length co81, .slice Ao82 t473.length co82]] (by rfl) rfl rfl aX ?_
 with_reducible refine (laws_eqExchange.calls kj10 _ _ t444 _ _ t447 _ _ t450 _ _ t467 _ _ t470 _ _ t473 true _ ?side1 ?side2 ?side3 ?side4 ?side5 ?side6 ?side7 ?side8 ?side9 ?side10 ?side11 ?side12 A74.out).mono ?_
 (case side1 => exact cX (Kd.R_reads' HO_454000.out).2.2)
 (case side2 => exact (Kd.R_reads' HO_454000.out).2.1)
 (case side3 => exact cX (Kd.R_reads' HO_454001.out).2.2)
 (case side4 => exact (Kd.R_reads' HO_454001.out).2.1)
 (case side5 => exact cX (Kd.R_reads' HO_454002.out).2.2)
 (case side6 => exact (Kd.R_reads' HO_454002.out).2.1)
 (case side7 => exact cX (Kd.R_reads' HO469.out).2.2)
 (case side8 => exact (Kd.R_reads' HO469.out).2.1)
 (case side9 => exact cX (Kd.R_reads' HO472.out).2.2)
 (case side10 => exact (Kd.R_reads' HO472.out).2.1)
 (case side11 => exact cX (Kd.R_reads' HO475.out).2.2)
 (case side12 => exact (Kd.R_reads' HO475.out).2.1)
 rintro e w83 ⟨rfl, hb⟩
 refine ⟨_, rfl, ?_⟩
 have n0_ := Aside0.mk (Kd.R_below (rX HO_444000.out) hb)
 have n1_ := Aside0.mk (Kd.R_below (rX HO_444001.out) hb)
 have n2_ := Aside0.mk (Kd.R_below (rX HO_444002.out) hb)
 have n3_ := Aside0.mk (Kd.R_below (rX HO_454000.out) hb)
 have n4_ := Aside0.mk (Kd.R_below (rX HO_454001.out) hb)
 have n5_ := Aside0.mk (Kd.R_below (rX HO_454002.out) hb)
 have n6_ := Aside0.mk (Kd.R_below (rX HO_466000.out) hb)
 have n7_ := Aside0.mk (Kd.R_below (rX HO_466001.out) hb)
 have n8_ := Aside0.mk (Kd.R_below (rX HO_466002.out) hb)
 have n9_ := Aside0.mk (Kd.R_below (rX HO469.out) hb)
 have n10_ := Aside0.mk (Kd.R_below (rX HO472.out) hb)
 have n11_ := Aside0.mk (Kd.R_below (rX HO475.out) hb)
 have n12_ := Aside0.mk (bbX BK421.out hb)
 have n13_ := Aside0.mk (bbX BK443.out hb)
 have n14_ := Aside0.mk (bbX BK453.out hb)
 have n15_ := Aside0.mk (bbX BK465.out hb)
 have n16_ := Aside0.mk (below_step (by repeat (first | (with_reducible first | exact HB.out|apply bA|apply bN|apply bD | refine below_set ?_ GE421.out | refine below_set ?_ GE443.out | refine below_set ?_ GE453.out | refine below_set ?_ GE465.out) | exact HB.out)) hb)
 clear HO_444000 HO_444001 HO_444002 HO_454000 HO_454001 HO_454002 HO_466000 HO_466001 HO_466002 HO469 HO472 HO475 BK421 BK443 BK453 BK465 HB
 have HO_444000 := n0_
 have HO_444001 := n1_
 have HO_444002 := n2_
 have HO_454000 := n3_
 have HO_454001 := n4_
 have HO_454002 := n5_
 have HO_466000 := n6_
 have HO_466001 := n7_
 have HO_466002 := n8_
 have HO469 := n9_
 have HO472 := n10_
 have HO475 := n11_
 have BK421 := n12_
 have BK443 := n13_
 have BK453 := n14_
 have BK465 := n15_
 have HB := n16_
 clear n0_ n1_ n2_ n3_ n4_ n5_ n6_ n7_ n8_ n9_ n10_ n11_ n12_ n13_ n14_ n15_ n16_
 (try clear hb)
 (try clear hb2)
 (try clear hk)
 (try clear hi)
 refine hK.out _ _ ⟨cz30 BK453.out, cz31 BK453.out, cz32 BK453.out, cz30 BK421.out, cz31 BK421.out, cz32 BK421.out⟩ (fun hHeld => ?_)
 clear hK K
 refine norm_ (a' := ?_) ?_ ?_
 rotate_left
 {
 show Act.put _ (some 54) _ = _
 simp only [Act.put, zA, zB, zC, i64_w, i32_w]
 rfl
 }
 refine pure_ (i := 4) (N := some 55) (v := ?_) (a' := ?_) #[true, true, true, true, true] rfl rfl (by kernel_rfl) (fun _ _ _ h => h) (Or.inl ⟨by rfl, ?_⟩) ?_ ?_
 rotate_left
 {
 intro w'
 go_simp
 with_reducible rfl
 }
 rotate_left
 {
 simp only [Act.put, zA, zB, zC, i64_w, i32_w]
 rfl
 }
 refine done_ (by kernel_rfl) ?_
 have hnb84 := NB453_421.out
 have hnc84 := NB421_453.out
 have hnb85 := NB453_443.out
 have hnc85 := NB443_453.out
 have hnb86 := NB453_465.out
 have hnc86 := NB465_453.out
 have hcz87_0 := cz30 BK453.out
 have hcz87_1 := cz31 BK453.out
 have hcz87_2 := cz32 BK453.out
 have hfz87_0 := blk_frozen BK453.out 0
 have hfz87_1 := blk_frozen BK453.out 1
 have hfz87_2 := blk_frozen BK453.out 2
 go_upto_region 14 with (first | ((with_reducible refine gate_callee (f := 11) rfl ?_); refine goesL_ (some 58) rfl rfl Try.func11 (by kernel_rfl) rfl #[.agg #[.slice Ao30 t444.length co30, .slice Ao34 t447.length co34, .slice Ao35 t450.length co35], .int .i64 1] rfl aX ?_; (with_reducible refine (laws_markExchange.calls kj10 (fun k_ => some k_ = (.slice Ao30 t444.length co30 : Value).ownBlock) (.slice Ao30 t444.length co30) t444 (fun k_ => some k_ = (.slice Ao34 t447.length co34 : Value).ownBlock) (.slice Ao34 t447.length co34) t447 (fun k_ => some k_ = (.slice Ao35 t450.length co35 : Value).ownBlock) (.slice Ao35 t450.length co35) t450 1 t477 t478 t479 t480 w _ ?side1 ?side2 ?side3 ?side4 ?side5 ?side6 ?side7 ?side8 ?side9 ?side10 A76.out).mono ?_); (case side1 => repeat (first | (with_reducible first | exact HB.out|apply bA|apply bN|apply bD | refine below_set ?_ GE421.out | refine below_set ?_ GE443.out | refine below_set ?_ GE453.out | refine below_set ?_ GE465.out) | exact HB.out)); (case side2 => exact Kd.R_tight rfl HO_454000.out); (case side3 => exact fun k_ e_ => (HO_454000.out.1 k_ e_.symm).1.1.1.2.2.2.1); (case side4 => exact fun k_ e_ => (HO_454000.out.1 k_ e_.symm).1.1.1.2.2.2.2.1); (case side5 => exact Kd.R_tight rfl HO_454001.out); (case side6 => exact fun k_ e_ => (HO_454001.out.1 k_ e_.symm).1.1.1.2.2.2.1); (case side7 => exact fun k_ e_ => (HO_454001.out.1 k_ e_.symm).1.1.1.2.2.2.2.1); (case side8 => exact Kd.R_tight rfl HO_454002.out); (case side9 => exact fun k_ e_ => (HO_454002.out.1 k_ e_.symm).1.1.1.2.2.2.1); (case side10 => exact fun k_ e_ => (HO_454002.out.1 k_ e_.symm).1.1.1.2.2.2.2.1); rintro e w88 ⟨rfl, hy0, hy1, hy2, hb, hkp⟩; refine ⟨_, rfl, ?_⟩; have n0_ := Aside0.mk (Kd.R_mono (ok' := fun k_ => some k_ ≠ (.slice Ao25 t435.length co25 : Value).ownBlock ∧ some k_ ≠ (.slice Ao26 t438.length co26 : Value).ownBlock ∧ some k_ ≠ (.slice Ao30 t444.length co30 : Value).ownBlock ∧ some k_ ≠ (.slice Ao34 t447.length co34 : Value).ownBlock ∧ some k_ ≠ (.slice Ao35 t450.length co35 : Value).ownBlock ∧ some k_ ≠ (.slice Ao38 t454.length co38 : Value).ownBlock ∧ some k_ ≠ (.slice Ao43 t457.length co43 : Value).ownBlock ∧ some k_ ≠ (.slice Ao44 t460.length co44 : Value).ownBlock ∧ some k_ ≠ (.slice Ao80 t467.length co80 : Value).ownBlock ∧ some k_ ≠ (.slice Ao81 t470.length co81 : Value).ownBlock ∧ some k_ ≠ (.slice Ao82 t473.length co82 : Value).ownBlock) (Kd.R_keptB (HO_444000.out) hkp (fun k_ hk_ hs_ => Or.elim hs_ (fun e_ => (hk_.1.1.1.2.2.1) e_) (fun e_ => Or.elim e_ (fun e_ => (hk_.1.1.1.2.2.2.1) e_) (fun e_ => (hk_.1.1.1.2.2.2.2.1) e_)))) (fun k_ hk_ => ⟨hk_.1.1.1.1.1, hk_.1.1.1.1.2.1, hk_.1.1.1.1.2.2.1, hk_.1.1.1.1.2.2.2.1, hk_.1.1.1.1.2.2.2.2.1, hk_.1.1.1.1.2.2.2.2.2.1, hk_.1.1.1.1.2.2.2.2.2.2.1, hk_.1.1.1.1.2.2.2.2.2.2.2, hk_.1.1.1.2, hk_.1.1.2, hk_.1.2⟩)); have n1_ := Aside0.mk (Kd.R_mono (ok' := fun k_ => some k_ ≠ (.slice Ao22 t432.length co22 : Value).ownBlock ∧ some k_ ≠ (.slice Ao26 t438.length co26 : Value).ownBlock ∧ some k_ ≠ (.slice Ao30 t444.length co30 : Value).ownBlock ∧ some k_ ≠ (.slice Ao34 t447.length co34 : Value).ownBlock ∧ some k_ ≠ (.slice Ao35 t450.length co35 : Value).ownBlock ∧ some k_ ≠ (.slice Ao38 t454.length co38 : Value).ownBlock ∧ some k_ ≠ (.slice Ao43 t457.length co43 : Value).ownBlock ∧ some k_ ≠ (.slice Ao44 t460.length co44 : Value).ownBlock ∧ some k_ ≠ (.slice Ao80 t467.length co80 : Value).ownBlock ∧ some k_ ≠ (.slice Ao81 t470.length co81 : Value).ownBlock ∧ some k_ ≠ (.slice Ao82 t473.length co82 : Value).ownBlock) (Kd.R_keptB (HO_444001.out) hkp (fun k_ hk_ hs_ => Or.elim hs_ (fun e_ => (hk_.1.1.1.2.2.1) e_) (fun e_ => Or.elim e_ (fun e_ => (hk_.1.1.1.2.2.2.1) e_) (fun e_ => (hk_.1.1.1.2.2.2.2.1) e_)))) (fun k_ hk_ => ⟨hk_.1.1.1.1.1, hk_.1.1.1.1.2.1, hk_.1.1.1.1.2.2.1, hk_.1.1.1.1.2.2.2.1, hk_.1.1.1.1.2.2.2.2.1, hk_.1.1.1.1.2.2.2.2.2.1, hk_.1.1.1.1.2.2.2.2.2.2.1, hk_.1.1.1.1.2.2.2.2.2.2.2, hk_.1.1.1.2, hk_.1.1.2, hk_.1.2⟩)); have n2_ := Aside0.mk (Kd.R_mono (ok' := fun k_ => some k_ ≠ (.slice Ao22 t432.length co22 : Value).ownBlock ∧ some k_ ≠ (.slice Ao25 t435.length co25 : Value).ownBlock ∧ some k_ ≠ (.slice Ao30 t444.length co30 : Value).ownBlock ∧ some k_ ≠ (.slice Ao34 t447.length co34 : Value).ownBlock ∧ some k_ ≠ (.slice Ao35 t450.length co35 : Value).ownBlock ∧ some k_ ≠ (.slice Ao38 t454.length co38 : Value).ownBlock ∧ some k_ ≠ (.slice Ao43 t457.length co43 : Value).ownBlock ∧ some k_ ≠ (.slice Ao44 t460.length co44 : Value).ownBlock ∧ some k_ ≠ (.slice Ao80 t467.length co80 : Value).ownBlock ∧ some k_ ≠ (.slice Ao81 t470.length co81 : Value).ownBlock ∧ some k_ ≠ (.slice Ao82 t473.length co82 : Value).ownBlock) (Kd.R_keptB (HO_444002.out) hkp (fun k_ hk_ hs_ => Or.elim hs_ (fun e_ => (hk_.1.1.1.2.2.1) e_) (fun e_ => Or.elim e_ (fun e_ => (hk_.1.1.1.2.2.2.1) e_) (fun e_ => (hk_.1.1.1.2.2.2.2.1) e_)))) (fun k_ hk_ => ⟨hk_.1.1.1.1.1, hk_.1.1.1.1.2.1, hk_.1.1.1.1.2.2.1, hk_.1.1.1.1.2.2.2.1, hk_.1.1.1.1.2.2.2.2.1, hk_.1.1.1.1.2.2.2.2.2.1, hk_.1.1.1.1.2.2.2.2.2.2.1, hk_.1.1.1.1.2.2.2.2.2.2.2, hk_.1.1.1.2, hk_.1.1.2, hk_.1.2⟩)); have n3_ := Aside0.mk (Kd.R_reok rfl hy0 (fun k_ e_ => HO_454000.out.1 k_ e_)); have n4_ := Aside0.mk (Kd.R_reok rfl hy1 (fun k_ e_ => HO_454001.out.1 k_ e_)); have n5_ := Aside0.mk (Kd.R_reok rfl hy2 (fun k_ e_ => HO_454002.out.1 k_ e_)); have n6_ := Aside0.mk (Kd.R_mono (ok' := fun k_ => some k_ ≠ (.slice Ao22 t432.length co22 : Value).ownBlock ∧ some k_ ≠ (.slice Ao25 t435.length co25 : Value).ownBlock ∧ some k_ ≠ (.slice Ao26 t438.length co26 : Value).ownBlock ∧ some k_ ≠ (.slice Ao30 t444.length co30 : Value).ownBlock ∧ some k_ ≠ (.slice Ao34 t447.length co34 : Value).ownBlock ∧ some k_ ≠ (.slice Ao35 t450.length co35 : Value).ownBlock ∧ some k_ ≠ (.slice Ao43 t457.length co43 : Value).ownBlock ∧ some k_ ≠ (.slice Ao44 t460.length co44 : Value).ownBlock ∧ some k_ ≠ (.slice Ao80 t467.length co80 : Value).ownBlock ∧ some k_ ≠ (.slice Ao81 t470.length co81 : Value).ownBlock ∧ some k_ ≠ (.slice Ao82 t473.length co82 : Value).ownBlock) (Kd.R_keptB (HO_466000.out) hkp (fun k_ hk_ hs_ => Or.elim hs_ (fun e_ => (hk_.1.1.1.2.2.2.1) e_) (fun e_ => Or.elim e_ (fun e_ => (hk_.1.1.1.2.2.2.2.1) e_) (fun e_ => (hk_.1.1.1.2.2.2.2.2.1) e_)))) (fun k_ hk_ => ⟨hk_.1.1.1.1.1, hk_.1.1.1.1.2.1, hk_.1.1.1.1.2.2.1, hk_.1.1.1.1.2.2.2.1, hk_.1.1.1.1.2.2.2.2.1, hk_.1.1.1.1.2.2.2.2.2.1, hk_.1.1.1.1.2.2.2.2.2.2.1, hk_.1.1.1.1.2.2.2.2.2.2.2, hk_.1.1.1.2, hk_.1.1.2, hk_.1.2⟩)); have n7_ := Aside0.mk (Kd.R_mono (ok' := fun k_ => some k_ ≠ (.slice Ao22 t432.length co22 : Value).ownBlock ∧ some k_ ≠ (.slice Ao25 t435.length co25 : Value).ownBlock ∧ some k_ ≠ (.slice Ao26 t438.length co26 : Value).ownBlock ∧ some k_ ≠ (.slice Ao30 t444.length co30 : Value).ownBlock ∧ some k_ ≠ (.slice Ao34 t447.length co34 : Value).ownBlock ∧ some k_ ≠ (.slice Ao35 t450.length co35 : Value).ownBlock ∧ some k_ ≠ (.slice Ao38 t454.length co38 : Value).ownBlock ∧ some k_ ≠ (.slice Ao44 t460.length co44 : Value).ownBlock ∧ some k_ ≠ (.slice Ao80 t467.length co80 : Value).ownBlock ∧ some k_ ≠ (.slice Ao81 t470.length co81 : Value).ownBlock ∧ some k_ ≠ (.slice Ao82 t473.length co82 : Value).ownBlock) (Kd.R_keptB (HO_466001.out) hkp (fun k_ hk_ hs_ => Or.elim hs_ (fun e_ => (hk_.1.1.1.2.2.2.1) e_) (fun e_ => Or.elim e_ (fun e_ => (hk_.1.1.1.2.2.2.2.1) e_) (fun e_ => (hk_.1.1.1.2.2.2.2.2.1) e_)))) (fun k_ hk_ => ⟨hk_.1.1.1.1.1, hk_.1.1.1.1.2.1, hk_.1.1.1.1.2.2.1, hk_.1.1.1.1.2.2.2.1, hk_.1.1.1.1.2.2.2.2.1, hk_.1.1.1.1.2.2.2.2.2.1, hk_.1.1.1.1.2.2.2.2.2.2.1, hk_.1.1.1.1.2.2.2.2.2.2.2, hk_.1.1.1.2, hk_.1.1.2, hk_.1.2⟩)); have n8_ := Aside0.mk (Kd.R_mono (ok' := fun k_ => some k_ ≠ (.slice Ao22 t432.length co22 : Value).ownBlock ∧ some k_ ≠ (.slice Ao25 t435.length co25 : Value).ownBlock ∧ some k_ ≠ (.slice Ao26 t438.length co26 : Value).ownBlock ∧ some k_ ≠ (.slice Ao30 t444.length co30 : Value).ownBlock ∧ some k_ ≠ (.slice Ao34 t447.length co34 : Value).ownBlock ∧ some k_ ≠ (.slice Ao35 t450.length co35 : Value).ownBlock ∧ some k_ ≠ (.slice Ao38 t454.length co38 : Value).ownBlock ∧ some k_ ≠ (.slice Ao43 t457.length co43 : Value).ownBlock ∧ some k_ ≠ (.slice Ao80 t467.length co80 : Value).ownBlock ∧ some k_ ≠ (.slice Ao81 t470.length co81 : Value).ownBlock ∧ some k_ ≠ (.slice Ao82 t473.length co82 : Value).ownBlock) (Kd.R_keptB (HO_466002.out) hkp (fun k_ hk_ hs_ => Or.elim hs_ (fun e_ => (hk_.1.1.1.2.2.2.1) e_) (fun e_ => Or.elim e_ (fun e_ => (hk_.1.1.1.2.2.2.2.1) e_) (fun e_ => (hk_.1.1.1.2.2.2.2.2.1) e_)))) (fun k_ hk_ => ⟨hk_.1.1.1.1.1, hk_.1.1.1.1.2.1, hk_.1.1.1.1.2.2.1, hk_.1.1.1.1.2.2.2.1, hk_.1.1.1.1.2.2.2.2.1, hk_.1.1.1.1.2.2.2.2.2.1, hk_.1.1.1.1.2.2.2.2.2.2.1, hk_.1.1.1.1.2.2.2.2.2.2.2, hk_.1.1.1.2, hk_.1.1.2, hk_.1.2⟩)); have n9_ := Aside0.mk (blk_kept (kX BK421.out) hkp (fun hs_ => Or.elim hs_ (fun e_ => (fun e_ => (Kd.R_ne HO_454000.out BK421.out (by decide)) e_) e_) (fun e_ => Or.elim e_ (fun e_ => (fun e_ => (Kd.R_ne HO_454001.out BK421.out (by decide)) e_) e_) (fun e_ => (fun e_ => (Kd.R_ne HO_454002.out BK421.out (by decide)) e_) e_)))); have n10_ := Aside0.mk (blk_kept (kX BK443.out) hkp (fun hs_ => Or.elim hs_ (fun e_ => (fun e_ => (Kd.R_ne HO_454000.out BK443.out (by decide)) e_) e_) (fun e_ => Or.elim e_ (fun e_ => (fun e_ => (Kd.R_ne HO_454001.out BK443.out (by decide)) e_) e_) (fun e_ => (fun e_ => (Kd.R_ne HO_454002.out BK443.out (by decide)) e_) e_)))); have n11_ := Aside0.mk (blk_kept (kX BK453.out) hkp (fun hs_ => Or.elim hs_ (fun e_ => (fun e_ => (Kd.R_ne HO_454000.out BK453.out (by decide)) e_) e_) (fun e_ => Or.elim e_ (fun e_ => (fun e_ => (Kd.R_ne HO_454001.out BK453.out (by decide)) e_) e_) (fun e_ => (fun e_ => (Kd.R_ne HO_454002.out BK453.out (by decide)) e_) e_)))); have n12_ := Aside0.mk (blk_kept (kX BK465.out) hkp (fun hs_ => Or.elim hs_ (fun e_ => (fun e_ => (Kd.R_ne HO_454000.out BK465.out (by decide)) e_) e_) (fun e_ => Or.elim e_ (fun e_ => (fun e_ => (Kd.R_ne HO_454001.out BK465.out (by decide)) e_) e_) (fun e_ => (fun e_ => (Kd.R_ne HO_454002.out BK465.out (by decide)) e_) e_)))); have n13_ := Aside0.mk (Kd.R_mono (ok' := fun k_ => some k_ ≠ (.slice Ao22 t432.length co22 : Value).ownBlock ∧ some k_ ≠ (.slice Ao25 t435.length co25 : Value).ownBlock ∧ some k_ ≠ (.slice Ao26 t438.length co26 : Value).ownBlock ∧ some k_ ≠ (.slice Ao30 t444.length co30 : Value).ownBlock ∧ some k_ ≠ (.slice Ao34 t447.length co34 : Value).ownBlock ∧ some k_ ≠ (.slice Ao35 t450.length co35 : Value).ownBlock ∧ some k_ ≠ (.slice Ao38 t454.length co38 : Value).ownBlock ∧ some k_ ≠ (.slice Ao43 t457.length co43 : Value).ownBlock ∧ some k_ ≠ (.slice Ao44 t460.length co44 : Value).ownBlock ∧ some k_ ≠ (.slice Ao81 t470.length co81 : Value).ownBlock ∧ some k_ ≠ (.slice Ao82 t473.length co82 : Value).ownBlock) (Kd.R_keptB (HO469.out) hkp (fun k_ hk_ hs_ => Or.elim hs_ (fun e_ => (hk_.1.1.1.1.1.2) e_) (fun e_ => Or.elim e_ (fun e_ => (hk_.1.1.1.1.2) e_) (fun e_ => (hk_.1.1.1.2) e_)))) (fun k_ hk_ => ⟨hk_.1.1.1.1.1.1.1.1.1.2, hk_.1.1.1.1.1.1.1.1.2, hk_.1.1.1.1.1.1.1.2, hk_.1.1.1.1.1.1.2, hk_.1.1.1.1.1.2, hk_.1.1.1.1.2, hk_.1.1.1.2, hk_.1.1.2, hk_.1.2, hk_.1.1.1.1.1.1.1.1.1.1.1, hk_.1.1.1.1.1.1.1.1.1.1.2⟩)); have n14_ := Aside0.mk (Kd.R_mono (ok' := fun k_ => some k_ ≠ (.slice Ao22 t432.length co22 : Value).ownBlock ∧ some k_ ≠ (.slice Ao25 t435.length co25 : Value).ownBlock ∧ some k_ ≠ (.slice Ao26 t438.length co26 : Value).ownBlock ∧ some k_ ≠ (.slice Ao30 t444.length co30 : Value).ownBlock ∧ some k_ ≠ (.slice Ao34 t447.length co34 : Value).ownBlock ∧ some k_ ≠ (.slice Ao35 t450.length co35 : Value).ownBlock ∧ some k_ ≠ (.slice Ao38 t454.length co38 : Value).ownBlock ∧ some k_ ≠ (.slice Ao43 t457.length co43 : Value).ownBlock ∧ some k_ ≠ (.slice Ao44 t460.length co44 : Value).ownBlock ∧ some k_ ≠ (.slice Ao80 t467.length co80 : Value).ownBlock ∧ some k_ ≠ (.slice Ao82 t473.length co82 : Value).ownBlock) (Kd.R_keptB (HO472.out) hkp (fun k_ hk_ hs_ => Or.elim hs_ (fun e_ => (hk_.1.1.1.1.1.2) e_) (fun e_ => Or.elim e_ (fun e_ => (hk_.1.1.1.1.2) e_) (fun e_ => (hk_.1.1.1.2) e_)))) (fun k_ hk_ => ⟨hk_.1.1.1.1.1.1.1.1.1.2, hk_.1.1.1.1.1.1.1.1.2, hk_.1.1.1.1.1.1.1.2, hk_.1.1.1.1.1.1.2, hk_.1.1.1.1.1.2, hk_.1.1.1.1.2, hk_.1.1.1.2, hk_.1.1.2, hk_.1.2, hk_.1.1.1.1.1.1.1.1.1.1.1, hk_.1.1.1.1.1.1.1.1.1.1.2⟩)); have n15_ := Aside0.mk (Kd.R_mono (ok' := fun k_ => some k_ ≠ (.slice Ao22 t432.length co22 : Value).ownBlock ∧ some k_ ≠ (.slice Ao25 t435.length co25 : Value).ownBlock ∧ some k_ ≠ (.slice Ao26 t438.length co26 : Value).ownBlock ∧ some k_ ≠ (.slice Ao30 t444.length co30 : Value).ownBlock ∧ some k_ ≠ (.slice Ao34 t447.length co34 : Value).ownBlock ∧ some k_ ≠ (.slice Ao35 t450.length co35 : Value).ownBlock ∧ some k_ ≠ (.slice Ao38 t454.length co38 : Value).ownBlock ∧ some k_ ≠ (.slice Ao43 t457.length co43 : Value).ownBlock ∧ some k_ ≠ (.slice Ao44 t460.length co44 : Value).ownBlock ∧ some k_ ≠ (.slice Ao80 t467.length co80 : Value).ownBlock ∧ some k_ ≠ (.slice Ao81 t470.length co81 : Value).ownBlock) (Kd.R_keptB (HO475.out) hkp (fun k_ hk_ hs_ => Or.elim hs_ (fun e_ => (hk_.1.1.1.1.1.2) e_) (fun e_ => Or.elim e_ (fun e_ => (hk_.1.1.1.1.2) e_) (fun e_ => (hk_.1.1.1.2) e_)))) (fun k_ hk_ => ⟨hk_.1.1.1.1.1.1.1.1.1.2, hk_.1.1.1.1.1.1.1.1.2, hk_.1.1.1.1.1.1.1.2, hk_.1.1.1.1.1.1.2, hk_.1.1.1.1.1.2, hk_.1.1.1.1.2, hk_.1.1.1.2, hk_.1.1.2, hk_.1.2, hk_.1.1.1.1.1.1.1.1.1.1.1, hk_.1.1.1.1.1.1.1.1.1.1.2⟩)); have n16_ := Aside0.mk (hb); clear HO_444000 HO_444001 HO_444002 HO_454000 HO_454001 HO_454002 HO_466000 HO_466001 HO_466002 BK421 BK443 BK453 BK465 HO469 HO472 HO475 HB; have HO_444000 := n0_; have HO_444001 := n1_; have HO_444002 := n2_; have HO_454000 := n3_; have HO_454001 := n4_; have HO_454002 := n5_; have HO_466000 := n6_; have HO_466001 := n7_; have HO_466002 := n8_; have BK421 := n9_; have BK443 := n10_; have BK453 := n11_; have BK465 := n12_; have HO469 := n13_; have HO472 := n14_; have HO475 := n15_; have HB := n16_; clear n0_ n1_ n2_ n3_ n4_ n5_ n6_ n7_ n8_ n9_ n10_ n11_ n12_ n13_ n14_ n15_ n16_; (try clear hb); (try clear hkp); (try clear hy0); (try clear hy1); (try clear hy2)))
 (try simp only [Act.put, List.setIfInBounds_toArray, List.set_cons_zero, List.set_cons_succ])
 go_cut [76] (fun v76 wc => ∃ (kq : Nat) (x76_76 : Bool), v76 = .bool x76_76 ∧ Aside0 (laws_FnExactInduceAll.j1 kq t441 t442 x76_76 l0_0 l0_1 l0_2 t432 t435 t438 t454 t457 t460 = some r) ∧ Aside0 (kq ≤ kj10) ∧ Aside0 (Kd.R (Kd.int .i64) 3 wc w.heap.size (fun k_ => some k_ ≠ ((.slice Ao25 t435.length co25) : Value).ownBlock ∧ some k_ ≠ ((.slice Ao26 t438.length co26) : Value).ownBlock ∧ some k_ ≠ ((.slice Ao30 t444.length co30) : Value).ownBlock ∧ some k_ ≠ ((.slice Ao34 t447.length co34) : Value).ownBlock ∧ some k_ ≠ ((.slice Ao35 t450.length co35) : Value).ownBlock ∧ some k_ ≠ ((.slice Ao38 t454.length co38) : Value).ownBlock ∧ some k_ ≠ ((.slice Ao43 t457.length co43) : Value).ownBlock ∧ some k_ ≠ ((.slice Ao44 t460.length co44) : Value).ownBlock) (.slice Ao22 t432.length co22) t432) ∧ Aside0 (Kd.R (Kd.int .i64) 3 wc w.heap.size (fun k_ => some k_ ≠ ((.slice Ao22 t432.length co22) : Value).ownBlock ∧ some k_ ≠ ((.slice Ao26 t438.length co26) : Value).ownBlock ∧ some k_ ≠ ((.slice Ao30 t444.length co30) : Value).ownBlock ∧ some k_ ≠ ((.slice Ao34 t447.length co34) : Value).ownBlock ∧ some k_ ≠ ((.slice Ao35 t450.length co35) : Value).ownBlock ∧ some k_ ≠ ((.slice Ao38 t454.length co38) : Value).ownBlock ∧ some k_ ≠ ((.slice Ao43 t457.length co43) : Value).ownBlock ∧ some k_ ≠ ((.slice Ao44 t460.length co44) : Value).ownBlock) (.slice Ao25 t435.length co25) t435) ∧ Aside0 (Kd.R (Kd.int .i64) 3 wc w.heap.size (fun k_ => some k_ ≠ ((.slice Ao22 t432.length co22) : Value).ownBlock ∧ some k_ ≠ ((.slice Ao25 t435.length co25) : Value).ownBlock ∧ some k_ ≠ ((.slice Ao30 t444.length co30) : Value).ownBlock ∧ some k_ ≠ ((.slice Ao34 t447.length co34) : Value).ownBlock ∧ some k_ ≠ ((.slice Ao35 t450.length co35) : Value).ownBlock ∧ some k_ ≠ ((.slice Ao38 t454.length co38) : Value).ownBlock ∧ some k_ ≠ ((.slice Ao43 t457.length co43) : Value).ownBlock ∧ some k_ ≠ ((.slice Ao44 t460.length co44) : Value).ownBlock) (.slice Ao26 t438.length co26) t438) ∧ Aside0 (Kd.R (Kd.int .i64) 3 wc w.heap.size (fun k_ => some k_ ≠ ((.slice Ao22 t432.length co22) : Value).ownBlock ∧ some k_ ≠ ((.slice Ao25 t435.length co25) : Value).ownBlock ∧ some k_ ≠ ((.slice Ao26 t438.length co26) : Value).ownBlock ∧ some k_ ≠ ((.slice Ao34 t447.length co34) : Value).ownBlock ∧ some k_ ≠ ((.slice Ao35 t450.length co35) : Value).ownBlock ∧ some k_ ≠ ((.slice Ao38 t454.length co38) : Value).ownBlock ∧ some k_ ≠ ((.slice Ao43 t457.length co43) : Value).ownBlock ∧ some k_ ≠ ((.slice Ao44 t460.length co44) : Value).ownBlock) (.slice Ao30 t444.length co30) t478) ∧ Aside0 (Kd.R (Kd.int .i64) 3 wc w.heap.size (fun k_ => some k_ ≠ ((.slice Ao22 t432.length co22) : Value).ownBlock ∧ some k_ ≠ ((.slice Ao25 t435.length co25) : Value).ownBlock ∧ some k_ ≠ ((.slice Ao26 t438.length co26) : Value).ownBlock ∧ some k_ ≠ ((.slice Ao30 t444.length co30) : Value).ownBlock ∧ some k_ ≠ ((.slice Ao35 t450.length co35) : Value).ownBlock ∧ some k_ ≠ ((.slice Ao38 t454.length co38) : Value).ownBlock ∧ some k_ ≠ ((.slice Ao43 t457.length co43) : Value).ownBlock ∧ some k_ ≠ ((.slice Ao44 t460.length co44) : Value).ownBlock) (.slice Ao34 t447.length co34) t479) ∧ Aside0 (Kd.R (Kd.int .i64) 3 wc w.heap.size (fun k_ => some k_ ≠ ((.slice Ao22 t432.length co22) : Value).ownBlock ∧ some k_ ≠ ((.slice Ao25 t435.length co25) : Value).ownBlock ∧ some k_ ≠ ((.slice Ao26 t438.length co26) : Value).ownBlock ∧ some k_ ≠ ((.slice Ao30 t444.length co30) : Value).ownBlock ∧ some k_ ≠ ((.slice Ao34 t447.length co34) : Value).ownBlock ∧ some k_ ≠ ((.slice Ao38 t454.length co38) : Value).ownBlock ∧ some k_ ≠ ((.slice Ao43 t457.length co43) : Value).ownBlock ∧ some k_ ≠ ((.slice Ao44 t460.length co44) : Value).ownBlock) (.slice Ao35 t450.length co35) t480) ∧ Aside0 (Kd.R (Kd.int .i64) 3 wc w.heap.size (fun k_ => some k_ ≠ ((.slice Ao22 t432.length co22) : Value).ownBlock ∧ some k_ ≠ ((.slice Ao25 t435.length co25) : Value).ownBlock ∧ some k_ ≠ ((.slice Ao26 t438.length co26) : Value).ownBlock ∧ some k_ ≠ ((.slice Ao30 t444.length co30) : Value).ownBlock ∧ some k_ ≠ ((.slice Ao34 t447.length co34) : Value).ownBlock ∧ some k_ ≠ ((.slice Ao35 t450.length co35) : Value).ownBlock ∧ some k_ ≠ ((.slice Ao43 t457.length co43) : Value).ownBlock ∧ some k_ ≠ ((.slice Ao44 t460.length co44) : Value).ownBlock) (.slice Ao38 t454.length co38) t454) ∧ Aside0 (Kd.R (Kd.int .i64) 3 wc w.heap.size (fun k_ => some k_ ≠ ((.slice Ao22 t432.length co22) : Value).ownBlock ∧ some k_ ≠ ((.slice Ao25 t435.length co25) : Value).ownBlock ∧ some k_ ≠ ((.slice Ao26 t438.length co26) : Value).ownBlock ∧ some k_ ≠ ((.slice Ao30 t444.length co30) : Value).ownBlock ∧ some k_ ≠ ((.slice Ao34 t447.length co34) : Value).ownBlock ∧ some k_ ≠ ((.slice Ao35 t450.length co35) : Value).ownBlock ∧ some k_ ≠ ((.slice Ao38 t454.length co38) : Value).ownBlock ∧ some k_ ≠ ((.slice Ao44 t460.length co44) : Value).ownBlock) (.slice Ao43 t457.length co43) t457) ∧ Aside0 (Kd.R (Kd.int .i64) 3 wc w.heap.size (fun k_ => some k_ ≠ ((.slice Ao22 t432.length co22) : Value).ownBlock ∧ some k_ ≠ ((.slice Ao25 t435.length co25) : Value).ownBlock ∧ some k_ ≠ ((.slice Ao26 t438.length co26) : Value).ownBlock ∧ some k_ ≠ ((.slice Ao30 t444.length co30) : Value).ownBlock ∧ some k_ ≠ ((.slice Ao34 t447.length co34) : Value).ownBlock ∧ some k_ ≠ ((.slice Ao35 t450.length co35) : Value).ownBlock ∧ some k_ ≠ ((.slice Ao38 t454.length co38) : Value).ownBlock ∧ some k_ ≠ ((.slice Ao43 t457.length co43) : Value).ownBlock) (.slice Ao44 t460.length co44) t460) ∧ Aside0 (wc.heap[gb421]? = some (.cells #[(.slice A0_0 l0_0.length c0_0), (.slice A0_1 l0_1.length c0_1), (.slice A0_2 l0_2.length c0_2)] 24 (0, 0))) ∧ Aside0 (wc.heap[gb443]? = some (.cells #[(.slice Ao22 t432.length co22), (.slice Ao25 t435.length co25), (.slice Ao26 t438.length co26)] 26 (0, 0))) ∧ Aside0 (wc.heap[gb453]? = some (.cells #[(.slice Ao30 t444.length co30), (.slice Ao34 t447.length co34), (.slice Ao35 t450.length co35)] 26 (0, 0))) ∧ Aside0 (wc.heap[gb465]? = some (.cells #[(.slice Ao38 t454.length co38), (.slice Ao43 t457.length co43), (.slice Ao44 t460.length co44)] 26 (0, 0))) ∧ Aside0 (Below w.heap.size w wc))
 case first =>
  have H := HC77.out
  clear HC77
  by_cases c89 : t477 < 0
  {
  rw [if_pos c89] at H
  have c89b0 : decide (t477 < 0) = true := decide_eq_true c89
  clear c89
  (first | rw [c89b0] | (simp only [i64_w, i32_w]; rw [c89b0]) | skip)
  have H' := Aside0.mk H
  clear H
  go_wp2
  go_meet
  case rel => exact ⟨_, (true), vX, H', ⟨by have := HJ10.out; first | omega | exact Nat.le_refl _⟩, ⟨rM HO_444000.out (fun _ hk => ⟨hk.1, ⟨hk.2.1, ⟨hk.2.2.1, ⟨hk.2.2.2.1, ⟨hk.2.2.2.2.1, ⟨hk.2.2.2.2.2.1, ⟨hk.2.2.2.2.2.2.1, hk.2.2.2.2.2.2.2.1⟩⟩⟩⟩⟩⟩⟩)⟩, ⟨rM HO_444001.out (fun _ hk => ⟨hk.1, ⟨hk.2.1, ⟨hk.2.2.1, ⟨hk.2.2.2.1, ⟨hk.2.2.2.2.1, ⟨hk.2.2.2.2.2.1, ⟨hk.2.2.2.2.2.2.1, hk.2.2.2.2.2.2.2.1⟩⟩⟩⟩⟩⟩⟩)⟩, ⟨rM HO_444002.out (fun _ hk => ⟨hk.1, ⟨hk.2.1, ⟨hk.2.2.1, ⟨hk.2.2.2.1, ⟨hk.2.2.2.2.1, ⟨hk.2.2.2.2.2.1, ⟨hk.2.2.2.2.2.2.1, hk.2.2.2.2.2.2.2.1⟩⟩⟩⟩⟩⟩⟩)⟩, ⟨rM HO_454000.out (fun _ hk => ⟨hk.1.1.1.1, ⟨hk.1.1.1.2.1, ⟨hk.1.1.1.2.2.1, ⟨hk.1.1.1.2.2.2.1, ⟨hk.1.1.1.2.2.2.2.1, ⟨hk.1.1.1.2.2.2.2.2.1, ⟨hk.1.1.1.2.2.2.2.2.2.1, hk.1.1.1.2.2.2.2.2.2.2⟩⟩⟩⟩⟩⟩⟩)⟩, ⟨rM HO_454001.out (fun _ hk => ⟨hk.1.1.1.1, ⟨hk.1.1.1.2.1, ⟨hk.1.1.1.2.2.1, ⟨hk.1.1.1.2.2.2.1, ⟨hk.1.1.1.2.2.2.2.1, ⟨hk.1.1.1.2.2.2.2.2.1, ⟨hk.1.1.1.2.2.2.2.2.2.1, hk.1.1.1.2.2.2.2.2.2.2⟩⟩⟩⟩⟩⟩⟩)⟩, ⟨rM HO_454002.out (fun _ hk => ⟨hk.1.1.1.1, ⟨hk.1.1.1.2.1, ⟨hk.1.1.1.2.2.1, ⟨hk.1.1.1.2.2.2.1, ⟨hk.1.1.1.2.2.2.2.1, ⟨hk.1.1.1.2.2.2.2.2.1, ⟨hk.1.1.1.2.2.2.2.2.2.1, hk.1.1.1.2.2.2.2.2.2.2⟩⟩⟩⟩⟩⟩⟩)⟩, ⟨rM HO_466000.out (fun _ hk => ⟨hk.1, ⟨hk.2.1, ⟨hk.2.2.1, ⟨hk.2.2.2.1, ⟨hk.2.2.2.2.1, ⟨hk.2.2.2.2.2.1, ⟨hk.2.2.2.2.2.2.1, hk.2.2.2.2.2.2.2.1⟩⟩⟩⟩⟩⟩⟩)⟩, ⟨rM HO_466001.out (fun _ hk => ⟨hk.1, ⟨hk.2.1, ⟨hk.2.2.1, ⟨hk.2.2.2.1, ⟨hk.2.2.2.2.1, ⟨hk.2.2.2.2.2.1, ⟨hk.2.2.2.2.2.2.1, hk.2.2.2.2.2.2.2.1⟩⟩⟩⟩⟩⟩⟩)⟩, ⟨rM HO_466002.out (fun _ hk => ⟨hk.1, ⟨hk.2.1, ⟨hk.2.2.1, ⟨hk.2.2.2.1, ⟨hk.2.2.2.2.1, ⟨hk.2.2.2.2.2.1, ⟨hk.2.2.2.2.2.2.1, hk.2.2.2.2.2.2.2.1⟩⟩⟩⟩⟩⟩⟩)⟩, ⟨kX BK421.out⟩, ⟨kX BK443.out⟩, ⟨kX BK453.out⟩, ⟨kX BK465.out⟩, ⟨by repeat (first | (with_reducible first | exact HB.out|apply bA|apply bN|apply bD | refine below_set ?_ GE421.out | refine below_set ?_ GE443.out | refine below_set ?_ GE453.out | refine below_set ?_ GE465.out) | exact HB.out)⟩⟩
  }
  {
  rw [if_neg c89] at H
  have c89b0 : decide (t477 < 0) = false := decide_eq_false c89
  clear c89
  (first | rw [c89b0] | (simp only [i64_w, i32_w]; rw [c89b0]) | skip)
  replace H := Option.bind_eq_some_iff.mp H
  obtain ⟨t481, A900, H⟩ := H
  replace H : (if t481 = true then (if t463 = t441 then (laws_FnExactInduceAll.j1 kj10 t441 t442 (t464 != t442) l0_0 l0_1 l0_2 t432 t435 t438 t454 t457 t460) else (laws_FnExactInduceAll.j1 kj10 t441 t442 true l0_0 l0_1 l0_2 t432 t435 t438 t454 t457 t460)) else (laws_FnExactInduceAll.j1 kj10 t441 t442 true l0_0 l0_1 l0_2 t432 t435 t438 t454 t457 t460)) = some r := H
  have A90 := Aside0.mk A900
  clear A900
  by_cases c91 : t481 = true
  {
  subst c91
  have H1 : (if t463 = t441 then (laws_FnExactInduceAll.j1 kj10 t441 t442 (t464 != t442) l0_0 l0_1 l0_2 t432 t435 t438 t454 t457 t460) else (laws_FnExactInduceAll.j1 kj10 t441 t442 true l0_0 l0_1 l0_2 t432 t435 t438 t454 t457 t460)) = some r := by rw [if_pos rfl] at H; exact H
  clear H
  have H := H1
  clear H1
  by_cases c92 : t463 = t441
  {
  rw [if_pos c92] at H
  have c92b0 : (t463 == t441) = true := beq_iff_eq.mpr c92
  have c92b1 : (t463 != t441) = false := bne_eq_false_iff_eq.mpr c92
  clear c92
  have H' := Aside0.mk H
  clear H
  have hnb93 := NB465_421.out
  have hnc93 := NB421_465.out
  have hnb94 := NB465_443.out
  have hnc94 := NB443_465.out
  have hnb95 := NB465_453.out
  have hnc95 := NB453_465.out
  have hcz96_0 := cz30 BK465.out
  have hcz96_1 := cz31 BK465.out
  have hcz96_2 := cz32 BK465.out
  have hfz96_0 := blk_frozen BK465.out 0
  have hfz96_1 := blk_frozen BK465.out 1
  have hfz96_2 := blk_frozen BK465.out 2
  have hnb97 := NB443_421.out
  have hnc97 := NB421_443.out
  have hnb98 := NB443_453.out
  have hnc98 := NB453_443.out
  have hcz99_0 := cz30 BK443.out
  have hcz99_1 := cz31 BK443.out
  have hcz99_2 := cz32 BK443.out
  have hfz99_0 := blk_frozen BK443.out 0
  have hfz99_1 := blk_frozen BK443.out 1
  have hfz99_2 := blk_frozen BK443.out 2
  go_wp2_with (first | (go_at_call 10; (with_reducible refine (laws_eqExchange.calls kj10 _ _ t454 _ _ t457 _ _ t460 _ _ t432 _ _ t435 _ _ t438 true _ ?side1 ?side2 ?side3 ?side4 ?side5 ?side6 ?side7 ?side8 ?side9 ?side10 ?side11 ?side12 A90.out).mono ?_); (case side1 => exact cX (Kd.R_reads' HO_466000.out).2.2); (case side2 => exact (Kd.R_reads' HO_466000.out).2.1); (case side3 => exact cX (Kd.R_reads' HO_466001.out).2.2); (case side4 => exact (Kd.R_reads' HO_466001.out).2.1); (case side5 => exact cX (Kd.R_reads' HO_466002.out).2.2); (case side6 => exact (Kd.R_reads' HO_466002.out).2.1); (case side7 => exact cX (Kd.R_reads' HO_444000.out).2.2); (case side8 => exact (Kd.R_reads' HO_444000.out).2.1); (case side9 => exact cX (Kd.R_reads' HO_444001.out).2.2); (case side10 => exact (Kd.R_reads' HO_444001.out).2.1); (case side11 => exact cX (Kd.R_reads' HO_444002.out).2.2); (case side12 => exact (Kd.R_reads' HO_444002.out).2.1); rintro e w100 ⟨rfl, hb⟩; have n0_ := Aside0.mk (Kd.R_below (rX HO_444000.out) hb); have n1_ := Aside0.mk (Kd.R_below (rX HO_444001.out) hb); have n2_ := Aside0.mk (Kd.R_below (rX HO_444002.out) hb); have n3_ := Aside0.mk (Kd.R_below (rX HO_454000.out) hb); have n4_ := Aside0.mk (Kd.R_below (rX HO_454001.out) hb); have n5_ := Aside0.mk (Kd.R_below (rX HO_454002.out) hb); have n6_ := Aside0.mk (Kd.R_below (rX HO_466000.out) hb); have n7_ := Aside0.mk (Kd.R_below (rX HO_466001.out) hb); have n8_ := Aside0.mk (Kd.R_below (rX HO_466002.out) hb); have n9_ := Aside0.mk (Kd.R_below (rX HO469.out) hb); have n10_ := Aside0.mk (Kd.R_below (rX HO472.out) hb); have n11_ := Aside0.mk (Kd.R_below (rX HO475.out) hb); have n12_ := Aside0.mk (bbX BK421.out hb); have n13_ := Aside0.mk (bbX BK443.out hb); have n14_ := Aside0.mk (bbX BK453.out hb); have n15_ := Aside0.mk (bbX BK465.out hb); have n16_ := Aside0.mk (below_step (by repeat (first | (with_reducible first | exact HB.out|apply bA|apply bN|apply bD | refine below_set ?_ GE421.out | refine below_set ?_ GE443.out | refine below_set ?_ GE453.out | refine below_set ?_ GE465.out) | exact HB.out)) hb); clear HO_444000 HO_444001 HO_444002 HO_454000 HO_454001 HO_454002 HO_466000 HO_466001 HO_466002 HO469 HO472 HO475 BK421 BK443 BK453 BK465 HB; have HO_444000 := n0_; have HO_444001 := n1_; have HO_444002 := n2_; have HO_454000 := n3_; have HO_454001 := n4_; have HO_454002 := n5_; have HO_466000 := n6_; have HO_466001 := n7_; have HO_466002 := n8_; have HO469 := n9_; have HO472 := n10_; have HO475 := n11_; have BK421 := n12_; have BK443 := n13_; have BK453 := n14_; have BK465 := n15_; have HB := n16_; clear n0_ n1_ n2_ n3_ n4_ n5_ n6_ n7_ n8_ n9_ n10_ n11_ n12_ n13_ n14_ n15_ n16_; (try clear hb); (try clear hb2); (try clear hk); (try clear hi)))
  go_meet
  case rel => exact ⟨_, ((t464 != t442)), vX, H', ⟨by have := HJ10.out; first | omega | exact Nat.le_refl _⟩, ⟨rM HO_444000.out (fun _ hk => ⟨hk.1, ⟨hk.2.1, ⟨hk.2.2.1, ⟨hk.2.2.2.1, ⟨hk.2.2.2.2.1, ⟨hk.2.2.2.2.2.1, ⟨hk.2.2.2.2.2.2.1, hk.2.2.2.2.2.2.2.1⟩⟩⟩⟩⟩⟩⟩)⟩, ⟨rM HO_444001.out (fun _ hk => ⟨hk.1, ⟨hk.2.1, ⟨hk.2.2.1, ⟨hk.2.2.2.1, ⟨hk.2.2.2.2.1, ⟨hk.2.2.2.2.2.1, ⟨hk.2.2.2.2.2.2.1, hk.2.2.2.2.2.2.2.1⟩⟩⟩⟩⟩⟩⟩)⟩, ⟨rM HO_444002.out (fun _ hk => ⟨hk.1, ⟨hk.2.1, ⟨hk.2.2.1, ⟨hk.2.2.2.1, ⟨hk.2.2.2.2.1, ⟨hk.2.2.2.2.2.1, ⟨hk.2.2.2.2.2.2.1, hk.2.2.2.2.2.2.2.1⟩⟩⟩⟩⟩⟩⟩)⟩, ⟨rM HO_454000.out (fun _ hk => ⟨hk.1.1.1.1, ⟨hk.1.1.1.2.1, ⟨hk.1.1.1.2.2.1, ⟨hk.1.1.1.2.2.2.1, ⟨hk.1.1.1.2.2.2.2.1, ⟨hk.1.1.1.2.2.2.2.2.1, ⟨hk.1.1.1.2.2.2.2.2.2.1, hk.1.1.1.2.2.2.2.2.2.2⟩⟩⟩⟩⟩⟩⟩)⟩, ⟨rM HO_454001.out (fun _ hk => ⟨hk.1.1.1.1, ⟨hk.1.1.1.2.1, ⟨hk.1.1.1.2.2.1, ⟨hk.1.1.1.2.2.2.1, ⟨hk.1.1.1.2.2.2.2.1, ⟨hk.1.1.1.2.2.2.2.2.1, ⟨hk.1.1.1.2.2.2.2.2.2.1, hk.1.1.1.2.2.2.2.2.2.2⟩⟩⟩⟩⟩⟩⟩)⟩, ⟨rM HO_454002.out (fun _ hk => ⟨hk.1.1.1.1, ⟨hk.1.1.1.2.1, ⟨hk.1.1.1.2.2.1, ⟨hk.1.1.1.2.2.2.1, ⟨hk.1.1.1.2.2.2.2.1, ⟨hk.1.1.1.2.2.2.2.2.1, ⟨hk.1.1.1.2.2.2.2.2.2.1, hk.1.1.1.2.2.2.2.2.2.2⟩⟩⟩⟩⟩⟩⟩)⟩, ⟨rM HO_466000.out (fun _ hk => ⟨hk.1, ⟨hk.2.1, ⟨hk.2.2.1, ⟨hk.2.2.2.1, ⟨hk.2.2.2.2.1, ⟨hk.2.2.2.2.2.1, ⟨hk.2.2.2.2.2.2.1, hk.2.2.2.2.2.2.2.1⟩⟩⟩⟩⟩⟩⟩)⟩, ⟨rM HO_466001.out (fun _ hk => ⟨hk.1, ⟨hk.2.1, ⟨hk.2.2.1, ⟨hk.2.2.2.1, ⟨hk.2.2.2.2.1, ⟨hk.2.2.2.2.2.1, ⟨hk.2.2.2.2.2.2.1, hk.2.2.2.2.2.2.2.1⟩⟩⟩⟩⟩⟩⟩)⟩, ⟨rM HO_466002.out (fun _ hk => ⟨hk.1, ⟨hk.2.1, ⟨hk.2.2.1, ⟨hk.2.2.2.1, ⟨hk.2.2.2.2.1, ⟨hk.2.2.2.2.2.1, ⟨hk.2.2.2.2.2.2.1, hk.2.2.2.2.2.2.2.1⟩⟩⟩⟩⟩⟩⟩)⟩, ⟨kX BK421.out⟩, ⟨kX BK443.out⟩, ⟨kX BK453.out⟩, ⟨kX BK465.out⟩, ⟨by repeat (first | (with_reducible first | exact HB.out|apply bA|apply bN|apply bD | refine below_set ?_ GE421.out | refine below_set ?_ GE443.out | refine below_set ?_ GE453.out | refine below_set ?_ GE465.out) | exact HB.out)⟩⟩
  }
  {
  rw [if_neg c92] at H
  have c92b0 : (t463 == t441) = false := beq_eq_false_iff_ne.mpr c92
  have c92b1 : (t463 != t441) = true := bne_iff_ne.mpr c92
  have H' := Aside0.mk H
  clear H
  have hnb101 := NB465_421.out
  have hnc101 := NB421_465.out
  have hnb102 := NB465_443.out
  have hnc102 := NB443_465.out
  have hnb103 := NB465_453.out
  have hnc103 := NB453_465.out
  have hcz104_0 := cz30 BK465.out
  have hcz104_1 := cz31 BK465.out
  have hcz104_2 := cz32 BK465.out
  have hfz104_0 := blk_frozen BK465.out 0
  have hfz104_1 := blk_frozen BK465.out 1
  have hfz104_2 := blk_frozen BK465.out 2
  have hnb105 := NB443_421.out
  have hnc105 := NB421_443.out
  have hnb106 := NB443_453.out
  have hnc106 := NB453_443.out
  have hcz107_0 := cz30 BK443.out
  have hcz107_1 := cz31 BK443.out
  have hcz107_2 := cz32 BK443.out
  have hfz107_0 := blk_frozen BK443.out 0
  have hfz107_1 := blk_frozen BK443.out 1
  have hfz107_2 := blk_frozen BK443.out 2
  go_wp2_with (first | (go_at_call 10; (with_reducible refine (laws_eqExchange.calls kj10 _ _ t454 _ _ t457 _ _ t460 _ _ t432 _ _ t435 _ _ t438 true _ ?side1 ?side2 ?side3 ?side4 ?side5 ?side6 ?side7 ?side8 ?side9 ?side10 ?side11 ?side12 A90.out).mono ?_); (case side1 => exact cX (Kd.R_reads' HO_466000.out).2.2); (case side2 => exact (Kd.R_reads' HO_466000.out).2.1); (case side3 => exact cX (Kd.R_reads' HO_466001.out).2.2); (case side4 => exact (Kd.R_reads' HO_466001.out).2.1); (case side5 => exact cX (Kd.R_reads' HO_466002.out).2.2); (case side6 => exact (Kd.R_reads' HO_466002.out).2.1); (case side7 => exact cX (Kd.R_reads' HO_444000.out).2.2); (case side8 => exact (Kd.R_reads' HO_444000.out).2.1); (case side9 => exact cX (Kd.R_reads' HO_444001.out).2.2); (case side10 => exact (Kd.R_reads' HO_444001.out).2.1); (case side11 => exact cX (Kd.R_reads' HO_444002.out).2.2); (case side12 => exact (Kd.R_reads' HO_444002.out).2.1); rintro e w108 ⟨rfl, hb⟩; have n0_ := Aside0.mk (Kd.R_below (rX HO_444000.out) hb); have n1_ := Aside0.mk (Kd.R_below (rX HO_444001.out) hb); have n2_ := Aside0.mk (Kd.R_below (rX HO_444002.out) hb); have n3_ := Aside0.mk (Kd.R_below (rX HO_454000.out) hb); have n4_ := Aside0.mk (Kd.R_below (rX HO_454001.out) hb); have n5_ := Aside0.mk (Kd.R_below (rX HO_454002.out) hb); have n6_ := Aside0.mk (Kd.R_below (rX HO_466000.out) hb); have n7_ := Aside0.mk (Kd.R_below (rX HO_466001.out) hb); have n8_ := Aside0.mk (Kd.R_below (rX HO_466002.out) hb); have n9_ := Aside0.mk (Kd.R_below (rX HO469.out) hb); have n10_ := Aside0.mk (Kd.R_below (rX HO472.out) hb); have n11_ := Aside0.mk (Kd.R_below (rX HO475.out) hb); have n12_ := Aside0.mk (bbX BK421.out hb); have n13_ := Aside0.mk (bbX BK443.out hb); have n14_ := Aside0.mk (bbX BK453.out hb); have n15_ := Aside0.mk (bbX BK465.out hb); have n16_ := Aside0.mk (below_step (by repeat (first | (with_reducible first | exact HB.out|apply bA|apply bN|apply bD | refine below_set ?_ GE421.out | refine below_set ?_ GE443.out | refine below_set ?_ GE453.out | refine below_set ?_ GE465.out) | exact HB.out)) hb); clear HO_444000 HO_444001 HO_444002 HO_454000 HO_454001 HO_454002 HO_466000 HO_466001 HO_466002 HO469 HO472 HO475 BK421 BK443 BK453 BK465 HB; have HO_444000 := n0_; have HO_444001 := n1_; have HO_444002 := n2_; have HO_454000 := n3_; have HO_454001 := n4_; have HO_454002 := n5_; have HO_466000 := n6_; have HO_466001 := n7_; have HO_466002 := n8_; have HO469 := n9_; have HO472 := n10_; have HO475 := n11_; have BK421 := n12_; have BK443 := n13_; have BK453 := n14_; have BK465 := n15_; have HB := n16_; clear n0_ n1_ n2_ n3_ n4_ n5_ n6_ n7_ n8_ n9_ n10_ n11_ n12_ n13_ n14_ n15_ n16_; (try clear hb); (try clear hb2); (try clear hk); (try clear hi)))
  go_meet
  case rel => exact ⟨_, (true), vX, H', ⟨by have := HJ10.out; first | omega | exact Nat.le_refl _⟩, ⟨rM HO_444000.out (fun _ hk => ⟨hk.1, ⟨hk.2.1, ⟨hk.2.2.1, ⟨hk.2.2.2.1, ⟨hk.2.2.2.2.1, ⟨hk.2.2.2.2.2.1, ⟨hk.2.2.2.2.2.2.1, hk.2.2.2.2.2.2.2.1⟩⟩⟩⟩⟩⟩⟩)⟩, ⟨rM HO_444001.out (fun _ hk => ⟨hk.1, ⟨hk.2.1, ⟨hk.2.2.1, ⟨hk.2.2.2.1, ⟨hk.2.2.2.2.1, ⟨hk.2.2.2.2.2.1, ⟨hk.2.2.2.2.2.2.1, hk.2.2.2.2.2.2.2.1⟩⟩⟩⟩⟩⟩⟩)⟩, ⟨rM HO_444002.out (fun _ hk => ⟨hk.1, ⟨hk.2.1, ⟨hk.2.2.1, ⟨hk.2.2.2.1, ⟨hk.2.2.2.2.1, ⟨hk.2.2.2.2.2.1, ⟨hk.2.2.2.2.2.2.1, hk.2.2.2.2.2.2.2.1⟩⟩⟩⟩⟩⟩⟩)⟩, ⟨rM HO_454000.out (fun _ hk => ⟨hk.1.1.1.1, ⟨hk.1.1.1.2.1, ⟨hk.1.1.1.2.2.1, ⟨hk.1.1.1.2.2.2.1, ⟨hk.1.1.1.2.2.2.2.1, ⟨hk.1.1.1.2.2.2.2.2.1, ⟨hk.1.1.1.2.2.2.2.2.2.1, hk.1.1.1.2.2.2.2.2.2.2⟩⟩⟩⟩⟩⟩⟩)⟩, ⟨rM HO_454001.out (fun _ hk => ⟨hk.1.1.1.1, ⟨hk.1.1.1.2.1, ⟨hk.1.1.1.2.2.1, ⟨hk.1.1.1.2.2.2.1, ⟨hk.1.1.1.2.2.2.2.1, ⟨hk.1.1.1.2.2.2.2.2.1, ⟨hk.1.1.1.2.2.2.2.2.2.1, hk.1.1.1.2.2.2.2.2.2.2⟩⟩⟩⟩⟩⟩⟩)⟩, ⟨rM HO_454002.out (fun _ hk => ⟨hk.1.1.1.1, ⟨hk.1.1.1.2.1, ⟨hk.1.1.1.2.2.1, ⟨hk.1.1.1.2.2.2.1, ⟨hk.1.1.1.2.2.2.2.1, ⟨hk.1.1.1.2.2.2.2.2.1, ⟨hk.1.1.1.2.2.2.2.2.2.1, hk.1.1.1.2.2.2.2.2.2.2⟩⟩⟩⟩⟩⟩⟩)⟩, ⟨rM HO_466000.out (fun _ hk => ⟨hk.1, ⟨hk.2.1, ⟨hk.2.2.1, ⟨hk.2.2.2.1, ⟨hk.2.2.2.2.1, ⟨hk.2.2.2.2.2.1, ⟨hk.2.2.2.2.2.2.1, hk.2.2.2.2.2.2.2.1⟩⟩⟩⟩⟩⟩⟩)⟩, ⟨rM HO_466001.out (fun _ hk => ⟨hk.1, ⟨hk.2.1, ⟨hk.2.2.1, ⟨hk.2.2.2.1, ⟨hk.2.2.2.2.1, ⟨hk.2.2.2.2.2.1, ⟨hk.2.2.2.2.2.2.1, hk.2.2.2.2.2.2.2.1⟩⟩⟩⟩⟩⟩⟩)⟩, ⟨rM HO_466002.out (fun _ hk => ⟨hk.1, ⟨hk.2.1, ⟨hk.2.2.1, ⟨hk.2.2.2.1, ⟨hk.2.2.2.2.1, ⟨hk.2.2.2.2.2.1, ⟨hk.2.2.2.2.2.2.1, hk.2.2.2.2.2.2.2.1⟩⟩⟩⟩⟩⟩⟩)⟩, ⟨kX BK421.out⟩, ⟨kX BK443.out⟩, ⟨kX BK453.out⟩, ⟨kX BK465.out⟩, ⟨by repeat (first | (with_reducible first | exact HB.out|apply bA|apply bN|apply bD | refine below_set ?_ GE421.out | refine below_set ?_ GE443.out | refine below_set ?_ GE453.out | refine below_set ?_ GE465.out) | exact HB.out)⟩⟩
  }
  }
  {
  replace c91 := Bool.eq_false_iff.mpr c91
  subst c91
  have H1 : (laws_FnExactInduceAll.j1 kj10 t441 t442 true l0_0 l0_1 l0_2 t432 t435 t438 t454 t457 t460) = some r := by rw [if_neg (show ¬ (false = true) by decide)] at H; exact H
  clear H
  have H := H1
  clear H1
  have H' := Aside0.mk H
  clear H
  have hnb109 := NB465_421.out
  have hnc109 := NB421_465.out
  have hnb110 := NB465_443.out
  have hnc110 := NB443_465.out
  have hnb111 := NB465_453.out
  have hnc111 := NB453_465.out
  have hcz112_0 := cz30 BK465.out
  have hcz112_1 := cz31 BK465.out
  have hcz112_2 := cz32 BK465.out
  have hfz112_0 := blk_frozen BK465.out 0
  have hfz112_1 := blk_frozen BK465.out 1
  have hfz112_2 := blk_frozen BK465.out 2
  have hnb113 := NB443_421.out
  have hnc113 := NB421_443.out
  have hnb114 := NB443_453.out
  have hnc114 := NB453_443.out
  have hcz115_0 := cz30 BK443.out
  have hcz115_1 := cz31 BK443.out
  have hcz115_2 := cz32 BK443.out
  have hfz115_0 := blk_frozen BK443.out 0
  have hfz115_1 := blk_frozen BK443.out 1
  have hfz115_2 := blk_frozen BK443.out 2
  go_wp2_with (first | (go_at_call 10; (with_reducible refine (laws_eqExchange.calls kj10 _ _ t454 _ _ t457 _ _ t460 _ _ t432 _ _ t435 _ _ t438 false _ ?side1 ?side2 ?side3 ?side4 ?side5 ?side6 ?side7 ?side8 ?side9 ?side10 ?side11 ?side12 A90.out).mono ?_); (case side1 => exact cX (Kd.R_reads' HO_466000.out).2.2); (case side2 => exact (Kd.R_reads' HO_466000.out).2.1); (case side3 => exact cX (Kd.R_reads' HO_466001.out).2.2); (case side4 => exact (Kd.R_reads' HO_466001.out).2.1); (case side5 => exact cX (Kd.R_reads' HO_466002.out).2.2); (case side6 => exact (Kd.R_reads' HO_466002.out).2.1); (case side7 => exact cX (Kd.R_reads' HO_444000.out).2.2); (case side8 => exact (Kd.R_reads' HO_444000.out).2.1); (case side9 => exact cX (Kd.R_reads' HO_444001.out).2.2); (case side10 => exact (Kd.R_reads' HO_444001.out).2.1); (case side11 => exact cX (Kd.R_reads' HO_444002.out).2.2); (case side12 => exact (Kd.R_reads' HO_444002.out).2.1); rintro e w116 ⟨rfl, hb⟩; have n0_ := Aside0.mk (Kd.R_below (rX HO_444000.out) hb); have n1_ := Aside0.mk (Kd.R_below (rX HO_444001.out) hb); have n2_ := Aside0.mk (Kd.R_below (rX HO_444002.out) hb); have n3_ := Aside0.mk (Kd.R_below (rX HO_454000.out) hb); have n4_ := Aside0.mk (Kd.R_below (rX HO_454001.out) hb); have n5_ := Aside0.mk (Kd.R_below (rX HO_454002.out) hb); have n6_ := Aside0.mk (Kd.R_below (rX HO_466000.out) hb); have n7_ := Aside0.mk (Kd.R_below (rX HO_466001.out) hb); have n8_ := Aside0.mk (Kd.R_below (rX HO_466002.out) hb); have n9_ := Aside0.mk (Kd.R_below (rX HO469.out) hb); have n10_ := Aside0.mk (Kd.R_below (rX HO472.out) hb); have n11_ := Aside0.mk (Kd.R_below (rX HO475.out) hb); have n12_ := Aside0.mk (bbX BK421.out hb); have n13_ := Aside0.mk (bbX BK443.out hb); have n14_ := Aside0.mk (bbX BK453.out hb); have n15_ := Aside0.mk (bbX BK465.out hb); have n16_ := Aside0.mk (below_step (by repeat (first | (with_reducible first | exact HB.out|apply bA|apply bN|apply bD | refine below_set ?_ GE421.out | refine below_set ?_ GE443.out | refine below_set ?_ GE453.out | refine below_set ?_ GE465.out) | exact HB.out)) hb); clear HO_444000 HO_444001 HO_444002 HO_454000 HO_454001 HO_454002 HO_466000 HO_466001 HO_466002 HO469 HO472 HO475 BK421 BK443 BK453 BK465 HB; have HO_444000 := n0_; have HO_444001 := n1_; have HO_444002 := n2_; have HO_454000 := n3_; have HO_454001 := n4_; have HO_454002 := n5_; have HO_466000 := n6_; have HO_466001 := n7_; have HO_466002 := n8_; have HO469 := n9_; have HO472 := n10_; have HO475 := n11_; have BK421 := n12_; have BK443 := n13_; have BK453 := n14_; have BK465 := n15_; have HB := n16_; clear n0_ n1_ n2_ n3_ n4_ n5_ n6_ n7_ n8_ n9_ n10_ n11_ n12_ n13_ n14_ n15_ n16_; (try clear hb); (try clear hb2); (try clear hk); (try clear hi)))
  go_meet
  case rel => exact ⟨_, (true), vX, H', ⟨by have := HJ10.out; first | omega | exact Nat.le_refl _⟩, ⟨rM HO_444000.out (fun _ hk => ⟨hk.1, ⟨hk.2.1, ⟨hk.2.2.1, ⟨hk.2.2.2.1, ⟨hk.2.2.2.2.1, ⟨hk.2.2.2.2.2.1, ⟨hk.2.2.2.2.2.2.1, hk.2.2.2.2.2.2.2.1⟩⟩⟩⟩⟩⟩⟩)⟩, ⟨rM HO_444001.out (fun _ hk => ⟨hk.1, ⟨hk.2.1, ⟨hk.2.2.1, ⟨hk.2.2.2.1, ⟨hk.2.2.2.2.1, ⟨hk.2.2.2.2.2.1, ⟨hk.2.2.2.2.2.2.1, hk.2.2.2.2.2.2.2.1⟩⟩⟩⟩⟩⟩⟩)⟩, ⟨rM HO_444002.out (fun _ hk => ⟨hk.1, ⟨hk.2.1, ⟨hk.2.2.1, ⟨hk.2.2.2.1, ⟨hk.2.2.2.2.1, ⟨hk.2.2.2.2.2.1, ⟨hk.2.2.2.2.2.2.1, hk.2.2.2.2.2.2.2.1⟩⟩⟩⟩⟩⟩⟩)⟩, ⟨rM HO_454000.out (fun _ hk => ⟨hk.1.1.1.1, ⟨hk.1.1.1.2.1, ⟨hk.1.1.1.2.2.1, ⟨hk.1.1.1.2.2.2.1, ⟨hk.1.1.1.2.2.2.2.1, ⟨hk.1.1.1.2.2.2.2.2.1, ⟨hk.1.1.1.2.2.2.2.2.2.1, hk.1.1.1.2.2.2.2.2.2.2⟩⟩⟩⟩⟩⟩⟩)⟩, ⟨rM HO_454001.out (fun _ hk => ⟨hk.1.1.1.1, ⟨hk.1.1.1.2.1, ⟨hk.1.1.1.2.2.1, ⟨hk.1.1.1.2.2.2.1, ⟨hk.1.1.1.2.2.2.2.1, ⟨hk.1.1.1.2.2.2.2.2.1, ⟨hk.1.1.1.2.2.2.2.2.2.1, hk.1.1.1.2.2.2.2.2.2.2⟩⟩⟩⟩⟩⟩⟩)⟩, ⟨rM HO_454002.out (fun _ hk => ⟨hk.1.1.1.1, ⟨hk.1.1.1.2.1, ⟨hk.1.1.1.2.2.1, ⟨hk.1.1.1.2.2.2.1, ⟨hk.1.1.1.2.2.2.2.1, ⟨hk.1.1.1.2.2.2.2.2.1, ⟨hk.1.1.1.2.2.2.2.2.2.1, hk.1.1.1.2.2.2.2.2.2.2⟩⟩⟩⟩⟩⟩⟩)⟩, ⟨rM HO_466000.out (fun _ hk => ⟨hk.1, ⟨hk.2.1, ⟨hk.2.2.1, ⟨hk.2.2.2.1, ⟨hk.2.2.2.2.1, ⟨hk.2.2.2.2.2.1, ⟨hk.2.2.2.2.2.2.1, hk.2.2.2.2.2.2.2.1⟩⟩⟩⟩⟩⟩⟩)⟩, ⟨rM HO_466001.out (fun _ hk => ⟨hk.1, ⟨hk.2.1, ⟨hk.2.2.1, ⟨hk.2.2.2.1, ⟨hk.2.2.2.2.1, ⟨hk.2.2.2.2.2.1, ⟨hk.2.2.2.2.2.2.1, hk.2.2.2.2.2.2.2.1⟩⟩⟩⟩⟩⟩⟩)⟩, ⟨rM HO_466002.out (fun _ hk => ⟨hk.1, ⟨hk.2.1, ⟨hk.2.2.1, ⟨hk.2.2.2.1, ⟨hk.2.2.2.2.1, ⟨hk.2.2.2.2.2.1, ⟨hk.2.2.2.2.2.2.1, hk.2.2.2.2.2.2.2.1⟩⟩⟩⟩⟩⟩⟩)⟩, ⟨kX BK421.out⟩, ⟨kX BK443.out⟩, ⟨kX BK453.out⟩, ⟨kX BK465.out⟩, ⟨by repeat (first | (with_reducible first | exact HB.out|apply bA|apply bN|apply bD | refine below_set ?_ GE421.out | refine below_set ?_ GE443.out | refine below_set ?_ GE453.out | refine below_set ?_ GE465.out) | exact HB.out)⟩⟩
  }
  }
 case rest =>
 clear HC77
 try clear c1
 try clear c2
 try clear p2
 try clear c3
 try clear c3b0
 try clear c4
 try clear c5
 try clear c6
 try clear c7
 try clear c8
 try clear c9
 try clear c10
 try clear c11
 try clear c13
 try clear c14
 try clear c23
 try clear c31
 try clear c32
 try clear c39
 try clear c40
 try clear c41
 try clear c46
 try clear c47
 try clear c47b0
 try clear c47b1
 try clear c48
 try clear c49
 try clear c50
 try clear c52
 try clear c53
 try clear c56
 try clear c57
 try clear c58
 try clear c60
 try clear c61
 try clear c64
 try clear c65
 try clear c66
 try clear c68
 try clear c69
 try clear c72
 try clear c75
 try clear c84
 try clear c85
 try clear c86
 try clear c89
 try clear c89b0
 try clear c91
 try clear c92
 try clear c92b0
 try clear c92b1
 try clear c93
 try clear c94
 try clear c95
 try clear c97
 try clear c98
 try clear c101
 try clear c102
 try clear c103
 try clear c105
 try clear c106
 try clear c109
 try clear c110
 try clear c111
 try clear c113
 try clear c114
 try clear hcz104_0
 try clear hcz104_1
 try clear hcz104_2
 try clear hcz107_0
 try clear hcz107_1
 try clear hcz107_2
 try clear hcz112_0
 try clear hcz112_1
 try clear hcz112_2
 try clear hcz115_0
 try clear hcz115_1
 try clear hcz115_2
 try clear hcz13_0
 try clear hcz13_1
 try clear hcz13_2
 try clear hcz15_0
 try clear hcz15_1
 try clear hcz15_2
 try clear hcz24_0
 try clear hcz24_1
 try clear hcz24_2
 try clear hcz27_0
 try clear hcz27_1
 try clear hcz27_2
 try clear hcz33_0
 try clear hcz33_1
 try clear hcz33_2
 try clear hcz42_0
 try clear hcz42_1
 try clear hcz42_2
 try clear hcz51_0
 try clear hcz51_1
 try clear hcz51_2
 try clear hcz54_0
 try clear hcz54_1
 try clear hcz54_2
 try clear hcz59_0
 try clear hcz59_1
 try clear hcz59_2
 try clear hcz5_0
 try clear hcz5_1
 try clear hcz5_2
 try clear hcz62_0
 try clear hcz62_1
 try clear hcz62_2
 try clear hcz67_0
 try clear hcz67_1
 try clear hcz67_2
 try clear hcz70_0
 try clear hcz70_1
 try clear hcz70_2
 try clear hcz87_0
 try clear hcz87_1
 try clear hcz87_2
 try clear hcz96_0
 try clear hcz96_1
 try clear hcz96_2
 try clear hcz99_0
 try clear hcz99_1
 try clear hcz99_2
 try clear hfz104_0
 try clear hfz104_1
 try clear hfz104_2
 try clear hfz107_0
 try clear hfz107_1
 try clear hfz107_2
 try clear hfz112_0
 try clear hfz112_1
 try clear hfz112_2
 try clear hfz115_0
 try clear hfz115_1
 try clear hfz115_2
 try clear hfz13_0
 try clear hfz13_1
 try clear hfz13_2
 try clear hfz15_0
 try clear hfz15_1
 try clear hfz15_2
 try clear hfz24_0
 try clear hfz24_1
 try clear hfz24_2
 try clear hfz27_0
 try clear hfz27_1
 try clear hfz27_2
 try clear hfz33_0
 try clear hfz33_1
 try clear hfz33_2
 try clear hfz42_0
 try clear hfz42_1
 try clear hfz42_2
 try clear hfz51_0
 try clear hfz51_1
 try clear hfz51_2
 try clear hfz54_0
 try clear hfz54_1
 try clear hfz54_2
 try clear hfz59_0
 try clear hfz59_1
 try clear hfz59_2
 try clear hfz5_0
 try clear hfz5_1
 try clear hfz5_2
 try clear hfz62_0
 try clear hfz62_1
 try clear hfz62_2
 try clear hfz67_0
 try clear hfz67_1
 try clear hfz67_2
 try clear hfz70_0
 try clear hfz70_1
 try clear hfz70_2
 try clear hfz87_0
 try clear hfz87_1
 try clear hfz87_2
 try clear hfz96_0
 try clear hfz96_1
 try clear hfz96_2
 try clear hfz99_0
 try clear hfz99_1
 try clear hfz99_2
 try clear p2
 obtain ⟨kq, x76_76, rfl, HA, HJ76, HO_444000, HO_444001, HO_444002, HO_454000, HO_454001, HO_454002, HO_466000, HO_466001, HO_466002, BK421, BK443, BK453, BK465, HB⟩ := hcut
 have hl454000_76 := (Kd.R_reads' HO_454000.out).1
 rw [hl454000_76] at HO_454000
 (try simp only [hl454000_76])
 (try simp only [hl454000_76] at BK421)
 (try simp only [hl454000_76] at BK443)
 (try simp only [hl454000_76] at BK453)
 (try simp only [hl454000_76] at BK465)
 (try simp only [hl454000_76] at HO_444000)
 (try simp only [hl454000_76] at HO_444001)
 (try simp only [hl454000_76] at HO_444002)
 (try simp only [hl454000_76] at HO_454001)
 (try simp only [hl454000_76] at HO_454002)
 (try simp only [hl454000_76] at HO_466000)
 (try simp only [hl454000_76] at HO_466001)
 (try simp only [hl454000_76] at HO_466002)
 have hl454001_76 := (Kd.R_reads' HO_454001.out).1
 rw [hl454001_76] at HO_454001
 (try simp only [hl454001_76])
 (try simp only [hl454001_76] at BK421)
 (try simp only [hl454001_76] at BK443)
 (try simp only [hl454001_76] at BK453)
 (try simp only [hl454001_76] at BK465)
 (try simp only [hl454001_76] at HO_444000)
 (try simp only [hl454001_76] at HO_444001)
 (try simp only [hl454001_76] at HO_444002)
 (try simp only [hl454001_76] at HO_454000)
 (try simp only [hl454001_76] at HO_454002)
 (try simp only [hl454001_76] at HO_466000)
 (try simp only [hl454001_76] at HO_466001)
 (try simp only [hl454001_76] at HO_466002)
 have hl454002_76 := (Kd.R_reads' HO_454002.out).1
 rw [hl454002_76] at HO_454002
 (try simp only [hl454002_76])
 (try simp only [hl454002_76] at BK421)
 (try simp only [hl454002_76] at BK443)
 (try simp only [hl454002_76] at BK453)
 (try simp only [hl454002_76] at BK465)
 (try simp only [hl454002_76] at HO_444000)
 (try simp only [hl454002_76] at HO_444001)
 (try simp only [hl454002_76] at HO_444002)
 (try simp only [hl454002_76] at HO_454000)
 (try simp only [hl454002_76] at HO_454001)
 (try simp only [hl454002_76] at HO_466000)
 (try simp only [hl454002_76] at HO_466001)
 (try simp only [hl454002_76] at HO_466002)
 cases kq with
 | zero => exact absurd HA.out (by simp [laws_FnExactInduceAll.j1])
 | succ kj76 =>
 have H := HA.out
 clear HA
 simp only [laws_FnExactInduceAll.j1] at H
 by_cases c117 : x76_76 = true
 {
 subst c117
 have H1 : (some false) = some r := by rw [if_pos rfl] at H; exact H
 clear H
 have H := H1
 clear H1
 exact absurd ((Option.some.inj H).trans HRT.out) (by decide)
 }
 {
 replace c117 := Bool.eq_false_iff.mpr c117
 subst c117
 have H1 : ((laws_markExchange.f kj76 t454 t457 t460 1).bind fun bt482 => ((laws_heldExchange.f kj76 bt482.2.1 bt482.2.2.1 bt482.2.2.2 1).bind fun t486 => (if t486 < 0 then (some false) else (if t486 = bt482.1 then ((laws_toExchange.f kj76 l0_0 l0_1 l0_2).bind fun bt487 => ((impl_InduceAll.f kj76 bt487.1 bt487.2.1 bt487.2.2).bind fun bt496 => ((laws_eqExchange.f kj76 bt496.1 bt496.2.1 bt496.2.2.1 t432 t435 t438).bind fun t508 => (if t508 = true then (if bt496.2.2.2.1 = t441 then (laws_FnExactInduceAll.j2 kj76 bt482.1 (bt496.2.2.2.2 != t442) bt482.2.1 bt482.2.2.1 bt482.2.2.2) else (laws_FnExactInduceAll.j2 kj76 bt482.1 true bt482.2.1 bt482.2.2.1 bt482.2.2.2)) else (laws_FnExactInduceAll.j2 kj76 bt482.1 true bt482.2.1 bt482.2.2.1 bt482.2.2.2))))) else (some false))))) = some r := by rw [if_neg (show ¬ (false = true) by decide)] at H; exact H
 clear H
 have H := H1
 clear H1
 replace H := Option.bind_eq_some_iff.mp H
 obtain ⟨⟨t482, t483, t484, t485⟩, A1180, H⟩ := H
 replace H : ((laws_heldExchange.f kj76 t483 t484 t485 1).bind fun t486 => (if t486 < 0 then (some false) else (if t486 = t482 then ((laws_toExchange.f kj76 l0_0 l0_1 l0_2).bind fun bt487 => ((impl_InduceAll.f kj76 bt487.1 bt487.2.1 bt487.2.2).bind fun bt496 => ((laws_eqExchange.f kj76 bt496.1 bt496.2.1 bt496.2.2.1 t432 t435 t438).bind fun t508 => (if t508 = true then (if bt496.2.2.2.1 = t441 then (laws_FnExactInduceAll.j2 kj76 t482 (bt496.2.2.2.2 != t442) t483 t484 t485) else (laws_FnExactInduceAll.j2 kj76 t482 true t483 t484 t485)) else (laws_FnExactInduceAll.j2 kj76 t482 true t483 t484 t485))))) else (some false)))) = some r := H
 have A118 := Aside0.mk A1180
 clear A1180
 replace H := Option.bind_eq_some_iff.mp H
 obtain ⟨t486, A1190, H⟩ := H
 replace H : (if t486 < 0 then (some false) else (if t486 = t482 then ((laws_toExchange.f kj76 l0_0 l0_1 l0_2).bind fun bt487 => ((impl_InduceAll.f kj76 bt487.1 bt487.2.1 bt487.2.2).bind fun bt496 => ((laws_eqExchange.f kj76 bt496.1 bt496.2.1 bt496.2.2.1 t432 t435 t438).bind fun t508 => (if t508 = true then (if bt496.2.2.2.1 = t441 then (laws_FnExactInduceAll.j2 kj76 t482 (bt496.2.2.2.2 != t442) t483 t484 t485) else (laws_FnExactInduceAll.j2 kj76 t482 true t483 t484 t485)) else (laws_FnExactInduceAll.j2 kj76 t482 true t483 t484 t485))))) else (some false))) = some r := H
 have A119 := Aside0.mk A1190
 clear A1190
 by_cases c120 : t486 < 0
 {
 rw [if_pos c120] at H
 have c120b0 : decide (t486 < 0) = true := decide_eq_true c120
 clear c120
 exact absurd ((Option.some.inj H).trans HRT.out) (by decide)
 }
 {
 rw [if_neg c120] at H
 have c120b0 : decide (t486 < 0) = false := decide_eq_false c120
 clear c120
 by_cases c121 : t486 = t482
 {
 rw [if_pos c121] at H
 have c121b0 : (t486 == t482) = true := beq_iff_eq.mpr c121
 have c121b1 : (t486 != t482) = false := bne_eq_false_iff_eq.mpr c121
 clear c121
 replace H := Option.bind_eq_some_iff.mp H
 obtain ⟨⟨t487, t490, t493⟩, A1220, H⟩ := H
 replace H : ((impl_InduceAll.f kj76 t487 t490 t493).bind fun bt496 => ((laws_eqExchange.f kj76 bt496.1 bt496.2.1 bt496.2.2.1 t432 t435 t438).bind fun t508 => (if t508 = true then (if bt496.2.2.2.1 = t441 then (laws_FnExactInduceAll.j2 kj76 t482 (bt496.2.2.2.2 != t442) t483 t484 t485) else (laws_FnExactInduceAll.j2 kj76 t482 true t483 t484 t485)) else (laws_FnExactInduceAll.j2 kj76 t482 true t483 t484 t485)))) = some r := H
 have A122 := Aside0.mk A1220
 clear A1220
 replace H := Option.bind_eq_some_iff.mp H
 obtain ⟨⟨t496, t499, t502, t505, t506⟩, A1230, H⟩ := H
 replace H : ((laws_eqExchange.f kj76 t496 t499 t502 t432 t435 t438).bind fun t508 => (if t508 = true then (if t505 = t441 then (laws_FnExactInduceAll.j2 kj76 t482 (t506 != t442) t483 t484 t485) else (laws_FnExactInduceAll.j2 kj76 t482 true t483 t484 t485)) else (laws_FnExactInduceAll.j2 kj76 t482 true t483 t484 t485))) = some r := H
 have A123 := Aside0.mk A1230
 clear A1230
 have HC124 := Aside0.mk H
 clear H
 have hnb125 := NB465_421.out
 have hnc125 := NB421_465.out
 have hnb126 := NB465_443.out
 have hnc126 := NB443_465.out
 have hnb127 := NB465_453.out
 have hnc127 := NB453_465.out
 have hcz128_0 := cz30 BK465.out
 have hcz128_1 := cz31 BK465.out
 have hcz128_2 := cz32 BK465.out
 have hfz128_0 := blk_frozen BK465.out 0
 have hfz128_1 := blk_frozen BK465.out 1
 have hfz128_2 := blk_frozen BK465.out 2
 go_upto_region 25 with (first | ((with_reducible refine gate_callee (f := 11) rfl ?_); refine goesL_ (some 79) rfl rfl Try.func11 (by kernel_rfl) rfl #[.agg #[.slice Ao38 t454.length co38, .slice Ao43 t457.length co43, .slice Ao44 t460.length co44], .int .i64 1] rfl aX ?_; (with_reducible refine (laws_markExchange.calls kj76 (fun k_ => some k_ = (.slice Ao38 t454.length co38 : Value).ownBlock) (.slice Ao38 t454.length co38) t454 (fun k_ => some k_ = (.slice Ao43 t457.length co43 : Value).ownBlock) (.slice Ao43 t457.length co43) t457 (fun k_ => some k_ = (.slice Ao44 t460.length co44 : Value).ownBlock) (.slice Ao44 t460.length co44) t460 1 t482 t483 t484 t485 w _ ?side1 ?side2 ?side3 ?side4 ?side5 ?side6 ?side7 ?side8 ?side9 ?side10 A118.out).mono ?_); (case side1 => repeat (first | (with_reducible first | exact HB.out|apply bA|apply bN|apply bD | refine below_set ?_ GE421.out | refine below_set ?_ GE443.out | refine below_set ?_ GE453.out | refine below_set ?_ GE465.out) | exact HB.out)); (case side2 => exact Kd.R_tight rfl HO_466000.out); (case side3 => exact fun k_ e_ => (HO_466000.out.1 k_ e_.symm).2.2.2.2.2.2.1); (case side4 => exact fun k_ e_ => (HO_466000.out.1 k_ e_.symm).2.2.2.2.2.2.2); (case side5 => exact Kd.R_tight rfl HO_466001.out); (case side6 => exact fun k_ e_ => (HO_466001.out.1 k_ e_.symm).2.2.2.2.2.2.1); (case side7 => exact fun k_ e_ => (HO_466001.out.1 k_ e_.symm).2.2.2.2.2.2.2); (case side8 => exact Kd.R_tight rfl HO_466002.out); (case side9 => exact fun k_ e_ => (HO_466002.out.1 k_ e_.symm).2.2.2.2.2.2.1); (case side10 => exact fun k_ e_ => (HO_466002.out.1 k_ e_.symm).2.2.2.2.2.2.2); rintro e w129 ⟨rfl, hy0, hy1, hy2, hb, hkp⟩; refine ⟨_, rfl, ?_⟩; have n0_ := Aside0.mk (Kd.R_mono (ok' := fun k_ => some k_ ≠ (.slice Ao25 t435.length co25 : Value).ownBlock ∧ some k_ ≠ (.slice Ao26 t438.length co26 : Value).ownBlock ∧ some k_ ≠ (.slice Ao30 t478.length co30 : Value).ownBlock ∧ some k_ ≠ (.slice Ao34 t479.length co34 : Value).ownBlock ∧ some k_ ≠ (.slice Ao35 t480.length co35 : Value).ownBlock ∧ some k_ ≠ (.slice Ao38 t454.length co38 : Value).ownBlock ∧ some k_ ≠ (.slice Ao43 t457.length co43 : Value).ownBlock ∧ some k_ ≠ (.slice Ao44 t460.length co44 : Value).ownBlock) (Kd.R_keptB (HO_444000.out) hkp (fun k_ hk_ hs_ => Or.elim hs_ (fun e_ => (hk_.2.2.2.2.2.1) e_) (fun e_ => Or.elim e_ (fun e_ => (hk_.2.2.2.2.2.2.1) e_) (fun e_ => (hk_.2.2.2.2.2.2.2) e_)))) (fun k_ hk_ => ⟨hk_.1.1, hk_.1.2.1, hk_.1.2.2.1, hk_.1.2.2.2.1, hk_.1.2.2.2.2.1, hk_.1.2.2.2.2.2.1, hk_.1.2.2.2.2.2.2.1, hk_.1.2.2.2.2.2.2.2⟩)); have n1_ := Aside0.mk (Kd.R_mono (ok' := fun k_ => some k_ ≠ (.slice Ao22 t432.length co22 : Value).ownBlock ∧ some k_ ≠ (.slice Ao26 t438.length co26 : Value).ownBlock ∧ some k_ ≠ (.slice Ao30 t478.length co30 : Value).ownBlock ∧ some k_ ≠ (.slice Ao34 t479.length co34 : Value).ownBlock ∧ some k_ ≠ (.slice Ao35 t480.length co35 : Value).ownBlock ∧ some k_ ≠ (.slice Ao38 t454.length co38 : Value).ownBlock ∧ some k_ ≠ (.slice Ao43 t457.length co43 : Value).ownBlock ∧ some k_ ≠ (.slice Ao44 t460.length co44 : Value).ownBlock) (Kd.R_keptB (HO_444001.out) hkp (fun k_ hk_ hs_ => Or.elim hs_ (fun e_ => (hk_.2.2.2.2.2.1) e_) (fun e_ => Or.elim e_ (fun e_ => (hk_.2.2.2.2.2.2.1) e_) (fun e_ => (hk_.2.2.2.2.2.2.2) e_)))) (fun k_ hk_ => ⟨hk_.1.1, hk_.1.2.1, hk_.1.2.2.1, hk_.1.2.2.2.1, hk_.1.2.2.2.2.1, hk_.1.2.2.2.2.2.1, hk_.1.2.2.2.2.2.2.1, hk_.1.2.2.2.2.2.2.2⟩)); have n2_ := Aside0.mk (Kd.R_mono (ok' := fun k_ => some k_ ≠ (.slice Ao22 t432.length co22 : Value).ownBlock ∧ some k_ ≠ (.slice Ao25 t435.length co25 : Value).ownBlock ∧ some k_ ≠ (.slice Ao30 t478.length co30 : Value).ownBlock ∧ some k_ ≠ (.slice Ao34 t479.length co34 : Value).ownBlock ∧ some k_ ≠ (.slice Ao35 t480.length co35 : Value).ownBlock ∧ some k_ ≠ (.slice Ao38 t454.length co38 : Value).ownBlock ∧ some k_ ≠ (.slice Ao43 t457.length co43 : Value).ownBlock ∧ some k_ ≠ (.slice Ao44 t460.length co44 : Value).ownBlock) (Kd.R_keptB (HO_444002.out) hkp (fun k_ hk_ hs_ => Or.elim hs_ (fun e_ => (hk_.2.2.2.2.2.1) e_) (fun e_ => Or.elim e_ (fun e_ => (hk_.2.2.2.2.2.2.1) e_) (fun e_ => (hk_.2.2.2.2.2.2.2) e_)))) (fun k_ hk_ => ⟨hk_.1.1, hk_.1.2.1, hk_.1.2.2.1, hk_.1.2.2.2.1, hk_.1.2.2.2.2.1, hk_.1.2.2.2.2.2.1, hk_.1.2.2.2.2.2.2.1, hk_.1.2.2.2.2.2.2.2⟩)); have n3_ := Aside0.mk (Kd.R_mono (ok' := fun k_ => some k_ ≠ (.slice Ao22 t432.length co22 : Value).ownBlock ∧ some k_ ≠ (.slice Ao25 t435.length co25 : Value).ownBlock ∧ some k_ ≠ (.slice Ao26 t438.length co26 : Value).ownBlock ∧ some k_ ≠ (.slice Ao34 t479.length co34 : Value).ownBlock ∧ some k_ ≠ (.slice Ao35 t480.length co35 : Value).ownBlock ∧ some k_ ≠ (.slice Ao38 t454.length co38 : Value).ownBlock ∧ some k_ ≠ (.slice Ao43 t457.length co43 : Value).ownBlock ∧ some k_ ≠ (.slice Ao44 t460.length co44 : Value).ownBlock) (Kd.R_keptB (HO_454000.out) hkp (fun k_ hk_ hs_ => Or.elim hs_ (fun e_ => (hk_.2.2.2.2.2.1) e_) (fun e_ => Or.elim e_ (fun e_ => (hk_.2.2.2.2.2.2.1) e_) (fun e_ => (hk_.2.2.2.2.2.2.2) e_)))) (fun k_ hk_ => ⟨hk_.1.1, hk_.1.2.1, hk_.1.2.2.1, hk_.1.2.2.2.1, hk_.1.2.2.2.2.1, hk_.1.2.2.2.2.2.1, hk_.1.2.2.2.2.2.2.1, hk_.1.2.2.2.2.2.2.2⟩)); have n4_ := Aside0.mk (Kd.R_mono (ok' := fun k_ => some k_ ≠ (.slice Ao22 t432.length co22 : Value).ownBlock ∧ some k_ ≠ (.slice Ao25 t435.length co25 : Value).ownBlock ∧ some k_ ≠ (.slice Ao26 t438.length co26 : Value).ownBlock ∧ some k_ ≠ (.slice Ao30 t478.length co30 : Value).ownBlock ∧ some k_ ≠ (.slice Ao35 t480.length co35 : Value).ownBlock ∧ some k_ ≠ (.slice Ao38 t454.length co38 : Value).ownBlock ∧ some k_ ≠ (.slice Ao43 t457.length co43 : Value).ownBlock ∧ some k_ ≠ (.slice Ao44 t460.length co44 : Value).ownBlock) (Kd.R_keptB (HO_454001.out) hkp (fun k_ hk_ hs_ => Or.elim hs_ (fun e_ => (hk_.2.2.2.2.2.1) e_) (fun e_ => Or.elim e_ (fun e_ => (hk_.2.2.2.2.2.2.1) e_) (fun e_ => (hk_.2.2.2.2.2.2.2) e_)))) (fun k_ hk_ => ⟨hk_.1.1, hk_.1.2.1, hk_.1.2.2.1, hk_.1.2.2.2.1, hk_.1.2.2.2.2.1, hk_.1.2.2.2.2.2.1, hk_.1.2.2.2.2.2.2.1, hk_.1.2.2.2.2.2.2.2⟩)); have n5_ := Aside0.mk (Kd.R_mono (ok' := fun k_ => some k_ ≠ (.slice Ao22 t432.length co22 : Value).ownBlock ∧ some k_ ≠ (.slice Ao25 t435.length co25 : Value).ownBlock ∧ some k_ ≠ (.slice Ao26 t438.length co26 : Value).ownBlock ∧ some k_ ≠ (.slice Ao30 t478.length co30 : Value).ownBlock ∧ some k_ ≠ (.slice Ao34 t479.length co34 : Value).ownBlock ∧ some k_ ≠ (.slice Ao38 t454.length co38 : Value).ownBlock ∧ some k_ ≠ (.slice Ao43 t457.length co43 : Value).ownBlock ∧ some k_ ≠ (.slice Ao44 t460.length co44 : Value).ownBlock) (Kd.R_keptB (HO_454002.out) hkp (fun k_ hk_ hs_ => Or.elim hs_ (fun e_ => (hk_.2.2.2.2.2.1) e_) (fun e_ => Or.elim e_ (fun e_ => (hk_.2.2.2.2.2.2.1) e_) (fun e_ => (hk_.2.2.2.2.2.2.2) e_)))) (fun k_ hk_ => ⟨hk_.1.1, hk_.1.2.1, hk_.1.2.2.1, hk_.1.2.2.2.1, hk_.1.2.2.2.2.1, hk_.1.2.2.2.2.2.1, hk_.1.2.2.2.2.2.2.1, hk_.1.2.2.2.2.2.2.2⟩)); have n6_ := Aside0.mk (Kd.R_reok rfl hy0 (fun k_ e_ => HO_466000.out.1 k_ e_)); have n7_ := Aside0.mk (Kd.R_reok rfl hy1 (fun k_ e_ => HO_466001.out.1 k_ e_)); have n8_ := Aside0.mk (Kd.R_reok rfl hy2 (fun k_ e_ => HO_466002.out.1 k_ e_)); have n9_ := Aside0.mk (blk_kept (kX BK421.out) hkp (fun hs_ => Or.elim hs_ (fun e_ => (fun e_ => (Kd.R_ne HO_466000.out BK421.out (by decide)) e_) e_) (fun e_ => Or.elim e_ (fun e_ => (fun e_ => (Kd.R_ne HO_466001.out BK421.out (by decide)) e_) e_) (fun e_ => (fun e_ => (Kd.R_ne HO_466002.out BK421.out (by decide)) e_) e_)))); have n10_ := Aside0.mk (blk_kept (kX BK443.out) hkp (fun hs_ => Or.elim hs_ (fun e_ => (fun e_ => (Kd.R_ne HO_466000.out BK443.out (by decide)) e_) e_) (fun e_ => Or.elim e_ (fun e_ => (fun e_ => (Kd.R_ne HO_466001.out BK443.out (by decide)) e_) e_) (fun e_ => (fun e_ => (Kd.R_ne HO_466002.out BK443.out (by decide)) e_) e_)))); have n11_ := Aside0.mk (blk_kept (kX BK453.out) hkp (fun hs_ => Or.elim hs_ (fun e_ => (fun e_ => (Kd.R_ne HO_466000.out BK453.out (by decide)) e_) e_) (fun e_ => Or.elim e_ (fun e_ => (fun e_ => (Kd.R_ne HO_466001.out BK453.out (by decide)) e_) e_) (fun e_ => (fun e_ => (Kd.R_ne HO_466002.out BK453.out (by decide)) e_) e_)))); have n12_ := Aside0.mk (blk_kept (kX BK465.out) hkp (fun hs_ => Or.elim hs_ (fun e_ => (fun e_ => (Kd.R_ne HO_466000.out BK465.out (by decide)) e_) e_) (fun e_ => Or.elim e_ (fun e_ => (fun e_ => (Kd.R_ne HO_466001.out BK465.out (by decide)) e_) e_) (fun e_ => (fun e_ => (Kd.R_ne HO_466002.out BK465.out (by decide)) e_) e_)))); have n13_ := Aside0.mk (hb); clear HO_444000 HO_444001 HO_444002 HO_454000 HO_454001 HO_454002 HO_466000 HO_466001 HO_466002 BK421 BK443 BK453 BK465 HB; have HO_444000 := n0_; have HO_444001 := n1_; have HO_444002 := n2_; have HO_454000 := n3_; have HO_454001 := n4_; have HO_454002 := n5_; have HO_466000 := n6_; have HO_466001 := n7_; have HO_466002 := n8_; have BK421 := n9_; have BK443 := n10_; have BK453 := n11_; have BK465 := n12_; have HB := n13_; clear n0_ n1_ n2_ n3_ n4_ n5_ n6_ n7_ n8_ n9_ n10_ n11_ n12_ n13_; (try clear hb); (try clear hkp); (try clear hy0); (try clear hy1); (try clear hy2); have hcz130_0 := cz30 BK465.out; have hcz130_1 := cz31 BK465.out; have hcz130_2 := cz32 BK465.out; have hfz130_0 := blk_frozen BK465.out 0; have hfz130_1 := blk_frozen BK465.out 1; have hfz130_2 := blk_frozen BK465.out 2) | ((with_reducible refine gate_callee (f := 12) rfl ?_); refine goesL_ (some 82) rfl rfl Try.func12 (by kernel_rfl) rfl #[.agg #[.slice Ao38 t483.length co38, .slice Ao43 t484.length co43, .slice Ao44 t485.length co44], .int .i64 1] rfl (by (try simp only [List.map_toArray, List.map_cons, List.map_nil]); first | done | (rw [show t483.length = t454.length from (Kd.R_reads' HO_466000.out).1.symm, show t484.length = t457.length from (Kd.R_reads' HO_466001.out).1.symm, show t485.length = t460.length from (Kd.R_reads' HO_466002.out).1.symm] <;> rfl) | rfl | (simp only [List.length_drop, List.length_take]; rfl)) ?_; (with_reducible refine (laws_heldExchange.calls kj76 _ _ t483 _ _ t484 _ _ t485 1 t486 _ ?side1 ?side2 ?side3 ?side4 ?side5 ?side6 A119.out).mono ?_); (case side1 => exact cX (Kd.R_reads' HO_466000.out).2.2); (case side2 => rw [show t483.length = t454.length from (Kd.R_reads' HO_466000.out).1.symm]; exact (Kd.R_reads' HO_466000.out).2.1); (case side3 => exact cX (Kd.R_reads' HO_466001.out).2.2); (case side4 => rw [show t484.length = t457.length from (Kd.R_reads' HO_466001.out).1.symm]; exact (Kd.R_reads' HO_466001.out).2.1); (case side5 => exact cX (Kd.R_reads' HO_466002.out).2.2); (case side6 => rw [show t485.length = t460.length from (Kd.R_reads' HO_466002.out).1.symm]; exact (Kd.R_reads' HO_466002.out).2.1); rintro e w131 ⟨rfl, hb⟩; refine ⟨_, rfl, ?_⟩; have n0_ := Aside0.mk (Kd.R_below (rX HO_444000.out) hb); have n1_ := Aside0.mk (Kd.R_below (rX HO_444001.out) hb); have n2_ := Aside0.mk (Kd.R_below (rX HO_444002.out) hb); have n3_ := Aside0.mk (Kd.R_below (rX HO_454000.out) hb); have n4_ := Aside0.mk (Kd.R_below (rX HO_454001.out) hb); have n5_ := Aside0.mk (Kd.R_below (rX HO_454002.out) hb); have n6_ := Aside0.mk (Kd.R_below (rX HO_466000.out) hb); have n7_ := Aside0.mk (Kd.R_below (rX HO_466001.out) hb); have n8_ := Aside0.mk (Kd.R_below (rX HO_466002.out) hb); have n9_ := Aside0.mk (bbX BK421.out hb); have n10_ := Aside0.mk (bbX BK443.out hb); have n11_ := Aside0.mk (bbX BK453.out hb); have n12_ := Aside0.mk (bbX BK465.out hb); have n13_ := Aside0.mk (below_step (by repeat (first | (with_reducible first | exact HB.out|apply bA|apply bN|apply bD | refine below_set ?_ GE421.out | refine below_set ?_ GE443.out | refine below_set ?_ GE453.out | refine below_set ?_ GE465.out) | exact HB.out)) hb); clear HO_444000 HO_444001 HO_444002 HO_454000 HO_454001 HO_454002 HO_466000 HO_466001 HO_466002 BK421 BK443 BK453 BK465 HB; have HO_444000 := n0_; have HO_444001 := n1_; have HO_444002 := n2_; have HO_454000 := n3_; have HO_454001 := n4_; have HO_454002 := n5_; have HO_466000 := n6_; have HO_466001 := n7_; have HO_466002 := n8_; have BK421 := n9_; have BK443 := n10_; have BK453 := n11_; have BK465 := n12_; have HB := n13_; clear n0_ n1_ n2_ n3_ n4_ n5_ n6_ n7_ n8_ n9_ n10_ n11_ n12_ n13_; (try clear hb); (try clear hb2); (try clear hk); (try clear hi); have hnb132 := NB421_443.out; have hnc132 := NB443_421.out; have hnb133 := NB421_453.out; have hnc133 := NB453_421.out; have hcz134_0 := cz30 BK421.out; have hcz134_1 := cz31 BK421.out; have hcz134_2 := cz32 BK421.out; have hfz134_0 := blk_frozen BK421.out 0; have hfz134_1 := blk_frozen BK421.out 1; have hfz134_2 := blk_frozen BK421.out 2) | ((with_reducible refine gate_callee (f := 8) rfl ?_); refine goesL_ (some 90) rfl rfl Try.func8 (by kernel_rfl) rfl #[.agg #[.slice A0_0 l0_0.length c0_0, .slice A0_1 l0_1.length c0_1, .slice A0_2 l0_2.length c0_2]] rfl aX ?_; (with_reducible refine (laws_toExchange.calls kj76 _ _ l0_0 _ _ l0_1 _ _ l0_2 t487 t490 t493 _ ?side1 ?side2 ?side3 ?side4 ?side5 ?side6 A122.out).mono ?_); (case side1 => exact cX (Kd.C_below HR0_0.out HB.out)); (case side2 => exact HC0_0.out); (case side3 => exact cX (Kd.C_below HR0_1.out HB.out)); (case side4 => exact HC0_1.out); (case side5 => exact cX (Kd.C_below HR0_2.out HB.out)); (case side6 => exact HC0_2.out); rintro e w135 ⟨v488, v491, v494, rfl, ho0, ho1, ho2, hb⟩; refine ⟨_, rfl, ?_⟩; have n0_ := Aside0.mk (Kd.R_mono (Kd.R_told (Kd.R_told (Kd.R_told (Kd.R_old (rX HO_444000.out) hb) (Kd.R_base ho0)) (Kd.R_base ho1)) (Kd.R_base ho2)) (fun _ h_ => h_.1)); have n1_ := Aside0.mk (Kd.R_mono (Kd.R_told (Kd.R_told (Kd.R_told (Kd.R_old (rX HO_444001.out) hb) (Kd.R_base ho0)) (Kd.R_base ho1)) (Kd.R_base ho2)) (fun _ h_ => h_.1)); have n2_ := Aside0.mk (Kd.R_mono (Kd.R_told (Kd.R_told (Kd.R_told (Kd.R_old (rX HO_444002.out) hb) (Kd.R_base ho0)) (Kd.R_base ho1)) (Kd.R_base ho2)) (fun _ h_ => h_.1)); have n3_ := Aside0.mk (Kd.R_mono (Kd.R_told (Kd.R_told (Kd.R_told (Kd.R_old (rX HO_454000.out) hb) (Kd.R_base ho0)) (Kd.R_base ho1)) (Kd.R_base ho2)) (fun _ h_ => h_.1)); have n4_ := Aside0.mk (Kd.R_mono (Kd.R_told (Kd.R_told (Kd.R_told (Kd.R_old (rX HO_454001.out) hb) (Kd.R_base ho0)) (Kd.R_base ho1)) (Kd.R_base ho2)) (fun _ h_ => h_.1)); have n5_ := Aside0.mk (Kd.R_mono (Kd.R_told (Kd.R_told (Kd.R_told (Kd.R_old (rX HO_454002.out) hb) (Kd.R_base ho0)) (Kd.R_base ho1)) (Kd.R_base ho2)) (fun _ h_ => h_.1)); have n6_ := Aside0.mk (Kd.R_mono (Kd.R_told (Kd.R_told (Kd.R_told (Kd.R_old (rX HO_466000.out) hb) (Kd.R_base ho0)) (Kd.R_base ho1)) (Kd.R_base ho2)) (fun _ h_ => h_.1)); have n7_ := Aside0.mk (Kd.R_mono (Kd.R_told (Kd.R_told (Kd.R_told (Kd.R_old (rX HO_466001.out) hb) (Kd.R_base ho0)) (Kd.R_base ho1)) (Kd.R_base ho2)) (fun _ h_ => h_.1)); have n8_ := Aside0.mk (Kd.R_mono (Kd.R_told (Kd.R_told (Kd.R_told (Kd.R_old (rX HO_466002.out) hb) (Kd.R_base ho0)) (Kd.R_base ho1)) (Kd.R_base ho2)) (fun _ h_ => h_.1)); have n9_ := Aside0.mk (Kd.R_lower (Kd.R_new' (Kd.R_new' (Kd.R_new' (Kd.R_new' (Kd.R_new' (Kd.R_new' (Kd.R_new' (Kd.R_new' (Kd.R_new' ho0 (Kd.R_lt (rX HO_444000.out))) (Kd.R_lt (rX HO_444001.out))) (Kd.R_lt (rX HO_444002.out))) (Kd.R_lt (rX HO_454000.out))) (Kd.R_lt (rX HO_454001.out))) (Kd.R_lt (rX HO_454002.out))) (Kd.R_lt (rX HO_466000.out))) (Kd.R_lt (rX HO_466001.out))) (Kd.R_lt (rX HO_466002.out))) (below_size (by repeat (first | (with_reducible first | exact HB.out|apply bA|apply bN|apply bD | refine below_set ?_ GE421.out | refine below_set ?_ GE443.out | refine below_set ?_ GE453.out | refine below_set ?_ GE465.out) | exact HB.out)))); have n10_ := Aside0.mk (Kd.R_lower (Kd.R_new' (Kd.R_new' (Kd.R_new' (Kd.R_new' (Kd.R_new' (Kd.R_new' (Kd.R_new' (Kd.R_new' (Kd.R_new' ho1 (Kd.R_lt (rX HO_444000.out))) (Kd.R_lt (rX HO_444001.out))) (Kd.R_lt (rX HO_444002.out))) (Kd.R_lt (rX HO_454000.out))) (Kd.R_lt (rX HO_454001.out))) (Kd.R_lt (rX HO_454002.out))) (Kd.R_lt (rX HO_466000.out))) (Kd.R_lt (rX HO_466001.out))) (Kd.R_lt (rX HO_466002.out))) (below_size (by repeat (first | (with_reducible first | exact HB.out|apply bA|apply bN|apply bD | refine below_set ?_ GE421.out | refine below_set ?_ GE443.out | refine below_set ?_ GE453.out | refine below_set ?_ GE465.out) | exact HB.out)))); have n11_ := Aside0.mk (Kd.R_lower (Kd.R_new' (Kd.R_new' (Kd.R_new' (Kd.R_new' (Kd.R_new' (Kd.R_new' (Kd.R_new' (Kd.R_new' (Kd.R_new' ho2 (Kd.R_lt (rX HO_444000.out))) (Kd.R_lt (rX HO_444001.out))) (Kd.R_lt (rX HO_444002.out))) (Kd.R_lt (rX HO_454000.out))) (Kd.R_lt (rX HO_454001.out))) (Kd.R_lt (rX HO_454002.out))) (Kd.R_lt (rX HO_466000.out))) (Kd.R_lt (rX HO_466001.out))) (Kd.R_lt (rX HO_466002.out))) (below_size (by repeat (first | (with_reducible first | exact HB.out|apply bA|apply bN|apply bD | refine below_set ?_ GE421.out | refine below_set ?_ GE443.out | refine below_set ?_ GE453.out | refine below_set ?_ GE465.out) | exact HB.out)))); have n12_ := Aside0.mk (bbX BK421.out hb); have n13_ := Aside0.mk (bbX BK443.out hb); have n14_ := Aside0.mk (bbX BK453.out hb); have n15_ := Aside0.mk (bbX BK465.out hb); have n16_ := Aside0.mk (below_step (by repeat (first | (with_reducible first | exact HB.out|apply bA|apply bN|apply bD | refine below_set ?_ GE421.out | refine below_set ?_ GE443.out | refine below_set ?_ GE453.out | refine below_set ?_ GE465.out) | exact HB.out)) hb); clear HO_444000 HO_444001 HO_444002 HO_454000 HO_454001 HO_454002 HO_466000 HO_466001 HO_466002 BK421 BK443 BK453 BK465 HB; have HO_444000 := n0_; have HO_444001 := n1_; have HO_444002 := n2_; have HO_454000 := n3_; have HO_454001 := n4_; have HO_454002 := n5_; have HO_466000 := n6_; have HO_466001 := n7_; have HO_466002 := n8_; have HO489 := n9_; have HO492 := n10_; have HO495 := n11_; have BK421 := n12_; have BK443 := n13_; have BK453 := n14_; have BK465 := n15_; have HB := n16_; clear n0_ n1_ n2_ n3_ n4_ n5_ n6_ n7_ n8_ n9_ n10_ n11_ n12_ n13_ n14_ n15_ n16_; (try clear hb); (try clear hb2); (try clear hk); (try clear hi); (try clear ho0); (try clear ho1); (try clear ho2); obtain ⟨Ao136, co136, eo136⟩ := Kd.R_slice HO489.out; subst eo136; obtain ⟨Ao137, co137, eo137⟩ := Kd.R_slice HO492.out; subst eo137; obtain ⟨Ao138, co138, eo138⟩ := Kd.R_slice HO495.out; subst eo138) | ((with_reducible refine gate_callee (f := 14) rfl ?_); refine goesL_ (some 91) rfl rfl Try.func14 (by kernel_rfl) rfl #[.agg #[.slice Ao136 t487.length co136, .slice Ao137 t490.length co137, .slice Ao138 t493.length co138]] rfl aX ?_; (with_reducible refine (impl_InduceAll.calls kj76 _ _ t487 _ _ t490 _ _ t493 t496 t499 t502 t505 t506 _ ?side1 ?side2 ?side3 ?side4 ?side5 ?side6 A123.out).mono ?_); (case side1 => exact cX (Kd.R_reads' HO489.out).2.2); (case side2 => exact (Kd.R_reads' HO489.out).2.1); (case side3 => exact cX (Kd.R_reads' HO492.out).2.2); (case side4 => exact (Kd.R_reads' HO492.out).2.1); (case side5 => exact cX (Kd.R_reads' HO495.out).2.2); (case side6 => exact (Kd.R_reads' HO495.out).2.1); rintro e w139 ⟨v497, v500, v503, rfl, ho0, ho1, ho2, hb⟩; refine ⟨_, rfl, ?_⟩; have n0_ := Aside0.mk (Kd.R_mono (Kd.R_told (Kd.R_told (Kd.R_told (Kd.R_old (rX HO_444000.out) hb) (Kd.R_base ho0)) (Kd.R_base ho1)) (Kd.R_base ho2)) (fun _ h_ => h_.1)); have n1_ := Aside0.mk (Kd.R_mono (Kd.R_told (Kd.R_told (Kd.R_told (Kd.R_old (rX HO_444001.out) hb) (Kd.R_base ho0)) (Kd.R_base ho1)) (Kd.R_base ho2)) (fun _ h_ => h_.1)); have n2_ := Aside0.mk (Kd.R_mono (Kd.R_told (Kd.R_told (Kd.R_told (Kd.R_old (rX HO_444002.out) hb) (Kd.R_base ho0)) (Kd.R_base ho1)) (Kd.R_base ho2)) (fun _ h_ => h_.1)); have n3_ := Aside0.mk (Kd.R_mono (Kd.R_told (Kd.R_told (Kd.R_told (Kd.R_old (rX HO_454000.out) hb) (Kd.R_base ho0)) (Kd.R_base ho1)) (Kd.R_base ho2)) (fun _ h_ => h_.1)); have n4_ := Aside0.mk (Kd.R_mono (Kd.R_told (Kd.R_told (Kd.R_told (Kd.R_old (rX HO_454001.out) hb) (Kd.R_base ho0)) (Kd.R_base ho1)) (Kd.R_base ho2)) (fun _ h_ => h_.1)); have n5_ := Aside0.mk (Kd.R_mono (Kd.R_told (Kd.R_told (Kd.R_told (Kd.R_old (rX HO_454002.out) hb) (Kd.R_base ho0)) (Kd.R_base ho1)) (Kd.R_base ho2)) (fun _ h_ => h_.1)); have n6_ := Aside0.mk (Kd.R_mono (Kd.R_told (Kd.R_told (Kd.R_told (Kd.R_old (rX HO_466000.out) hb) (Kd.R_base ho0)) (Kd.R_base ho1)) (Kd.R_base ho2)) (fun _ h_ => h_.1)); have n7_ := Aside0.mk (Kd.R_mono (Kd.R_told (Kd.R_told (Kd.R_told (Kd.R_old (rX HO_466001.out) hb) (Kd.R_base ho0)) (Kd.R_base ho1)) (Kd.R_base ho2)) (fun _ h_ => h_.1)); have n8_ := Aside0.mk (Kd.R_mono (Kd.R_told (Kd.R_told (Kd.R_told (Kd.R_old (rX HO_466002.out) hb) (Kd.R_base ho0)) (Kd.R_base ho1)) (Kd.R_base ho2)) (fun _ h_ => h_.1)); have n9_ := Aside0.mk (Kd.R_mono (Kd.R_told (Kd.R_told (Kd.R_told (Kd.R_old (rX HO489.out) hb) (Kd.R_base ho0)) (Kd.R_base ho1)) (Kd.R_base ho2)) (fun _ h_ => h_.1)); have n10_ := Aside0.mk (Kd.R_mono (Kd.R_told (Kd.R_told (Kd.R_told (Kd.R_old (rX HO492.out) hb) (Kd.R_base ho0)) (Kd.R_base ho1)) (Kd.R_base ho2)) (fun _ h_ => h_.1)); have n11_ := Aside0.mk (Kd.R_mono (Kd.R_told (Kd.R_told (Kd.R_told (Kd.R_old (rX HO495.out) hb) (Kd.R_base ho0)) (Kd.R_base ho1)) (Kd.R_base ho2)) (fun _ h_ => h_.1)); have n12_ := Aside0.mk (Kd.R_lower (Kd.R_new' (Kd.R_new' (Kd.R_new' (Kd.R_new' (Kd.R_new' (Kd.R_new' (Kd.R_new' (Kd.R_new' (Kd.R_new' (Kd.R_new' (Kd.R_new' (Kd.R_new' ho0 (Kd.R_lt (rX HO_444000.out))) (Kd.R_lt (rX HO_444001.out))) (Kd.R_lt (rX HO_444002.out))) (Kd.R_lt (rX HO_454000.out))) (Kd.R_lt (rX HO_454001.out))) (Kd.R_lt (rX HO_454002.out))) (Kd.R_lt (rX HO_466000.out))) (Kd.R_lt (rX HO_466001.out))) (Kd.R_lt (rX HO_466002.out))) (Kd.R_lt (rX HO489.out))) (Kd.R_lt (rX HO492.out))) (Kd.R_lt (rX HO495.out))) (below_size (by repeat (first | (with_reducible first | exact HB.out|apply bA|apply bN|apply bD | refine below_set ?_ GE421.out | refine below_set ?_ GE443.out | refine below_set ?_ GE453.out | refine below_set ?_ GE465.out) | exact HB.out)))); have n13_ := Aside0.mk (Kd.R_lower (Kd.R_new' (Kd.R_new' (Kd.R_new' (Kd.R_new' (Kd.R_new' (Kd.R_new' (Kd.R_new' (Kd.R_new' (Kd.R_new' (Kd.R_new' (Kd.R_new' (Kd.R_new' ho1 (Kd.R_lt (rX HO_444000.out))) (Kd.R_lt (rX HO_444001.out))) (Kd.R_lt (rX HO_444002.out))) (Kd.R_lt (rX HO_454000.out))) (Kd.R_lt (rX HO_454001.out))) (Kd.R_lt (rX HO_454002.out))) (Kd.R_lt (rX HO_466000.out))) (Kd.R_lt (rX HO_466001.out))) (Kd.R_lt (rX HO_466002.out))) (Kd.R_lt (rX HO489.out))) (Kd.R_lt (rX HO492.out))) (Kd.R_lt (rX HO495.out))) (below_size (by repeat (first | (with_reducible first | exact HB.out|apply bA|apply bN|apply bD | refine below_set ?_ GE421.out | refine below_set ?_ GE443.out | refine below_set ?_ GE453.out | refine below_set ?_ GE465.out) | exact HB.out)))); have n14_ := Aside0.mk (Kd.R_lower (Kd.R_new' (Kd.R_new' (Kd.R_new' (Kd.R_new' (Kd.R_new' (Kd.R_new' (Kd.R_new' (Kd.R_new' (Kd.R_new' (Kd.R_new' (Kd.R_new' (Kd.R_new' ho2 (Kd.R_lt (rX HO_444000.out))) (Kd.R_lt (rX HO_444001.out))) (Kd.R_lt (rX HO_444002.out))) (Kd.R_lt (rX HO_454000.out))) (Kd.R_lt (rX HO_454001.out))) (Kd.R_lt (rX HO_454002.out))) (Kd.R_lt (rX HO_466000.out))) (Kd.R_lt (rX HO_466001.out))) (Kd.R_lt (rX HO_466002.out))) (Kd.R_lt (rX HO489.out))) (Kd.R_lt (rX HO492.out))) (Kd.R_lt (rX HO495.out))) (below_size (by repeat (first | (with_reducible first | exact HB.out|apply bA|apply bN|apply bD | refine below_set ?_ GE421.out | refine below_set ?_ GE443.out | refine below_set ?_ GE453.out | refine below_set ?_ GE465.out) | exact HB.out)))); have n15_ := Aside0.mk (bbX BK421.out hb); have n16_ := Aside0.mk (bbX BK443.out hb); have n17_ := Aside0.mk (bbX BK453.out hb); have n18_ := Aside0.mk (bbX BK465.out hb); have n19_ := Aside0.mk (below_step (by repeat (first | (with_reducible first | exact HB.out|apply bA|apply bN|apply bD | refine below_set ?_ GE421.out | refine below_set ?_ GE443.out | refine below_set ?_ GE453.out | refine below_set ?_ GE465.out) | exact HB.out)) hb); clear HO_444000 HO_444001 HO_444002 HO_454000 HO_454001 HO_454002 HO_466000 HO_466001 HO_466002 HO489 HO492 HO495 BK421 BK443 BK453 BK465 HB; have HO_444000 := n0_; have HO_444001 := n1_; have HO_444002 := n2_; have HO_454000 := n3_; have HO_454001 := n4_; have HO_454002 := n5_; have HO_466000 := n6_; have HO_466001 := n7_; have HO_466002 := n8_; have HO489 := n9_; have HO492 := n10_; have HO495 := n11_; have HO498 := n12_; have HO501 := n13_; have HO504 := n14_; have BK421 := n15_; have BK443 := n16_; have BK453 := n17_; have BK465 := n18_; have HB := n19_; clear n0_ n1_ n2_ n3_ n4_ n5_ n6_ n7_ n8_ n9_ n10_ n11_ n12_ n13_ n14_ n15_ n16_ n17_ n18_ n19_; (try clear hb); (try clear hb2); (try clear hk); (try clear hi); (try clear ho0); (try clear ho1); (try clear ho2)) | ((with_reducible refine gate_dst (N := 14) rfl ?_); refine box_event ?hg (N := 14) ?hd (cs := #[.slice none 0 0, .slice none 0 0, .slice none 0 0]) (t := 26) ?hr ?_; (case hd => rfl); (case hg => rfl); (case hr => first | (go_simp; done) | (go_simp; rfl)); intro gb507 hg w140 hbox hb; have n0_ := Aside0.mk (Kd.R_below (rX HO_444000.out) hb); have n1_ := Aside0.mk (Kd.R_below (rX HO_444001.out) hb); have n2_ := Aside0.mk (Kd.R_below (rX HO_444002.out) hb); have n3_ := Aside0.mk (Kd.R_below (rX HO_454000.out) hb); have n4_ := Aside0.mk (Kd.R_below (rX HO_454001.out) hb); have n5_ := Aside0.mk (Kd.R_below (rX HO_454002.out) hb); have n6_ := Aside0.mk (Kd.R_below (rX HO_466000.out) hb); have n7_ := Aside0.mk (Kd.R_below (rX HO_466001.out) hb); have n8_ := Aside0.mk (Kd.R_below (rX HO_466002.out) hb); have n9_ := Aside0.mk (Kd.R_below (rX HO489.out) hb); have n10_ := Aside0.mk (Kd.R_below (rX HO492.out) hb); have n11_ := Aside0.mk (Kd.R_below (rX HO495.out) hb); have n12_ := Aside0.mk (Kd.R_below (rX HO498.out) hb); have n13_ := Aside0.mk (Kd.R_below (rX HO501.out) hb); have n14_ := Aside0.mk (Kd.R_below (rX HO504.out) hb); have n15_ := Aside0.mk (bbX BK421.out hb); have n16_ := Aside0.mk (bbX BK443.out hb); have n17_ := Aside0.mk (bbX BK453.out hb); have n18_ := Aside0.mk (bbX BK465.out hb); have n19_ := Aside0.mk (below_step (by repeat (first | (with_reducible first | exact HB.out|apply bA|apply bN|apply bD | refine below_set ?_ GE421.out | refine below_set ?_ GE443.out | refine below_set ?_ GE453.out | refine below_set ?_ GE465.out) | exact HB.out)) hb); have n20_ := Aside0.mk (hbox); have n21_ := Aside0.mk ((by rw [hg]; exact (below_size (by repeat (first | (with_reducible first | exact HB.out|apply bA|apply bN|apply bD | refine below_set ?_ GE421.out | refine below_set ?_ GE443.out | refine below_set ?_ GE453.out | refine below_set ?_ GE465.out) | exact HB.out))) : w.heap.size ≤ gb507)); have n22_ := Aside0.mk ((by rw [hg]; exact (below_size (by repeat (first | (with_reducible first | exact HB.out|apply bA|apply bN|apply bD | refine below_set ?_ GE421.out | refine below_set ?_ GE443.out | refine below_set ?_ GE453.out | refine below_set ?_ GE465.out) | exact HB.out))) : w.heap.size ≤ gb507)); have n23_ := Aside0.mk (neX BK421.out hg); have n24_ := Aside0.mk (nfX BK421.out hg); have n25_ := Aside0.mk (neX BK443.out hg); have n26_ := Aside0.mk (nfX BK443.out hg); have n27_ := Aside0.mk (neX BK453.out hg); have n28_ := Aside0.mk (nfX BK453.out hg); have n29_ := Aside0.mk (neX BK465.out hg); have n30_ := Aside0.mk (nfX BK465.out hg); clear HO_444000 HO_444001 HO_444002 HO_454000 HO_454001 HO_454002 HO_466000 HO_466001 HO_466002 HO489 HO492 HO495 HO498 HO501 HO504 BK421 BK443 BK453 BK465 HB; have HO_444000 := n0_; have HO_444001 := n1_; have HO_444002 := n2_; have HO_454000 := n3_; have HO_454001 := n4_; have HO_454002 := n5_; have HO_466000 := n6_; have HO_466001 := n7_; have HO_466002 := n8_; have HO489 := n9_; have HO492 := n10_; have HO495 := n11_; have HO498 := n12_; have HO501 := n13_; have HO504 := n14_; have BK421 := n15_; have BK443 := n16_; have BK453 := n17_; have BK465 := n18_; have HB := n19_; have BK507 := n20_; have GW507 := n21_; have GE507 := n22_; have NB421_507 := n23_; have NB507_421 := n24_; have NB443_507 := n25_; have NB507_443 := n26_; have NB453_507 := n27_; have NB507_453 := n28_; have NB465_507 := n29_; have NB507_465 := n30_; clear n0_ n1_ n2_ n3_ n4_ n5_ n6_ n7_ n8_ n9_ n10_ n11_ n12_ n13_ n14_ n15_ n16_ n17_ n18_ n19_ n20_ n21_ n22_ n23_ n24_ n25_ n26_ n27_ n28_ n29_ n30_ hb hbox hg; obtain ⟨Ao141, co141, eo141⟩ := Kd.R_slice HO498.out; subst eo141; have hnb142 := NB507_421.out; have hnc142 := NB421_507.out; have hnb143 := NB507_443.out; have hnc143 := NB443_507.out; have hnb144 := NB507_453.out; have hnc144 := NB453_507.out; have hnb145 := NB507_465.out; have hnc145 := NB465_507.out; have hcz146_0 := cz30 BK507.out; have hcz146_1 := cz31 BK507.out; have hcz146_2 := cz32 BK507.out; have hfz146_0 := blk_frozen BK507.out 0; have hfz146_1 := blk_frozen BK507.out 1; have hfz146_2 := blk_frozen BK507.out 2; obtain ⟨Ao147, co147, eo147⟩ := Kd.R_slice HO501.out; subst eo147; obtain ⟨Ao148, co148, eo148⟩ := Kd.R_slice HO504.out; subst eo148))
 (try simp only [Act.put, List.setIfInBounds_toArray, List.set_cons_zero, List.set_cons_succ])
 go_cut [108] (fun v108 wc => ∃ (kq : Nat) (x108_123 : Bool), v108 = .bool x108_123 ∧ Aside0 (laws_FnExactInduceAll.j2 kq t482 x108_123 t483 t484 t485 = some r) ∧ Aside0 (kq ≤ kj76) ∧ Aside0 (Kd.R (Kd.int .i64) 3 wc w.heap.size (fun k_ => some k_ ≠ ((.slice Ao25 t435.length co25) : Value).ownBlock ∧ some k_ ≠ ((.slice Ao26 t438.length co26) : Value).ownBlock ∧ some k_ ≠ ((.slice Ao30 t478.length co30) : Value).ownBlock ∧ some k_ ≠ ((.slice Ao34 t479.length co34) : Value).ownBlock ∧ some k_ ≠ ((.slice Ao35 t480.length co35) : Value).ownBlock ∧ some k_ ≠ ((.slice Ao38 t454.length co38) : Value).ownBlock ∧ some k_ ≠ ((.slice Ao43 t457.length co43) : Value).ownBlock ∧ some k_ ≠ ((.slice Ao44 t460.length co44) : Value).ownBlock ∧ some k_ ≠ ((.slice Ao141 t496.length co141) : Value).ownBlock ∧ some k_ ≠ ((.slice Ao147 t499.length co147) : Value).ownBlock ∧ some k_ ≠ ((.slice Ao148 t502.length co148) : Value).ownBlock) (.slice Ao22 t432.length co22) t432) ∧ Aside0 (Kd.R (Kd.int .i64) 3 wc w.heap.size (fun k_ => some k_ ≠ ((.slice Ao22 t432.length co22) : Value).ownBlock ∧ some k_ ≠ ((.slice Ao26 t438.length co26) : Value).ownBlock ∧ some k_ ≠ ((.slice Ao30 t478.length co30) : Value).ownBlock ∧ some k_ ≠ ((.slice Ao34 t479.length co34) : Value).ownBlock ∧ some k_ ≠ ((.slice Ao35 t480.length co35) : Value).ownBlock ∧ some k_ ≠ ((.slice Ao38 t454.length co38) : Value).ownBlock ∧ some k_ ≠ ((.slice Ao43 t457.length co43) : Value).ownBlock ∧ some k_ ≠ ((.slice Ao44 t460.length co44) : Value).ownBlock ∧ some k_ ≠ ((.slice Ao141 t496.length co141) : Value).ownBlock ∧ some k_ ≠ ((.slice Ao147 t499.length co147) : Value).ownBlock ∧ some k_ ≠ ((.slice Ao148 t502.length co148) : Value).ownBlock) (.slice Ao25 t435.length co25) t435) ∧ Aside0 (Kd.R (Kd.int .i64) 3 wc w.heap.size (fun k_ => some k_ ≠ ((.slice Ao22 t432.length co22) : Value).ownBlock ∧ some k_ ≠ ((.slice Ao25 t435.length co25) : Value).ownBlock ∧ some k_ ≠ ((.slice Ao30 t478.length co30) : Value).ownBlock ∧ some k_ ≠ ((.slice Ao34 t479.length co34) : Value).ownBlock ∧ some k_ ≠ ((.slice Ao35 t480.length co35) : Value).ownBlock ∧ some k_ ≠ ((.slice Ao38 t454.length co38) : Value).ownBlock ∧ some k_ ≠ ((.slice Ao43 t457.length co43) : Value).ownBlock ∧ some k_ ≠ ((.slice Ao44 t460.length co44) : Value).ownBlock ∧ some k_ ≠ ((.slice Ao141 t496.length co141) : Value).ownBlock ∧ some k_ ≠ ((.slice Ao147 t499.length co147) : Value).ownBlock ∧ some k_ ≠ ((.slice Ao148 t502.length co148) : Value).ownBlock) (.slice Ao26 t438.length co26) t438) ∧ Aside0 (Kd.R (Kd.int .i64) 3 wc w.heap.size (fun k_ => some k_ ≠ ((.slice Ao22 t432.length co22) : Value).ownBlock ∧ some k_ ≠ ((.slice Ao25 t435.length co25) : Value).ownBlock ∧ some k_ ≠ ((.slice Ao26 t438.length co26) : Value).ownBlock ∧ some k_ ≠ ((.slice Ao34 t479.length co34) : Value).ownBlock ∧ some k_ ≠ ((.slice Ao35 t480.length co35) : Value).ownBlock ∧ some k_ ≠ ((.slice Ao38 t454.length co38) : Value).ownBlock ∧ some k_ ≠ ((.slice Ao43 t457.length co43) : Value).ownBlock ∧ some k_ ≠ ((.slice Ao44 t460.length co44) : Value).ownBlock ∧ some k_ ≠ ((.slice Ao141 t496.length co141) : Value).ownBlock ∧ some k_ ≠ ((.slice Ao147 t499.length co147) : Value).ownBlock ∧ some k_ ≠ ((.slice Ao148 t502.length co148) : Value).ownBlock) (.slice Ao30 t478.length co30) t478) ∧ Aside0 (Kd.R (Kd.int .i64) 3 wc w.heap.size (fun k_ => some k_ ≠ ((.slice Ao22 t432.length co22) : Value).ownBlock ∧ some k_ ≠ ((.slice Ao25 t435.length co25) : Value).ownBlock ∧ some k_ ≠ ((.slice Ao26 t438.length co26) : Value).ownBlock ∧ some k_ ≠ ((.slice Ao30 t478.length co30) : Value).ownBlock ∧ some k_ ≠ ((.slice Ao35 t480.length co35) : Value).ownBlock ∧ some k_ ≠ ((.slice Ao38 t454.length co38) : Value).ownBlock ∧ some k_ ≠ ((.slice Ao43 t457.length co43) : Value).ownBlock ∧ some k_ ≠ ((.slice Ao44 t460.length co44) : Value).ownBlock ∧ some k_ ≠ ((.slice Ao141 t496.length co141) : Value).ownBlock ∧ some k_ ≠ ((.slice Ao147 t499.length co147) : Value).ownBlock ∧ some k_ ≠ ((.slice Ao148 t502.length co148) : Value).ownBlock) (.slice Ao34 t479.length co34) t479) ∧ Aside0 (Kd.R (Kd.int .i64) 3 wc w.heap.size (fun k_ => some k_ ≠ ((.slice Ao22 t432.length co22) : Value).ownBlock ∧ some k_ ≠ ((.slice Ao25 t435.length co25) : Value).ownBlock ∧ some k_ ≠ ((.slice Ao26 t438.length co26) : Value).ownBlock ∧ some k_ ≠ ((.slice Ao30 t478.length co30) : Value).ownBlock ∧ some k_ ≠ ((.slice Ao34 t479.length co34) : Value).ownBlock ∧ some k_ ≠ ((.slice Ao38 t454.length co38) : Value).ownBlock ∧ some k_ ≠ ((.slice Ao43 t457.length co43) : Value).ownBlock ∧ some k_ ≠ ((.slice Ao44 t460.length co44) : Value).ownBlock ∧ some k_ ≠ ((.slice Ao141 t496.length co141) : Value).ownBlock ∧ some k_ ≠ ((.slice Ao147 t499.length co147) : Value).ownBlock ∧ some k_ ≠ ((.slice Ao148 t502.length co148) : Value).ownBlock) (.slice Ao35 t480.length co35) t480) ∧ Aside0 (Kd.R (Kd.int .i64) 3 wc w.heap.size (fun k_ => some k_ ≠ ((.slice Ao22 t432.length co22) : Value).ownBlock ∧ some k_ ≠ ((.slice Ao25 t435.length co25) : Value).ownBlock ∧ some k_ ≠ ((.slice Ao26 t438.length co26) : Value).ownBlock ∧ some k_ ≠ ((.slice Ao30 t478.length co30) : Value).ownBlock ∧ some k_ ≠ ((.slice Ao34 t479.length co34) : Value).ownBlock ∧ some k_ ≠ ((.slice Ao35 t480.length co35) : Value).ownBlock ∧ some k_ ≠ ((.slice Ao43 t457.length co43) : Value).ownBlock ∧ some k_ ≠ ((.slice Ao44 t460.length co44) : Value).ownBlock ∧ some k_ ≠ ((.slice Ao141 t496.length co141) : Value).ownBlock ∧ some k_ ≠ ((.slice Ao147 t499.length co147) : Value).ownBlock ∧ some k_ ≠ ((.slice Ao148 t502.length co148) : Value).ownBlock) (.slice Ao38 t454.length co38) t483) ∧ Aside0 (Kd.R (Kd.int .i64) 3 wc w.heap.size (fun k_ => some k_ ≠ ((.slice Ao22 t432.length co22) : Value).ownBlock ∧ some k_ ≠ ((.slice Ao25 t435.length co25) : Value).ownBlock ∧ some k_ ≠ ((.slice Ao26 t438.length co26) : Value).ownBlock ∧ some k_ ≠ ((.slice Ao30 t478.length co30) : Value).ownBlock ∧ some k_ ≠ ((.slice Ao34 t479.length co34) : Value).ownBlock ∧ some k_ ≠ ((.slice Ao35 t480.length co35) : Value).ownBlock ∧ some k_ ≠ ((.slice Ao38 t454.length co38) : Value).ownBlock ∧ some k_ ≠ ((.slice Ao44 t460.length co44) : Value).ownBlock ∧ some k_ ≠ ((.slice Ao141 t496.length co141) : Value).ownBlock ∧ some k_ ≠ ((.slice Ao147 t499.length co147) : Value).ownBlock ∧ some k_ ≠ ((.slice Ao148 t502.length co148) : Value).ownBlock) (.slice Ao43 t457.length co43) t484) ∧ Aside0 (Kd.R (Kd.int .i64) 3 wc w.heap.size (fun k_ => some k_ ≠ ((.slice Ao22 t432.length co22) : Value).ownBlock ∧ some k_ ≠ ((.slice Ao25 t435.length co25) : Value).ownBlock ∧ some k_ ≠ ((.slice Ao26 t438.length co26) : Value).ownBlock ∧ some k_ ≠ ((.slice Ao30 t478.length co30) : Value).ownBlock ∧ some k_ ≠ ((.slice Ao34 t479.length co34) : Value).ownBlock ∧ some k_ ≠ ((.slice Ao35 t480.length co35) : Value).ownBlock ∧ some k_ ≠ ((.slice Ao38 t454.length co38) : Value).ownBlock ∧ some k_ ≠ ((.slice Ao43 t457.length co43) : Value).ownBlock ∧ some k_ ≠ ((.slice Ao141 t496.length co141) : Value).ownBlock ∧ some k_ ≠ ((.slice Ao147 t499.length co147) : Value).ownBlock ∧ some k_ ≠ ((.slice Ao148 t502.length co148) : Value).ownBlock) (.slice Ao44 t460.length co44) t485) ∧ Aside0 (Kd.R (Kd.int .i64) 3 wc w.heap.size (fun k_ => some k_ ≠ ((.slice Ao22 t432.length co22) : Value).ownBlock ∧ some k_ ≠ ((.slice Ao25 t435.length co25) : Value).ownBlock ∧ some k_ ≠ ((.slice Ao26 t438.length co26) : Value).ownBlock ∧ some k_ ≠ ((.slice Ao30 t478.length co30) : Value).ownBlock ∧ some k_ ≠ ((.slice Ao34 t479.length co34) : Value).ownBlock ∧ some k_ ≠ ((.slice Ao35 t480.length co35) : Value).ownBlock ∧ some k_ ≠ ((.slice Ao38 t454.length co38) : Value).ownBlock ∧ some k_ ≠ ((.slice Ao43 t457.length co43) : Value).ownBlock ∧ some k_ ≠ ((.slice Ao44 t460.length co44) : Value).ownBlock ∧ some k_ ≠ ((.slice Ao147 t499.length co147) : Value).ownBlock ∧ some k_ ≠ ((.slice Ao148 t502.length co148) : Value).ownBlock) (.slice Ao141 t496.length co141) t496) ∧ Aside0 (Kd.R (Kd.int .i64) 3 wc w.heap.size (fun k_ => some k_ ≠ ((.slice Ao22 t432.length co22) : Value).ownBlock ∧ some k_ ≠ ((.slice Ao25 t435.length co25) : Value).ownBlock ∧ some k_ ≠ ((.slice Ao26 t438.length co26) : Value).ownBlock ∧ some k_ ≠ ((.slice Ao30 t478.length co30) : Value).ownBlock ∧ some k_ ≠ ((.slice Ao34 t479.length co34) : Value).ownBlock ∧ some k_ ≠ ((.slice Ao35 t480.length co35) : Value).ownBlock ∧ some k_ ≠ ((.slice Ao38 t454.length co38) : Value).ownBlock ∧ some k_ ≠ ((.slice Ao43 t457.length co43) : Value).ownBlock ∧ some k_ ≠ ((.slice Ao44 t460.length co44) : Value).ownBlock ∧ some k_ ≠ ((.slice Ao141 t496.length co141) : Value).ownBlock ∧ some k_ ≠ ((.slice Ao148 t502.length co148) : Value).ownBlock) (.slice Ao147 t499.length co147) t499) ∧ Aside0 (Kd.R (Kd.int .i64) 3 wc w.heap.size (fun k_ => some k_ ≠ ((.slice Ao22 t432.length co22) : Value).ownBlock ∧ some k_ ≠ ((.slice Ao25 t435.length co25) : Value).ownBlock ∧ some k_ ≠ ((.slice Ao26 t438.length co26) : Value).ownBlock ∧ some k_ ≠ ((.slice Ao30 t478.length co30) : Value).ownBlock ∧ some k_ ≠ ((.slice Ao34 t479.length co34) : Value).ownBlock ∧ some k_ ≠ ((.slice Ao35 t480.length co35) : Value).ownBlock ∧ some k_ ≠ ((.slice Ao38 t454.length co38) : Value).ownBlock ∧ some k_ ≠ ((.slice Ao43 t457.length co43) : Value).ownBlock ∧ some k_ ≠ ((.slice Ao44 t460.length co44) : Value).ownBlock ∧ some k_ ≠ ((.slice Ao141 t496.length co141) : Value).ownBlock ∧ some k_ ≠ ((.slice Ao147 t499.length co147) : Value).ownBlock) (.slice Ao148 t502.length co148) t502) ∧ Aside0 (wc.heap[gb421]? = some (.cells #[(.slice A0_0 l0_0.length c0_0), (.slice A0_1 l0_1.length c0_1), (.slice A0_2 l0_2.length c0_2)] 24 (0, 0))) ∧ Aside0 (wc.heap[gb443]? = some (.cells #[(.slice Ao22 t432.length co22), (.slice Ao25 t435.length co25), (.slice Ao26 t438.length co26)] 26 (0, 0))) ∧ Aside0 (wc.heap[gb453]? = some (.cells #[(.slice Ao30 t478.length co30), (.slice Ao34 t479.length co34), (.slice Ao35 t480.length co35)] 26 (0, 0))) ∧ Aside0 (wc.heap[gb465]? = some (.cells #[(.slice Ao38 t454.length co38), (.slice Ao43 t457.length co43), (.slice Ao44 t460.length co44)] 26 (0, 0))) ∧ Aside0 (wc.heap[gb507]? = some (.cells #[(.slice Ao141 t496.length co141), (.slice Ao147 t499.length co147), (.slice Ao148 t502.length co148)] 26 (0, 0))) ∧ Aside0 (Below w.heap.size w wc))
 case first =>
  have H := HC124.out
  clear HC124
  replace H := Option.bind_eq_some_iff.mp H
  obtain ⟨t508, A1490, H⟩ := H
  replace H : (if t508 = true then (if t505 = t441 then (laws_FnExactInduceAll.j2 kj76 t482 (t506 != t442) t483 t484 t485) else (laws_FnExactInduceAll.j2 kj76 t482 true t483 t484 t485)) else (laws_FnExactInduceAll.j2 kj76 t482 true t483 t484 t485)) = some r := H
  have A149 := Aside0.mk A1490
  clear A1490
  by_cases c150 : t508 = true
  {
  subst c150
  have H1 : (if t505 = t441 then (laws_FnExactInduceAll.j2 kj76 t482 (t506 != t442) t483 t484 t485) else (laws_FnExactInduceAll.j2 kj76 t482 true t483 t484 t485)) = some r := by rw [if_pos rfl] at H; exact H
  clear H
  have H := H1
  clear H1
  by_cases c151 : t505 = t441
  {
  rw [if_pos c151] at H
  have c151b0 : (t505 == t441) = true := beq_iff_eq.mpr c151
  have c151b1 : (t505 != t441) = false := bne_eq_false_iff_eq.mpr c151
  clear c151
  (first | rw [c151b0] | (simp only [i64_w, i32_w]; rw [c151b0]) | skip)
  have H' := Aside0.mk H
  clear H
  have hnb152 := NB507_421.out
  have hnc152 := NB421_507.out
  have hnb153 := NB507_443.out
  have hnc153 := NB443_507.out
  have hnb154 := NB507_453.out
  have hnc154 := NB453_507.out
  have hnb155 := NB507_465.out
  have hnc155 := NB465_507.out
  have hcz156_0 := cz30 BK507.out
  have hcz156_1 := cz31 BK507.out
  have hcz156_2 := cz32 BK507.out
  have hfz156_0 := blk_frozen BK507.out 0
  have hfz156_1 := blk_frozen BK507.out 1
  have hfz156_2 := blk_frozen BK507.out 2
  have hnb157 := NB443_421.out
  have hnc157 := NB421_443.out
  have hnb158 := NB443_453.out
  have hnc158 := NB453_443.out
  have hnb159 := NB443_465.out
  have hnc159 := NB465_443.out
  have hcz160_0 := cz30 BK443.out
  have hcz160_1 := cz31 BK443.out
  have hcz160_2 := cz32 BK443.out
  have hfz160_0 := blk_frozen BK443.out 0
  have hfz160_1 := blk_frozen BK443.out 1
  have hfz160_2 := blk_frozen BK443.out 2
  go_wp2_with (first | ((with_reducible refine gate_callee (f := 10) rfl ?_); refine goesL_ (some 97) rfl rfl Try.func10 (by kernel_rfl) rfl #[.agg #[.slice Ao141 t496.length co141, .slice Ao147 t499.length co147, .slice Ao148 t502.length co148], .agg #[.slice Ao22 t432.length co22, .slice Ao25 t435.length co25, .slice Ao26 t438.length co26]] rfl aX ?_; (with_reducible refine (laws_eqExchange.calls kj76 _ _ t496 _ _ t499 _ _ t502 _ _ t432 _ _ t435 _ _ t438 true _ ?side1 ?side2 ?side3 ?side4 ?side5 ?side6 ?side7 ?side8 ?side9 ?side10 ?side11 ?side12 A149.out).mono ?_); (case side1 => exact rcX (fr3 HO498.out BK507.out (.slice Ao141 t496.length co141) (.slice Ao147 t499.length co147) (.slice Ao148 t502.length co148))); (case side2 => exact (Kd.R_reads' HO498.out).2.1); (case side3 => exact rcX (fr3 HO501.out BK507.out (.slice Ao141 t496.length co141) (.slice Ao147 t499.length co147) (.slice Ao148 t502.length co148))); (case side4 => exact (Kd.R_reads' HO501.out).2.1); (case side5 => exact rcX (fr3 HO504.out BK507.out (.slice Ao141 t496.length co141) (.slice Ao147 t499.length co147) (.slice Ao148 t502.length co148))); (case side6 => exact (Kd.R_reads' HO504.out).2.1); (case side7 => exact rcX (fr3 HO_444000.out BK507.out (.slice Ao141 t496.length co141) (.slice Ao147 t499.length co147) (.slice Ao148 t502.length co148))); (case side8 => exact (Kd.R_reads' HO_444000.out).2.1); (case side9 => exact rcX (fr3 HO_444001.out BK507.out (.slice Ao141 t496.length co141) (.slice Ao147 t499.length co147) (.slice Ao148 t502.length co148))); (case side10 => exact (Kd.R_reads' HO_444001.out).2.1); (case side11 => exact rcX (fr3 HO_444002.out BK507.out (.slice Ao141 t496.length co141) (.slice Ao147 t499.length co147) (.slice Ao148 t502.length co148))); (case side12 => exact (Kd.R_reads' HO_444002.out).2.1); rintro e w161 ⟨rfl, hb⟩; refine ⟨_, rfl, ?_⟩; have n0_ := Aside0.mk (Kd.R_below (rX (fr3 HO_444000.out BK507.out (.slice Ao141 t496.length co141) (.slice Ao147 t499.length co147) (.slice Ao148 t502.length co148))) hb); have n1_ := Aside0.mk (Kd.R_below (rX (fr3 HO_444001.out BK507.out (.slice Ao141 t496.length co141) (.slice Ao147 t499.length co147) (.slice Ao148 t502.length co148))) hb); have n2_ := Aside0.mk (Kd.R_below (rX (fr3 HO_444002.out BK507.out (.slice Ao141 t496.length co141) (.slice Ao147 t499.length co147) (.slice Ao148 t502.length co148))) hb); have n3_ := Aside0.mk (Kd.R_below (rX (fr3 HO_454000.out BK507.out (.slice Ao141 t496.length co141) (.slice Ao147 t499.length co147) (.slice Ao148 t502.length co148))) hb); have n4_ := Aside0.mk (Kd.R_below (rX (fr3 HO_454001.out BK507.out (.slice Ao141 t496.length co141) (.slice Ao147 t499.length co147) (.slice Ao148 t502.length co148))) hb); have n5_ := Aside0.mk (Kd.R_below (rX (fr3 HO_454002.out BK507.out (.slice Ao141 t496.length co141) (.slice Ao147 t499.length co147) (.slice Ao148 t502.length co148))) hb); have n6_ := Aside0.mk (Kd.R_below (rX (fr3 HO_466000.out BK507.out (.slice Ao141 t496.length co141) (.slice Ao147 t499.length co147) (.slice Ao148 t502.length co148))) hb); have n7_ := Aside0.mk (Kd.R_below (rX (fr3 HO_466001.out BK507.out (.slice Ao141 t496.length co141) (.slice Ao147 t499.length co147) (.slice Ao148 t502.length co148))) hb); have n8_ := Aside0.mk (Kd.R_below (rX (fr3 HO_466002.out BK507.out (.slice Ao141 t496.length co141) (.slice Ao147 t499.length co147) (.slice Ao148 t502.length co148))) hb); have n9_ := Aside0.mk (Kd.R_below (rX (fr3 HO489.out BK507.out (.slice Ao141 t496.length co141) (.slice Ao147 t499.length co147) (.slice Ao148 t502.length co148))) hb); have n10_ := Aside0.mk (Kd.R_below (rX (fr3 HO492.out BK507.out (.slice Ao141 t496.length co141) (.slice Ao147 t499.length co147) (.slice Ao148 t502.length co148))) hb); have n11_ := Aside0.mk (Kd.R_below (rX (fr3 HO495.out BK507.out (.slice Ao141 t496.length co141) (.slice Ao147 t499.length co147) (.slice Ao148 t502.length co148))) hb); have n12_ := Aside0.mk (Kd.R_below (rX (fr3 HO498.out BK507.out (.slice Ao141 t496.length co141) (.slice Ao147 t499.length co147) (.slice Ao148 t502.length co148))) hb); have n13_ := Aside0.mk (Kd.R_below (rX (fr3 HO501.out BK507.out (.slice Ao141 t496.length co141) (.slice Ao147 t499.length co147) (.slice Ao148 t502.length co148))) hb); have n14_ := Aside0.mk (Kd.R_below (rX (fr3 HO504.out BK507.out (.slice Ao141 t496.length co141) (.slice Ao147 t499.length co147) (.slice Ao148 t502.length co148))) hb); have n15_ := Aside0.mk (blk_below (g := gb421) (o := .cells #[.slice A0_0 l0_0.length c0_0, .slice A0_1 l0_1.length c0_1, .slice A0_2 l0_2.length c0_2] 24 (0, 0)) (by (with_reducible repeat (first|refine kN ?_ _|refine kD ?_|refine kA ?_ _)); refine blk_far ?_ NB421_507.out _; (with_reducible repeat (first|refine kN ?_ _|refine kD ?_|refine kA ?_ _)); refine blk_far ?_ NB421_507.out _; (with_reducible repeat (first|refine kN ?_ _|refine kD ?_|refine kA ?_ _)); refine blk_far ?_ NB421_507.out _; (with_reducible repeat (first|refine kN ?_ _|refine kD ?_|refine kA ?_ _)); exact BK421.out) hb); have n16_ := Aside0.mk (blk_below (g := gb443) (o := .cells #[.slice Ao22 t432.length co22, .slice Ao25 t435.length co25, .slice Ao26 t438.length co26] 26 (0, 0)) (by (with_reducible repeat (first|refine kN ?_ _|refine kD ?_|refine kA ?_ _)); refine blk_far ?_ NB443_507.out _; (with_reducible repeat (first|refine kN ?_ _|refine kD ?_|refine kA ?_ _)); refine blk_far ?_ NB443_507.out _; (with_reducible repeat (first|refine kN ?_ _|refine kD ?_|refine kA ?_ _)); refine blk_far ?_ NB443_507.out _; (with_reducible repeat (first|refine kN ?_ _|refine kD ?_|refine kA ?_ _)); exact BK443.out) hb); have n17_ := Aside0.mk (blk_below (g := gb453) (o := .cells #[.slice Ao30 t478.length co30, .slice Ao34 t479.length co34, .slice Ao35 t480.length co35] 26 (0, 0)) (by (with_reducible repeat (first|refine kN ?_ _|refine kD ?_|refine kA ?_ _)); refine blk_far ?_ NB453_507.out _; (with_reducible repeat (first|refine kN ?_ _|refine kD ?_|refine kA ?_ _)); refine blk_far ?_ NB453_507.out _; (with_reducible repeat (first|refine kN ?_ _|refine kD ?_|refine kA ?_ _)); refine blk_far ?_ NB453_507.out _; (with_reducible repeat (first|refine kN ?_ _|refine kD ?_|refine kA ?_ _)); exact BK453.out) hb); have n18_ := Aside0.mk (blk_below (g := gb465) (o := .cells #[.slice Ao38 t454.length co38, .slice Ao43 t457.length co43, .slice Ao44 t460.length co44] 26 (0, 0)) (by (with_reducible repeat (first|refine kN ?_ _|refine kD ?_|refine kA ?_ _)); refine blk_far ?_ NB465_507.out _; (with_reducible repeat (first|refine kN ?_ _|refine kD ?_|refine kA ?_ _)); refine blk_far ?_ NB465_507.out _; (with_reducible repeat (first|refine kN ?_ _|refine kD ?_|refine kA ?_ _)); refine blk_far ?_ NB465_507.out _; (with_reducible repeat (first|refine kN ?_ _|refine kD ?_|refine kA ?_ _)); exact BK465.out) hb); have n19_ := Aside0.mk (blk_below (g := gb507) (o := .cells #[.slice Ao141 t496.length co141, .slice Ao147 t499.length co147, .slice Ao148 t502.length co148] 26 (0, 0)) (by (with_reducible repeat (first|refine kN ?_ _|refine kD ?_|refine kA ?_ _)); refine blk_put (cs := #[.slice Ao141 t496.length co141, .slice Ao147 t499.length co147, .slice none 0 0]) ?_ 2 _ rfl; (with_reducible repeat (first|refine kN ?_ _|refine kD ?_|refine kA ?_ _)); refine blk_put (cs := #[.slice Ao141 t496.length co141, .slice none 0 0, .slice none 0 0]) ?_ 1 _ rfl; (with_reducible repeat (first|refine kN ?_ _|refine kD ?_|refine kA ?_ _)); refine blk_put (cs := #[.slice none 0 0, .slice none 0 0, .slice none 0 0]) ?_ 0 _ rfl; (with_reducible repeat (first|refine kN ?_ _|refine kD ?_|refine kA ?_ _)); exact BK507.out) hb); have n20_ := Aside0.mk (below_step (by repeat (first | (with_reducible first | exact HB.out|apply bA|apply bN|apply bD | refine below_set ?_ GE421.out | refine below_set ?_ GE443.out | refine below_set ?_ GE453.out | refine below_set ?_ GE465.out | refine below_set ?_ GE507.out) | exact HB.out)) hb); clear HO_444000 HO_444001 HO_444002 HO_454000 HO_454001 HO_454002 HO_466000 HO_466001 HO_466002 HO489 HO492 HO495 HO498 HO501 HO504 BK421 BK443 BK453 BK465 BK507 HB; have HO_444000 := n0_; have HO_444001 := n1_; have HO_444002 := n2_; have HO_454000 := n3_; have HO_454001 := n4_; have HO_454002 := n5_; have HO_466000 := n6_; have HO_466001 := n7_; have HO_466002 := n8_; have HO489 := n9_; have HO492 := n10_; have HO495 := n11_; have HO498 := n12_; have HO501 := n13_; have HO504 := n14_; have BK421 := n15_; have BK443 := n16_; have BK453 := n17_; have BK465 := n18_; have BK507 := n19_; have HB := n20_; clear n0_ n1_ n2_ n3_ n4_ n5_ n6_ n7_ n8_ n9_ n10_ n11_ n12_ n13_ n14_ n15_ n16_ n17_ n18_ n19_ n20_; (try clear hb); (try clear hb2); (try clear hk); (try clear hi)))
  go_meet
  case rel => exact ⟨_, ((t506 != t442)), vX, H', ⟨by have := HJ10.out; have := HJ76.out; first | omega | exact Nat.le_refl _⟩, ⟨by (try simp only [hl454000_76]); (try simp only [hl454001_76]); (try simp only [hl454002_76]); (with_reducible repeat (first|apply rA|apply rN|apply rD)); exact Kd.R_mono HO_444000.out (fun _ hk => ⟨hk.1.1.1.1.1.1.1, ⟨hk.1.1.1.1.1.1.2.1, ⟨hk.1.1.1.1.1.1.2.2.1, ⟨hk.1.1.1.1.1.1.2.2.2.1, ⟨hk.1.1.1.1.1.1.2.2.2.2.1, ⟨hk.1.1.1.1.1.1.2.2.2.2.2.1, ⟨hk.1.1.1.1.1.1.2.2.2.2.2.2.1, ⟨hk.1.1.1.1.1.1.2.2.2.2.2.2.2, ⟨hk.1.1.2, ⟨hk.1.2, hk.2⟩⟩⟩⟩⟩⟩⟩⟩⟩⟩)⟩, ⟨by (try simp only [hl454000_76]); (try simp only [hl454001_76]); (try simp only [hl454002_76]); (with_reducible repeat (first|apply rA|apply rN|apply rD)); exact Kd.R_mono HO_444001.out (fun _ hk => ⟨hk.1.1.1.1.1.1.1, ⟨hk.1.1.1.1.1.1.2.1, ⟨hk.1.1.1.1.1.1.2.2.1, ⟨hk.1.1.1.1.1.1.2.2.2.1, ⟨hk.1.1.1.1.1.1.2.2.2.2.1, ⟨hk.1.1.1.1.1.1.2.2.2.2.2.1, ⟨hk.1.1.1.1.1.1.2.2.2.2.2.2.1, ⟨hk.1.1.1.1.1.1.2.2.2.2.2.2.2, ⟨hk.1.1.2, ⟨hk.1.2, hk.2⟩⟩⟩⟩⟩⟩⟩⟩⟩⟩)⟩, ⟨by (try simp only [hl454000_76]); (try simp only [hl454001_76]); (try simp only [hl454002_76]); (with_reducible repeat (first|apply rA|apply rN|apply rD)); exact Kd.R_mono HO_444002.out (fun _ hk => ⟨hk.1.1.1.1.1.1.1, ⟨hk.1.1.1.1.1.1.2.1, ⟨hk.1.1.1.1.1.1.2.2.1, ⟨hk.1.1.1.1.1.1.2.2.2.1, ⟨hk.1.1.1.1.1.1.2.2.2.2.1, ⟨hk.1.1.1.1.1.1.2.2.2.2.2.1, ⟨hk.1.1.1.1.1.1.2.2.2.2.2.2.1, ⟨hk.1.1.1.1.1.1.2.2.2.2.2.2.2, ⟨hk.1.1.2, ⟨hk.1.2, hk.2⟩⟩⟩⟩⟩⟩⟩⟩⟩⟩)⟩, ⟨by (try simp only [hl454000_76]); (try simp only [hl454001_76]); (try simp only [hl454002_76]); (with_reducible repeat (first|apply rA|apply rN|apply rD)); exact Kd.R_mono HO_454000.out (fun _ hk => ⟨hk.1.1.1.1.1.1.1, ⟨hk.1.1.1.1.1.1.2.1, ⟨hk.1.1.1.1.1.1.2.2.1, ⟨hk.1.1.1.1.1.1.2.2.2.1, ⟨hk.1.1.1.1.1.1.2.2.2.2.1, ⟨hk.1.1.1.1.1.1.2.2.2.2.2.1, ⟨hk.1.1.1.1.1.1.2.2.2.2.2.2.1, ⟨hk.1.1.1.1.1.1.2.2.2.2.2.2.2, ⟨hk.1.1.2, ⟨hk.1.2, hk.2⟩⟩⟩⟩⟩⟩⟩⟩⟩⟩)⟩, ⟨by (try simp only [hl454000_76]); (try simp only [hl454001_76]); (try simp only [hl454002_76]); (with_reducible repeat (first|apply rA|apply rN|apply rD)); exact Kd.R_mono HO_454001.out (fun _ hk => ⟨hk.1.1.1.1.1.1.1, ⟨hk.1.1.1.1.1.1.2.1, ⟨hk.1.1.1.1.1.1.2.2.1, ⟨hk.1.1.1.1.1.1.2.2.2.1, ⟨hk.1.1.1.1.1.1.2.2.2.2.1, ⟨hk.1.1.1.1.1.1.2.2.2.2.2.1, ⟨hk.1.1.1.1.1.1.2.2.2.2.2.2.1, ⟨hk.1.1.1.1.1.1.2.2.2.2.2.2.2, ⟨hk.1.1.2, ⟨hk.1.2, hk.2⟩⟩⟩⟩⟩⟩⟩⟩⟩⟩)⟩, ⟨by (try simp only [hl454000_76]); (try simp only [hl454001_76]); (try simp only [hl454002_76]); (with_reducible repeat (first|apply rA|apply rN|apply rD)); exact Kd.R_mono HO_454002.out (fun _ hk => ⟨hk.1.1.1.1.1.1.1, ⟨hk.1.1.1.1.1.1.2.1, ⟨hk.1.1.1.1.1.1.2.2.1, ⟨hk.1.1.1.1.1.1.2.2.2.1, ⟨hk.1.1.1.1.1.1.2.2.2.2.1, ⟨hk.1.1.1.1.1.1.2.2.2.2.2.1, ⟨hk.1.1.1.1.1.1.2.2.2.2.2.2.1, ⟨hk.1.1.1.1.1.1.2.2.2.2.2.2.2, ⟨hk.1.1.2, ⟨hk.1.2, hk.2⟩⟩⟩⟩⟩⟩⟩⟩⟩⟩)⟩, ⟨by (try simp only [hl454000_76]); (try simp only [hl454001_76]); (try simp only [hl454002_76]); (with_reducible repeat (first|apply rA|apply rN|apply rD)); exact Kd.R_mono HO_466000.out (fun _ hk => ⟨hk.1.1.1.1.1.1.1, ⟨hk.1.1.1.1.1.1.2.1, ⟨hk.1.1.1.1.1.1.2.2.1, ⟨hk.1.1.1.1.1.1.2.2.2.1, ⟨hk.1.1.1.1.1.1.2.2.2.2.1, ⟨hk.1.1.1.1.1.1.2.2.2.2.2.1, ⟨hk.1.1.1.1.1.1.2.2.2.2.2.2.1, ⟨hk.1.1.1.1.1.1.2.2.2.2.2.2.2, ⟨hk.1.1.2, ⟨hk.1.2, hk.2⟩⟩⟩⟩⟩⟩⟩⟩⟩⟩)⟩, ⟨by (try simp only [hl454000_76]); (try simp only [hl454001_76]); (try simp only [hl454002_76]); (with_reducible repeat (first|apply rA|apply rN|apply rD)); exact Kd.R_mono HO_466001.out (fun _ hk => ⟨hk.1.1.1.1.1.1.1, ⟨hk.1.1.1.1.1.1.2.1, ⟨hk.1.1.1.1.1.1.2.2.1, ⟨hk.1.1.1.1.1.1.2.2.2.1, ⟨hk.1.1.1.1.1.1.2.2.2.2.1, ⟨hk.1.1.1.1.1.1.2.2.2.2.2.1, ⟨hk.1.1.1.1.1.1.2.2.2.2.2.2.1, ⟨hk.1.1.1.1.1.1.2.2.2.2.2.2.2, ⟨hk.1.1.2, ⟨hk.1.2, hk.2⟩⟩⟩⟩⟩⟩⟩⟩⟩⟩)⟩, ⟨by (try simp only [hl454000_76]); (try simp only [hl454001_76]); (try simp only [hl454002_76]); (with_reducible repeat (first|apply rA|apply rN|apply rD)); exact Kd.R_mono HO_466002.out (fun _ hk => ⟨hk.1.1.1.1.1.1.1, ⟨hk.1.1.1.1.1.1.2.1, ⟨hk.1.1.1.1.1.1.2.2.1, ⟨hk.1.1.1.1.1.1.2.2.2.1, ⟨hk.1.1.1.1.1.1.2.2.2.2.1, ⟨hk.1.1.1.1.1.1.2.2.2.2.2.1, ⟨hk.1.1.1.1.1.1.2.2.2.2.2.2.1, ⟨hk.1.1.1.1.1.1.2.2.2.2.2.2.2, ⟨hk.1.1.2, ⟨hk.1.2, hk.2⟩⟩⟩⟩⟩⟩⟩⟩⟩⟩)⟩, ⟨by (try simp only [hl454000_76]); (try simp only [hl454001_76]); (try simp only [hl454002_76]); (with_reducible repeat (first|apply rA|apply rN|apply rD)); exact Kd.R_mono HO498.out (fun _ hk => ⟨hk.1.1.1.1.1.1.1.1.1.1.1.2, ⟨hk.1.1.1.1.1.1.1.1.1.1.2, ⟨hk.1.1.1.1.1.1.1.1.1.2, ⟨hk.1.1.1.1.1.1.1.1.2, ⟨hk.1.1.1.1.1.1.1.2, ⟨hk.1.1.1.1.1.1.2, ⟨hk.1.1.1.1.1.2, ⟨hk.1.1.1.1.2, ⟨hk.1.1.1.2, ⟨hk.1.1.1.1.1.1.1.1.1.1.1.1.1, hk.1.1.1.1.1.1.1.1.1.1.1.1.2⟩⟩⟩⟩⟩⟩⟩⟩⟩⟩)⟩, ⟨by (try simp only [hl454000_76]); (try simp only [hl454001_76]); (try simp only [hl454002_76]); (with_reducible repeat (first|apply rA|apply rN|apply rD)); exact Kd.R_mono HO501.out (fun _ hk => ⟨hk.1.1.1.1.1.1.1.1.1.1.1.2, ⟨hk.1.1.1.1.1.1.1.1.1.1.2, ⟨hk.1.1.1.1.1.1.1.1.1.2, ⟨hk.1.1.1.1.1.1.1.1.2, ⟨hk.1.1.1.1.1.1.1.2, ⟨hk.1.1.1.1.1.1.2, ⟨hk.1.1.1.1.1.2, ⟨hk.1.1.1.1.2, ⟨hk.1.1.1.2, ⟨hk.1.1.1.1.1.1.1.1.1.1.1.1.1, hk.1.1.1.1.1.1.1.1.1.1.1.1.2⟩⟩⟩⟩⟩⟩⟩⟩⟩⟩)⟩, ⟨by (try simp only [hl454000_76]); (try simp only [hl454001_76]); (try simp only [hl454002_76]); (with_reducible repeat (first|apply rA|apply rN|apply rD)); exact Kd.R_mono HO504.out (fun _ hk => ⟨hk.1.1.1.1.1.1.1.1.1.1.1.2, ⟨hk.1.1.1.1.1.1.1.1.1.1.2, ⟨hk.1.1.1.1.1.1.1.1.1.2, ⟨hk.1.1.1.1.1.1.1.1.2, ⟨hk.1.1.1.1.1.1.1.2, ⟨hk.1.1.1.1.1.1.2, ⟨hk.1.1.1.1.1.2, ⟨hk.1.1.1.1.2, ⟨hk.1.1.1.2, ⟨hk.1.1.1.1.1.1.1.1.1.1.1.1.1, hk.1.1.1.1.1.1.1.1.1.1.1.1.2⟩⟩⟩⟩⟩⟩⟩⟩⟩⟩)⟩, ⟨by (try simp only [hl454000_76]); (try simp only [hl454001_76]); (try simp only [hl454002_76]); (with_reducible repeat (first|refine kN ?_ _|refine kD ?_|refine kA ?_ _)); exact BK421.out⟩, ⟨by (try simp only [hl454000_76]); (try simp only [hl454001_76]); (try simp only [hl454002_76]); (with_reducible repeat (first|refine kN ?_ _|refine kD ?_|refine kA ?_ _)); exact BK443.out⟩, ⟨by (try simp only [hl454000_76]); (try simp only [hl454001_76]); (try simp only [hl454002_76]); (with_reducible repeat (first|refine kN ?_ _|refine kD ?_|refine kA ?_ _)); exact BK453.out⟩, ⟨by (try simp only [hl454000_76]); (try simp only [hl454001_76]); (try simp only [hl454002_76]); (with_reducible repeat (first|refine kN ?_ _|refine kD ?_|refine kA ?_ _)); exact BK465.out⟩, ⟨by (try simp only [hl454000_76]); (try simp only [hl454001_76]); (try simp only [hl454002_76]); (with_reducible repeat (first|refine kN ?_ _|refine kD ?_|refine kA ?_ _)); exact BK507.out⟩, ⟨by repeat (first | (with_reducible first | exact HB.out|apply bA|apply bN|apply bD | refine below_set ?_ GE421.out | refine below_set ?_ GE443.out | refine below_set ?_ GE453.out | refine below_set ?_ GE465.out | refine below_set ?_ GE507.out) | exact HB.out)⟩⟩
  }
  {
  rw [if_neg c151] at H
  have c151b0 : (t505 == t441) = false := beq_eq_false_iff_ne.mpr c151
  have c151b1 : (t505 != t441) = true := bne_iff_ne.mpr c151
  (first | rw [c151b0] | (simp only [i64_w, i32_w]; rw [c151b0]) | skip)
  have H' := Aside0.mk H
  clear H
  have hnb162 := NB507_421.out
  have hnc162 := NB421_507.out
  have hnb163 := NB507_443.out
  have hnc163 := NB443_507.out
  have hnb164 := NB507_453.out
  have hnc164 := NB453_507.out
  have hnb165 := NB507_465.out
  have hnc165 := NB465_507.out
  have hcz166_0 := cz30 BK507.out
  have hcz166_1 := cz31 BK507.out
  have hcz166_2 := cz32 BK507.out
  have hfz166_0 := blk_frozen BK507.out 0
  have hfz166_1 := blk_frozen BK507.out 1
  have hfz166_2 := blk_frozen BK507.out 2
  have hnb167 := NB443_421.out
  have hnc167 := NB421_443.out
  have hnb168 := NB443_453.out
  have hnc168 := NB453_443.out
  have hnb169 := NB443_465.out
  have hnc169 := NB465_443.out
  have hcz170_0 := cz30 BK443.out
  have hcz170_1 := cz31 BK443.out
  have hcz170_2 := cz32 BK443.out
  have hfz170_0 := blk_frozen BK443.out 0
  have hfz170_1 := blk_frozen BK443.out 1
  have hfz170_2 := blk_frozen BK443.out 2
  go_wp2_with (first | ((with_reducible refine gate_callee (f := 10) rfl ?_); refine goesL_ (some 97) rfl rfl Try.func10 (by kernel_rfl) rfl #[.agg #[.slice Ao141 t496.length co141, .slice Ao147 t499.length co147, .slice Ao148 t502.length co148], .agg #[.slice Ao22 t432.length co22, .slice Ao25 t435.length co25, .slice Ao26 t438.length co26]] rfl aX ?_; (with_reducible refine (laws_eqExchange.calls kj76 _ _ t496 _ _ t499 _ _ t502 _ _ t432 _ _ t435 _ _ t438 true _ ?side1 ?side2 ?side3 ?side4 ?side5 ?side6 ?side7 ?side8 ?side9 ?side10 ?side11 ?side12 A149.out).mono ?_); (case side1 => exact rcX (fr3 HO498.out BK507.out (.slice Ao141 t496.length co141) (.slice Ao147 t499.length co147) (.slice Ao148 t502.length co148))); (case side2 => exact (Kd.R_reads' HO498.out).2.1); (case side3 => exact rcX (fr3 HO501.out BK507.out (.slice Ao141 t496.length co141) (.slice Ao147 t499.length co147) (.slice Ao148 t502.length co148))); (case side4 => exact (Kd.R_reads' HO501.out).2.1); (case side5 => exact rcX (fr3 HO504.out BK507.out (.slice Ao141 t496.length co141) (.slice Ao147 t499.length co147) (.slice Ao148 t502.length co148))); (case side6 => exact (Kd.R_reads' HO504.out).2.1); (case side7 => exact rcX (fr3 HO_444000.out BK507.out (.slice Ao141 t496.length co141) (.slice Ao147 t499.length co147) (.slice Ao148 t502.length co148))); (case side8 => exact (Kd.R_reads' HO_444000.out).2.1); (case side9 => exact rcX (fr3 HO_444001.out BK507.out (.slice Ao141 t496.length co141) (.slice Ao147 t499.length co147) (.slice Ao148 t502.length co148))); (case side10 => exact (Kd.R_reads' HO_444001.out).2.1); (case side11 => exact rcX (fr3 HO_444002.out BK507.out (.slice Ao141 t496.length co141) (.slice Ao147 t499.length co147) (.slice Ao148 t502.length co148))); (case side12 => exact (Kd.R_reads' HO_444002.out).2.1); rintro e w171 ⟨rfl, hb⟩; refine ⟨_, rfl, ?_⟩; have n0_ := Aside0.mk (Kd.R_below (rX (fr3 HO_444000.out BK507.out (.slice Ao141 t496.length co141) (.slice Ao147 t499.length co147) (.slice Ao148 t502.length co148))) hb); have n1_ := Aside0.mk (Kd.R_below (rX (fr3 HO_444001.out BK507.out (.slice Ao141 t496.length co141) (.slice Ao147 t499.length co147) (.slice Ao148 t502.length co148))) hb); have n2_ := Aside0.mk (Kd.R_below (rX (fr3 HO_444002.out BK507.out (.slice Ao141 t496.length co141) (.slice Ao147 t499.length co147) (.slice Ao148 t502.length co148))) hb); have n3_ := Aside0.mk (Kd.R_below (rX (fr3 HO_454000.out BK507.out (.slice Ao141 t496.length co141) (.slice Ao147 t499.length co147) (.slice Ao148 t502.length co148))) hb); have n4_ := Aside0.mk (Kd.R_below (rX (fr3 HO_454001.out BK507.out (.slice Ao141 t496.length co141) (.slice Ao147 t499.length co147) (.slice Ao148 t502.length co148))) hb); have n5_ := Aside0.mk (Kd.R_below (rX (fr3 HO_454002.out BK507.out (.slice Ao141 t496.length co141) (.slice Ao147 t499.length co147) (.slice Ao148 t502.length co148))) hb); have n6_ := Aside0.mk (Kd.R_below (rX (fr3 HO_466000.out BK507.out (.slice Ao141 t496.length co141) (.slice Ao147 t499.length co147) (.slice Ao148 t502.length co148))) hb); have n7_ := Aside0.mk (Kd.R_below (rX (fr3 HO_466001.out BK507.out (.slice Ao141 t496.length co141) (.slice Ao147 t499.length co147) (.slice Ao148 t502.length co148))) hb); have n8_ := Aside0.mk (Kd.R_below (rX (fr3 HO_466002.out BK507.out (.slice Ao141 t496.length co141) (.slice Ao147 t499.length co147) (.slice Ao148 t502.length co148))) hb); have n9_ := Aside0.mk (Kd.R_below (rX (fr3 HO489.out BK507.out (.slice Ao141 t496.length co141) (.slice Ao147 t499.length co147) (.slice Ao148 t502.length co148))) hb); have n10_ := Aside0.mk (Kd.R_below (rX (fr3 HO492.out BK507.out (.slice Ao141 t496.length co141) (.slice Ao147 t499.length co147) (.slice Ao148 t502.length co148))) hb); have n11_ := Aside0.mk (Kd.R_below (rX (fr3 HO495.out BK507.out (.slice Ao141 t496.length co141) (.slice Ao147 t499.length co147) (.slice Ao148 t502.length co148))) hb); have n12_ := Aside0.mk (Kd.R_below (rX (fr3 HO498.out BK507.out (.slice Ao141 t496.length co141) (.slice Ao147 t499.length co147) (.slice Ao148 t502.length co148))) hb); have n13_ := Aside0.mk (Kd.R_below (rX (fr3 HO501.out BK507.out (.slice Ao141 t496.length co141) (.slice Ao147 t499.length co147) (.slice Ao148 t502.length co148))) hb); have n14_ := Aside0.mk (Kd.R_below (rX (fr3 HO504.out BK507.out (.slice Ao141 t496.length co141) (.slice Ao147 t499.length co147) (.slice Ao148 t502.length co148))) hb); have n15_ := Aside0.mk (blk_below (g := gb421) (o := .cells #[.slice A0_0 l0_0.length c0_0, .slice A0_1 l0_1.length c0_1, .slice A0_2 l0_2.length c0_2] 24 (0, 0)) (by (with_reducible repeat (first|refine kN ?_ _|refine kD ?_|refine kA ?_ _)); refine blk_far ?_ NB421_507.out _; (with_reducible repeat (first|refine kN ?_ _|refine kD ?_|refine kA ?_ _)); refine blk_far ?_ NB421_507.out _; (with_reducible repeat (first|refine kN ?_ _|refine kD ?_|refine kA ?_ _)); refine blk_far ?_ NB421_507.out _; (with_reducible repeat (first|refine kN ?_ _|refine kD ?_|refine kA ?_ _)); exact BK421.out) hb); have n16_ := Aside0.mk (blk_below (g := gb443) (o := .cells #[.slice Ao22 t432.length co22, .slice Ao25 t435.length co25, .slice Ao26 t438.length co26] 26 (0, 0)) (by (with_reducible repeat (first|refine kN ?_ _|refine kD ?_|refine kA ?_ _)); refine blk_far ?_ NB443_507.out _; (with_reducible repeat (first|refine kN ?_ _|refine kD ?_|refine kA ?_ _)); refine blk_far ?_ NB443_507.out _; (with_reducible repeat (first|refine kN ?_ _|refine kD ?_|refine kA ?_ _)); refine blk_far ?_ NB443_507.out _; (with_reducible repeat (first|refine kN ?_ _|refine kD ?_|refine kA ?_ _)); exact BK443.out) hb); have n17_ := Aside0.mk (blk_below (g := gb453) (o := .cells #[.slice Ao30 t478.length co30, .slice Ao34 t479.length co34, .slice Ao35 t480.length co35] 26 (0, 0)) (by (with_reducible repeat (first|refine kN ?_ _|refine kD ?_|refine kA ?_ _)); refine blk_far ?_ NB453_507.out _; (with_reducible repeat (first|refine kN ?_ _|refine kD ?_|refine kA ?_ _)); refine blk_far ?_ NB453_507.out _; (with_reducible repeat (first|refine kN ?_ _|refine kD ?_|refine kA ?_ _)); refine blk_far ?_ NB453_507.out _; (with_reducible repeat (first|refine kN ?_ _|refine kD ?_|refine kA ?_ _)); exact BK453.out) hb); have n18_ := Aside0.mk (blk_below (g := gb465) (o := .cells #[.slice Ao38 t454.length co38, .slice Ao43 t457.length co43, .slice Ao44 t460.length co44] 26 (0, 0)) (by (with_reducible repeat (first|refine kN ?_ _|refine kD ?_|refine kA ?_ _)); refine blk_far ?_ NB465_507.out _; (with_reducible repeat (first|refine kN ?_ _|refine kD ?_|refine kA ?_ _)); refine blk_far ?_ NB465_507.out _; (with_reducible repeat (first|refine kN ?_ _|refine kD ?_|refine kA ?_ _)); refine blk_far ?_ NB465_507.out _; (with_reducible repeat (first|refine kN ?_ _|refine kD ?_|refine kA ?_ _)); exact BK465.out) hb); have n19_ := Aside0.mk (blk_below (g := gb507) (o := .cells #[.slice Ao141 t496.length co141, .slice Ao147 t499.length co147, .slice Ao148 t502.length co148] 26 (0, 0)) (by (with_reducible repeat (first|refine kN ?_ _|refine kD ?_|refine kA ?_ _)); refine blk_put (cs := #[.slice Ao141 t496.length co141, .slice Ao147 t499.length co147, .slice none 0 0]) ?_ 2 _ rfl; (with_reducible repeat (first|refine kN ?_ _|refine kD ?_|refine kA ?_ _)); refine blk_put (cs := #[.slice Ao141 t496.length co141, .slice none 0 0, .slice none 0 0]) ?_ 1 _ rfl; (with_reducible repeat (first|refine kN ?_ _|refine kD ?_|refine kA ?_ _)); refine blk_put (cs := #[.slice none 0 0, .slice none 0 0, .slice none 0 0]) ?_ 0 _ rfl; (with_reducible repeat (first|refine kN ?_ _|refine kD ?_|refine kA ?_ _)); exact BK507.out) hb); have n20_ := Aside0.mk (below_step (by repeat (first | (with_reducible first | exact HB.out|apply bA|apply bN|apply bD | refine below_set ?_ GE421.out | refine below_set ?_ GE443.out | refine below_set ?_ GE453.out | refine below_set ?_ GE465.out | refine below_set ?_ GE507.out) | exact HB.out)) hb); clear HO_444000 HO_444001 HO_444002 HO_454000 HO_454001 HO_454002 HO_466000 HO_466001 HO_466002 HO489 HO492 HO495 HO498 HO501 HO504 BK421 BK443 BK453 BK465 BK507 HB; have HO_444000 := n0_; have HO_444001 := n1_; have HO_444002 := n2_; have HO_454000 := n3_; have HO_454001 := n4_; have HO_454002 := n5_; have HO_466000 := n6_; have HO_466001 := n7_; have HO_466002 := n8_; have HO489 := n9_; have HO492 := n10_; have HO495 := n11_; have HO498 := n12_; have HO501 := n13_; have HO504 := n14_; have BK421 := n15_; have BK443 := n16_; have BK453 := n17_; have BK465 := n18_; have BK507 := n19_; have HB := n20_; clear n0_ n1_ n2_ n3_ n4_ n5_ n6_ n7_ n8_ n9_ n10_ n11_ n12_ n13_ n14_ n15_ n16_ n17_ n18_ n19_ n20_; (try clear hb); (try clear hb2); (try clear hk); (try clear hi)))
  go_meet
  case rel => exact ⟨_, (true), vX, H', ⟨by have := HJ10.out; have := HJ76.out; first | omega | exact Nat.le_refl _⟩, ⟨by (try simp only [hl454000_76]); (try simp only [hl454001_76]); (try simp only [hl454002_76]); (with_reducible repeat (first|apply rA|apply rN|apply rD)); exact Kd.R_mono HO_444000.out (fun _ hk => ⟨hk.1.1.1.1.1.1.1, ⟨hk.1.1.1.1.1.1.2.1, ⟨hk.1.1.1.1.1.1.2.2.1, ⟨hk.1.1.1.1.1.1.2.2.2.1, ⟨hk.1.1.1.1.1.1.2.2.2.2.1, ⟨hk.1.1.1.1.1.1.2.2.2.2.2.1, ⟨hk.1.1.1.1.1.1.2.2.2.2.2.2.1, ⟨hk.1.1.1.1.1.1.2.2.2.2.2.2.2, ⟨hk.1.1.2, ⟨hk.1.2, hk.2⟩⟩⟩⟩⟩⟩⟩⟩⟩⟩)⟩, ⟨by (try simp only [hl454000_76]); (try simp only [hl454001_76]); (try simp only [hl454002_76]); (with_reducible repeat (first|apply rA|apply rN|apply rD)); exact Kd.R_mono HO_444001.out (fun _ hk => ⟨hk.1.1.1.1.1.1.1, ⟨hk.1.1.1.1.1.1.2.1, ⟨hk.1.1.1.1.1.1.2.2.1, ⟨hk.1.1.1.1.1.1.2.2.2.1, ⟨hk.1.1.1.1.1.1.2.2.2.2.1, ⟨hk.1.1.1.1.1.1.2.2.2.2.2.1, ⟨hk.1.1.1.1.1.1.2.2.2.2.2.2.1, ⟨hk.1.1.1.1.1.1.2.2.2.2.2.2.2, ⟨hk.1.1.2, ⟨hk.1.2, hk.2⟩⟩⟩⟩⟩⟩⟩⟩⟩⟩)⟩, ⟨by (try simp only [hl454000_76]); (try simp only [hl454001_76]); (try simp only [hl454002_76]); (with_reducible repeat (first|apply rA|apply rN|apply rD)); exact Kd.R_mono HO_444002.out (fun _ hk => ⟨hk.1.1.1.1.1.1.1, ⟨hk.1.1.1.1.1.1.2.1, ⟨hk.1.1.1.1.1.1.2.2.1, ⟨hk.1.1.1.1.1.1.2.2.2.1, ⟨hk.1.1.1.1.1.1.2.2.2.2.1, ⟨hk.1.1.1.1.1.1.2.2.2.2.2.1, ⟨hk.1.1.1.1.1.1.2.2.2.2.2.2.1, ⟨hk.1.1.1.1.1.1.2.2.2.2.2.2.2, ⟨hk.1.1.2, ⟨hk.1.2, hk.2⟩⟩⟩⟩⟩⟩⟩⟩⟩⟩)⟩, ⟨by (try simp only [hl454000_76]); (try simp only [hl454001_76]); (try simp only [hl454002_76]); (with_reducible repeat (first|apply rA|apply rN|apply rD)); exact Kd.R_mono HO_454000.out (fun _ hk => ⟨hk.1.1.1.1.1.1.1, ⟨hk.1.1.1.1.1.1.2.1, ⟨hk.1.1.1.1.1.1.2.2.1, ⟨hk.1.1.1.1.1.1.2.2.2.1, ⟨hk.1.1.1.1.1.1.2.2.2.2.1, ⟨hk.1.1.1.1.1.1.2.2.2.2.2.1, ⟨hk.1.1.1.1.1.1.2.2.2.2.2.2.1, ⟨hk.1.1.1.1.1.1.2.2.2.2.2.2.2, ⟨hk.1.1.2, ⟨hk.1.2, hk.2⟩⟩⟩⟩⟩⟩⟩⟩⟩⟩)⟩, ⟨by (try simp only [hl454000_76]); (try simp only [hl454001_76]); (try simp only [hl454002_76]); (with_reducible repeat (first|apply rA|apply rN|apply rD)); exact Kd.R_mono HO_454001.out (fun _ hk => ⟨hk.1.1.1.1.1.1.1, ⟨hk.1.1.1.1.1.1.2.1, ⟨hk.1.1.1.1.1.1.2.2.1, ⟨hk.1.1.1.1.1.1.2.2.2.1, ⟨hk.1.1.1.1.1.1.2.2.2.2.1, ⟨hk.1.1.1.1.1.1.2.2.2.2.2.1, ⟨hk.1.1.1.1.1.1.2.2.2.2.2.2.1, ⟨hk.1.1.1.1.1.1.2.2.2.2.2.2.2, ⟨hk.1.1.2, ⟨hk.1.2, hk.2⟩⟩⟩⟩⟩⟩⟩⟩⟩⟩)⟩, ⟨by (try simp only [hl454000_76]); (try simp only [hl454001_76]); (try simp only [hl454002_76]); (with_reducible repeat (first|apply rA|apply rN|apply rD)); exact Kd.R_mono HO_454002.out (fun _ hk => ⟨hk.1.1.1.1.1.1.1, ⟨hk.1.1.1.1.1.1.2.1, ⟨hk.1.1.1.1.1.1.2.2.1, ⟨hk.1.1.1.1.1.1.2.2.2.1, ⟨hk.1.1.1.1.1.1.2.2.2.2.1, ⟨hk.1.1.1.1.1.1.2.2.2.2.2.1, ⟨hk.1.1.1.1.1.1.2.2.2.2.2.2.1, ⟨hk.1.1.1.1.1.1.2.2.2.2.2.2.2, ⟨hk.1.1.2, ⟨hk.1.2, hk.2⟩⟩⟩⟩⟩⟩⟩⟩⟩⟩)⟩, ⟨by (try simp only [hl454000_76]); (try simp only [hl454001_76]); (try simp only [hl454002_76]); (with_reducible repeat (first|apply rA|apply rN|apply rD)); exact Kd.R_mono HO_466000.out (fun _ hk => ⟨hk.1.1.1.1.1.1.1, ⟨hk.1.1.1.1.1.1.2.1, ⟨hk.1.1.1.1.1.1.2.2.1, ⟨hk.1.1.1.1.1.1.2.2.2.1, ⟨hk.1.1.1.1.1.1.2.2.2.2.1, ⟨hk.1.1.1.1.1.1.2.2.2.2.2.1, ⟨hk.1.1.1.1.1.1.2.2.2.2.2.2.1, ⟨hk.1.1.1.1.1.1.2.2.2.2.2.2.2, ⟨hk.1.1.2, ⟨hk.1.2, hk.2⟩⟩⟩⟩⟩⟩⟩⟩⟩⟩)⟩, ⟨by (try simp only [hl454000_76]); (try simp only [hl454001_76]); (try simp only [hl454002_76]); (with_reducible repeat (first|apply rA|apply rN|apply rD)); exact Kd.R_mono HO_466001.out (fun _ hk => ⟨hk.1.1.1.1.1.1.1, ⟨hk.1.1.1.1.1.1.2.1, ⟨hk.1.1.1.1.1.1.2.2.1, ⟨hk.1.1.1.1.1.1.2.2.2.1, ⟨hk.1.1.1.1.1.1.2.2.2.2.1, ⟨hk.1.1.1.1.1.1.2.2.2.2.2.1, ⟨hk.1.1.1.1.1.1.2.2.2.2.2.2.1, ⟨hk.1.1.1.1.1.1.2.2.2.2.2.2.2, ⟨hk.1.1.2, ⟨hk.1.2, hk.2⟩⟩⟩⟩⟩⟩⟩⟩⟩⟩)⟩, ⟨by (try simp only [hl454000_76]); (try simp only [hl454001_76]); (try simp only [hl454002_76]); (with_reducible repeat (first|apply rA|apply rN|apply rD)); exact Kd.R_mono HO_466002.out (fun _ hk => ⟨hk.1.1.1.1.1.1.1, ⟨hk.1.1.1.1.1.1.2.1, ⟨hk.1.1.1.1.1.1.2.2.1, ⟨hk.1.1.1.1.1.1.2.2.2.1, ⟨hk.1.1.1.1.1.1.2.2.2.2.1, ⟨hk.1.1.1.1.1.1.2.2.2.2.2.1, ⟨hk.1.1.1.1.1.1.2.2.2.2.2.2.1, ⟨hk.1.1.1.1.1.1.2.2.2.2.2.2.2, ⟨hk.1.1.2, ⟨hk.1.2, hk.2⟩⟩⟩⟩⟩⟩⟩⟩⟩⟩)⟩, ⟨by (try simp only [hl454000_76]); (try simp only [hl454001_76]); (try simp only [hl454002_76]); (with_reducible repeat (first|apply rA|apply rN|apply rD)); exact Kd.R_mono HO498.out (fun _ hk => ⟨hk.1.1.1.1.1.1.1.1.1.1.1.2, ⟨hk.1.1.1.1.1.1.1.1.1.1.2, ⟨hk.1.1.1.1.1.1.1.1.1.2, ⟨hk.1.1.1.1.1.1.1.1.2, ⟨hk.1.1.1.1.1.1.1.2, ⟨hk.1.1.1.1.1.1.2, ⟨hk.1.1.1.1.1.2, ⟨hk.1.1.1.1.2, ⟨hk.1.1.1.2, ⟨hk.1.1.1.1.1.1.1.1.1.1.1.1.1, hk.1.1.1.1.1.1.1.1.1.1.1.1.2⟩⟩⟩⟩⟩⟩⟩⟩⟩⟩)⟩, ⟨by (try simp only [hl454000_76]); (try simp only [hl454001_76]); (try simp only [hl454002_76]); (with_reducible repeat (first|apply rA|apply rN|apply rD)); exact Kd.R_mono HO501.out (fun _ hk => ⟨hk.1.1.1.1.1.1.1.1.1.1.1.2, ⟨hk.1.1.1.1.1.1.1.1.1.1.2, ⟨hk.1.1.1.1.1.1.1.1.1.2, ⟨hk.1.1.1.1.1.1.1.1.2, ⟨hk.1.1.1.1.1.1.1.2, ⟨hk.1.1.1.1.1.1.2, ⟨hk.1.1.1.1.1.2, ⟨hk.1.1.1.1.2, ⟨hk.1.1.1.2, ⟨hk.1.1.1.1.1.1.1.1.1.1.1.1.1, hk.1.1.1.1.1.1.1.1.1.1.1.1.2⟩⟩⟩⟩⟩⟩⟩⟩⟩⟩)⟩, ⟨by (try simp only [hl454000_76]); (try simp only [hl454001_76]); (try simp only [hl454002_76]); (with_reducible repeat (first|apply rA|apply rN|apply rD)); exact Kd.R_mono HO504.out (fun _ hk => ⟨hk.1.1.1.1.1.1.1.1.1.1.1.2, ⟨hk.1.1.1.1.1.1.1.1.1.1.2, ⟨hk.1.1.1.1.1.1.1.1.1.2, ⟨hk.1.1.1.1.1.1.1.1.2, ⟨hk.1.1.1.1.1.1.1.2, ⟨hk.1.1.1.1.1.1.2, ⟨hk.1.1.1.1.1.2, ⟨hk.1.1.1.1.2, ⟨hk.1.1.1.2, ⟨hk.1.1.1.1.1.1.1.1.1.1.1.1.1, hk.1.1.1.1.1.1.1.1.1.1.1.1.2⟩⟩⟩⟩⟩⟩⟩⟩⟩⟩)⟩, ⟨by (try simp only [hl454000_76]); (try simp only [hl454001_76]); (try simp only [hl454002_76]); (with_reducible repeat (first|refine kN ?_ _|refine kD ?_|refine kA ?_ _)); exact BK421.out⟩, ⟨by (try simp only [hl454000_76]); (try simp only [hl454001_76]); (try simp only [hl454002_76]); (with_reducible repeat (first|refine kN ?_ _|refine kD ?_|refine kA ?_ _)); exact BK443.out⟩, ⟨by (try simp only [hl454000_76]); (try simp only [hl454001_76]); (try simp only [hl454002_76]); (with_reducible repeat (first|refine kN ?_ _|refine kD ?_|refine kA ?_ _)); exact BK453.out⟩, ⟨by (try simp only [hl454000_76]); (try simp only [hl454001_76]); (try simp only [hl454002_76]); (with_reducible repeat (first|refine kN ?_ _|refine kD ?_|refine kA ?_ _)); exact BK465.out⟩, ⟨by (try simp only [hl454000_76]); (try simp only [hl454001_76]); (try simp only [hl454002_76]); (with_reducible repeat (first|refine kN ?_ _|refine kD ?_|refine kA ?_ _)); exact BK507.out⟩, ⟨by repeat (first | (with_reducible first | exact HB.out|apply bA|apply bN|apply bD | refine below_set ?_ GE421.out | refine below_set ?_ GE443.out | refine below_set ?_ GE453.out | refine below_set ?_ GE465.out | refine below_set ?_ GE507.out) | exact HB.out)⟩⟩
  }
  }
  {
  replace c150 := Bool.eq_false_iff.mpr c150
  subst c150
  have H1 : (laws_FnExactInduceAll.j2 kj76 t482 true t483 t484 t485) = some r := by rw [if_neg (show ¬ (false = true) by decide)] at H; exact H
  clear H
  have H := H1
  clear H1
  have H' := Aside0.mk H
  clear H
  have hnb172 := NB507_421.out
  have hnc172 := NB421_507.out
  have hnb173 := NB507_443.out
  have hnc173 := NB443_507.out
  have hnb174 := NB507_453.out
  have hnc174 := NB453_507.out
  have hnb175 := NB507_465.out
  have hnc175 := NB465_507.out
  have hcz176_0 := cz30 BK507.out
  have hcz176_1 := cz31 BK507.out
  have hcz176_2 := cz32 BK507.out
  have hfz176_0 := blk_frozen BK507.out 0
  have hfz176_1 := blk_frozen BK507.out 1
  have hfz176_2 := blk_frozen BK507.out 2
  have hnb177 := NB443_421.out
  have hnc177 := NB421_443.out
  have hnb178 := NB443_453.out
  have hnc178 := NB453_443.out
  have hnb179 := NB443_465.out
  have hnc179 := NB465_443.out
  have hcz180_0 := cz30 BK443.out
  have hcz180_1 := cz31 BK443.out
  have hcz180_2 := cz32 BK443.out
  have hfz180_0 := blk_frozen BK443.out 0
  have hfz180_1 := blk_frozen BK443.out 1
  have hfz180_2 := blk_frozen BK443.out 2
  go_wp2_with (first | ((with_reducible refine gate_callee (f := 10) rfl ?_); refine goesL_ (some 97) rfl rfl Try.func10 (by kernel_rfl) rfl #[.agg #[.slice Ao141 t496.length co141, .slice Ao147 t499.length co147, .slice Ao148 t502.length co148], .agg #[.slice Ao22 t432.length co22, .slice Ao25 t435.length co25, .slice Ao26 t438.length co26]] rfl aX ?_; (with_reducible refine (laws_eqExchange.calls kj76 _ _ t496 _ _ t499 _ _ t502 _ _ t432 _ _ t435 _ _ t438 false _ ?side1 ?side2 ?side3 ?side4 ?side5 ?side6 ?side7 ?side8 ?side9 ?side10 ?side11 ?side12 A149.out).mono ?_); (case side1 => exact rcX (fr3 HO498.out BK507.out (.slice Ao141 t496.length co141) (.slice Ao147 t499.length co147) (.slice Ao148 t502.length co148))); (case side2 => exact (Kd.R_reads' HO498.out).2.1); (case side3 => exact rcX (fr3 HO501.out BK507.out (.slice Ao141 t496.length co141) (.slice Ao147 t499.length co147) (.slice Ao148 t502.length co148))); (case side4 => exact (Kd.R_reads' HO501.out).2.1); (case side5 => exact rcX (fr3 HO504.out BK507.out (.slice Ao141 t496.length co141) (.slice Ao147 t499.length co147) (.slice Ao148 t502.length co148))); (case side6 => exact (Kd.R_reads' HO504.out).2.1); (case side7 => exact rcX (fr3 HO_444000.out BK507.out (.slice Ao141 t496.length co141) (.slice Ao147 t499.length co147) (.slice Ao148 t502.length co148))); (case side8 => exact (Kd.R_reads' HO_444000.out).2.1); (case side9 => exact rcX (fr3 HO_444001.out BK507.out (.slice Ao141 t496.length co141) (.slice Ao147 t499.length co147) (.slice Ao148 t502.length co148))); (case side10 => exact (Kd.R_reads' HO_444001.out).2.1); (case side11 => exact rcX (fr3 HO_444002.out BK507.out (.slice Ao141 t496.length co141) (.slice Ao147 t499.length co147) (.slice Ao148 t502.length co148))); (case side12 => exact (Kd.R_reads' HO_444002.out).2.1); rintro e w181 ⟨rfl, hb⟩; refine ⟨_, rfl, ?_⟩; have n0_ := Aside0.mk (Kd.R_below (rX (fr3 HO_444000.out BK507.out (.slice Ao141 t496.length co141) (.slice Ao147 t499.length co147) (.slice Ao148 t502.length co148))) hb); have n1_ := Aside0.mk (Kd.R_below (rX (fr3 HO_444001.out BK507.out (.slice Ao141 t496.length co141) (.slice Ao147 t499.length co147) (.slice Ao148 t502.length co148))) hb); have n2_ := Aside0.mk (Kd.R_below (rX (fr3 HO_444002.out BK507.out (.slice Ao141 t496.length co141) (.slice Ao147 t499.length co147) (.slice Ao148 t502.length co148))) hb); have n3_ := Aside0.mk (Kd.R_below (rX (fr3 HO_454000.out BK507.out (.slice Ao141 t496.length co141) (.slice Ao147 t499.length co147) (.slice Ao148 t502.length co148))) hb); have n4_ := Aside0.mk (Kd.R_below (rX (fr3 HO_454001.out BK507.out (.slice Ao141 t496.length co141) (.slice Ao147 t499.length co147) (.slice Ao148 t502.length co148))) hb); have n5_ := Aside0.mk (Kd.R_below (rX (fr3 HO_454002.out BK507.out (.slice Ao141 t496.length co141) (.slice Ao147 t499.length co147) (.slice Ao148 t502.length co148))) hb); have n6_ := Aside0.mk (Kd.R_below (rX (fr3 HO_466000.out BK507.out (.slice Ao141 t496.length co141) (.slice Ao147 t499.length co147) (.slice Ao148 t502.length co148))) hb); have n7_ := Aside0.mk (Kd.R_below (rX (fr3 HO_466001.out BK507.out (.slice Ao141 t496.length co141) (.slice Ao147 t499.length co147) (.slice Ao148 t502.length co148))) hb); have n8_ := Aside0.mk (Kd.R_below (rX (fr3 HO_466002.out BK507.out (.slice Ao141 t496.length co141) (.slice Ao147 t499.length co147) (.slice Ao148 t502.length co148))) hb); have n9_ := Aside0.mk (Kd.R_below (rX (fr3 HO489.out BK507.out (.slice Ao141 t496.length co141) (.slice Ao147 t499.length co147) (.slice Ao148 t502.length co148))) hb); have n10_ := Aside0.mk (Kd.R_below (rX (fr3 HO492.out BK507.out (.slice Ao141 t496.length co141) (.slice Ao147 t499.length co147) (.slice Ao148 t502.length co148))) hb); have n11_ := Aside0.mk (Kd.R_below (rX (fr3 HO495.out BK507.out (.slice Ao141 t496.length co141) (.slice Ao147 t499.length co147) (.slice Ao148 t502.length co148))) hb); have n12_ := Aside0.mk (Kd.R_below (rX (fr3 HO498.out BK507.out (.slice Ao141 t496.length co141) (.slice Ao147 t499.length co147) (.slice Ao148 t502.length co148))) hb); have n13_ := Aside0.mk (Kd.R_below (rX (fr3 HO501.out BK507.out (.slice Ao141 t496.length co141) (.slice Ao147 t499.length co147) (.slice Ao148 t502.length co148))) hb); have n14_ := Aside0.mk (Kd.R_below (rX (fr3 HO504.out BK507.out (.slice Ao141 t496.length co141) (.slice Ao147 t499.length co147) (.slice Ao148 t502.length co148))) hb); have n15_ := Aside0.mk (blk_below (g := gb421) (o := .cells #[.slice A0_0 l0_0.length c0_0, .slice A0_1 l0_1.length c0_1, .slice A0_2 l0_2.length c0_2] 24 (0, 0)) (by (with_reducible repeat (first|refine kN ?_ _|refine kD ?_|refine kA ?_ _)); refine blk_far ?_ NB421_507.out _; (with_reducible repeat (first|refine kN ?_ _|refine kD ?_|refine kA ?_ _)); refine blk_far ?_ NB421_507.out _; (with_reducible repeat (first|refine kN ?_ _|refine kD ?_|refine kA ?_ _)); refine blk_far ?_ NB421_507.out _; (with_reducible repeat (first|refine kN ?_ _|refine kD ?_|refine kA ?_ _)); exact BK421.out) hb); have n16_ := Aside0.mk (blk_below (g := gb443) (o := .cells #[.slice Ao22 t432.length co22, .slice Ao25 t435.length co25, .slice Ao26 t438.length co26] 26 (0, 0)) (by (with_reducible repeat (first|refine kN ?_ _|refine kD ?_|refine kA ?_ _)); refine blk_far ?_ NB443_507.out _; (with_reducible repeat (first|refine kN ?_ _|refine kD ?_|refine kA ?_ _)); refine blk_far ?_ NB443_507.out _; (with_reducible repeat (first|refine kN ?_ _|refine kD ?_|refine kA ?_ _)); refine blk_far ?_ NB443_507.out _; (with_reducible repeat (first|refine kN ?_ _|refine kD ?_|refine kA ?_ _)); exact BK443.out) hb); have n17_ := Aside0.mk (blk_below (g := gb453) (o := .cells #[.slice Ao30 t478.length co30, .slice Ao34 t479.length co34, .slice Ao35 t480.length co35] 26 (0, 0)) (by (with_reducible repeat (first|refine kN ?_ _|refine kD ?_|refine kA ?_ _)); refine blk_far ?_ NB453_507.out _; (with_reducible repeat (first|refine kN ?_ _|refine kD ?_|refine kA ?_ _)); refine blk_far ?_ NB453_507.out _; (with_reducible repeat (first|refine kN ?_ _|refine kD ?_|refine kA ?_ _)); refine blk_far ?_ NB453_507.out _; (with_reducible repeat (first|refine kN ?_ _|refine kD ?_|refine kA ?_ _)); exact BK453.out) hb); have n18_ := Aside0.mk (blk_below (g := gb465) (o := .cells #[.slice Ao38 t454.length co38, .slice Ao43 t457.length co43, .slice Ao44 t460.length co44] 26 (0, 0)) (by (with_reducible repeat (first|refine kN ?_ _|refine kD ?_|refine kA ?_ _)); refine blk_far ?_ NB465_507.out _; (with_reducible repeat (first|refine kN ?_ _|refine kD ?_|refine kA ?_ _)); refine blk_far ?_ NB465_507.out _; (with_reducible repeat (first|refine kN ?_ _|refine kD ?_|refine kA ?_ _)); refine blk_far ?_ NB465_507.out _; (with_reducible repeat (first|refine kN ?_ _|refine kD ?_|refine kA ?_ _)); exact BK465.out) hb); have n19_ := Aside0.mk (blk_below (g := gb507) (o := .cells #[.slice Ao141 t496.length co141, .slice Ao147 t499.length co147, .slice Ao148 t502.length co148] 26 (0, 0)) (by (with_reducible repeat (first|refine kN ?_ _|refine kD ?_|refine kA ?_ _)); refine blk_put (cs := #[.slice Ao141 t496.length co141, .slice Ao147 t499.length co147, .slice none 0 0]) ?_ 2 _ rfl; (with_reducible repeat (first|refine kN ?_ _|refine kD ?_|refine kA ?_ _)); refine blk_put (cs := #[.slice Ao141 t496.length co141, .slice none 0 0, .slice none 0 0]) ?_ 1 _ rfl; (with_reducible repeat (first|refine kN ?_ _|refine kD ?_|refine kA ?_ _)); refine blk_put (cs := #[.slice none 0 0, .slice none 0 0, .slice none 0 0]) ?_ 0 _ rfl; (with_reducible repeat (first|refine kN ?_ _|refine kD ?_|refine kA ?_ _)); exact BK507.out) hb); have n20_ := Aside0.mk (below_step (by repeat (first | (with_reducible first | exact HB.out|apply bA|apply bN|apply bD | refine below_set ?_ GE421.out | refine below_set ?_ GE443.out | refine below_set ?_ GE453.out | refine below_set ?_ GE465.out | refine below_set ?_ GE507.out) | exact HB.out)) hb); clear HO_444000 HO_444001 HO_444002 HO_454000 HO_454001 HO_454002 HO_466000 HO_466001 HO_466002 HO489 HO492 HO495 HO498 HO501 HO504 BK421 BK443 BK453 BK465 BK507 HB; have HO_444000 := n0_; have HO_444001 := n1_; have HO_444002 := n2_; have HO_454000 := n3_; have HO_454001 := n4_; have HO_454002 := n5_; have HO_466000 := n6_; have HO_466001 := n7_; have HO_466002 := n8_; have HO489 := n9_; have HO492 := n10_; have HO495 := n11_; have HO498 := n12_; have HO501 := n13_; have HO504 := n14_; have BK421 := n15_; have BK443 := n16_; have BK453 := n17_; have BK465 := n18_; have BK507 := n19_; have HB := n20_; clear n0_ n1_ n2_ n3_ n4_ n5_ n6_ n7_ n8_ n9_ n10_ n11_ n12_ n13_ n14_ n15_ n16_ n17_ n18_ n19_ n20_; (try clear hb); (try clear hb2); (try clear hk); (try clear hi)))
  go_meet
  case rel => exact ⟨_, (true), vX, H', ⟨by have := HJ10.out; have := HJ76.out; first | omega | exact Nat.le_refl _⟩, ⟨by (try simp only [hl454000_76]); (try simp only [hl454001_76]); (try simp only [hl454002_76]); (with_reducible repeat (first|apply rA|apply rN|apply rD)); exact Kd.R_mono HO_444000.out (fun _ hk => ⟨hk.1.1.1.1.1.1.1, ⟨hk.1.1.1.1.1.1.2.1, ⟨hk.1.1.1.1.1.1.2.2.1, ⟨hk.1.1.1.1.1.1.2.2.2.1, ⟨hk.1.1.1.1.1.1.2.2.2.2.1, ⟨hk.1.1.1.1.1.1.2.2.2.2.2.1, ⟨hk.1.1.1.1.1.1.2.2.2.2.2.2.1, ⟨hk.1.1.1.1.1.1.2.2.2.2.2.2.2, ⟨hk.1.1.2, ⟨hk.1.2, hk.2⟩⟩⟩⟩⟩⟩⟩⟩⟩⟩)⟩, ⟨by (try simp only [hl454000_76]); (try simp only [hl454001_76]); (try simp only [hl454002_76]); (with_reducible repeat (first|apply rA|apply rN|apply rD)); exact Kd.R_mono HO_444001.out (fun _ hk => ⟨hk.1.1.1.1.1.1.1, ⟨hk.1.1.1.1.1.1.2.1, ⟨hk.1.1.1.1.1.1.2.2.1, ⟨hk.1.1.1.1.1.1.2.2.2.1, ⟨hk.1.1.1.1.1.1.2.2.2.2.1, ⟨hk.1.1.1.1.1.1.2.2.2.2.2.1, ⟨hk.1.1.1.1.1.1.2.2.2.2.2.2.1, ⟨hk.1.1.1.1.1.1.2.2.2.2.2.2.2, ⟨hk.1.1.2, ⟨hk.1.2, hk.2⟩⟩⟩⟩⟩⟩⟩⟩⟩⟩)⟩, ⟨by (try simp only [hl454000_76]); (try simp only [hl454001_76]); (try simp only [hl454002_76]); (with_reducible repeat (first|apply rA|apply rN|apply rD)); exact Kd.R_mono HO_444002.out (fun _ hk => ⟨hk.1.1.1.1.1.1.1, ⟨hk.1.1.1.1.1.1.2.1, ⟨hk.1.1.1.1.1.1.2.2.1, ⟨hk.1.1.1.1.1.1.2.2.2.1, ⟨hk.1.1.1.1.1.1.2.2.2.2.1, ⟨hk.1.1.1.1.1.1.2.2.2.2.2.1, ⟨hk.1.1.1.1.1.1.2.2.2.2.2.2.1, ⟨hk.1.1.1.1.1.1.2.2.2.2.2.2.2, ⟨hk.1.1.2, ⟨hk.1.2, hk.2⟩⟩⟩⟩⟩⟩⟩⟩⟩⟩)⟩, ⟨by (try simp only [hl454000_76]); (try simp only [hl454001_76]); (try simp only [hl454002_76]); (with_reducible repeat (first|apply rA|apply rN|apply rD)); exact Kd.R_mono HO_454000.out (fun _ hk => ⟨hk.1.1.1.1.1.1.1, ⟨hk.1.1.1.1.1.1.2.1, ⟨hk.1.1.1.1.1.1.2.2.1, ⟨hk.1.1.1.1.1.1.2.2.2.1, ⟨hk.1.1.1.1.1.1.2.2.2.2.1, ⟨hk.1.1.1.1.1.1.2.2.2.2.2.1, ⟨hk.1.1.1.1.1.1.2.2.2.2.2.2.1, ⟨hk.1.1.1.1.1.1.2.2.2.2.2.2.2, ⟨hk.1.1.2, ⟨hk.1.2, hk.2⟩⟩⟩⟩⟩⟩⟩⟩⟩⟩)⟩, ⟨by (try simp only [hl454000_76]); (try simp only [hl454001_76]); (try simp only [hl454002_76]); (with_reducible repeat (first|apply rA|apply rN|apply rD)); exact Kd.R_mono HO_454001.out (fun _ hk => ⟨hk.1.1.1.1.1.1.1, ⟨hk.1.1.1.1.1.1.2.1, ⟨hk.1.1.1.1.1.1.2.2.1, ⟨hk.1.1.1.1.1.1.2.2.2.1, ⟨hk.1.1.1.1.1.1.2.2.2.2.1, ⟨hk.1.1.1.1.1.1.2.2.2.2.2.1, ⟨hk.1.1.1.1.1.1.2.2.2.2.2.2.1, ⟨hk.1.1.1.1.1.1.2.2.2.2.2.2.2, ⟨hk.1.1.2, ⟨hk.1.2, hk.2⟩⟩⟩⟩⟩⟩⟩⟩⟩⟩)⟩, ⟨by (try simp only [hl454000_76]); (try simp only [hl454001_76]); (try simp only [hl454002_76]); (with_reducible repeat (first|apply rA|apply rN|apply rD)); exact Kd.R_mono HO_454002.out (fun _ hk => ⟨hk.1.1.1.1.1.1.1, ⟨hk.1.1.1.1.1.1.2.1, ⟨hk.1.1.1.1.1.1.2.2.1, ⟨hk.1.1.1.1.1.1.2.2.2.1, ⟨hk.1.1.1.1.1.1.2.2.2.2.1, ⟨hk.1.1.1.1.1.1.2.2.2.2.2.1, ⟨hk.1.1.1.1.1.1.2.2.2.2.2.2.1, ⟨hk.1.1.1.1.1.1.2.2.2.2.2.2.2, ⟨hk.1.1.2, ⟨hk.1.2, hk.2⟩⟩⟩⟩⟩⟩⟩⟩⟩⟩)⟩, ⟨by (try simp only [hl454000_76]); (try simp only [hl454001_76]); (try simp only [hl454002_76]); (with_reducible repeat (first|apply rA|apply rN|apply rD)); exact Kd.R_mono HO_466000.out (fun _ hk => ⟨hk.1.1.1.1.1.1.1, ⟨hk.1.1.1.1.1.1.2.1, ⟨hk.1.1.1.1.1.1.2.2.1, ⟨hk.1.1.1.1.1.1.2.2.2.1, ⟨hk.1.1.1.1.1.1.2.2.2.2.1, ⟨hk.1.1.1.1.1.1.2.2.2.2.2.1, ⟨hk.1.1.1.1.1.1.2.2.2.2.2.2.1, ⟨hk.1.1.1.1.1.1.2.2.2.2.2.2.2, ⟨hk.1.1.2, ⟨hk.1.2, hk.2⟩⟩⟩⟩⟩⟩⟩⟩⟩⟩)⟩, ⟨by (try simp only [hl454000_76]); (try simp only [hl454001_76]); (try simp only [hl454002_76]); (with_reducible repeat (first|apply rA|apply rN|apply rD)); exact Kd.R_mono HO_466001.out (fun _ hk => ⟨hk.1.1.1.1.1.1.1, ⟨hk.1.1.1.1.1.1.2.1, ⟨hk.1.1.1.1.1.1.2.2.1, ⟨hk.1.1.1.1.1.1.2.2.2.1, ⟨hk.1.1.1.1.1.1.2.2.2.2.1, ⟨hk.1.1.1.1.1.1.2.2.2.2.2.1, ⟨hk.1.1.1.1.1.1.2.2.2.2.2.2.1, ⟨hk.1.1.1.1.1.1.2.2.2.2.2.2.2, ⟨hk.1.1.2, ⟨hk.1.2, hk.2⟩⟩⟩⟩⟩⟩⟩⟩⟩⟩)⟩, ⟨by (try simp only [hl454000_76]); (try simp only [hl454001_76]); (try simp only [hl454002_76]); (with_reducible repeat (first|apply rA|apply rN|apply rD)); exact Kd.R_mono HO_466002.out (fun _ hk => ⟨hk.1.1.1.1.1.1.1, ⟨hk.1.1.1.1.1.1.2.1, ⟨hk.1.1.1.1.1.1.2.2.1, ⟨hk.1.1.1.1.1.1.2.2.2.1, ⟨hk.1.1.1.1.1.1.2.2.2.2.1, ⟨hk.1.1.1.1.1.1.2.2.2.2.2.1, ⟨hk.1.1.1.1.1.1.2.2.2.2.2.2.1, ⟨hk.1.1.1.1.1.1.2.2.2.2.2.2.2, ⟨hk.1.1.2, ⟨hk.1.2, hk.2⟩⟩⟩⟩⟩⟩⟩⟩⟩⟩)⟩, ⟨by (try simp only [hl454000_76]); (try simp only [hl454001_76]); (try simp only [hl454002_76]); (with_reducible repeat (first|apply rA|apply rN|apply rD)); exact Kd.R_mono HO498.out (fun _ hk => ⟨hk.1.1.1.1.1.1.1.1.1.1.1.2, ⟨hk.1.1.1.1.1.1.1.1.1.1.2, ⟨hk.1.1.1.1.1.1.1.1.1.2, ⟨hk.1.1.1.1.1.1.1.1.2, ⟨hk.1.1.1.1.1.1.1.2, ⟨hk.1.1.1.1.1.1.2, ⟨hk.1.1.1.1.1.2, ⟨hk.1.1.1.1.2, ⟨hk.1.1.1.2, ⟨hk.1.1.1.1.1.1.1.1.1.1.1.1.1, hk.1.1.1.1.1.1.1.1.1.1.1.1.2⟩⟩⟩⟩⟩⟩⟩⟩⟩⟩)⟩, ⟨by (try simp only [hl454000_76]); (try simp only [hl454001_76]); (try simp only [hl454002_76]); (with_reducible repeat (first|apply rA|apply rN|apply rD)); exact Kd.R_mono HO501.out (fun _ hk => ⟨hk.1.1.1.1.1.1.1.1.1.1.1.2, ⟨hk.1.1.1.1.1.1.1.1.1.1.2, ⟨hk.1.1.1.1.1.1.1.1.1.2, ⟨hk.1.1.1.1.1.1.1.1.2, ⟨hk.1.1.1.1.1.1.1.2, ⟨hk.1.1.1.1.1.1.2, ⟨hk.1.1.1.1.1.2, ⟨hk.1.1.1.1.2, ⟨hk.1.1.1.2, ⟨hk.1.1.1.1.1.1.1.1.1.1.1.1.1, hk.1.1.1.1.1.1.1.1.1.1.1.1.2⟩⟩⟩⟩⟩⟩⟩⟩⟩⟩)⟩, ⟨by (try simp only [hl454000_76]); (try simp only [hl454001_76]); (try simp only [hl454002_76]); (with_reducible repeat (first|apply rA|apply rN|apply rD)); exact Kd.R_mono HO504.out (fun _ hk => ⟨hk.1.1.1.1.1.1.1.1.1.1.1.2, ⟨hk.1.1.1.1.1.1.1.1.1.1.2, ⟨hk.1.1.1.1.1.1.1.1.1.2, ⟨hk.1.1.1.1.1.1.1.1.2, ⟨hk.1.1.1.1.1.1.1.2, ⟨hk.1.1.1.1.1.1.2, ⟨hk.1.1.1.1.1.2, ⟨hk.1.1.1.1.2, ⟨hk.1.1.1.2, ⟨hk.1.1.1.1.1.1.1.1.1.1.1.1.1, hk.1.1.1.1.1.1.1.1.1.1.1.1.2⟩⟩⟩⟩⟩⟩⟩⟩⟩⟩)⟩, ⟨by (try simp only [hl454000_76]); (try simp only [hl454001_76]); (try simp only [hl454002_76]); (with_reducible repeat (first|refine kN ?_ _|refine kD ?_|refine kA ?_ _)); exact BK421.out⟩, ⟨by (try simp only [hl454000_76]); (try simp only [hl454001_76]); (try simp only [hl454002_76]); (with_reducible repeat (first|refine kN ?_ _|refine kD ?_|refine kA ?_ _)); exact BK443.out⟩, ⟨by (try simp only [hl454000_76]); (try simp only [hl454001_76]); (try simp only [hl454002_76]); (with_reducible repeat (first|refine kN ?_ _|refine kD ?_|refine kA ?_ _)); exact BK453.out⟩, ⟨by (try simp only [hl454000_76]); (try simp only [hl454001_76]); (try simp only [hl454002_76]); (with_reducible repeat (first|refine kN ?_ _|refine kD ?_|refine kA ?_ _)); exact BK465.out⟩, ⟨by (try simp only [hl454000_76]); (try simp only [hl454001_76]); (try simp only [hl454002_76]); (with_reducible repeat (first|refine kN ?_ _|refine kD ?_|refine kA ?_ _)); exact BK507.out⟩, ⟨by repeat (first | (with_reducible first | exact HB.out|apply bA|apply bN|apply bD | refine below_set ?_ GE421.out | refine below_set ?_ GE443.out | refine below_set ?_ GE453.out | refine below_set ?_ GE465.out | refine below_set ?_ GE507.out) | exact HB.out)⟩⟩
  }
 case rest =>
 clear HC124
 try clear c1
 try clear c2
 try clear p2
 try clear c3
 try clear c3b0
 try clear c4
 try clear c5
 try clear c6
 try clear c7
 try clear c8
 try clear c9
 try clear c10
 try clear c11
 try clear c12
 try clear c13
 try clear c14
 try clear c15
 try clear c16
 try clear c17
 try clear c23
 try clear c31
 try clear c32
 try clear c39
 try clear c40
 try clear c41
 try clear c46
 try clear c47
 try clear c47b0
 try clear c47b1
 try clear c48
 try clear c49
 try clear c50
 try clear c52
 try clear c53
 try clear c56
 try clear c57
 try clear c58
 try clear c60
 try clear c61
 try clear c64
 try clear c65
 try clear c66
 try clear c68
 try clear c69
 try clear c72
 try clear c75
 try clear c84
 try clear c85
 try clear c86
 try clear c89
 try clear c89b0
 try clear c91
 try clear c92
 try clear c92b0
 try clear c92b1
 try clear c93
 try clear c94
 try clear c95
 try clear c97
 try clear c98
 try clear c101
 try clear c102
 try clear c103
 try clear c105
 try clear c106
 try clear c109
 try clear c110
 try clear c111
 try clear c113
 try clear c114
 try clear c117
 try clear c120
 try clear c120b0
 try clear c121
 try clear c121b0
 try clear c121b1
 try clear c125
 try clear c126
 try clear c127
 try clear c132
 try clear c133
 try clear c142
 try clear c143
 try clear c144
 try clear c145
 try clear c150
 try clear c151
 try clear c151b0
 try clear c151b1
 try clear c152
 try clear c153
 try clear c154
 try clear c155
 try clear c157
 try clear c158
 try clear c159
 try clear c162
 try clear c163
 try clear c164
 try clear c165
 try clear c167
 try clear c168
 try clear c169
 try clear c172
 try clear c173
 try clear c174
 try clear c175
 try clear c177
 try clear c178
 try clear c179
 try clear hcz104_0
 try clear hcz104_1
 try clear hcz104_2
 try clear hcz107_0
 try clear hcz107_1
 try clear hcz107_2
 try clear hcz112_0
 try clear hcz112_1
 try clear hcz112_2
 try clear hcz115_0
 try clear hcz115_1
 try clear hcz115_2
 try clear hcz128_0
 try clear hcz128_1
 try clear hcz128_2
 try clear hcz130_0
 try clear hcz130_1
 try clear hcz130_2
 try clear hcz134_0
 try clear hcz134_1
 try clear hcz134_2
 try clear hcz13_0
 try clear hcz13_1
 try clear hcz13_2
 try clear hcz146_0
 try clear hcz146_1
 try clear hcz146_2
 try clear hcz156_0
 try clear hcz156_1
 try clear hcz156_2
 try clear hcz15_0
 try clear hcz15_1
 try clear hcz15_2
 try clear hcz160_0
 try clear hcz160_1
 try clear hcz160_2
 try clear hcz166_0
 try clear hcz166_1
 try clear hcz166_2
 try clear hcz170_0
 try clear hcz170_1
 try clear hcz170_2
 try clear hcz176_0
 try clear hcz176_1
 try clear hcz176_2
 try clear hcz180_0
 try clear hcz180_1
 try clear hcz180_2
 try clear hcz24_0
 try clear hcz24_1
 try clear hcz24_2
 try clear hcz27_0
 try clear hcz27_1
 try clear hcz27_2
 try clear hcz33_0
 try clear hcz33_1
 try clear hcz33_2
 try clear hcz42_0
 try clear hcz42_1
 try clear hcz42_2
 try clear hcz51_0
 try clear hcz51_1
 try clear hcz51_2
 try clear hcz54_0
 try clear hcz54_1
 try clear hcz54_2
 try clear hcz59_0
 try clear hcz59_1
 try clear hcz59_2
 try clear hcz5_0
 try clear hcz5_1
 try clear hcz5_2
 try clear hcz62_0
 try clear hcz62_1
 try clear hcz62_2
 try clear hcz67_0
 try clear hcz67_1
 try clear hcz67_2
 try clear hcz70_0
 try clear hcz70_1
 try clear hcz70_2
 try clear hcz87_0
 try clear hcz87_1
 try clear hcz87_2
 try clear hcz96_0
 try clear hcz96_1
 try clear hcz96_2
 try clear hcz99_0
 try clear hcz99_1
 try clear hcz99_2
 try clear hfz104_0
 try clear hfz104_1
 try clear hfz104_2
 try clear hfz107_0
 try clear hfz107_1
 try clear hfz107_2
 try clear hfz112_0
 try clear hfz112_1
 try clear hfz112_2
 try clear hfz115_0
 try clear hfz115_1
 try clear hfz115_2
 try clear hfz128_0
 try clear hfz128_1
 try clear hfz128_2
 try clear hfz130_0
 try clear hfz130_1
 try clear hfz130_2
 try clear hfz134_0
 try clear hfz134_1
 try clear hfz134_2
 try clear hfz13_0
 try clear hfz13_1
 try clear hfz13_2
 try clear hfz146_0
 try clear hfz146_1
 try clear hfz146_2
 try clear hfz156_0
 try clear hfz156_1
 try clear hfz156_2
 try clear hfz15_0
 try clear hfz15_1
 try clear hfz15_2
 try clear hfz160_0
 try clear hfz160_1
 try clear hfz160_2
 try clear hfz166_0
 try clear hfz166_1
 try clear hfz166_2
 try clear hfz170_0
 try clear hfz170_1
 try clear hfz170_2
 try clear hfz176_0
 try clear hfz176_1
 try clear hfz176_2
 try clear hfz180_0
 try clear hfz180_1
 try clear hfz180_2
 try clear hfz24_0
 try clear hfz24_1
 try clear hfz24_2
 try clear hfz27_0
 try clear hfz27_1
 try clear hfz27_2
 try clear hfz33_0
 try clear hfz33_1
 try clear hfz33_2
 try clear hfz42_0
 try clear hfz42_1
 try clear hfz42_2
 try clear hfz51_0
 try clear hfz51_1
 try clear hfz51_2
 try clear hfz54_0
 try clear hfz54_1
 try clear hfz54_2
 try clear hfz59_0
 try clear hfz59_1
 try clear hfz59_2
 try clear hfz5_0
 try clear hfz5_1
 try clear hfz5_2
 try clear hfz62_0
 try clear hfz62_1
 try clear hfz62_2
 try clear hfz67_0
 try clear hfz67_1
 try clear hfz67_2
 try clear hfz70_0
 try clear hfz70_1
 try clear hfz70_2
 try clear hfz87_0
 try clear hfz87_1
 try clear hfz87_2
 try clear hfz96_0
 try clear hfz96_1
 try clear hfz96_2
 try clear hfz99_0
 try clear hfz99_1
 try clear hfz99_2
 try clear p2
 obtain ⟨kq, x108_123, rfl, HA, HJ123, HO_444000, HO_444001, HO_444002, HO_454000, HO_454001, HO_454002, HO_466000, HO_466001, HO_466002, HO_508000, HO_508001, HO_508002, BK421, BK443, BK453, BK465, BK507, HB⟩ := hcut
 have hl466000_123 := (Kd.R_reads' HO_466000.out).1
 rw [hl466000_123] at HO_466000
 (try simp only [hl466000_123])
 (try simp only [hl466000_123] at BK421)
 (try simp only [hl466000_123] at BK443)
 (try simp only [hl466000_123] at BK453)
 (try simp only [hl466000_123] at BK465)
 (try simp only [hl466000_123] at BK507)
 (try simp only [hl466000_123] at HO_444000)
 (try simp only [hl466000_123] at HO_444001)
 (try simp only [hl466000_123] at HO_444002)
 (try simp only [hl466000_123] at HO_454000)
 (try simp only [hl466000_123] at HO_454001)
 (try simp only [hl466000_123] at HO_454002)
 (try simp only [hl466000_123] at HO_466001)
 (try simp only [hl466000_123] at HO_466002)
 (try simp only [hl466000_123] at HO_508000)
 (try simp only [hl466000_123] at HO_508001)
 (try simp only [hl466000_123] at HO_508002)
 have hl466001_123 := (Kd.R_reads' HO_466001.out).1
 rw [hl466001_123] at HO_466001
 (try simp only [hl466001_123])
 (try simp only [hl466001_123] at BK421)
 (try simp only [hl466001_123] at BK443)
 (try simp only [hl466001_123] at BK453)
 (try simp only [hl466001_123] at BK465)
 (try simp only [hl466001_123] at BK507)
 (try simp only [hl466001_123] at HO_444000)
 (try simp only [hl466001_123] at HO_444001)
 (try simp only [hl466001_123] at HO_444002)
 (try simp only [hl466001_123] at HO_454000)
 (try simp only [hl466001_123] at HO_454001)
 (try simp only [hl466001_123] at HO_454002)
 (try simp only [hl466001_123] at HO_466000)
 (try simp only [hl466001_123] at HO_466002)
 (try simp only [hl466001_123] at HO_508000)
 (try simp only [hl466001_123] at HO_508001)
 (try simp only [hl466001_123] at HO_508002)
 have hl466002_123 := (Kd.R_reads' HO_466002.out).1
 rw [hl466002_123] at HO_466002
 (try simp only [hl466002_123])
 (try simp only [hl466002_123] at BK421)
 (try simp only [hl466002_123] at BK443)
 (try simp only [hl466002_123] at BK453)
 (try simp only [hl466002_123] at BK465)
 (try simp only [hl466002_123] at BK507)
 (try simp only [hl466002_123] at HO_444000)
 (try simp only [hl466002_123] at HO_444001)
 (try simp only [hl466002_123] at HO_444002)
 (try simp only [hl466002_123] at HO_454000)
 (try simp only [hl466002_123] at HO_454001)
 (try simp only [hl466002_123] at HO_454002)
 (try simp only [hl466002_123] at HO_466000)
 (try simp only [hl466002_123] at HO_466001)
 (try simp only [hl466002_123] at HO_508000)
 (try simp only [hl466002_123] at HO_508001)
 (try simp only [hl466002_123] at HO_508002)
 cases kq with
 | zero => exact absurd HA.out (by simp [laws_FnExactInduceAll.j2])
 | succ kj123 =>
 have H := HA.out
 clear HA
 simp only [laws_FnExactInduceAll.j2] at H
 by_cases c182 : x108_123 = true
 {
 subst c182
 have H1 : (some false) = some r := by rw [if_pos rfl] at H; exact H
 clear H
 have H := H1
 clear H1
 exact absurd ((Option.some.inj H).trans HRT.out) (by decide)
 }
 {
 replace c182 := Bool.eq_false_iff.mpr c182
 subst c182
 have H1 : ((laws_heldExchange.f kj123 t483 t484 t485 1).bind fun t509 => (if t509 < 0 then (some false) else (if t509 = t482 then (some true) else (some false)))) = some r := by rw [if_neg (show ¬ (false = true) by decide)] at H; exact H
 clear H
 have H := H1
 clear H1
 replace H := Option.bind_eq_some_iff.mp H
 obtain ⟨t509, A1830, H⟩ := H
 replace H : (if t509 < 0 then (some false) else (if t509 = t482 then (some true) else (some false))) = some r := H
 have A183 := Aside0.mk A1830
 clear A1830
 by_cases c184 : t509 < 0
 {
 rw [if_pos c184] at H
 have c184b0 : decide (t509 < 0) = true := decide_eq_true c184
 clear c184
 exact absurd ((Option.some.inj H).trans HRT.out) (by decide)
 }
 {
 rw [if_neg c184] at H
 have c184b0 : decide (t509 < 0) = false := decide_eq_false c184
 clear c184
 by_cases c185 : t509 = t482
 {
 rw [if_pos c185] at H
 have c185b0 : (t509 == t482) = true := beq_iff_eq.mpr c185
 have c185b1 : (t509 != t482) = false := bne_eq_false_iff_eq.mpr c185
 clear c185
 obtain rfl := Option.some.inj H
 have hnb186 := NB465_421.out
 have hnc186 := NB421_465.out
 have hnb187 := NB465_443.out
 have hnc187 := NB443_465.out
 have hnb188 := NB465_453.out
 have hnc188 := NB453_465.out
 have hnb189 := NB465_507.out
 have hnc189 := NB507_465.out
 have hcz190_0 := cz30 BK465.out
 have hcz190_1 := cz31 BK465.out
 have hcz190_2 := cz32 BK465.out
 have hfz190_0 := blk_frozen BK465.out 0
 have hfz190_1 := blk_frozen BK465.out 1
 have hfz190_2 := blk_frozen BK465.out 2
 go_wp2_with (first | ((with_reducible refine gate_callee (f := 12) rfl ?_); refine goesL_ (some 111) rfl rfl Try.func12 (by kernel_rfl) rfl #[.agg #[.slice Ao38 t483.length co38, .slice Ao43 t484.length co43, .slice Ao44 t485.length co44], .int .i64 1] rfl aX ?_; (with_reducible refine (laws_heldExchange.calls kj123 _ _ t483 _ _ t484 _ _ t485 1 t509 _ ?side1 ?side2 ?side3 ?side4 ?side5 ?side6 A183.out).mono ?_); (case side1 => exact cX (Kd.R_reads' HO_466000.out).2.2); (case side2 => exact (Kd.R_reads' HO_466000.out).2.1); (case side3 => exact cX (Kd.R_reads' HO_466001.out).2.2); (case side4 => exact (Kd.R_reads' HO_466001.out).2.1); (case side5 => exact cX (Kd.R_reads' HO_466002.out).2.2); (case side6 => exact (Kd.R_reads' HO_466002.out).2.1); rintro e w191 ⟨rfl, hb⟩; refine ⟨_, rfl, ?_⟩; have n0_ := Aside0.mk (Kd.R_below (rX HO_444000.out) hb); have n1_ := Aside0.mk (Kd.R_below (rX HO_444001.out) hb); have n2_ := Aside0.mk (Kd.R_below (rX HO_444002.out) hb); have n3_ := Aside0.mk (Kd.R_below (rX HO_454000.out) hb); have n4_ := Aside0.mk (Kd.R_below (rX HO_454001.out) hb); have n5_ := Aside0.mk (Kd.R_below (rX HO_454002.out) hb); have n6_ := Aside0.mk (Kd.R_below (rX HO_466000.out) hb); have n7_ := Aside0.mk (Kd.R_below (rX HO_466001.out) hb); have n8_ := Aside0.mk (Kd.R_below (rX HO_466002.out) hb); have n9_ := Aside0.mk (Kd.R_below (rX HO_508000.out) hb); have n10_ := Aside0.mk (Kd.R_below (rX HO_508001.out) hb); have n11_ := Aside0.mk (Kd.R_below (rX HO_508002.out) hb); have n12_ := Aside0.mk (bbX BK421.out hb); have n13_ := Aside0.mk (bbX BK443.out hb); have n14_ := Aside0.mk (bbX BK453.out hb); have n15_ := Aside0.mk (bbX BK465.out hb); have n16_ := Aside0.mk (bbX BK507.out hb); have n17_ := Aside0.mk (below_step (by repeat (first | (with_reducible first | exact HB.out|apply bA|apply bN|apply bD | refine below_set ?_ GE421.out | refine below_set ?_ GE443.out | refine below_set ?_ GE453.out | refine below_set ?_ GE465.out | refine below_set ?_ GE507.out) | exact HB.out)) hb); clear HO_444000 HO_444001 HO_444002 HO_454000 HO_454001 HO_454002 HO_466000 HO_466001 HO_466002 HO_508000 HO_508001 HO_508002 BK421 BK443 BK453 BK465 BK507 HB; have HO_444000 := n0_; have HO_444001 := n1_; have HO_444002 := n2_; have HO_454000 := n3_; have HO_454001 := n4_; have HO_454002 := n5_; have HO_466000 := n6_; have HO_466001 := n7_; have HO_466002 := n8_; have HO_508000 := n9_; have HO_508001 := n10_; have HO_508002 := n11_; have BK421 := n12_; have BK443 := n13_; have BK453 := n14_; have BK465 := n15_; have BK507 := n16_; have HB := n17_; clear n0_ n1_ n2_ n3_ n4_ n5_ n6_ n7_ n8_ n9_ n10_ n11_ n12_ n13_ n14_ n15_ n16_ n17_; (try clear hb); (try clear hb2); (try clear hk); (try clear hi)))
 go_ret
 exact ⟨eX, by repeat (first | (with_reducible first | exact HB.out|apply bA|apply bN|apply bD | refine below_set ?_ GE421.out | refine below_set ?_ GE443.out | refine below_set ?_ GE453.out | refine below_set ?_ GE465.out | refine below_set ?_ GE507.out) | exact HB.out)⟩
 }
 {
 rw [if_neg c185] at H
 have c185b0 : (t509 == t482) = false := beq_eq_false_iff_ne.mpr c185
 have c185b1 : (t509 != t482) = true := bne_iff_ne.mpr c185
 exact absurd ((Option.some.inj H).trans HRT.out) (by decide)
 }
 }
 }
 }
 {
 rw [if_neg c121] at H
 have c121b0 : (t486 == t482) = false := beq_eq_false_iff_ne.mpr c121
 have c121b1 : (t486 != t482) = true := bne_iff_ne.mpr c121
 exact absurd ((Option.some.inj H).trans HRT.out) (by decide)
 }
 }
 }
 }
 {
 replace c75 := Bool.eq_false_iff.mpr c75
 subst c75
 have H1 : (some false) = some r := by rw [if_neg (show ¬ (false = true) by decide)] at H; exact H
 clear H
 have H := H1
 clear H1
 exact absurd ((Option.some.inj H).trans HRT.out) (by decide)
 }
 }
 }

end Go.Proofs.Ytfomhkfgdggngaa.S
