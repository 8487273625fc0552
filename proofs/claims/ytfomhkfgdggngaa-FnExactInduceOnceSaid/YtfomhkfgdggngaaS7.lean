-- PRINTED by print.py (a twelfth state) out of the translation. Not trusted: Lean checks it.
import Derived.Test.YtfomhkfgdggngaaS0
import Derived.Test.YtfomhkfgdggngaaS1
import Derived.Test.YtfomhkfgdggngaaS3
import Derived.Test.YtfomhkfgdggngaaS4
import Derived.Test.YtfomhkfgdggngaaS5
import Derived.Test.YtfomhkfgdggngaaS6
namespace Go.Proofs.Ytfomhkfgdggngaa.S
open Go.RowKit Go.Proofs.YtfomhkfgdggngaaW.PrintWords Go.Proofs.YtfomhkfgdggngaaW.PrintLast Go.Proofs.YtfomhkfgdggngaaW.PrintMore
attribute [local go_sem] max2_int min2_int max_two min_two max_three min_three max_four min_four   -- for this text's walks alone
set_option linter.unusedVariables false
set_option linter.unusedSimpArgs false

/-! ### laws_FnExactInduceOnce: function 3 -/
mutual
def laws_FnExactInduceOnce.j0 : Nat → Bool → Bool → Bool → List Int → List Int → List Int → List Int → List Int → List Int → List Int → List Int → List Int → List Int → List Int → List Int → Option (Bool)
 | 0, _, _, _, _, _, _, _, _, _, _, _, _, _, _, _ => none
 | k + 1, x5, x8, x40, x279000, x279001, x279002, x300000, x300001, x300002, x310000, x310001, x310002, x321000, x321001, x321002 => if x40 = true then (some false) else ((laws_toExchange.f k x279000 x279001 x279002).bind fun bt322 => ((laws_eqExchange.f k x310000 x310001 x310002 bt322.1 bt322.2.1 bt322.2.2).bind fun t331 => (if t331 = true then ((laws_markExchange.f k x310000 x310001 x310002 1).bind fun bt332 => (if bt332.1 < 0 then (laws_FnExactInduceOnce.j1 k x5 true x279000 x279001 x279002 x300000 x300001 x300002 x321000 x321001 x321002) else ((laws_eqExchange.f k x321000 x321001 x321002 x300000 x300001 x300002).bind fun t336 => (if t336 = true then (laws_FnExactInduceOnce.j1 k x5 (x8 != x5) x279000 x279001 x279002 x300000 x300001 x300002 x321000 x321001 x321002) else (laws_FnExactInduceOnce.j1 k x5 true x279000 x279001 x279002 x300000 x300001 x300002 x321000 x321001 x321002))))) else (some false))))
def laws_FnExactInduceOnce.j1 : Nat → Bool → Bool → List Int → List Int → List Int → List Int → List Int → List Int → List Int → List Int → List Int → Option (Bool)
 | 0, _, _, _, _, _, _, _, _, _, _, _ => none
 | k + 1, x5, x61, x279000, x279001, x279002, x300000, x300001, x300002, x321000, x321001, x321002 => if x61 = true then (some false) else ((laws_markExchange.f k x321000 x321001 x321002 1).bind fun bt337 => ((laws_heldExchange.f k bt337.2.1 bt337.2.2.1 bt337.2.2.2 1).bind fun t341 => (if t341 < 0 then (some false) else (if t341 = bt337.1 then ((laws_toExchange.f k x279000 x279001 x279002).bind fun bt342 => ((impl_InduceOnce.f k bt342.1 bt342.2.1 bt342.2.2).bind fun bt351 => ((laws_eqExchange.f k bt351.1 bt351.2.1 bt351.2.2.1 x300000 x300001 x300002).bind fun t362 => (if t362 = true then (laws_FnExactInduceOnce.j2 k bt337.1 (bt351.2.2.2 != x5) bt337.2.1 bt337.2.2.1 bt337.2.2.2) else (laws_FnExactInduceOnce.j2 k bt337.1 true bt337.2.1 bt337.2.2.1 bt337.2.2.2))))) else (some false)))))
def laws_FnExactInduceOnce.j2 : Nat → Int → Bool → List Int → List Int → List Int → Option (Bool)
 | 0, _, _, _, _, _ => none
 | k + 1, x10, x87, x321000, x321001, x321002 => if x87 = true then (some false) else ((laws_heldExchange.f k x321000 x321001 x321002 1).bind fun t363 => (if t363 < 0 then (some false) else (if t363 = x10 then (some true) else (some false))))
end
def laws_FnExactInduceOnce.f (k : Nat) (l0_0 : List Int) (l0_1 : List Int) (l0_2 : List Int) : Option (Bool) := (laws_szExchange.f l0_0 l0_1 l0_2 1048576).bind fun t279 => (if t279 < 0 then (some true) else ((laws_toExchange.f k l0_0 l0_1 l0_2).bind fun bt280 => ((spec_InduceOnce.f k bt280.1 bt280.2.1 bt280.2.2).bind fun bt289 => ((laws_toExchange.f k l0_0 l0_1 l0_2).bind fun bt300 => ((impl_InduceOnce.f k bt300.1 bt300.2.1 bt300.2.2).bind fun bt310 => ((laws_eqExchange.f k bt310.1 bt310.2.1 bt310.2.2.1 bt289.1 bt289.2.1 bt289.2.2.1).bind fun t321 => (if t321 = true then (laws_FnExactInduceOnce.j0 k bt289.2.2.2 bt310.2.2.2 (bt310.2.2.2 != bt289.2.2.2) l0_0 l0_1 l0_2 bt289.1 bt289.2.1 bt289.2.2.1 bt300.1 bt300.2.1 bt300.2.2 bt310.1 bt310.2.1 bt310.2.2.1) else (laws_FnExactInduceOnce.j0 k bt289.2.2.2 bt310.2.2.2 true l0_0 l0_1 l0_2 bt289.1 bt289.2.1 bt289.2.2.1 bt300.1 bt300.2.1 bt300.2.2 bt310.1 bt310.2.1 bt310.2.2.1))))))))
set_option maxHeartbeats 8000000 in
set_option maxRecDepth 100000 in
theorem laws_FnExactInduceOnce.calls (k : Nat) (A0_0 : Option Addr) (c0_0 : Nat) (l0_0 : List Int) (A0_1 : Option Addr) (c0_1 : Nat) (l0_1 : List Int) (A0_2 : Option Addr) (c0_2 : Nat) (l0_2 : List Int) (r : Bool) (w : World) (hr0_0 : Kd.C (Kd.int .i64) w A0_0 l0_0.length l0_0) (hc0_0 : l0_0.length ≤ c0_0) (hr0_1 : Kd.C (Kd.int .i64) w A0_1 l0_1.length l0_1) (hc0_1 : l0_1.length ≤ c0_1) (hr0_2 : Kd.C (Kd.int .i64) w A0_2 l0_2.length l0_2) (hc0_2 : l0_2.length ≤ c0_2) (hrt_ : r = true) (h : laws_FnExactInduceOnce.f k l0_0 l0_1 l0_2 = some r) :
  Calls Try.prog 3 #[.agg #[.slice A0_0 l0_0.length c0_0, .slice A0_1 l0_1.length c0_1, .slice A0_2 l0_2.length c0_2]] w fun e w' => e = .returned (.bool r) ∧ Below w.heap.size w w' := by
 have hu24 := Try.underlying24
 have hu26 := Try.underlying26
 have HR0_0 := Aside0.mk hr0_0
 have HC0_0 := Aside0.mk hc0_0
 clear hr0_0 hc0_0
 have HR0_1 := Aside0.mk hr0_1
 have HC0_1 := Aside0.mk hc0_1
 clear hr0_1 hc0_1
 have HR0_2 := Aside0.mk hr0_2
 have HC0_2 := Aside0.mk hc0_2
 clear hr0_2 hc0_2
 have HB := Aside0.mk (Below.refl w.heap.size w)
 have H : ((laws_szExchange.f l0_0 l0_1 l0_2 1048576).bind fun t279 => (if t279 < 0 then (some true) else ((laws_toExchange.f k l0_0 l0_1 l0_2).bind fun bt280 => ((spec_InduceOnce.f k bt280.1 bt280.2.1 bt280.2.2).bind fun bt289 => ((laws_toExchange.f k l0_0 l0_1 l0_2).bind fun bt300 => ((impl_InduceOnce.f k bt300.1 bt300.2.1 bt300.2.2).bind fun bt310 => ((laws_eqExchange.f k bt310.1 bt310.2.1 bt310.2.2.1 bt289.1 bt289.2.1 bt289.2.2.1).bind fun t321 => (if t321 = true then (laws_FnExactInduceOnce.j0 k bt289.2.2.2 bt310.2.2.2 (bt310.2.2.2 != bt289.2.2.2) l0_0 l0_1 l0_2 bt289.1 bt289.2.1 bt289.2.2.1 bt300.1 bt300.2.1 bt300.2.2 bt310.1 bt310.2.1 bt310.2.2.1) else (laws_FnExactInduceOnce.j0 k bt289.2.2.2 bt310.2.2.2 true l0_0 l0_1 l0_2 bt289.1 bt289.2.1 bt289.2.2.1 bt300.1 bt300.2.1 bt300.2.2 bt310.1 bt310.2.1 bt310.2.2.1))))))))) = some r := h
 clear h
 have HRT := Aside0.mk hrt_
 clear hrt_
 replace H := Option.bind_eq_some_iff.mp H
 obtain ⟨t279, A20, H⟩ := H
 replace H : (if t279 < 0 then (some true) else ((laws_toExchange.f k l0_0 l0_1 l0_2).bind fun bt280 => ((spec_InduceOnce.f k bt280.1 bt280.2.1 bt280.2.2).bind fun bt289 => ((laws_toExchange.f k l0_0 l0_1 l0_2).bind fun bt300 => ((impl_InduceOnce.f k bt300.1 bt300.2.1 bt300.2.2).bind fun bt310 => ((laws_eqExchange.f k bt310.1 bt310.2.1 bt310.2.2.1 bt289.1 bt289.2.1 bt289.2.2.1).bind fun t321 => (if t321 = true then (laws_FnExactInduceOnce.j0 k bt289.2.2.2 bt310.2.2.2 (bt310.2.2.2 != bt289.2.2.2) l0_0 l0_1 l0_2 bt289.1 bt289.2.1 bt289.2.2.1 bt300.1 bt300.2.1 bt300.2.2 bt310.1 bt310.2.1 bt310.2.2.1) else (laws_FnExactInduceOnce.j0 k bt289.2.2.2 bt310.2.2.2 true l0_0 l0_1 l0_2 bt289.1 bt289.2.1 bt289.2.2.1 bt300.1 bt300.2.1 bt300.2.2 bt310.1 bt310.2.1 bt310.2.2.1)))))))) = some r := H
 have A2 := Aside0.mk A20
 clear A20
 by_cases c3 : t279 < 0
 {
 rw [if_pos c3] at H
 have c3b0 : decide (t279 < 0) = true := decide_eq_true c3
 clear c3
 obtain rfl := Option.some.inj H
 go_enter Try.func3, Try.ntmps3
 go_wp2_with (first | ((with_reducible refine gate_dst (N := 1) rfl ?_); refine box_event ?hg (N := 1) ?hd (cs := #[.slice A0_0 l0_0.length c0_0, .slice A0_1 l0_1.length c0_1, .slice A0_2 l0_2.length c0_2]) (t := 24) ?hr ?_; (case hd => rfl); (case hg => rfl); (case hr => first | (go_simp; done) | (go_simp; rfl)); intro gb278 hg w4 hbox hb; have n0_ := Aside0.mk (below_step (bX HB.out) hb); have n1_ := Aside0.mk (hbox); have n2_ := Aside0.mk ((szX (below_size (bX HB.out)) hg : w.heap.size ≤ gb278)); have n3_ := Aside0.mk ((szX (below_size (bX HB.out)) hg : w.heap.size ≤ gb278)); clear HB; have HB := n0_; have BK278 := n1_; have GW278 := n2_; have GE278 := n3_; clear n0_ n1_ n2_ n3_ hb hbox hg; have hcz5_0 := cz30 BK278.out; have hcz5_1 := cz31 BK278.out; have hcz5_2 := cz32 BK278.out; have hfz5_0 := blk_frozen BK278.out 0; have hfz5_1 := blk_frozen BK278.out 1; have hfz5_2 := blk_frozen BK278.out 2) | ((with_reducible refine gate_callee (f := 6) rfl ?_); refine goesL_ (some 16) rfl rfl Try.func6 (by kernel_rfl) rfl #[.agg #[.slice A0_0 l0_0.length c0_0, .slice A0_1 l0_1.length c0_1, .slice A0_2 l0_2.length c0_2], .int .i64 1048576] rfl aX ?_; (with_reducible refine (laws_szExchange.calls _ _ l0_0 _ _ l0_1 _ _ l0_2 1048576 t279 _ ?side1 ?side2 ?side3 ?side4 ?side5 ?side6 A2.out).mono ?_); (case side1 => exact cX (Kd.C_below HR0_0.out HB.out)); (case side2 => exact HC0_0.out); (case side3 => exact cX (Kd.C_below HR0_1.out HB.out)); (case side4 => exact HC0_1.out); (case side5 => exact cX (Kd.C_below HR0_2.out HB.out)); (case side6 => exact HC0_2.out); rintro e w6 ⟨rfl, hb⟩; refine ⟨_, rfl, ?_⟩; have n0_ := Aside0.mk (bbX BK278.out hb); have n1_ := Aside0.mk (below_step (bX1 HB.out GE278.out) hb); clear BK278 HB; have BK278 := n0_; have HB := n1_; clear n0_ n1_; (try clear hb); (try clear hb2); (try clear hk); (try clear hi)))
 go_ret
 exact ⟨eX, bX1 HB.out GE278.out⟩
 }
 {
 rw [if_neg c3] at H
 have c3b0 : decide (t279 < 0) = false := decide_eq_false c3
 clear c3
 replace H := Option.bind_eq_some_iff.mp H
 obtain ⟨⟨t280, t283, t286⟩, A70, H⟩ := H
 replace H : ((spec_InduceOnce.f k t280 t283 t286).bind fun bt289 => ((laws_toExchange.f k l0_0 l0_1 l0_2).bind fun bt300 => ((impl_InduceOnce.f k bt300.1 bt300.2.1 bt300.2.2).bind fun bt310 => ((laws_eqExchange.f k bt310.1 bt310.2.1 bt310.2.2.1 bt289.1 bt289.2.1 bt289.2.2.1).bind fun t321 => (if t321 = true then (laws_FnExactInduceOnce.j0 k bt289.2.2.2 bt310.2.2.2 (bt310.2.2.2 != bt289.2.2.2) l0_0 l0_1 l0_2 bt289.1 bt289.2.1 bt289.2.2.1 bt300.1 bt300.2.1 bt300.2.2 bt310.1 bt310.2.1 bt310.2.2.1) else (laws_FnExactInduceOnce.j0 k bt289.2.2.2 bt310.2.2.2 true l0_0 l0_1 l0_2 bt289.1 bt289.2.1 bt289.2.2.1 bt300.1 bt300.2.1 bt300.2.2 bt310.1 bt310.2.1 bt310.2.2.1)))))) = some r := H
 have A7 := Aside0.mk A70
 clear A70
 replace H := Option.bind_eq_some_iff.mp H
 obtain ⟨⟨t289, t292, t295, t298⟩, A80, H⟩ := H
 replace H : ((laws_toExchange.f k l0_0 l0_1 l0_2).bind fun bt300 => ((impl_InduceOnce.f k bt300.1 bt300.2.1 bt300.2.2).bind fun bt310 => ((laws_eqExchange.f k bt310.1 bt310.2.1 bt310.2.2.1 t289 t292 t295).bind fun t321 => (if t321 = true then (laws_FnExactInduceOnce.j0 k t298 bt310.2.2.2 (bt310.2.2.2 != t298) l0_0 l0_1 l0_2 t289 t292 t295 bt300.1 bt300.2.1 bt300.2.2 bt310.1 bt310.2.1 bt310.2.2.1) else (laws_FnExactInduceOnce.j0 k t298 bt310.2.2.2 true l0_0 l0_1 l0_2 t289 t292 t295 bt300.1 bt300.2.1 bt300.2.2 bt310.1 bt310.2.1 bt310.2.2.1))))) = some r := H
 have A8 := Aside0.mk A80
 clear A80
 replace H := Option.bind_eq_some_iff.mp H
 obtain ⟨⟨t300, t303, t306⟩, A90, H⟩ := H
 replace H : ((impl_InduceOnce.f k t300 t303 t306).bind fun bt310 => ((laws_eqExchange.f k bt310.1 bt310.2.1 bt310.2.2.1 t289 t292 t295).bind fun t321 => (if t321 = true then (laws_FnExactInduceOnce.j0 k t298 bt310.2.2.2 (bt310.2.2.2 != t298) l0_0 l0_1 l0_2 t289 t292 t295 t300 t303 t306 bt310.1 bt310.2.1 bt310.2.2.1) else (laws_FnExactInduceOnce.j0 k t298 bt310.2.2.2 true l0_0 l0_1 l0_2 t289 t292 t295 t300 t303 t306 bt310.1 bt310.2.1 bt310.2.2.1)))) = some r := H
 have A9 := Aside0.mk A90
 clear A90
 replace H := Option.bind_eq_some_iff.mp H
 obtain ⟨⟨t310, t313, t316, t319⟩, A100, H⟩ := H
 replace H : ((laws_eqExchange.f k t310 t313 t316 t289 t292 t295).bind fun t321 => (if t321 = true then (laws_FnExactInduceOnce.j0 k t298 t319 (t319 != t298) l0_0 l0_1 l0_2 t289 t292 t295 t300 t303 t306 t310 t313 t316) else (laws_FnExactInduceOnce.j0 k t298 t319 true l0_0 l0_1 l0_2 t289 t292 t295 t300 t303 t306 t310 t313 t316))) = some r := H
 have A10 := Aside0.mk A100
 clear A100
 have HC11 := Aside0.mk H
 clear H
 go_enter Try.func3, Try.ntmps3
 go_upto_region 8 with (first | ((with_reducible refine gate_dst (N := 1) rfl ?_); refine box_event ?hg (N := 1) ?hd (cs := #[.slice A0_0 l0_0.length c0_0, .slice A0_1 l0_1.length c0_1, .slice A0_2 l0_2.length c0_2]) (t := 24) ?hr ?_; (case hd => rfl); (case hg => rfl); (case hr => first | (go_simp; done) | (go_simp; rfl)); intro gb278 hg w12 hbox hb; have n0_ := Aside0.mk (below_step (bX HB.out) hb); have n1_ := Aside0.mk (hbox); have n2_ := Aside0.mk ((szX (below_size (bX HB.out)) hg : w.heap.size ≤ gb278)); have n3_ := Aside0.mk ((szX (below_size (bX HB.out)) hg : w.heap.size ≤ gb278)); clear HB; have HB := n0_; have BK278 := n1_; have GW278 := n2_; have GE278 := n3_; clear n0_ n1_ n2_ n3_ hb hbox hg; have hcz13_0 := cz30 BK278.out; have hcz13_1 := cz31 BK278.out; have hcz13_2 := cz32 BK278.out; have hfz13_0 := blk_frozen BK278.out 0; have hfz13_1 := blk_frozen BK278.out 1; have hfz13_2 := blk_frozen BK278.out 2) | ((with_reducible refine gate_callee (f := 6) rfl ?_); refine goesL_ (some 16) rfl rfl Try.func6 (by kernel_rfl) rfl #[.agg #[.slice A0_0 l0_0.length c0_0, .slice A0_1 l0_1.length c0_1, .slice A0_2 l0_2.length c0_2], .int .i64 1048576] rfl aX ?_; (with_reducible refine (laws_szExchange.calls _ _ l0_0 _ _ l0_1 _ _ l0_2 1048576 t279 _ ?side1 ?side2 ?side3 ?side4 ?side5 ?side6 A2.out).mono ?_); (case side1 => exact cX (Kd.C_below HR0_0.out HB.out)); (case side2 => exact HC0_0.out); (case side3 => exact cX (Kd.C_below HR0_1.out HB.out)); (case side4 => exact HC0_1.out); (case side5 => exact cX (Kd.C_below HR0_2.out HB.out)); (case side6 => exact HC0_2.out); rintro e w14 ⟨rfl, hb⟩; refine ⟨_, rfl, ?_⟩; have n0_ := Aside0.mk (bbX BK278.out hb); have n1_ := Aside0.mk (below_step (bX1 HB.out GE278.out) hb); clear BK278 HB; have BK278 := n0_; have HB := n1_; clear n0_ n1_; (try clear hb); (try clear hb2); (try clear hk); (try clear hi); have hcz15_0 := cz30 BK278.out; have hcz15_1 := cz31 BK278.out; have hcz15_2 := cz32 BK278.out; have hfz15_0 := blk_frozen BK278.out 0; have hfz15_1 := blk_frozen BK278.out 1; have hfz15_2 := blk_frozen BK278.out 2) | ((with_reducible refine gate_callee (f := 8) rfl ?_); refine goesL_ (some 21) rfl rfl Try.func8 (by kernel_rfl) rfl #[.agg #[.slice A0_0 l0_0.length c0_0, .slice A0_1 l0_1.length c0_1, .slice A0_2 l0_2.length c0_2]] rfl aX ?_; (with_reducible refine (laws_toExchange.calls k _ _ l0_0 _ _ l0_1 _ _ l0_2 t280 t283 t286 _ ?side1 ?side2 ?side3 ?side4 ?side5 ?side6 A7.out).mono ?_); (case side1 => exact cX (Kd.C_below HR0_0.out HB.out)); (case side2 => exact HC0_0.out); (case side3 => exact cX (Kd.C_below HR0_1.out HB.out)); (case side4 => exact HC0_1.out); (case side5 => exact cX (Kd.C_below HR0_2.out HB.out)); (case side6 => exact HC0_2.out); rintro e w16 ⟨v281, v284, v287, rfl, ho0, ho1, ho2, hb⟩; refine ⟨_, rfl, ?_⟩; have n0_ := Aside0.mk (Kd.R_lower ho0 (below_size (bX1 HB.out GE278.out))); have n1_ := Aside0.mk (Kd.R_lower ho1 (below_size (bX1 HB.out GE278.out))); have n2_ := Aside0.mk (Kd.R_lower ho2 (below_size (bX1 HB.out GE278.out))); have n3_ := Aside0.mk (bbX BK278.out hb); have n4_ := Aside0.mk (below_step (bX1 HB.out GE278.out) hb); clear BK278 HB; have HO282 := n0_; have HO285 := n1_; have HO288 := n2_; have BK278 := n3_; have HB := n4_; clear n0_ n1_ n2_ n3_ n4_; (try clear hb); (try clear hb2); (try clear hk); (try clear hi); (try clear ho0); (try clear ho1); (try clear ho2); obtain ⟨Ao17, co17, eo17⟩ := Kd.R_slice HO282.out; subst eo17; obtain ⟨Ao18, co18, eo18⟩ := Kd.R_slice HO285.out; subst eo18; obtain ⟨Ao19, co19, eo19⟩ := Kd.R_slice HO288.out; subst eo19) | ((with_reducible refine gate_callee (f := 7) rfl ?_); refine goesL_ (some 22) rfl rfl Try.func7 (by kernel_rfl) rfl #[.agg #[.slice Ao17 t280.length co17, .slice Ao18 t283.length co18, .slice Ao19 t286.length co19]] rfl aX ?_; (with_reducible refine (spec_InduceOnce.calls k _ _ t280 _ _ t283 _ _ t286 t289 t292 t295 t298 _ ?side1 ?side2 ?side3 ?side4 ?side5 ?side6 A8.out).mono ?_); (case side1 => exact cX (Kd.R_reads' HO282.out).2.2); (case side2 => exact (Kd.R_reads' HO282.out).2.1); (case side3 => exact cX (Kd.R_reads' HO285.out).2.2); (case side4 => exact (Kd.R_reads' HO285.out).2.1); (case side5 => exact cX (Kd.R_reads' HO288.out).2.2); (case side6 => exact (Kd.R_reads' HO288.out).2.1); rintro e w20 ⟨v290, v293, v296, rfl, ho0, ho1, ho2, hb⟩; refine ⟨_, rfl, ?_⟩; have n0_ := Aside0.mk (Kd.R_mono (Kd.R_told (Kd.R_told (Kd.R_told (Kd.R_old (rX HO282.out) hb) (Kd.R_base ho0)) (Kd.R_base ho1)) (Kd.R_base ho2)) (fun _ h_ => h_.1)); have n1_ := Aside0.mk (Kd.R_mono (Kd.R_told (Kd.R_told (Kd.R_told (Kd.R_old (rX HO285.out) hb) (Kd.R_base ho0)) (Kd.R_base ho1)) (Kd.R_base ho2)) (fun _ h_ => h_.1)); have n2_ := Aside0.mk (Kd.R_mono (Kd.R_told (Kd.R_told (Kd.R_told (Kd.R_old (rX HO288.out) hb) (Kd.R_base ho0)) (Kd.R_base ho1)) (Kd.R_base ho2)) (fun _ h_ => h_.1)); have n3_ := Aside0.mk (Kd.R_lower (Kd.R_new' (Kd.R_new' (Kd.R_new' ho0 (Kd.R_lt (rX HO282.out))) (Kd.R_lt (rX HO285.out))) (Kd.R_lt (rX HO288.out))) (below_size (bX1 HB.out GE278.out))); have n4_ := Aside0.mk (Kd.R_lower (Kd.R_new' (Kd.R_new' (Kd.R_new' ho1 (Kd.R_lt (rX HO282.out))) (Kd.R_lt (rX HO285.out))) (Kd.R_lt (rX HO288.out))) (below_size (bX1 HB.out GE278.out))); have n5_ := Aside0.mk (Kd.R_lower (Kd.R_new' (Kd.R_new' (Kd.R_new' ho2 (Kd.R_lt (rX HO282.out))) (Kd.R_lt (rX HO285.out))) (Kd.R_lt (rX HO288.out))) (below_size (bX1 HB.out GE278.out))); have n6_ := Aside0.mk (bbX BK278.out hb); have n7_ := Aside0.mk (below_step (bX1 HB.out GE278.out) hb); clear HO282 HO285 HO288 BK278 HB; have HO282 := n0_; have HO285 := n1_; have HO288 := n2_; have HO291 := n3_; have HO294 := n4_; have HO297 := n5_; have BK278 := n6_; have HB := n7_; clear n0_ n1_ n2_ n3_ n4_ n5_ n6_ n7_; (try clear hb); (try clear hb2); (try clear hk); (try clear hi); (try clear ho0); (try clear ho1); (try clear ho2)) | ((with_reducible refine gate_dst (N := 4) rfl ?_); refine box_event ?hg (N := 4) ?hd (cs := #[.slice none 0 0, .slice none 0 0, .slice none 0 0]) (t := 26) ?hr ?_; (case hd => rfl); (case hg => rfl); (case hr => first | (go_simp; done) | (go_simp; rfl)); intro gb299 hg w21 hbox hb; have n0_ := Aside0.mk (Kd.R_below (rX HO282.out) hb); have n1_ := Aside0.mk (Kd.R_below (rX HO285.out) hb); have n2_ := Aside0.mk (Kd.R_below (rX HO288.out) hb); have n3_ := Aside0.mk (Kd.R_below (rX HO291.out) hb); have n4_ := Aside0.mk (Kd.R_below (rX HO294.out) hb); have n5_ := Aside0.mk (Kd.R_below (rX HO297.out) hb); have n6_ := Aside0.mk (bbX BK278.out hb); have n7_ := Aside0.mk (below_step (bX1 HB.out GE278.out) hb); have n8_ := Aside0.mk (hbox); have n9_ := Aside0.mk ((szX (below_size (bX1 HB.out GE278.out)) hg : w.heap.size ≤ gb299)); have n10_ := Aside0.mk ((szX (below_size (bX1 HB.out GE278.out)) hg : w.heap.size ≤ gb299)); have n11_ := Aside0.mk (neX BK278.out hg); have n12_ := Aside0.mk (nfX BK278.out hg); clear HO282 HO285 HO288 HO291 HO294 HO297 BK278 HB; have HO282 := n0_; have HO285 := n1_; have HO288 := n2_; have HO291 := n3_; have HO294 := n4_; have HO297 := n5_; have BK278 := n6_; have HB := n7_; have BK299 := n8_; have GW299 := n9_; have GE299 := n10_; have NB278_299 := n11_; have NB299_278 := n12_; clear n0_ n1_ n2_ n3_ n4_ n5_ n6_ n7_ n8_ n9_ n10_ n11_ n12_ hb hbox hg; obtain ⟨Ao22, co22, eo22⟩ := Kd.R_slice HO291.out; subst eo22; have hnb23 := NB299_278.out; have hnc23 := NB278_299.out; have hcz24_0 := cz30 BK299.out; have hcz24_1 := cz31 BK299.out; have hcz24_2 := cz32 BK299.out; have hfz24_0 := blk_frozen BK299.out 0; have hfz24_1 := blk_frozen BK299.out 1; have hfz24_2 := blk_frozen BK299.out 2; obtain ⟨Ao25, co25, eo25⟩ := Kd.R_slice HO294.out; subst eo25; obtain ⟨Ao26, co26, eo26⟩ := Kd.R_slice HO297.out; subst eo26; have hcz27_0 := cz30 BK278.out; have hcz27_1 := cz31 BK278.out; have hcz27_2 := cz32 BK278.out; have hfz27_0 := blk_frozen BK278.out 0; have hfz27_1 := blk_frozen BK278.out 1; have hfz27_2 := blk_frozen BK278.out 2) | ((with_reducible refine gate_callee (f := 8) rfl ?_); refine goesL_ (some 26) rfl rfl Try.func8 (by kernel_rfl) rfl #[.agg #[.slice A0_0 l0_0.length c0_0, .slice A0_1 l0_1.length c0_1, .slice A0_2 l0_2.length c0_2]] rfl aX ?_; (with_reducible refine (laws_toExchange.calls k _ _ l0_0 _ _ l0_1 _ _ l0_2 t300 t303 t306 _ ?side1 ?side2 ?side3 ?side4 ?side5 ?side6 A9.out).mono ?_); (case side1 => exact Kd.C_below HR0_0.out (bX2 HB.out GE278.out GE299.out)); (case side2 => exact HC0_0.out); (case side3 => exact Kd.C_below HR0_1.out (bX2 HB.out GE278.out GE299.out)); (case side4 => exact HC0_1.out); (case side5 => exact Kd.C_below HR0_2.out (bX2 HB.out GE278.out GE299.out)); (case side6 => exact HC0_2.out); rintro e w28 ⟨v301, v304, v307, rfl, ho0, ho1, ho2, hb⟩; refine ⟨_, rfl, ?_⟩; have n0_ := Aside0.mk (Kd.R_mono (Kd.R_told (Kd.R_told (Kd.R_told (Kd.R_old (rX (fr3 HO282.out BK299.out (.slice Ao22 t289.length co22) (.slice Ao25 t292.length co25) (.slice Ao26 t295.length co26))) hb) (Kd.R_base ho0)) (Kd.R_base ho1)) (Kd.R_base ho2)) (fun _ h_ => h_.1)); have n1_ := Aside0.mk (Kd.R_mono (Kd.R_told (Kd.R_told (Kd.R_told (Kd.R_old (rX (fr3 HO285.out BK299.out (.slice Ao22 t289.length co22) (.slice Ao25 t292.length co25) (.slice Ao26 t295.length co26))) hb) (Kd.R_base ho0)) (Kd.R_base ho1)) (Kd.R_base ho2)) (fun _ h_ => h_.1)); have n2_ := Aside0.mk (Kd.R_mono (Kd.R_told (Kd.R_told (Kd.R_told (Kd.R_old (rX (fr3 HO288.out BK299.out (.slice Ao22 t289.length co22) (.slice Ao25 t292.length co25) (.slice Ao26 t295.length co26))) hb) (Kd.R_base ho0)) (Kd.R_base ho1)) (Kd.R_base ho2)) (fun _ h_ => h_.1)); have n3_ := Aside0.mk (Kd.R_mono (Kd.R_told (Kd.R_told (Kd.R_told (Kd.R_old (rX (fr3 HO291.out BK299.out (.slice Ao22 t289.length co22) (.slice Ao25 t292.length co25) (.slice Ao26 t295.length co26))) hb) (Kd.R_base ho0)) (Kd.R_base ho1)) (Kd.R_base ho2)) (fun _ h_ => h_.1)); have n4_ := Aside0.mk (Kd.R_mono (Kd.R_told (Kd.R_told (Kd.R_told (Kd.R_old (rX (fr3 HO294.out BK299.out (.slice Ao22 t289.length co22) (.slice Ao25 t292.length co25) (.slice Ao26 t295.length co26))) hb) (Kd.R_base ho0)) (Kd.R_base ho1)) (Kd.R_base ho2)) (fun _ h_ => h_.1)); have n5_ := Aside0.mk (Kd.R_mono (Kd.R_told (Kd.R_told (Kd.R_told (Kd.R_old (rX (fr3 HO297.out BK299.out (.slice Ao22 t289.length co22) (.slice Ao25 t292.length co25) (.slice Ao26 t295.length co26))) hb) (Kd.R_base ho0)) (Kd.R_base ho1)) (Kd.R_base ho2)) (fun _ h_ => h_.1)); have n6_ := Aside0.mk (Kd.R_lower (Kd.R_new' (Kd.R_new' (Kd.R_new' (Kd.R_new' (Kd.R_new' (Kd.R_new' ho0 (Kd.R_lt (rX (fr3 HO282.out BK299.out (.slice Ao22 t289.length co22) (.slice Ao25 t292.length co25) (.slice Ao26 t295.length co26))))) (Kd.R_lt (rX (fr3 HO285.out BK299.out (.slice Ao22 t289.length co22) (.slice Ao25 t292.length co25) (.slice Ao26 t295.length co26))))) (Kd.R_lt (rX (fr3 HO288.out BK299.out (.slice Ao22 t289.length co22) (.slice Ao25 t292.length co25) (.slice Ao26 t295.length co26))))) (Kd.R_lt (rX (fr3 HO291.out BK299.out (.slice Ao22 t289.length co22) (.slice Ao25 t292.length co25) (.slice Ao26 t295.length co26))))) (Kd.R_lt (rX (fr3 HO294.out BK299.out (.slice Ao22 t289.length co22) (.slice Ao25 t292.length co25) (.slice Ao26 t295.length co26))))) (Kd.R_lt (rX (fr3 HO297.out BK299.out (.slice Ao22 t289.length co22) (.slice Ao25 t292.length co25) (.slice Ao26 t295.length co26))))) (below_size (bX2 HB.out GE278.out GE299.out))); have n7_ := Aside0.mk (Kd.R_lower (Kd.R_new' (Kd.R_new' (Kd.R_new' (Kd.R_new' (Kd.R_new' (Kd.R_new' ho1 (Kd.R_lt (rX (fr3 HO282.out BK299.out (.slice Ao22 t289.length co22) (.slice Ao25 t292.length co25) (.slice Ao26 t295.length co26))))) (Kd.R_lt (rX (fr3 HO285.out BK299.out (.slice Ao22 t289.length co22) (.slice Ao25 t292.length co25) (.slice Ao26 t295.length co26))))) (Kd.R_lt (rX (fr3 HO288.out BK299.out (.slice Ao22 t289.length co22) (.slice Ao25 t292.length co25) (.slice Ao26 t295.length co26))))) (Kd.R_lt (rX (fr3 HO291.out BK299.out (.slice Ao22 t289.length co22) (.slice Ao25 t292.length co25) (.slice Ao26 t295.length co26))))) (Kd.R_lt (rX (fr3 HO294.out BK299.out (.slice Ao22 t289.length co22) (.slice Ao25 t292.length co25) (.slice Ao26 t295.length co26))))) (Kd.R_lt (rX (fr3 HO297.out BK299.out (.slice Ao22 t289.length co22) (.slice Ao25 t292.length co25) (.slice Ao26 t295.length co26))))) (below_size (bX2 HB.out GE278.out GE299.out))); have n8_ := Aside0.mk (Kd.R_lower (Kd.R_new' (Kd.R_new' (Kd.R_new' (Kd.R_new' (Kd.R_new' (Kd.R_new' ho2 (Kd.R_lt (rX (fr3 HO282.out BK299.out (.slice Ao22 t289.length co22) (.slice Ao25 t292.length co25) (.slice Ao26 t295.length co26))))) (Kd.R_lt (rX (fr3 HO285.out BK299.out (.slice Ao22 t289.length co22) (.slice Ao25 t292.length co25) (.slice Ao26 t295.length co26))))) (Kd.R_lt (rX (fr3 HO288.out BK299.out (.slice Ao22 t289.length co22) (.slice Ao25 t292.length co25) (.slice Ao26 t295.length co26))))) (Kd.R_lt (rX (fr3 HO291.out BK299.out (.slice Ao22 t289.length co22) (.slice Ao25 t292.length co25) (.slice Ao26 t295.length co26))))) (Kd.R_lt (rX (fr3 HO294.out BK299.out (.slice Ao22 t289.length co22) (.slice Ao25 t292.length co25) (.slice Ao26 t295.length co26))))) (Kd.R_lt (rX (fr3 HO297.out BK299.out (.slice Ao22 t289.length co22) (.slice Ao25 t292.length co25) (.slice Ao26 t295.length co26))))) (below_size (bX2 HB.out GE278.out GE299.out))); have n9_ := Aside0.mk (blk_below (g := gb278) (o := .cells #[.slice A0_0 l0_0.length c0_0, .slice A0_1 l0_1.length c0_1, .slice A0_2 l0_2.length c0_2] 24 (0, 0)) (by (with_reducible repeat (first|refine kN ?_ _|refine kD ?_|refine kA ?_ _)); refine blk_far ?_ NB278_299.out _; (with_reducible repeat (first|refine kN ?_ _|refine kD ?_|refine kA ?_ _)); refine blk_far ?_ NB278_299.out _; (with_reducible repeat (first|refine kN ?_ _|refine kD ?_|refine kA ?_ _)); refine blk_far ?_ NB278_299.out _; (with_reducible repeat (first|refine kN ?_ _|refine kD ?_|refine kA ?_ _)); exact BK278.out) hb); have n10_ := Aside0.mk (blk_below (g := gb299) (o := .cells #[.slice Ao22 t289.length co22, .slice Ao25 t292.length co25, .slice Ao26 t295.length co26] 26 (0, 0)) (by (with_reducible repeat (first|refine kN ?_ _|refine kD ?_|refine kA ?_ _)); refine blk_put (cs := #[.slice Ao22 t289.length co22, .slice Ao25 t292.length co25, .slice none 0 0]) ?_ 2 _ rfl; (with_reducible repeat (first|refine kN ?_ _|refine kD ?_|refine kA ?_ _)); refine blk_put (cs := #[.slice Ao22 t289.length co22, .slice none 0 0, .slice none 0 0]) ?_ 1 _ rfl; (with_reducible repeat (first|refine kN ?_ _|refine kD ?_|refine kA ?_ _)); refine blk_put (cs := #[.slice none 0 0, .slice none 0 0, .slice none 0 0]) ?_ 0 _ rfl; (with_reducible repeat (first|refine kN ?_ _|refine kD ?_|refine kA ?_ _)); exact BK299.out) hb); have n11_ := Aside0.mk (below_step (bX2 HB.out GE278.out GE299.out) hb); clear HO282 HO285 HO288 HO291 HO294 HO297 BK278 BK299 HB; have HO282 := n0_; have HO285 := n1_; have HO288 := n2_; have HO291 := n3_; have HO294 := n4_; have HO297 := n5_; have HO302 := n6_; have HO305 := n7_; have HO308 := n8_; have BK278 := n9_; have BK299 := n10_; have HB := n11_; clear n0_ n1_ n2_ n3_ n4_ n5_ n6_ n7_ n8_ n9_ n10_ n11_; (try clear hb); (try clear hb2); (try clear hk); (try clear hi); (try clear ho0); (try clear ho1); (try clear ho2)) | ((with_reducible refine gate_dst (N := 6) rfl ?_); refine box_event ?hg (N := 6) ?hd (cs := #[.slice none 0 0, .slice none 0 0, .slice none 0 0]) (t := 26) ?hr ?_; (case hd => rfl); (case hg => rfl); (case hr => first | (go_simp; done) | (go_simp; rfl)); intro gb309 hg w29 hbox hb; have n0_ := Aside0.mk (Kd.R_below (rX HO282.out) hb); have n1_ := Aside0.mk (Kd.R_below (rX HO285.out) hb); have n2_ := Aside0.mk (Kd.R_below (rX HO288.out) hb); have n3_ := Aside0.mk (Kd.R_below (rX HO291.out) hb); have n4_ := Aside0.mk (Kd.R_below (rX HO294.out) hb); have n5_ := Aside0.mk (Kd.R_below (rX HO297.out) hb); have n6_ := Aside0.mk (Kd.R_below (rX HO302.out) hb); have n7_ := Aside0.mk (Kd.R_below (rX HO305.out) hb); have n8_ := Aside0.mk (Kd.R_below (rX HO308.out) hb); have n9_ := Aside0.mk (bbX BK278.out hb); have n10_ := Aside0.mk (bbX BK299.out hb); have n11_ := Aside0.mk (below_step (bX2 HB.out GE278.out GE299.out) hb); have n12_ := Aside0.mk (hbox); have n13_ := Aside0.mk ((szX (below_size (bX2 HB.out GE278.out GE299.out)) hg : w.heap.size ≤ gb309)); have n14_ := Aside0.mk ((szX (below_size (bX2 HB.out GE278.out GE299.out)) hg : w.heap.size ≤ gb309)); have n15_ := Aside0.mk (neX BK278.out hg); have n16_ := Aside0.mk (nfX BK278.out hg); have n17_ := Aside0.mk (neX BK299.out hg); have n18_ := Aside0.mk (nfX BK299.out hg); clear HO282 HO285 HO288 HO291 HO294 HO297 HO302 HO305 HO308 BK278 BK299 HB; have HO282 := n0_; have HO285 := n1_; have HO288 := n2_; have HO291 := n3_; have HO294 := n4_; have HO297 := n5_; have HO302 := n6_; have HO305 := n7_; have HO308 := n8_; have BK278 := n9_; have BK299 := n10_; have HB := n11_; have BK309 := n12_; have GW309 := n13_; have GE309 := n14_; have NB278_309 := n15_; have NB309_278 := n16_; have NB299_309 := n17_; have NB309_299 := n18_; clear n0_ n1_ n2_ n3_ n4_ n5_ n6_ n7_ n8_ n9_ n10_ n11_ n12_ n13_ n14_ n15_ n16_ n17_ n18_ hb hbox hg; obtain ⟨Ao30, co30, eo30⟩ := Kd.R_slice HO302.out; subst eo30; have hnb31 := NB309_278.out; have hnc31 := NB278_309.out; have hnb32 := NB309_299.out; have hnc32 := NB299_309.out; have hcz33_0 := cz30 BK309.out; have hcz33_1 := cz31 BK309.out; have hcz33_2 := cz32 BK309.out; have hfz33_0 := blk_frozen BK309.out 0; have hfz33_1 := blk_frozen BK309.out 1; have hfz33_2 := blk_frozen BK309.out 2; obtain ⟨Ao34, co34, eo34⟩ := Kd.R_slice HO305.out; subst eo34; obtain ⟨Ao35, co35, eo35⟩ := Kd.R_slice HO308.out; subst eo35) | ((with_reducible refine gate_callee (f := 9) rfl ?_); refine goesL_ (some 29) rfl rfl Try.func9 (by kernel_rfl) rfl #[.agg #[.slice Ao30 t300.length co30, .slice Ao34 t303.length co34, .slice Ao35 t306.length co35]] rfl aX ?_; (with_reducible refine (impl_InduceOnce.calls k _ _ t300 _ _ t303 _ _ t306 t310 t313 t316 t319 _ ?side1 ?side2 ?side3 ?side4 ?side5 ?side6 A10.out).mono ?_); (case side1 => exact rcX (fr3 HO302.out BK309.out (.slice Ao30 t300.length co30) (.slice Ao34 t303.length co34) (.slice Ao35 t306.length co35))); (case side2 => exact (Kd.R_reads' HO302.out).2.1); (case side3 => exact rcX (fr3 HO305.out BK309.out (.slice Ao30 t300.length co30) (.slice Ao34 t303.length co34) (.slice Ao35 t306.length co35))); (case side4 => exact (Kd.R_reads' HO305.out).2.1); (case side5 => exact rcX (fr3 HO308.out BK309.out (.slice Ao30 t300.length co30) (.slice Ao34 t303.length co34) (.slice Ao35 t306.length co35))); (case side6 => exact (Kd.R_reads' HO308.out).2.1); rintro e w36 ⟨v311, v314, v317, rfl, ho0, ho1, ho2, hb⟩; refine ⟨_, rfl, ?_⟩; have n0_ := Aside0.mk (Kd.R_mono (Kd.R_told (Kd.R_told (Kd.R_told (Kd.R_old (rX (fr3 HO282.out BK309.out (.slice Ao30 t300.length co30) (.slice Ao34 t303.length co34) (.slice Ao35 t306.length co35))) hb) (Kd.R_base ho0)) (Kd.R_base ho1)) (Kd.R_base ho2)) (fun _ h_ => h_.1)); have n1_ := Aside0.mk (Kd.R_mono (Kd.R_told (Kd.R_told (Kd.R_told (Kd.R_old (rX (fr3 HO285.out BK309.out (.slice Ao30 t300.length co30) (.slice Ao34 t303.length co34) (.slice Ao35 t306.length co35))) hb) (Kd.R_base ho0)) (Kd.R_base ho1)) (Kd.R_base ho2)) (fun _ h_ => h_.1)); have n2_ := Aside0.mk (Kd.R_mono (Kd.R_told (Kd.R_told (Kd.R_told (Kd.R_old (rX (fr3 HO288.out BK309.out (.slice Ao30 t300.length co30) (.slice Ao34 t303.length co34) (.slice Ao35 t306.length co35))) hb) (Kd.R_base ho0)) (Kd.R_base ho1)) (Kd.R_base ho2)) (fun _ h_ => h_.1)); have n3_ := Aside0.mk (Kd.R_mono (Kd.R_told (Kd.R_told (Kd.R_told (Kd.R_old (rX (fr3 HO291.out BK309.out (.slice Ao30 t300.length co30) (.slice Ao34 t303.length co34) (.slice Ao35 t306.length co35))) hb) (Kd.R_base ho0)) (Kd.R_base ho1)) (Kd.R_base ho2)) (fun _ h_ => h_.1)); have n4_ := Aside0.mk (Kd.R_mono (Kd.R_told (Kd.R_told (Kd.R_told (Kd.R_old (rX (fr3 HO294.out BK309.out (.slice Ao30 t300.length co30) (.slice Ao34 t303.length co34) (.slice Ao35 t306.length co35))) hb) (Kd.R_base ho0)) (Kd.R_base ho1)) (Kd.R_base ho2)) (fun _ h_ => h_.1)); have n5_ := Aside0.mk (Kd.R_mono (Kd.R_told (Kd.R_told (Kd.R_told (Kd.R_old (rX (fr3 HO297.out BK309.out (.slice Ao30 t300.length co30) (.slice Ao34 t303.length co34) (.slice Ao35 t306.length co35))) hb) (Kd.R_base ho0)) (Kd.R_base ho1)) (Kd.R_base ho2)) (fun _ h_ => h_.1)); have n6_ := Aside0.mk (Kd.R_mono (Kd.R_told (Kd.R_told (Kd.R_told (Kd.R_old (rX (fr3 HO302.out BK309.out (.slice Ao30 t300.length co30) (.slice Ao34 t303.length co34) (.slice Ao35 t306.length co35))) hb) (Kd.R_base ho0)) (Kd.R_base ho1)) (Kd.R_base ho2)) (fun _ h_ => h_.1)); have n7_ := Aside0.mk (Kd.R_mono (Kd.R_told (Kd.R_told (Kd.R_told (Kd.R_old (rX (fr3 HO305.out BK309.out (.slice Ao30 t300.length co30) (.slice Ao34 t303.length co34) (.slice Ao35 t306.length co35))) hb) (Kd.R_base ho0)) (Kd.R_base ho1)) (Kd.R_base ho2)) (fun _ h_ => h_.1)); have n8_ := Aside0.mk (Kd.R_mono (Kd.R_told (Kd.R_told (Kd.R_told (Kd.R_old (rX (fr3 HO308.out BK309.out (.slice Ao30 t300.length co30) (.slice Ao34 t303.length co34) (.slice Ao35 t306.length co35))) hb) (Kd.R_base ho0)) (Kd.R_base ho1)) (Kd.R_base ho2)) (fun _ h_ => h_.1)); have n9_ := Aside0.mk (Kd.R_lower (Kd.R_new' (Kd.R_new' (Kd.R_new' (Kd.R_new' (Kd.R_new' (Kd.R_new' (Kd.R_new' (Kd.R_new' (Kd.R_new' ho0 (Kd.R_lt (rX (fr3 HO282.out BK309.out (.slice Ao30 t300.length co30) (.slice Ao34 t303.length co34) (.slice Ao35 t306.length co35))))) (Kd.R_lt (rX (fr3 HO285.out BK309.out (.slice Ao30 t300.length co30) (.slice Ao34 t303.length co34) (.slice Ao35 t306.length co35))))) (Kd.R_lt (rX (fr3 HO288.out BK309.out (.slice Ao30 t300.length co30) (.slice Ao34 t303.length co34) (.slice Ao35 t306.length co35))))) (Kd.R_lt (rX (fr3 HO291.out BK309.out (.slice Ao30 t300.length co30) (.slice Ao34 t303.length co34) (.slice Ao35 t306.length co35))))) (Kd.R_lt (rX (fr3 HO294.out BK309.out (.slice Ao30 t300.length co30) (.slice Ao34 t303.length co34) (.slice Ao35 t306.length co35))))) (Kd.R_lt (rX (fr3 HO297.out BK309.out (.slice Ao30 t300.length co30) (.slice Ao34 t303.length co34) (.slice Ao35 t306.length co35))))) (Kd.R_lt (rX (fr3 HO302.out BK309.out (.slice Ao30 t300.length co30) (.slice Ao34 t303.length co34) (.slice Ao35 t306.length co35))))) (Kd.R_lt (rX (fr3 HO305.out BK309.out (.slice Ao30 t300.length co30) (.slice Ao34 t303.length co34) (.slice Ao35 t306.length co35))))) (Kd.R_lt (rX (fr3 HO308.out BK309.out (.slice Ao30 t300.length co30) (.slice Ao34 t303.length co34) (.slice Ao35 t306.length co35))))) (below_size (bX3 HB.out GE278.out GE299.out GE309.out))); have n10_ := Aside0.mk (Kd.R_lower (Kd.R_new' (Kd.R_new' (Kd.R_new' (Kd.R_new' (Kd.R_new' (Kd.R_new' (Kd.R_new' (Kd.R_new' (Kd.R_new' ho1 (Kd.R_lt (rX (fr3 HO282.out BK309.out (.slice Ao30 t300.length co30) (.slice Ao34 t303.length co34) (.slice Ao35 t306.length co35))))) (Kd.R_lt (rX (fr3 HO285.out BK309.out (.slice Ao30 t300.length co30) (.slice Ao34 t303.length co34) (.slice Ao35 t306.length co35))))) (Kd.R_lt (rX (fr3 HO288.out BK309.out (.slice Ao30 t300.length co30) (.slice Ao34 t303.length co34) (.slice Ao35 t306.length co35))))) (Kd.R_lt (rX (fr3 HO291.out BK309.out (.slice Ao30 t300.length co30) (.slice Ao34 t303.length co34) (.slice Ao35 t306.length co35))))) (Kd.R_lt (rX (fr3 HO294.out BK309.out (.slice Ao30 t300.length co30) (.slice Ao34 t303.length co34) (.slice Ao35 t306.length co35))))) (Kd.R_lt (rX (fr3 HO297.out BK309.out (.slice Ao30 t300.length co30) (.slice Ao34 t303.length co34) (.slice Ao35 t306.length co35))))) (Kd.R_lt (rX (fr3 HO302.out BK309.out (.slice Ao30 t300.length co30) (.slice Ao34 t303.length co34) (.slice Ao35 t306.length co35))))) (Kd.R_lt (rX (fr3 HO305.out BK309.out (.slice Ao30 t300.length co30) (.slice Ao34 t303.length co34) (.slice Ao35 t306.length co35))))) (Kd.R_lt (rX (fr3 HO308.out BK309.out (.slice Ao30 t300.length co30) (.slice Ao34 t303.length co34) (.slice Ao35 t306.length co35))))) (below_size (bX3 HB.out GE278.out GE299.out GE309.out))); have n11_ := Aside0.mk (Kd.R_lower (Kd.R_new' (Kd.R_new' (Kd.R_new' (Kd.R_new' (Kd.R_new' (Kd.R_new' (Kd.R_new' (Kd.R_new' (Kd.R_new' ho2 (Kd.R_lt (rX (fr3 HO282.out BK309.out (.slice Ao30 t300.length co30) (.slice Ao34 t303.length co34) (.slice Ao35 t306.length co35))))) (Kd.R_lt (rX (fr3 HO285.out BK309.out (.slice Ao30 t300.length co30) (.slice Ao34 t303.length co34) (.slice Ao35 t306.length co35))))) (Kd.R_lt (rX (fr3 HO288.out BK309.out (.slice Ao30 t300.length co30) (.slice Ao34 t303.length co34) (.slice Ao35 t306.length co35))))) (Kd.R_lt (rX (fr3 HO291.out BK309.out (.slice Ao30 t300.length co30) (.slice Ao34 t303.length co34) (.slice Ao35 t306.length co35))))) (Kd.R_lt (rX (fr3 HO294.out BK309.out (.slice Ao30 t300.length co30) (.slice Ao34 t303.length co34) (.slice Ao35 t306.length co35))))) (Kd.R_lt (rX (fr3 HO297.out BK309.out (.slice Ao30 t300.length co30) (.slice Ao34 t303.length co34) (.slice Ao35 t306.length co35))))) (Kd.R_lt (rX (fr3 HO302.out BK309.out (.slice Ao30 t300.length co30) (.slice Ao34 t303.length co34) (.slice Ao35 t306.length co35))))) (Kd.R_lt (rX (fr3 HO305.out BK309.out (.slice Ao30 t300.length co30) (.slice Ao34 t303.length co34) (.slice Ao35 t306.length co35))))) (Kd.R_lt (rX (fr3 HO308.out BK309.out (.slice Ao30 t300.length co30) (.slice Ao34 t303.length co34) (.slice Ao35 t306.length co35))))) (below_size (bX3 HB.out GE278.out GE299.out GE309.out))); have n12_ := Aside0.mk (blk_below (g := gb278) (o := .cells #[.slice A0_0 l0_0.length c0_0, .slice A0_1 l0_1.length c0_1, .slice A0_2 l0_2.length c0_2] 24 (0, 0)) (by (with_reducible repeat (first|refine kN ?_ _|refine kD ?_|refine kA ?_ _)); refine blk_far ?_ NB278_309.out _; (with_reducible repeat (first|refine kN ?_ _|refine kD ?_|refine kA ?_ _)); refine blk_far ?_ NB278_309.out _; (with_reducible repeat (first|refine kN ?_ _|refine kD ?_|refine kA ?_ _)); refine blk_far ?_ NB278_309.out _; (with_reducible repeat (first|refine kN ?_ _|refine kD ?_|refine kA ?_ _)); exact BK278.out) hb); have n13_ := Aside0.mk (blk_below (g := gb299) (o := .cells #[.slice Ao22 t289.length co22, .slice Ao25 t292.length co25, .slice Ao26 t295.length co26] 26 (0, 0)) (by (with_reducible repeat (first|refine kN ?_ _|refine kD ?_|refine kA ?_ _)); refine blk_far ?_ NB299_309.out _; (with_reducible repeat (first|refine kN ?_ _|refine kD ?_|refine kA ?_ _)); refine blk_far ?_ NB299_309.out _; (with_reducible repeat (first|refine kN ?_ _|refine kD ?_|refine kA ?_ _)); refine blk_far ?_ NB299_309.out _; (with_reducible repeat (first|refine kN ?_ _|refine kD ?_|refine kA ?_ _)); exact BK299.out) hb); have n14_ := Aside0.mk (blk_below (g := gb309) (o := .cells #[.slice Ao30 t300.length co30, .slice Ao34 t303.length co34, .slice Ao35 t306.length co35] 26 (0, 0)) (by (with_reducible repeat (first|refine kN ?_ _|refine kD ?_|refine kA ?_ _)); refine blk_put (cs := #[.slice Ao30 t300.length co30, .slice Ao34 t303.length co34, .slice none 0 0]) ?_ 2 _ rfl; (with_reducible repeat (first|refine kN ?_ _|refine kD ?_|refine kA ?_ _)); refine blk_put (cs := #[.slice Ao30 t300.length co30, .slice none 0 0, .slice none 0 0]) ?_ 1 _ rfl; (with_reducible repeat (first|refine kN ?_ _|refine kD ?_|refine kA ?_ _)); refine blk_put (cs := #[.slice none 0 0, .slice none 0 0, .slice none 0 0]) ?_ 0 _ rfl; (with_reducible repeat (first|refine kN ?_ _|refine kD ?_|refine kA ?_ _)); exact BK309.out) hb); have n15_ := Aside0.mk (below_step (bX3 HB.out GE278.out GE299.out GE309.out) hb); clear HO282 HO285 HO288 HO291 HO294 HO297 HO302 HO305 HO308 BK278 BK299 BK309 HB; have HO282 := n0_; have HO285 := n1_; have HO288 := n2_; have HO291 := n3_; have HO294 := n4_; have HO297 := n5_; have HO302 := n6_; have HO305 := n7_; have HO308 := n8_; have HO312 := n9_; have HO315 := n10_; have HO318 := n11_; have BK278 := n12_; have BK299 := n13_; have BK309 := n14_; have HB := n15_; clear n0_ n1_ n2_ n3_ n4_ n5_ n6_ n7_ n8_ n9_ n10_ n11_ n12_ n13_ n14_ n15_; (try clear hb); (try clear hb2); (try clear hk); (try clear hi); (try clear ho0); (try clear ho1); (try clear ho2)) | ((with_reducible refine gate_dst (N := 7) rfl ?_); refine box_event ?hg (N := 7) ?hd (cs := #[.slice none 0 0, .slice none 0 0, .slice none 0 0]) (t := 26) ?hr ?_; (case hd => rfl); (case hg => rfl); (case hr => first | (go_simp; done) | (go_simp; rfl)); intro gb320 hg w37 hbox hb; have n0_ := Aside0.mk (Kd.R_below (rX HO282.out) hb); have n1_ := Aside0.mk (Kd.R_below (rX HO285.out) hb); have n2_ := Aside0.mk (Kd.R_below (rX HO288.out) hb); have n3_ := Aside0.mk (Kd.R_below (rX HO291.out) hb); have n4_ := Aside0.mk (Kd.R_below (rX HO294.out) hb); have n5_ := Aside0.mk (Kd.R_below (rX HO297.out) hb); have n6_ := Aside0.mk (Kd.R_below (rX HO302.out) hb); have n7_ := Aside0.mk (Kd.R_below (rX HO305.out) hb); have n8_ := Aside0.mk (Kd.R_below (rX HO308.out) hb); have n9_ := Aside0.mk (Kd.R_below (rX HO312.out) hb); have n10_ := Aside0.mk (Kd.R_below (rX HO315.out) hb); have n11_ := Aside0.mk (Kd.R_below (rX HO318.out) hb); have n12_ := Aside0.mk (bbX BK278.out hb); have n13_ := Aside0.mk (bbX BK299.out hb); have n14_ := Aside0.mk (bbX BK309.out hb); have n15_ := Aside0.mk (below_step (bX3 HB.out GE278.out GE299.out GE309.out) hb); have n16_ := Aside0.mk (hbox); have n17_ := Aside0.mk ((szX (below_size (bX3 HB.out GE278.out GE299.out GE309.out)) hg : w.heap.size ≤ gb320)); have n18_ := Aside0.mk ((szX (below_size (bX3 HB.out GE278.out GE299.out GE309.out)) hg : w.heap.size ≤ gb320)); have n19_ := Aside0.mk (neX BK278.out hg); have n20_ := Aside0.mk (nfX BK278.out hg); have n21_ := Aside0.mk (neX BK299.out hg); have n22_ := Aside0.mk (nfX BK299.out hg); have n23_ := Aside0.mk (neX BK309.out hg); have n24_ := Aside0.mk (nfX BK309.out hg); clear HO282 HO285 HO288 HO291 HO294 HO297 HO302 HO305 HO308 HO312 HO315 HO318 BK278 BK299 BK309 HB; have HO282 := n0_; have HO285 := n1_; have HO288 := n2_; have HO291 := n3_; have HO294 := n4_; have HO297 := n5_; have HO302 := n6_; have HO305 := n7_; have HO308 := n8_; have HO312 := n9_; have HO315 := n10_; have HO318 := n11_; have BK278 := n12_; have BK299 := n13_; have BK309 := n14_; have HB := n15_; have BK320 := n16_; have GW320 := n17_; have GE320 := n18_; have NB278_320 := n19_; have NB320_278 := n20_; have NB299_320 := n21_; have NB320_299 := n22_; have NB309_320 := n23_; have NB320_309 := n24_; clear n0_ n1_ n2_ n3_ n4_ n5_ n6_ n7_ n8_ n9_ n10_ n11_ n12_ n13_ n14_ n15_ n16_ n17_ n18_ n19_ n20_ n21_ n22_ n23_ n24_ hb hbox hg; obtain ⟨Ao38, co38, eo38⟩ := Kd.R_slice HO312.out; subst eo38; have hnb39 := NB320_278.out; have hnc39 := NB278_320.out; have hnb40 := NB320_299.out; have hnc40 := NB299_320.out; have hnb41 := NB320_309.out; have hnc41 := NB309_320.out; have hcz42_0 := cz30 BK320.out; have hcz42_1 := cz31 BK320.out; have hcz42_2 := cz32 BK320.out; have hfz42_0 := blk_frozen BK320.out 0; have hfz42_1 := blk_frozen BK320.out 1; have hfz42_2 := blk_frozen BK320.out 2; obtain ⟨Ao43, co43, eo43⟩ := Kd.R_slice HO315.out; subst eo43; obtain ⟨Ao44, co44, eo44⟩ := Kd.R_slice HO318.out; subst eo44))
 (try simp only [Act.put, List.setIfInBounds_toArray, List.set_cons_zero, List.set_cons_succ])
 go_cut [40] (fun v40 wc => ∃ (kq : Nat) (x40_10 : Bool), v40 = .bool x40_10 ∧ Aside0 (laws_FnExactInduceOnce.j0 kq t298 t319 x40_10 l0_0 l0_1 l0_2 t289 t292 t295 t300 t303 t306 t310 t313 t316 = some r) ∧ Aside0 (kq ≤ k) ∧ Aside0 (Kd.R (Kd.int .i64) 3 wc w.heap.size (fun k_ => some k_ ≠ ((.slice Ao25 t292.length co25) : Value).ownBlock ∧ some k_ ≠ ((.slice Ao26 t295.length co26) : Value).ownBlock ∧ some k_ ≠ ((.slice Ao30 t300.length co30) : Value).ownBlock ∧ some k_ ≠ ((.slice Ao34 t303.length co34) : Value).ownBlock ∧ some k_ ≠ ((.slice Ao35 t306.length co35) : Value).ownBlock ∧ some k_ ≠ ((.slice Ao38 t310.length co38) : Value).ownBlock ∧ some k_ ≠ ((.slice Ao43 t313.length co43) : Value).ownBlock ∧ some k_ ≠ ((.slice Ao44 t316.length co44) : Value).ownBlock) (.slice Ao22 t289.length co22) t289) ∧ Aside0 (Kd.R (Kd.int .i64) 3 wc w.heap.size (fun k_ => some k_ ≠ ((.slice Ao22 t289.length co22) : Value).ownBlock ∧ some k_ ≠ ((.slice Ao26 t295.length co26) : Value).ownBlock ∧ some k_ ≠ ((.slice Ao30 t300.length co30) : Value).ownBlock ∧ some k_ ≠ ((.slice Ao34 t303.length co34) : Value).ownBlock ∧ some k_ ≠ ((.slice Ao35 t306.length co35) : Value).ownBlock ∧ some k_ ≠ ((.slice Ao38 t310.length co38) : Value).ownBlock ∧ some k_ ≠ ((.slice Ao43 t313.length co43) : Value).ownBlock ∧ some k_ ≠ ((.slice Ao44 t316.length co44) : Value).ownBlock) (.slice Ao25 t292.length co25) t292) ∧ Aside0 (Kd.R (Kd.int .i64) 3 wc w.heap.size (fun k_ => some k_ ≠ ((.slice Ao22 t289.length co22) : Value).ownBlock ∧ some k_ ≠ ((.slice Ao25 t292.length co25) : Value).ownBlock ∧ some k_ ≠ ((.slice Ao30 t300.length co30) : Value).ownBlock ∧ some k_ ≠ ((.slice Ao34 t303.length co34) : Value).ownBlock ∧ some k_ ≠ ((.slice Ao35 t306.length co35) : Value).ownBlock ∧ some k_ ≠ ((.slice Ao38 t310.length co38) : Value).ownBlock ∧ some k_ ≠ ((.slice Ao43 t313.length co43) : Value).ownBlock ∧ some k_ ≠ ((.slice Ao44 t316.length co44) : Value).ownBlock) (.slice Ao26 t295.length co26) t295) ∧ Aside0 (Kd.R (Kd.int .i64) 3 wc w.heap.size (fun k_ => some k_ ≠ ((.slice Ao22 t289.length co22) : Value).ownBlock ∧ some k_ ≠ ((.slice Ao25 t292.length co25) : Value).ownBlock ∧ some k_ ≠ ((.slice Ao26 t295.length co26) : Value).ownBlock ∧ some k_ ≠ ((.slice Ao34 t303.length co34) : Value).ownBlock ∧ some k_ ≠ ((.slice Ao35 t306.length co35) : Value).ownBlock ∧ some k_ ≠ ((.slice Ao38 t310.length co38) : Value).ownBlock ∧ some k_ ≠ ((.slice Ao43 t313.length co43) : Value).ownBlock ∧ some k_ ≠ ((.slice Ao44 t316.length co44) : Value).ownBlock) (.slice Ao30 t300.length co30) t300) ∧ Aside0 (Kd.R (Kd.int .i64) 3 wc w.heap.size (fun k_ => some k_ ≠ ((.slice Ao22 t289.length co22) : Value).ownBlock ∧ some k_ ≠ ((.slice Ao25 t292.length co25) : Value).ownBlock ∧ some k_ ≠ ((.slice Ao26 t295.length co26) : Value).ownBlock ∧ some k_ ≠ ((.slice Ao30 t300.length co30) : Value).ownBlock ∧ some k_ ≠ ((.slice Ao35 t306.length co35) : Value).ownBlock ∧ some k_ ≠ ((.slice Ao38 t310.length co38) : Value).ownBlock ∧ some k_ ≠ ((.slice Ao43 t313.length co43) : Value).ownBlock ∧ some k_ ≠ ((.slice Ao44 t316.length co44) : Value).ownBlock) (.slice Ao34 t303.length co34) t303) ∧ Aside0 (Kd.R (Kd.int .i64) 3 wc w.heap.size (fun k_ => some k_ ≠ ((.slice Ao22 t289.length co22) : Value).ownBlock ∧ some k_ ≠ ((.slice Ao25 t292.length co25) : Value).ownBlock ∧ some k_ ≠ ((.slice Ao26 t295.length co26) : Value).ownBlock ∧ some k_ ≠ ((.slice Ao30 t300.length co30) : Value).ownBlock ∧ some k_ ≠ ((.slice Ao34 t303.length co34) : Value).ownBlock ∧ some k_ ≠ ((.slice Ao38 t310.length co38) : Value).ownBlock ∧ some k_ ≠ ((.slice Ao43 t313.length co43) : Value).ownBlock ∧ some k_ ≠ ((.slice Ao44 t316.length co44) : Value).ownBlock) (.slice Ao35 t306.length co35) t306) ∧ Aside0 (Kd.R (Kd.int .i64) 3 wc w.heap.size (fun k_ => some k_ ≠ ((.slice Ao22 t289.length co22) : Value).ownBlock ∧ some k_ ≠ ((.slice Ao25 t292.length co25) : Value).ownBlock ∧ some k_ ≠ ((.slice Ao26 t295.length co26) : Value).ownBlock ∧ some k_ ≠ ((.slice Ao30 t300.length co30) : Value).ownBlock ∧ some k_ ≠ ((.slice Ao34 t303.length co34) : Value).ownBlock ∧ some k_ ≠ ((.slice Ao35 t306.length co35) : Value).ownBlock ∧ some k_ ≠ ((.slice Ao43 t313.length co43) : Value).ownBlock ∧ some k_ ≠ ((.slice Ao44 t316.length co44) : Value).ownBlock) (.slice Ao38 t310.length co38) t310) ∧ Aside0 (Kd.R (Kd.int .i64) 3 wc w.heap.size (fun k_ => some k_ ≠ ((.slice Ao22 t289.length co22) : Value).ownBlock ∧ some k_ ≠ ((.slice Ao25 t292.length co25) : Value).ownBlock ∧ some k_ ≠ ((.slice Ao26 t295.length co26) : Value).ownBlock ∧ some k_ ≠ ((.slice Ao30 t300.length co30) : Value).ownBlock ∧ some k_ ≠ ((.slice Ao34 t303.length co34) : Value).ownBlock ∧ some k_ ≠ ((.slice Ao35 t306.length co35) : Value).ownBlock ∧ some k_ ≠ ((.slice Ao38 t310.length co38) : Value).ownBlock ∧ some k_ ≠ ((.slice Ao44 t316.length co44) : Value).ownBlock) (.slice Ao43 t313.length co43) t313) ∧ Aside0 (Kd.R (Kd.int .i64) 3 wc w.heap.size (fun k_ => some k_ ≠ ((.slice Ao22 t289.length co22) : Value).ownBlock ∧ some k_ ≠ ((.slice Ao25 t292.length co25) : Value).ownBlock ∧ some k_ ≠ ((.slice Ao26 t295.length co26) : Value).ownBlock ∧ some k_ ≠ ((.slice Ao30 t300.length co30) : Value).ownBlock ∧ some k_ ≠ ((.slice Ao34 t303.length co34) : Value).ownBlock ∧ some k_ ≠ ((.slice Ao35 t306.length co35) : Value).ownBlock ∧ some k_ ≠ ((.slice Ao38 t310.length co38) : Value).ownBlock ∧ some k_ ≠ ((.slice Ao43 t313.length co43) : Value).ownBlock) (.slice Ao44 t316.length co44) t316) ∧ Aside0 (wc.heap[gb278]? = some (.cells #[(.slice A0_0 l0_0.length c0_0), (.slice A0_1 l0_1.length c0_1), (.slice A0_2 l0_2.length c0_2)] 24 (0, 0))) ∧ Aside0 (wc.heap[gb299]? = some (.cells #[(.slice Ao22 t289.length co22), (.slice Ao25 t292.length co25), (.slice Ao26 t295.length co26)] 26 (0, 0))) ∧ Aside0 (wc.heap[gb309]? = some (.cells #[(.slice Ao30 t300.length co30), (.slice Ao34 t303.length co34), (.slice Ao35 t306.length co35)] 26 (0, 0))) ∧ Aside0 (wc.heap[gb320]? = some (.cells #[(.slice Ao38 t310.length co38), (.slice Ao43 t313.length co43), (.slice Ao44 t316.length co44)] 26 (0, 0))) ∧ Aside0 (Below w.heap.size w wc))
 case first =>
  have H := HC11.out
  clear HC11
  replace H := Option.bind_eq_some_iff.mp H
  obtain ⟨t321, A450, H⟩ := H
  replace H : (if t321 = true then (laws_FnExactInduceOnce.j0 k t298 t319 (t319 != t298) l0_0 l0_1 l0_2 t289 t292 t295 t300 t303 t306 t310 t313 t316) else (laws_FnExactInduceOnce.j0 k t298 t319 true l0_0 l0_1 l0_2 t289 t292 t295 t300 t303 t306 t310 t313 t316)) = some r := H
  have A45 := Aside0.mk A450
  clear A450
  by_cases c46 : t321 = true
  {
  subst c46
  have H1 : (laws_FnExactInduceOnce.j0 k t298 t319 (t319 != t298) l0_0 l0_1 l0_2 t289 t292 t295 t300 t303 t306 t310 t313 t316) = some r := by rw [if_pos rfl] at H; exact H
  clear H
  have H := H1
  clear H1
  have H' := Aside0.mk H
  clear H
  have hnb47 := NB320_278.out
  have hnc47 := NB278_320.out
  have hnb48 := NB320_299.out
  have hnc48 := NB299_320.out
  have hnb49 := NB320_309.out
  have hnc49 := NB309_320.out
  have hcz50_0 := cz30 BK320.out
  have hcz50_1 := cz31 BK320.out
  have hcz50_2 := cz32 BK320.out
  have hfz50_0 := blk_frozen BK320.out 0
  have hfz50_1 := blk_frozen BK320.out 1
  have hfz50_2 := blk_frozen BK320.out 2
  have hnb51 := NB299_278.out
  have hnc51 := NB278_299.out
  have hnb52 := NB299_309.out
  have hnc52 := NB309_299.out
  have hcz53_0 := cz30 BK299.out
  have hcz53_1 := cz31 BK299.out
  have hcz53_2 := cz32 BK299.out
  have hfz53_0 := blk_frozen BK299.out 0
  have hfz53_1 := blk_frozen BK299.out 1
  have hfz53_2 := blk_frozen BK299.out 2
  go_wp2_with (first | ((with_reducible refine gate_callee (f := 10) rfl ?_); refine goesL_ (some 34) rfl rfl Try.func10 (by kernel_rfl) rfl #[.agg #[.slice Ao38 t310.length co38, .slice Ao43 t313.length co43, .slice Ao44 t316.length co44], .agg #[.slice Ao22 t289.length co22, .slice Ao25 t292.length co25, .slice Ao26 t295.length co26]] rfl aX ?_; (with_reducible refine (laws_eqExchange.calls k _ _ t310 _ _ t313 _ _ t316 _ _ t289 _ _ t292 _ _ t295 true _ ?side1 ?side2 ?side3 ?side4 ?side5 ?side6 ?side7 ?side8 ?side9 ?side10 ?side11 ?side12 A45.out).mono ?_); (case side1 => exact rcX (fr3 HO312.out BK320.out (.slice Ao38 t310.length co38) (.slice Ao43 t313.length co43) (.slice Ao44 t316.length co44))); (case side2 => exact (Kd.R_reads' HO312.out).2.1); (case side3 => exact rcX (fr3 HO315.out BK320.out (.slice Ao38 t310.length co38) (.slice Ao43 t313.length co43) (.slice Ao44 t316.length co44))); (case side4 => exact (Kd.R_reads' HO315.out).2.1); (case side5 => exact rcX (fr3 HO318.out BK320.out (.slice Ao38 t310.length co38) (.slice Ao43 t313.length co43) (.slice Ao44 t316.length co44))); (case side6 => exact (Kd.R_reads' HO318.out).2.1); (case side7 => exact rcX (fr3 HO291.out BK320.out (.slice Ao38 t310.length co38) (.slice Ao43 t313.length co43) (.slice Ao44 t316.length co44))); (case side8 => exact (Kd.R_reads' HO291.out).2.1); (case side9 => exact rcX (fr3 HO294.out BK320.out (.slice Ao38 t310.length co38) (.slice Ao43 t313.length co43) (.slice Ao44 t316.length co44))); (case side10 => exact (Kd.R_reads' HO294.out).2.1); (case side11 => exact rcX (fr3 HO297.out BK320.out (.slice Ao38 t310.length co38) (.slice Ao43 t313.length co43) (.slice Ao44 t316.length co44))); (case side12 => exact (Kd.R_reads' HO297.out).2.1); rintro e w54 ⟨rfl, hb⟩; refine ⟨_, rfl, ?_⟩; have n0_ := Aside0.mk (Kd.R_below (rX (fr3 HO282.out BK320.out (.slice Ao38 t310.length co38) (.slice Ao43 t313.length co43) (.slice Ao44 t316.length co44))) hb); have n1_ := Aside0.mk (Kd.R_below (rX (fr3 HO285.out BK320.out (.slice Ao38 t310.length co38) (.slice Ao43 t313.length co43) (.slice Ao44 t316.length co44))) hb); have n2_ := Aside0.mk (Kd.R_below (rX (fr3 HO288.out BK320.out (.slice Ao38 t310.length co38) (.slice Ao43 t313.length co43) (.slice Ao44 t316.length co44))) hb); have n3_ := Aside0.mk (Kd.R_below (rX (fr3 HO291.out BK320.out (.slice Ao38 t310.length co38) (.slice Ao43 t313.length co43) (.slice Ao44 t316.length co44))) hb); have n4_ := Aside0.mk (Kd.R_below (rX (fr3 HO294.out BK320.out (.slice Ao38 t310.length co38) (.slice Ao43 t313.length co43) (.slice Ao44 t316.length co44))) hb); have n5_ := Aside0.mk (Kd.R_below (rX (fr3 HO297.out BK320.out (.slice Ao38 t310.length co38) (.slice Ao43 t313.length co43) (.slice Ao44 t316.length co44))) hb); have n6_ := Aside0.mk (Kd.R_below (rX (fr3 HO302.out BK320.out (.slice Ao38 t310.length co38) (.slice Ao43 t313.length co43) (.slice Ao44 t316.length co44))) hb); have n7_ := Aside0.mk (Kd.R_below (rX (fr3 HO305.out BK320.out (.slice Ao38 t310.length co38) (.slice Ao43 t313.length co43) (.slice Ao44 t316.length co44))) hb); have n8_ := Aside0.mk (Kd.R_below (rX (fr3 HO308.out BK320.out (.slice Ao38 t310.length co38) (.slice Ao43 t313.length co43) (.slice Ao44 t316.length co44))) hb); have n9_ := Aside0.mk (Kd.R_below (rX (fr3 HO312.out BK320.out (.slice Ao38 t310.length co38) (.slice Ao43 t313.length co43) (.slice Ao44 t316.length co44))) hb); have n10_ := Aside0.mk (Kd.R_below (rX (fr3 HO315.out BK320.out (.slice Ao38 t310.length co38) (.slice Ao43 t313.length co43) (.slice Ao44 t316.length co44))) hb); have n11_ := Aside0.mk (Kd.R_below (rX (fr3 HO318.out BK320.out (.slice Ao38 t310.length co38) (.slice Ao43 t313.length co43) (.slice Ao44 t316.length co44))) hb); have n12_ := Aside0.mk (blk_below (g := gb278) (o := .cells #[.slice A0_0 l0_0.length c0_0, .slice A0_1 l0_1.length c0_1, .slice A0_2 l0_2.length c0_2] 24 (0, 0)) (by (with_reducible repeat (first|refine kN ?_ _|refine kD ?_|refine kA ?_ _)); refine blk_far ?_ NB278_320.out _; (with_reducible repeat (first|refine kN ?_ _|refine kD ?_|refine kA ?_ _)); refine blk_far ?_ NB278_320.out _; (with_reducible repeat (first|refine kN ?_ _|refine kD ?_|refine kA ?_ _)); refine blk_far ?_ NB278_320.out _; (with_reducible repeat (first|refine kN ?_ _|refine kD ?_|refine kA ?_ _)); exact BK278.out) hb); have n13_ := Aside0.mk (blk_below (g := gb299) (o := .cells #[.slice Ao22 t289.length co22, .slice Ao25 t292.length co25, .slice Ao26 t295.length co26] 26 (0, 0)) (by (with_reducible repeat (first|refine kN ?_ _|refine kD ?_|refine kA ?_ _)); refine blk_far ?_ NB299_320.out _; (with_reducible repeat (first|refine kN ?_ _|refine kD ?_|refine kA ?_ _)); refine blk_far ?_ NB299_320.out _; (with_reducible repeat (first|refine kN ?_ _|refine kD ?_|refine kA ?_ _)); refine blk_far ?_ NB299_320.out _; (with_reducible repeat (first|refine kN ?_ _|refine kD ?_|refine kA ?_ _)); exact BK299.out) hb); have n14_ := Aside0.mk (blk_below (g := gb309) (o := .cells #[.slice Ao30 t300.length co30, .slice Ao34 t303.length co34, .slice Ao35 t306.length co35] 26 (0, 0)) (by (with_reducible repeat (first|refine kN ?_ _|refine kD ?_|refine kA ?_ _)); refine blk_far ?_ NB309_320.out _; (with_reducible repeat (first|refine kN ?_ _|refine kD ?_|refine kA ?_ _)); refine blk_far ?_ NB309_320.out _; (with_reducible repeat (first|refine kN ?_ _|refine kD ?_|refine kA ?_ _)); refine blk_far ?_ NB309_320.out _; (with_reducible repeat (first|refine kN ?_ _|refine kD ?_|refine kA ?_ _)); exact BK309.out) hb); have n15_ := Aside0.mk (blk_below (g := gb320) (o := .cells #[.slice Ao38 t310.length co38, .slice Ao43 t313.length co43, .slice Ao44 t316.length co44] 26 (0, 0)) (by (with_reducible repeat (first|refine kN ?_ _|refine kD ?_|refine kA ?_ _)); refine blk_put (cs := #[.slice Ao38 t310.length co38, .slice Ao43 t313.length co43, .slice none 0 0]) ?_ 2 _ rfl; (with_reducible repeat (first|refine kN ?_ _|refine kD ?_|refine kA ?_ _)); refine blk_put (cs := #[.slice Ao38 t310.length co38, .slice none 0 0, .slice none 0 0]) ?_ 1 _ rfl; (with_reducible repeat (first|refine kN ?_ _|refine kD ?_|refine kA ?_ _)); refine blk_put (cs := #[.slice none 0 0, .slice none 0 0, .slice none 0 0]) ?_ 0 _ rfl; (with_reducible repeat (first|refine kN ?_ _|refine kD ?_|refine kA ?_ _)); exact BK320.out) hb); have n16_ := Aside0.mk (below_step (by repeat (first | (with_reducible first | exact HB.out|apply bA|apply bN|apply bD | refine below_set ?_ GE278.out | refine below_set ?_ GE299.out | refine below_set ?_ GE309.out | refine below_set ?_ GE320.out) | exact HB.out)) hb); clear HO282 HO285 HO288 HO291 HO294 HO297 HO302 HO305 HO308 HO312 HO315 HO318 BK278 BK299 BK309 BK320 HB; have HO282 := n0_; have HO285 := n1_; have HO288 := n2_; have HO291 := n3_; have HO294 := n4_; have HO297 := n5_; have HO302 := n6_; have HO305 := n7_; have HO308 := n8_; have HO312 := n9_; have HO315 := n10_; have HO318 := n11_; have BK278 := n12_; have BK299 := n13_; have BK309 := n14_; have BK320 := n15_; have HB := n16_; clear n0_ n1_ n2_ n3_ n4_ n5_ n6_ n7_ n8_ n9_ n10_ n11_ n12_ n13_ n14_ n15_ n16_; (try clear hb); (try clear hb2); (try clear hk); (try clear hi)))
  go_meet
  case rel => exact ⟨_, ((t319 != t298)), vX, H', ⟨by first | omega | exact Nat.le_refl _⟩, ⟨rM HO291.out (fun _ hk => ⟨hk.1.1.1.1.1.1.1.1.1.1, ⟨hk.1.1.1.1.1.1.1.1.1.2, ⟨hk.1.1.1.1.1.2, ⟨hk.1.1.1.1.2, ⟨hk.1.1.1.2, ⟨hk.1.1.2, ⟨hk.1.2, hk.2⟩⟩⟩⟩⟩⟩⟩)⟩, ⟨rM HO294.out (fun _ hk => ⟨hk.1.1.1.1.1.1.1.1.1.1, ⟨hk.1.1.1.1.1.1.1.1.1.2, ⟨hk.1.1.1.1.1.2, ⟨hk.1.1.1.1.2, ⟨hk.1.1.1.2, ⟨hk.1.1.2, ⟨hk.1.2, hk.2⟩⟩⟩⟩⟩⟩⟩)⟩, ⟨rM HO297.out (fun _ hk => ⟨hk.1.1.1.1.1.1.1.1.1.1, ⟨hk.1.1.1.1.1.1.1.1.1.2, ⟨hk.1.1.1.1.1.2, ⟨hk.1.1.1.1.2, ⟨hk.1.1.1.2, ⟨hk.1.1.2, ⟨hk.1.2, hk.2⟩⟩⟩⟩⟩⟩⟩)⟩, ⟨rM HO302.out (fun _ hk => ⟨hk.1.1.1.1.1.2, ⟨hk.1.1.1.1.2, ⟨hk.1.1.1.2, ⟨hk.1.1.1.1.1.1.1.1.1.1, ⟨hk.1.1.1.1.1.1.1.1.1.2, ⟨hk.1.1.2, ⟨hk.1.2, hk.2⟩⟩⟩⟩⟩⟩⟩)⟩, ⟨rM HO305.out (fun _ hk => ⟨hk.1.1.1.1.1.2, ⟨hk.1.1.1.1.2, ⟨hk.1.1.1.2, ⟨hk.1.1.1.1.1.1.1.1.1.1, ⟨hk.1.1.1.1.1.1.1.1.1.2, ⟨hk.1.1.2, ⟨hk.1.2, hk.2⟩⟩⟩⟩⟩⟩⟩)⟩, ⟨rM HO308.out (fun _ hk => ⟨hk.1.1.1.1.1.2, ⟨hk.1.1.1.1.2, ⟨hk.1.1.1.2, ⟨hk.1.1.1.1.1.1.1.1.1.1, ⟨hk.1.1.1.1.1.1.1.1.1.2, ⟨hk.1.1.2, ⟨hk.1.2, hk.2⟩⟩⟩⟩⟩⟩⟩)⟩, ⟨rM HO312.out (fun _ hk => ⟨hk.1.1.1.1.1.2, ⟨hk.1.1.1.1.2, ⟨hk.1.1.1.2, ⟨hk.1.1.2, ⟨hk.1.2, ⟨hk.2, ⟨hk.1.1.1.1.1.1.1.1.1.1, hk.1.1.1.1.1.1.1.1.1.2⟩⟩⟩⟩⟩⟩⟩)⟩, ⟨rM HO315.out (fun _ hk => ⟨hk.1.1.1.1.1.2, ⟨hk.1.1.1.1.2, ⟨hk.1.1.1.2, ⟨hk.1.1.2, ⟨hk.1.2, ⟨hk.2, ⟨hk.1.1.1.1.1.1.1.1.1.1, hk.1.1.1.1.1.1.1.1.1.2⟩⟩⟩⟩⟩⟩⟩)⟩, ⟨rM HO318.out (fun _ hk => ⟨hk.1.1.1.1.1.2, ⟨hk.1.1.1.1.2, ⟨hk.1.1.1.2, ⟨hk.1.1.2, ⟨hk.1.2, ⟨hk.2, ⟨hk.1.1.1.1.1.1.1.1.1.1, hk.1.1.1.1.1.1.1.1.1.2⟩⟩⟩⟩⟩⟩⟩)⟩, ⟨kX BK278.out⟩, ⟨kX BK299.out⟩, ⟨kX BK309.out⟩, ⟨kX BK320.out⟩, ⟨by repeat (first | (with_reducible first | exact HB.out|apply bA|apply bN|apply bD | refine below_set ?_ GE278.out | refine below_set ?_ GE299.out | refine below_set ?_ GE309.out | refine below_set ?_ GE320.out) | exact HB.out)⟩⟩
  }
  {
  replace c46 := Bool.eq_false_iff.mpr c46
  subst c46
  have H1 : (laws_FnExactInduceOnce.j0 k t298 t319 true l0_0 l0_1 l0_2 t289 t292 t295 t300 t303 t306 t310 t313 t316) = some r := by rw [if_neg (show ¬ (false = true) by decide)] at H; exact H
  clear H
  have H := H1
  clear H1
  have H' := Aside0.mk H
  clear H
  have hnb55 := NB320_278.out
  have hnc55 := NB278_320.out
  have hnb56 := NB320_299.out
  have hnc56 := NB299_320.out
  have hnb57 := NB320_309.out
  have hnc57 := NB309_320.out
  have hcz58_0 := cz30 BK320.out
  have hcz58_1 := cz31 BK320.out
  have hcz58_2 := cz32 BK320.out
  have hfz58_0 := blk_frozen BK320.out 0
  have hfz58_1 := blk_frozen BK320.out 1
  have hfz58_2 := blk_frozen BK320.out 2
  have hnb59 := NB299_278.out
  have hnc59 := NB278_299.out
  have hnb60 := NB299_309.out
  have hnc60 := NB309_299.out
  have hcz61_0 := cz30 BK299.out
  have hcz61_1 := cz31 BK299.out
  have hcz61_2 := cz32 BK299.out
  have hfz61_0 := blk_frozen BK299.out 0
  have hfz61_1 := blk_frozen BK299.out 1
  have hfz61_2 := blk_frozen BK299.out 2
  go_wp2_with (first | ((with_reducible refine gate_callee (f := 10) rfl ?_); refine goesL_ (some 34) rfl rfl Try.func10 (by kernel_rfl) rfl #[.agg #[.slice Ao38 t310.length co38, .slice Ao43 t313.length co43, .slice Ao44 t316.length co44], .agg #[.slice Ao22 t289.length co22, .slice Ao25 t292.length co25, .slice Ao26 t295.length co26]] rfl aX ?_; (with_reducible refine (laws_eqExchange.calls k _ _ t310 _ _ t313 _ _ t316 _ _ t289 _ _ t292 _ _ t295 false _ ?side1 ?side2 ?side3 ?side4 ?side5 ?side6 ?side7 ?side8 ?side9 ?side10 ?side11 ?side12 A45.out).mono ?_); (case side1 => exact rcX (fr3 HO312.out BK320.out (.slice Ao38 t310.length co38) (.slice Ao43 t313.length co43) (.slice Ao44 t316.length co44))); (case side2 => exact (Kd.R_reads' HO312.out).2.1); (case side3 => exact rcX (fr3 HO315.out BK320.out (.slice Ao38 t310.length co38) (.slice Ao43 t313.length co43) (.slice Ao44 t316.length co44))); (case side4 => exact (Kd.R_reads' HO315.out).2.1); (case side5 => exact rcX (fr3 HO318.out BK320.out (.slice Ao38 t310.length co38) (.slice Ao43 t313.length co43) (.slice Ao44 t316.length co44))); (case side6 => exact (Kd.R_reads' HO318.out).2.1); (case side7 => exact rcX (fr3 HO291.out BK320.out (.slice Ao38 t310.length co38) (.slice Ao43 t313.length co43) (.slice Ao44 t316.length co44))); (case side8 => exact (Kd.R_reads' HO291.out).2.1); (case side9 => exact rcX (fr3 HO294.out BK320.out (.slice Ao38 t310.length co38) (.slice Ao43 t313.length co43) (.slice Ao44 t316.length co44))); (case side10 => exact (Kd.R_reads' HO294.out).2.1); (case side11 => exact rcX (fr3 HO297.out BK320.out (.slice Ao38 t310.length co38) (.slice Ao43 t313.length co43) (.slice Ao44 t316.length co44))); (case side12 => exact (Kd.R_reads' HO297.out).2.1); rintro e w62 ⟨rfl, hb⟩; refine ⟨_, rfl, ?_⟩; have n0_ := Aside0.mk (Kd.R_below (rX (fr3 HO282.out BK320.out (.slice Ao38 t310.length co38) (.slice Ao43 t313.length co43) (.slice Ao44 t316.length co44))) hb); have n1_ := Aside0.mk (Kd.R_below (rX (fr3 HO285.out BK320.out (.slice Ao38 t310.length co38) (.slice Ao43 t313.length co43) (.slice Ao44 t316.length co44))) hb); have n2_ := Aside0.mk (Kd.R_below (rX (fr3 HO288.out BK320.out (.slice Ao38 t310.length co38) (.slice Ao43 t313.length co43) (.slice Ao44 t316.length co44))) hb); have n3_ := Aside0.mk (Kd.R_below (rX (fr3 HO291.out BK320.out (.slice Ao38 t310.length co38) (.slice Ao43 t313.length co43) (.slice Ao44 t316.length co44))) hb); have n4_ := Aside0.mk (Kd.R_below (rX (fr3 HO294.out BK320.out (.slice Ao38 t310.length co38) (.slice Ao43 t313.length co43) (.slice Ao44 t316.length co44))) hb); have n5_ := Aside0.mk (Kd.R_below (rX (fr3 HO297.out BK320.out (.slice Ao38 t310.length co38) (.slice Ao43 t313.length co43) (.slice Ao44 t316.length co44))) hb); have n6_ := Aside0.mk (Kd.R_below (rX (fr3 HO302.out BK320.out (.slice Ao38 t310.length co38) (.slice Ao43 t313.length co43) (.slice Ao44 t316.length co44))) hb); have n7_ := Aside0.mk (Kd.R_below (rX (fr3 HO305.out BK320.out (.slice Ao38 t310.length co38) (.slice Ao43 t313.length co43) (.slice Ao44 t316.length co44))) hb); have n8_ := Aside0.mk (Kd.R_below (rX (fr3 HO308.out BK320.out (.slice Ao38 t310.length co38) (.slice Ao43 t313.length co43) (.slice Ao44 t316.length co44))) hb); have n9_ := Aside0.mk (Kd.R_below (rX (fr3 HO312.out BK320.out (.slice Ao38 t310.length co38) (.slice Ao43 t313.length co43) (.slice Ao44 t316.length co44))) hb); have n10_ := Aside0.mk (Kd.R_below (rX (fr3 HO315.out BK320.out (.slice Ao38 t310.length co38) (.slice Ao43 t313.length co43) (.slice Ao44 t316.length co44))) hb); have n11_ := Aside0.mk (Kd.R_below (rX (fr3 HO318.out BK320.out (.slice Ao38 t310.length co38) (.slice Ao43 t313.length co43) (.slice Ao44 t316.length co44))) hb); have n12_ := Aside0.mk (blk_below (g := gb278) (o := .cells #[.slice A0_0 l0_0.length c0_0, .slice A0_1 l0_1.length c0_1, .slice A0_2 l0_2.length c0_2] 24 (0, 0)) (by (with_reducible repeat (first|refine kN ?_ _|refine kD ?_|refine kA ?_ _)); refine blk_far ?_ NB278_320.out _; (with_reducible repeat (first|refine kN ?_ _|refine kD ?_|refine kA ?_ _)); refine blk_far ?_ NB278_320.out _; (with_reducible repeat (first|refine kN ?_ _|refine kD ?_|refine kA ?_ _)); refine blk_far ?_ NB278_320.out _; (with_reducible repeat (first|refine kN ?_ _|refine kD ?_|refine kA ?_ _)); exact BK278.out) hb); have n13_ := Aside0.mk (blk_below (g := gb299) (o := .cells #[.slice Ao22 t289.length co22, .slice Ao25 t292.length co25, .slice Ao26 t295.length co26] 26 (0, 0)) (by (with_reducible repeat (first|refine kN ?_ _|refine kD ?_|refine kA ?_ _)); refine blk_far ?_ NB299_320.out _; (with_reducible repeat (first|refine kN ?_ _|refine kD ?_|refine kA ?_ _)); refine blk_far ?_ NB299_320.out _; (with_reducible repeat (first|refine kN ?_ _|refine kD ?_|refine kA ?_ _)); refine blk_far ?_ NB299_320.out _; (with_reducible repeat (first|refine kN ?_ _|refine kD ?_|refine kA ?_ _)); exact BK299.out) hb); have n14_ := Aside0.mk (blk_below (g := gb309) (o := .cells #[.slice Ao30 t300.length co30, .slice Ao34 t303.length co34, .slice Ao35 t306.length co35] 26 (0, 0)) (by (with_reducible repeat (first|refine kN ?_ _|refine kD ?_|refine kA ?_ _)); refine blk_far ?_ NB309_320.out _; (with_reducible repeat (first|refine kN ?_ _|refine kD ?_|refine kA ?_ _)); refine blk_far ?_ NB309_320.out _; (with_reducible repeat (first|refine kN ?_ _|refine kD ?_|refine kA ?_ _)); refine blk_far ?_ NB309_320.out _; (with_reducible repeat (first|refine kN ?_ _|refine kD ?_|refine kA ?_ _)); exact BK309.out) hb); have n15_ := Aside0.mk (blk_below (g := gb320) (o := .cells #[.slice Ao38 t310.length co38, .slice Ao43 t313.length co43, .slice Ao44 t316.length co44] 26 (0, 0)) (by (with_reducible repeat (first|refine kN ?_ _|refine kD ?_|refine kA ?_ _)); refine blk_put (cs := #[.slice Ao38 t310.length co38, .slice Ao43 t313.length co43, .slice none 0 0]) ?_ 2 _ rfl; (with_reducible repeat (first|refine kN ?_ _|refine kD ?_|refine kA ?_ _)); refine blk_put (cs := #[.slice Ao38 t310.length co38, .slice none 0 0, .slice none 0 0]) ?_ 1 _ rfl; (with_reducible repeat (first|refine kN ?_ _|refine kD ?_|refine kA ?_ _)); refine blk_put (cs := #[.slice none 0 0, .slice none 0 0, .slice none 0 0]) ?_ 0 _ rfl; (with_reducible repeat (first|refine kN ?_ _|refine kD ?_|refine kA ?_ _)); exact BK320.out) hb); have n16_ := Aside0.mk (below_step (by repeat (first | (with_reducible first | exact HB.out|apply bA|apply bN|apply bD | refine below_set ?_ GE278.out | refine below_set ?_ GE299.out | refine below_set ?_ GE309.out | refine below_set ?_ GE320.out) | exact HB.out)) hb); clear HO282 HO285 HO288 HO291 HO294 HO297 HO302 HO305 HO308 HO312 HO315 HO318 BK278 BK299 BK309 BK320 HB; have HO282 := n0_; have HO285 := n1_; have HO288 := n2_; have HO291 := n3_; have HO294 := n4_; have HO297 := n5_; have HO302 := n6_; have HO305 := n7_; have HO308 := n8_; have HO312 := n9_; have HO315 := n10_; have HO318 := n11_; have BK278 := n12_; have BK299 := n13_; have BK309 := n14_; have BK320 := n15_; have HB := n16_; clear n0_ n1_ n2_ n3_ n4_ n5_ n6_ n7_ n8_ n9_ n10_ n11_ n12_ n13_ n14_ n15_ n16_; (try clear hb); (try clear hb2); (try clear hk); (try clear hi)))
  go_meet
  case rel => exact ⟨_, (true), vX, H', ⟨by first | omega | exact Nat.le_refl _⟩, ⟨rM HO291.out (fun _ hk => ⟨hk.1.1.1.1.1.1.1.1.1.1, ⟨hk.1.1.1.1.1.1.1.1.1.2, ⟨hk.1.1.1.1.1.2, ⟨hk.1.1.1.1.2, ⟨hk.1.1.1.2, ⟨hk.1.1.2, ⟨hk.1.2, hk.2⟩⟩⟩⟩⟩⟩⟩)⟩, ⟨rM HO294.out (fun _ hk => ⟨hk.1.1.1.1.1.1.1.1.1.1, ⟨hk.1.1.1.1.1.1.1.1.1.2, ⟨hk.1.1.1.1.1.2, ⟨hk.1.1.1.1.2, ⟨hk.1.1.1.2, ⟨hk.1.1.2, ⟨hk.1.2, hk.2⟩⟩⟩⟩⟩⟩⟩)⟩, ⟨rM HO297.out (fun _ hk => ⟨hk.1.1.1.1.1.1.1.1.1.1, ⟨hk.1.1.1.1.1.1.1.1.1.2, ⟨hk.1.1.1.1.1.2, ⟨hk.1.1.1.1.2, ⟨hk.1.1.1.2, ⟨hk.1.1.2, ⟨hk.1.2, hk.2⟩⟩⟩⟩⟩⟩⟩)⟩, ⟨rM HO302.out (fun _ hk => ⟨hk.1.1.1.1.1.2, ⟨hk.1.1.1.1.2, ⟨hk.1.1.1.2, ⟨hk.1.1.1.1.1.1.1.1.1.1, ⟨hk.1.1.1.1.1.1.1.1.1.2, ⟨hk.1.1.2, ⟨hk.1.2, hk.2⟩⟩⟩⟩⟩⟩⟩)⟩, ⟨rM HO305.out (fun _ hk => ⟨hk.1.1.1.1.1.2, ⟨hk.1.1.1.1.2, ⟨hk.1.1.1.2, ⟨hk.1.1.1.1.1.1.1.1.1.1, ⟨hk.1.1.1.1.1.1.1.1.1.2, ⟨hk.1.1.2, ⟨hk.1.2, hk.2⟩⟩⟩⟩⟩⟩⟩)⟩, ⟨rM HO308.out (fun _ hk => ⟨hk.1.1.1.1.1.2, ⟨hk.1.1.1.1.2, ⟨hk.1.1.1.2, ⟨hk.1.1.1.1.1.1.1.1.1.1, ⟨hk.1.1.1.1.1.1.1.1.1.2, ⟨hk.1.1.2, ⟨hk.1.2, hk.2⟩⟩⟩⟩⟩⟩⟩)⟩, ⟨rM HO312.out (fun _ hk => ⟨hk.1.1.1.1.1.2, ⟨hk.1.1.1.1.2, ⟨hk.1.1.1.2, ⟨hk.1.1.2, ⟨hk.1.2, ⟨hk.2, ⟨hk.1.1.1.1.1.1.1.1.1.1, hk.1.1.1.1.1.1.1.1.1.2⟩⟩⟩⟩⟩⟩⟩)⟩, ⟨rM HO315.out (fun _ hk => ⟨hk.1.1.1.1.1.2, ⟨hk.1.1.1.1.2, ⟨hk.1.1.1.2, ⟨hk.1.1.2, ⟨hk.1.2, ⟨hk.2, ⟨hk.1.1.1.1.1.1.1.1.1.1, hk.1.1.1.1.1.1.1.1.1.2⟩⟩⟩⟩⟩⟩⟩)⟩, ⟨rM HO318.out (fun _ hk => ⟨hk.1.1.1.1.1.2, ⟨hk.1.1.1.1.2, ⟨hk.1.1.1.2, ⟨hk.1.1.2, ⟨hk.1.2, ⟨hk.2, ⟨hk.1.1.1.1.1.1.1.1.1.1, hk.1.1.1.1.1.1.1.1.1.2⟩⟩⟩⟩⟩⟩⟩)⟩, ⟨kX BK278.out⟩, ⟨kX BK299.out⟩, ⟨kX BK309.out⟩, ⟨kX BK320.out⟩, ⟨by repeat (first | (with_reducible first | exact HB.out|apply bA|apply bN|apply bD | refine below_set ?_ GE278.out | refine below_set ?_ GE299.out | refine below_set ?_ GE309.out | refine below_set ?_ GE320.out) | exact HB.out)⟩⟩
  }
 case rest =>
 clear HC11
 try clear c1
 try clear c2
 try clear p2
 try clear c3
 try clear c3b0
 try clear c4
 try clear c5
 try clear c6
 try clear c7
 try clear c8
 try clear c9
 try clear c10
 try clear c23
 try clear c31
 try clear c32
 try clear c39
 try clear c40
 try clear c41
 try clear c46
 try clear c47
 try clear c48
 try clear c49
 try clear c51
 try clear c52
 try clear c55
 try clear c56
 try clear c57
 try clear c59
 try clear c60
 try clear hcz13_0
 try clear hcz13_1
 try clear hcz13_2
 try clear hcz15_0
 try clear hcz15_1
 try clear hcz15_2
 try clear hcz24_0
 try clear hcz24_1
 try clear hcz24_2
 try clear hcz27_0
 try clear hcz27_1
 try clear hcz27_2
 try clear hcz33_0
 try clear hcz33_1
 try clear hcz33_2
 try clear hcz42_0
 try clear hcz42_1
 try clear hcz42_2
 try clear hcz50_0
 try clear hcz50_1
 try clear hcz50_2
 try clear hcz53_0
 try clear hcz53_1
 try clear hcz53_2
 try clear hcz58_0
 try clear hcz58_1
 try clear hcz58_2
 try clear hcz5_0
 try clear hcz5_1
 try clear hcz5_2
 try clear hcz61_0
 try clear hcz61_1
 try clear hcz61_2
 try clear hfz13_0
 try clear hfz13_1
 try clear hfz13_2
 try clear hfz15_0
 try clear hfz15_1
 try clear hfz15_2
 try clear hfz24_0
 try clear hfz24_1
 try clear hfz24_2
 try clear hfz27_0
 try clear hfz27_1
 try clear hfz27_2
 try clear hfz33_0
 try clear hfz33_1
 try clear hfz33_2
 try clear hfz42_0
 try clear hfz42_1
 try clear hfz42_2
 try clear hfz50_0
 try clear hfz50_1
 try clear hfz50_2
 try clear hfz53_0
 try clear hfz53_1
 try clear hfz53_2
 try clear hfz58_0
 try clear hfz58_1
 try clear hfz58_2
 try clear hfz5_0
 try clear hfz5_1
 try clear hfz5_2
 try clear hfz61_0
 try clear hfz61_1
 try clear hfz61_2
 obtain ⟨kq, x40_10, rfl, HA, HJ10, HO_300000, HO_300001, HO_300002, HO_310000, HO_310001, HO_310002, HO_321000, HO_321001, HO_321002, BK278, BK299, BK309, BK320, HB⟩ := hcut
 cases kq with
 | zero => exact absurd HA.out (by simp [laws_FnExactInduceOnce.j0])
 | succ kj10 =>
 have H := HA.out
 clear HA
 simp only [laws_FnExactInduceOnce.j0] at H
 by_cases c63 : x40_10 = true
 {
 subst c63
 have H1 : (some false) = some r := by rw [if_pos rfl] at H; exact H
 clear H
 have H := H1
 clear H1
 exact absurd ((Option.some.inj H).trans HRT.out) (by decide)
 }
 {
 replace c63 := Bool.eq_false_iff.mpr c63
 subst c63
 have H1 : ((laws_toExchange.f kj10 l0_0 l0_1 l0_2).bind fun bt322 => ((laws_eqExchange.f kj10 t300 t303 t306 bt322.1 bt322.2.1 bt322.2.2).bind fun t331 => (if t331 = true then ((laws_markExchange.f kj10 t300 t303 t306 1).bind fun bt332 => (if bt332.1 < 0 then (laws_FnExactInduceOnce.j1 kj10 t298 true l0_0 l0_1 l0_2 t289 t292 t295 t310 t313 t316) else ((laws_eqExchange.f kj10 t310 t313 t316 t289 t292 t295).bind fun t336 => (if t336 = true then (laws_FnExactInduceOnce.j1 kj10 t298 (t319 != t298) l0_0 l0_1 l0_2 t289 t292 t295 t310 t313 t316) else (laws_FnExactInduceOnce.j1 kj10 t298 true l0_0 l0_1 l0_2 t289 t292 t295 t310 t313 t316))))) else (some false)))) = some r := by rw [if_neg (show ¬ (false = true) by decide)] at H; exact H
 clear H
 have H := H1
 clear H1
 replace H := Option.bind_eq_some_iff.mp H
 obtain ⟨⟨t322, t325, t328⟩, A640, H⟩ := H
 replace H : ((laws_eqExchange.f kj10 t300 t303 t306 t322 t325 t328).bind fun t331 => (if t331 = true then ((laws_markExchange.f kj10 t300 t303 t306 1).bind fun bt332 => (if bt332.1 < 0 then (laws_FnExactInduceOnce.j1 kj10 t298 true l0_0 l0_1 l0_2 t289 t292 t295 t310 t313 t316) else ((laws_eqExchange.f kj10 t310 t313 t316 t289 t292 t295).bind fun t336 => (if t336 = true then (laws_FnExactInduceOnce.j1 kj10 t298 (t319 != t298) l0_0 l0_1 l0_2 t289 t292 t295 t310 t313 t316) else (laws_FnExactInduceOnce.j1 kj10 t298 true l0_0 l0_1 l0_2 t289 t292 t295 t310 t313 t316))))) else (some false))) = some r := H
 have A64 := Aside0.mk A640
 clear A640
 replace H := Option.bind_eq_some_iff.mp H
 obtain ⟨t331, A650, H⟩ := H
 replace H : (if t331 = true then ((laws_markExchange.f kj10 t300 t303 t306 1).bind fun bt332 => (if bt332.1 < 0 then (laws_FnExactInduceOnce.j1 kj10 t298 true l0_0 l0_1 l0_2 t289 t292 t295 t310 t313 t316) else ((laws_eqExchange.f kj10 t310 t313 t316 t289 t292 t295).bind fun t336 => (if t336 = true then (laws_FnExactInduceOnce.j1 kj10 t298 (t319 != t298) l0_0 l0_1 l0_2 t289 t292 t295 t310 t313 t316) else (laws_FnExactInduceOnce.j1 kj10 t298 true l0_0 l0_1 l0_2 t289 t292 t295 t310 t313 t316))))) else (some false)) = some r := H
 have A65 := Aside0.mk A650
 clear A650
 by_cases c66 : t331 = true
 {
 subst c66
 have H1 : ((laws_markExchange.f kj10 t300 t303 t306 1).bind fun bt332 => (if bt332.1 < 0 then (laws_FnExactInduceOnce.j1 kj10 t298 true l0_0 l0_1 l0_2 t289 t292 t295 t310 t313 t316) else ((laws_eqExchange.f kj10 t310 t313 t316 t289 t292 t295).bind fun t336 => (if t336 = true then (laws_FnExactInduceOnce.j1 kj10 t298 (t319 != t298) l0_0 l0_1 l0_2 t289 t292 t295 t310 t313 t316) else (laws_FnExactInduceOnce.j1 kj10 t298 true l0_0 l0_1 l0_2 t289 t292 t295 t310 t313 t316))))) = some r := by rw [if_pos rfl] at H; exact H
 clear H
 have H := H1
 clear H1
 replace H := Option.bind_eq_some_iff.mp H
 obtain ⟨⟨t332, t333, t334, t335⟩, A670, H⟩ := H
 replace H : (if t332 < 0 then (laws_FnExactInduceOnce.j1 kj10 t298 true l0_0 l0_1 l0_2 t289 t292 t295 t310 t313 t316) else ((laws_eqExchange.f kj10 t310 t313 t316 t289 t292 t295).bind fun t336 => (if t336 = true then (laws_FnExactInduceOnce.j1 kj10 t298 (t319 != t298) l0_0 l0_1 l0_2 t289 t292 t295 t310 t313 t316) else (laws_FnExactInduceOnce.j1 kj10 t298 true l0_0 l0_1 l0_2 t289 t292 t295 t310 t313 t316)))) = some r := H
 have A67 := Aside0.mk A670
 clear A670
 have HC68 := Aside0.mk H
 clear H
 try go_wp2
 have n0_ := Aside0.mk (Kd.R_drew HO_300000.out)
 have n1_ := Aside0.mk (Kd.R_drew HO_300001.out)
 have n2_ := Aside0.mk (Kd.R_drew HO_300002.out)
 have n3_ := Aside0.mk (Kd.R_drew HO_310000.out)
 have n4_ := Aside0.mk (Kd.R_drew HO_310001.out)
 have n5_ := Aside0.mk (Kd.R_drew HO_310002.out)
 have n6_ := Aside0.mk (Kd.R_drew HO_321000.out)
 have n7_ := Aside0.mk (Kd.R_drew HO_321001.out)
 have n8_ := Aside0.mk (Kd.R_drew HO_321002.out)
 have n9_ := Aside0.mk (blk_drew BK278.out)
 have n10_ := Aside0.mk (blk_drew BK299.out)
 have n11_ := Aside0.mk (blk_drew BK309.out)
 have n12_ := Aside0.mk (blk_drew BK320.out)
 have n13_ := Aside0.mk (below_drew1 HB.out)
 clear HO_300000 HO_300001 HO_300002 HO_310000 HO_310001 HO_310002 HO_321000 HO_321001 HO_321002 BK278 BK299 BK309 BK320 HB
 have HO_300000 := n0_
 have HO_300001 := n1_
 have HO_300002 := n2_
 have HO_310000 := n3_
 have HO_310001 := n4_
 have HO_310002 := n5_
 have HO_321000 := n6_
 have HO_321001 := n7_
 have HO_321002 := n8_
 have BK278 := n9_
 have BK299 := n10_
 have BK309 := n11_
 have BK320 := n12_
 have HB := n13_
 clear n0_ n1_ n2_ n3_ n4_ n5_ n6_ n7_ n8_ n9_ n10_ n11_ n12_ n13_
 refine start_ (n := 5) (S := fun w' => w'.cell? ⟨gb309, 0, none⟩ = some (.slice Ao30 t300.length co30) ∧ w'.cell? ⟨gb309, 1, none⟩ = some (.slice Ao34 t303.length co34) ∧ w'.cell? ⟨gb309, 2, none⟩ = some (.slice Ao35 t306.length co35) ∧ w'.cell? ⟨gb278, 0, none⟩ = some (.slice A0_0 l0_0.length c0_0) ∧ w'.cell? ⟨gb278, 1, none⟩ = some (.slice A0_1 l0_1.length c0_1) ∧ w'.cell? ⟨gb278, 2, none⟩ = some (.slice A0_2 l0_2.length c0_2)) (ds := []) #[false, false, false, false, false] (by kernel_rfl) rfl rfl ⟨cz30 BK309.out, cz31 BK309.out, cz32 BK309.out, cz30 BK278.out, cz31 BK278.out, cz32 BK278.out⟩ (fun hHeld => ?_)
 generalize wc.drew = w69 at HO_300000 HO_300001 HO_300002 HO_310000 HO_310001 HO_310002 HO_321000 HO_321001 HO_321002 BK278 BK299 BK309 BK320 HB hHeld ⊢
 refine take_ (i := 0) (N := some 41) (v := ?_) (a' := ?_) #[true, false, false, false, false] rfl rfl (by kernel_rfl) (fun _ _ _ h => h) (Or.inl ⟨by rfl, ?_⟩) hHeld ?_ ?_
 rotate_left
 {
 rintro w' ⟨s0, s1, s2, s3, s4, s5⟩
 go_simp
 with_reducible rfl
 }
 rotate_left
 {
 simp only [Act.put, zA, zB, zC, i64_w, i32_w]
 rfl
 }
 refine take_ (i := 1) (N := some 42) (v := ?_) (a' := ?_) #[true, true, false, false, false] rfl rfl (by kernel_rfl) (fun _ _ _ h => h) (Or.inl ⟨by rfl, ?_⟩) hHeld ?_ ?_
 rotate_left
 {
 rintro w' ⟨s0, s1, s2, s3, s4, s5⟩
 go_simp
 with_reducible rfl
 }
 rotate_left
 {
 simp only [Act.put, zA, zB, zC, i64_w, i32_w]
 rfl
 }
 refine one_ (i := 2) (N := some 43) #[true, true, true, false, false] rfl rfl (by kernel_rfl) (by decide) (fun K hK => ?_)
 refine goes_ Try.func8 (by kernel_rfl) rfl #[.agg #[.slice A0_0 l0_0.length c0_0, .slice A0_1 l0_1.length c0_1, .slice A0_2 l0_2.length c0_2]] (by rfl) rfl rfl aX ?_
 with_reducible refine (laws_toExchange.calls kj10 _ _ l0_0 _ _ l0_1 _ _ l0_2 t322 t325 t328 _ ?side1 ?side2 ?side3 ?side4 ?side5 ?side6 A64.out).mono ?_
 (case side1 => exact cX (Kd.C_below HR0_0.out HB.out))
 (case side2 => exact HC0_0.out)
 (case side3 => exact cX (Kd.C_below HR0_1.out HB.out))
 (case side4 => exact HC0_1.out)
 (case side5 => exact cX (Kd.C_below HR0_2.out HB.out))
 (case side6 => exact HC0_2.out)
 rintro e w70 ⟨v323, v326, v329, rfl, ho0, ho1, ho2, hb⟩
 refine ⟨_, rfl, ?_⟩
 have n0_ := Aside0.mk (Kd.R_mono (Kd.R_told (Kd.R_told (Kd.R_told (Kd.R_old (rX HO_300000.out) hb) (Kd.R_base ho0)) (Kd.R_base ho1)) (Kd.R_base ho2)) (fun _ h_ => h_.1))
 have n1_ := Aside0.mk (Kd.R_mono (Kd.R_told (Kd.R_told (Kd.R_told (Kd.R_old (rX HO_300001.out) hb) (Kd.R_base ho0)) (Kd.R_base ho1)) (Kd.R_base ho2)) (fun _ h_ => h_.1))
 have n2_ := Aside0.mk (Kd.R_mono (Kd.R_told (Kd.R_told (Kd.R_told (Kd.R_old (rX HO_300002.out) hb) (Kd.R_base ho0)) (Kd.R_base ho1)) (Kd.R_base ho2)) (fun _ h_ => h_.1))
 have n3_ := Aside0.mk (Kd.R_mono (Kd.R_told (Kd.R_told (Kd.R_told (Kd.R_old (rX HO_310000.out) hb) (Kd.R_base ho0)) (Kd.R_base ho1)) (Kd.R_base ho2)) (fun _ h_ => h_.1))
 have n4_ := Aside0.mk (Kd.R_mono (Kd.R_told (Kd.R_told (Kd.R_told (Kd.R_old (rX HO_310001.out) hb) (Kd.R_base ho0)) (Kd.R_base ho1)) (Kd.R_base ho2)) (fun _ h_ => h_.1))
 have n5_ := Aside0.mk (Kd.R_mono (Kd.R_told (Kd.R_told (Kd.R_told (Kd.R_old (rX HO_310002.out) hb) (Kd.R_base ho0)) (Kd.R_base ho1)) (Kd.R_base ho2)) (fun _ h_ => h_.1))
 have n6_ := Aside0.mk (Kd.R_mono (Kd.R_told (Kd.R_told (Kd.R_told (Kd.R_old (rX HO_321000.out) hb) (Kd.R_base ho0)) (Kd.R_base ho1)) (Kd.R_base ho2)) (fun _ h_ => h_.1))
 have n7_ := Aside0.mk (Kd.R_mono (Kd.R_told (Kd.R_told (Kd.R_told (Kd.R_old (rX HO_321001.out) hb) (Kd.R_base ho0)) (Kd.R_base ho1)) (Kd.R_base ho2)) (fun _ h_ => h_.1))
 have n8_ := Aside0.mk (Kd.R_mono (Kd.R_told (Kd.R_told (Kd.R_told (Kd.R_old (rX HO_321002.out) hb) (Kd.R_base ho0)) (Kd.R_base ho1)) (Kd.R_base ho2)) (fun _ h_ => h_.1))
 have n9_ := Aside0.mk (Kd.R_lower (Kd.R_new' (Kd.R_new' (Kd.R_new' (Kd.R_new' (Kd.R_new' (Kd.R_new' (Kd.R_new' (Kd.R_new' (Kd.R_new' ho0 (Kd.R_lt (rX HO_300000.out))) (Kd.R_lt (rX HO_300001.out))) (Kd.R_lt (rX HO_300002.out))) (Kd.R_lt (rX HO_310000.out))) (Kd.R_lt (rX HO_310001.out))) (Kd.R_lt (rX HO_310002.out))) (Kd.R_lt (rX HO_321000.out))) (Kd.R_lt (rX HO_321001.out))) (Kd.R_lt (rX HO_321002.out))) (below_size (by repeat (first | (with_reducible first | exact HB.out|apply bA|apply bN|apply bD | refine below_set ?_ GE278.out | refine below_set ?_ GE299.out | refine below_set ?_ GE309.out | refine below_set ?_ GE320.out) | exact HB.out))))
 have n10_ := Aside0.mk (Kd.R_lower (Kd.R_new' (Kd.R_new' (Kd.R_new' (Kd.R_new' (Kd.R_new' (Kd.R_new' (Kd.R_new' (Kd.R_new' (Kd.R_new' ho1 (Kd.R_lt (rX HO_300000.out))) (Kd.R_lt (rX HO_300001.out))) (Kd.R_lt (rX HO_300002.out))) (Kd.R_lt (rX HO_310000.out))) (Kd.R_lt (rX HO_310001.out))) (Kd.R_lt (rX HO_310002.out))) (Kd.R_lt (rX HO_321000.out))) (Kd.R_lt (rX HO_321001.out))) (Kd.R_lt (rX HO_321002.out))) (below_size (by repeat (first | (with_reducible first | exact HB.out|apply bA|apply bN|apply bD | refine below_set ?_ GE278.out | refine below_set ?_ GE299.out | refine below_set ?_ GE309.out | refine below_set ?_ GE320.out) | exact HB.out))))
 have n11_ := Aside0.mk (Kd.R_lower (Kd.R_new' (Kd.R_new' (Kd.R_new' (Kd.R_new' (Kd.R_new' (Kd.R_new' (Kd.R_new' (Kd.R_new' (Kd.R_new' ho2 (Kd.R_lt (rX HO_300000.out))) (Kd.R_lt (rX HO_300001.out))) (Kd.R_lt (rX HO_300002.out))) (Kd.R_lt (rX HO_310000.out))) (Kd.R_lt (rX HO_310001.out))) (Kd.R_lt (rX HO_310002.out))) (Kd.R_lt (rX HO_321000.out))) (Kd.R_lt (rX HO_321001.out))) (Kd.R_lt (rX HO_321002.out))) (below_size (by repeat (first | (with_reducible first | exact HB.out|apply bA|apply bN|apply bD | refine below_set ?_ GE278.out | refine below_set ?_ GE299.out | refine below_set ?_ GE309.out | refine below_set ?_ GE320.out) | exact HB.out))))
 have n12_ := Aside0.mk (bbX BK278.out hb)
 have n13_ := Aside0.mk (bbX BK299.out hb)
 have n14_ := Aside0.mk (bbX BK309.out hb)
 have n15_ := Aside0.mk (bbX BK320.out hb)
 have n16_ := Aside0.mk (below_step (by repeat (first | (with_reducible first | exact HB.out|apply bA|apply bN|apply bD | refine below_set ?_ GE278.out | refine below_set ?_ GE299.out | refine below_set ?_ GE309.out | refine below_set ?_ GE320.out) | exact HB.out)) hb)
 clear HO_300000 HO_300001 HO_300002 HO_310000 HO_310001 HO_310002 HO_321000 HO_321001 HO_321002 BK278 BK299 BK309 BK320 HB
 have HO_300000 := n0_
 have HO_300001 := n1_
 have HO_300002 := n2_
 have HO_310000 := n3_
 have HO_310001 := n4_
 have HO_310002 := n5_
 have HO_321000 := n6_
 have HO_321001 := n7_
 have HO_321002 := n8_
 have HO324 := n9_
 have HO327 := n10_
 have HO330 := n11_
 have BK278 := n12_
 have BK299 := n13_
 have BK309 := n14_
 have BK320 := n15_
 have HB := n16_
 clear n0_ n1_ n2_ n3_ n4_ n5_ n6_ n7_ n8_ n9_ n10_ n11_ n12_ n13_ n14_ n15_ n16_
 (try clear hb)
 (try clear hb2)
 (try clear hk)
 (try clear hi)
 (try clear ho0)
 (try clear ho1)
 (try clear ho2)
 obtain ⟨Ao71, co71, eo71⟩ := Kd.R_slice HO324.out
 (first | subst eo71 | (injection eo71 with f1_ f2_ f3_; have f4_ := f1_.symm; have f5_ := f3_.symm; clear f1_ f2_ f3_; subst f4_; subst f5_))
 obtain ⟨Ao72, co72, eo72⟩ := Kd.R_slice HO327.out
 (first | subst eo72 | (injection eo72 with f1_ f2_ f3_; have f4_ := f1_.symm; have f5_ := f3_.symm; clear f1_ f2_ f3_; subst f4_; subst f5_))
 obtain ⟨Ao73, co73, eo73⟩ := Kd.R_slice HO330.out
 (first | subst eo73 | (injection eo73 with f1_ f2_ f3_; have f4_ := f1_.symm; have f5_ := f3_.symm; clear f1_ f2_ f3_; subst f4_; subst f5_))
 refine hK.out _ _ ⟨cz30 BK309.out, cz31 BK309.out, cz32 BK309.out, cz30 BK278.out, cz31 BK278.out, cz32 BK278.out⟩ (fun hHeld => ?_)
 clear hK K
 refine norm_ (a' := ?_) ?_ ?_
 rotate_left
 {
 show Act.put _ (some 43) _ = _
 simp only [Act.put, zA, zB, zC, i64_w, i32_w]
 rfl
 }
 refine one_ (i := 3) (N := some 44) #[true, true, true, true, false] rfl rfl (by kernel_rfl) (by decide) (fun K hK => ?_)
 refine goes_ Try.func10 (by kernel_rfl) rfl #[.agg #[.slice Ao30 t300.length co30, .slice Ao34 t303.length co34, .slice Ao35 t306.length co35], .agg #[.slice Ao71 t322.length co71, .slice Ao72 t325.length co72, .slice Ao73 t328.length co73]] (by rfl) rfl rfl aX ?_
 with_reducible refine (laws_eqExchange.calls kj10 _ _ t300 _ _ t303 _ _ t306 _ _ t322 _ _ t325 _ _ t328 true _ ?side1 ?side2 ?side3 ?side4 ?side5 ?side6 ?side7 ?side8 ?side9 ?side10 ?side11 ?side12 A65.out).mono ?_
 (case side1 => exact cX (Kd.R_reads' HO_310000.out).2.2)
 (case side2 => exact (Kd.R_reads' HO_310000.out).2.1)
 (case side3 => exact cX (Kd.R_reads' HO_310001.out).2.2)
 (case side4 => exact (Kd.R_reads' HO_310001.out).2.1)
 (case side5 => exact cX (Kd.R_reads' HO_310002.out).2.2)
 (case side6 => exact (Kd.R_reads' HO_310002.out).2.1)
 (case side7 => exact cX (Kd.R_reads' HO324.out).2.2)
 (case side8 => exact (Kd.R_reads' HO324.out).2.1)
 (case side9 => exact cX (Kd.R_reads' HO327.out).2.2)
 (case side10 => exact (Kd.R_reads' HO327.out).2.1)
 (case side11 => exact cX (Kd.R_reads' HO330.out).2.2)
 (case side12 => exact (Kd.R_reads' HO330.out).2.1)
 rintro e w74 ⟨rfl, hb⟩
 refine ⟨_, rfl, ?_⟩
 have n0_ := Aside0.mk (Kd.R_below (rX HO_300000.out) hb)
 have n1_ := Aside0.mk (Kd.R_below (rX HO_300001.out) hb)
 have n2_ := Aside0.mk (Kd.R_below (rX HO_300002.out) hb)
 have n3_ := Aside0.mk (Kd.R_below (rX HO_310000.out) hb)
 have n4_ := Aside0.mk (Kd.R_below (rX HO_310001.out) hb)
 have n5_ := Aside0.mk (Kd.R_below (rX HO_310002.out) hb)
 have n6_ := Aside0.mk (Kd.R_below (rX HO_321000.out) hb)
 have n7_ := Aside0.mk (Kd.R_below (rX HO_321001.out) hb)
 have n8_ := Aside0.mk (Kd.R_below (rX HO_321002.out) hb)
 have n9_ := Aside0.mk (Kd.R_below (rX HO324.out) hb)
 have n10_ := Aside0.mk (Kd.R_below (rX HO327.out) hb)
 have n11_ := Aside0.mk (Kd.R_below (rX HO330.out) hb)
 have n12_ := Aside0.mk (bbX BK278.out hb)
 have n13_ := Aside0.mk (bbX BK299.out hb)
 have n14_ := Aside0.mk (bbX BK309.out hb)
 have n15_ := Aside0.mk (bbX BK320.out hb)
 have n16_ := Aside0.mk (below_step (by repeat (first | (with_reducible first | exact HB.out|apply bA|apply bN|apply bD | refine below_set ?_ GE278.out | refine below_set ?_ GE299.out | refine below_set ?_ GE309.out | refine below_set ?_ GE320.out) | exact HB.out)) hb)
 clear HO_300000 HO_300001 HO_300002 HO_310000 HO_310001 HO_310002 HO_321000 HO_321001 HO_321002 HO324 HO327 HO330 BK278 BK299 BK309 BK320 HB
 have HO_300000 := n0_
 have HO_300001 := n1_
 have HO_300002 := n2_
 have HO_310000 := n3_
 have HO_310001 := n4_
 have HO_310002 := n5_
 have HO_321000 := n6_
 have HO_321001 := n7_
 have HO_321002 := n8_
 have HO324 := n9_
 have HO327 := n10_
 have HO330 := n11_
 have BK278 := n12_
 have BK299 := n13_
 have BK309 := n14_
 have BK320 := n15_
 have HB := n16_
 clear n0_ n1_ n2_ n3_ n4_ n5_ n6_ n7_ n8_ n9_ n10_ n11_ n12_ n13_ n14_ n15_ n16_
 (try clear hb)
 (try clear hb2)
 (try clear hk)
 (try clear hi)
 refine hK.out _ _ ⟨cz30 BK309.out, cz31 BK309.out, cz32 BK309.out, cz30 BK278.out, cz31 BK278.out, cz32 BK278.out⟩ (fun hHeld => ?_)
 clear hK K
 refine norm_ (a' := ?_) ?_ ?_
 rotate_left
 {
 show Act.put _ (some 44) _ = _
 simp only [Act.put, zA, zB, zC, i64_w, i32_w]
 rfl
 }
 refine pure_ (i := 4) (N := some 45) (v := ?_) (a' := ?_) #[true, true, true, true, true] rfl rfl (by kernel_rfl) (fun _ _ _ h => h) (Or.inl ⟨by rfl, ?_⟩) ?_ ?_
 rotate_left
 {
 intro w'
 go_simp
 with_reducible rfl
 }
 rotate_left
 {
 simp only [Act.put, zA, zB, zC, i64_w, i32_w]
 rfl
 }
 refine done_ (by kernel_rfl) ?_
 have hnb75 := NB309_278.out
 have hnc75 := NB278_309.out
 have hnb76 := NB309_299.out
 have hnc76 := NB299_309.out
 have hnb77 := NB309_320.out
 have hnc77 := NB320_309.out
 have hcz78_0 := cz30 BK309.out
 have hcz78_1 := cz31 BK309.out
 have hcz78_2 := cz32 BK309.out
 have hfz78_0 := blk_frozen BK309.out 0
 have hfz78_1 := blk_frozen BK309.out 1
 have hfz78_2 := blk_frozen BK309.out 2
 go_upto_region 14 with (first | ((with_reducible refine gate_callee (f := 11) rfl ?_); refine goesL_ (some 48) rfl rfl Try.func11 (by kernel_rfl) rfl #[.agg #[.slice Ao30 t300.length co30, .slice Ao34 t303.length co34, .slice Ao35 t306.length co35], .int .i64 1] rfl aX ?_; (with_reducible refine (laws_markExchange.calls kj10 (fun k_ => some k_ = (.slice Ao30 t300.length co30 : Value).ownBlock) (.slice Ao30 t300.length co30) t300 (fun k_ => some k_ = (.slice Ao34 t303.length co34 : Value).ownBlock) (.slice Ao34 t303.length co34) t303 (fun k_ => some k_ = (.slice Ao35 t306.length co35 : Value).ownBlock) (.slice Ao35 t306.length co35) t306 1 t332 t333 t334 t335 w _ ?side1 ?side2 ?side3 ?side4 ?side5 ?side6 ?side7 ?side8 ?side9 ?side10 A67.out).mono ?_); (case side1 => repeat (first | (with_reducible first | exact HB.out|apply bA|apply bN|apply bD | refine below_set ?_ GE278.out | refine below_set ?_ GE299.out | refine below_set ?_ GE309.out | refine below_set ?_ GE320.out) | exact HB.out)); (case side2 => exact Kd.R_tight rfl HO_310000.out); (case side3 => exact fun k_ e_ => (HO_310000.out.1 k_ e_.symm).1.1.1.2.2.2.1); (case side4 => exact fun k_ e_ => (HO_310000.out.1 k_ e_.symm).1.1.1.2.2.2.2.1); (case side5 => exact Kd.R_tight rfl HO_310001.out); (case side6 => exact fun k_ e_ => (HO_310001.out.1 k_ e_.symm).1.1.1.2.2.2.1); (case side7 => exact fun k_ e_ => (HO_310001.out.1 k_ e_.symm).1.1.1.2.2.2.2.1); (case side8 => exact Kd.R_tight rfl HO_310002.out); (case side9 => exact fun k_ e_ => (HO_310002.out.1 k_ e_.symm).1.1.1.2.2.2.1); (case side10 => exact fun k_ e_ => (HO_310002.out.1 k_ e_.symm).1.1.1.2.2.2.2.1); rintro e w79 ⟨rfl, hy0, hy1, hy2, hb, hkp⟩; refine ⟨_, rfl, ?_⟩; have n0_ := Aside0.mk (Kd.R_mono (ok' := fun k_ => some k_ ≠ (.slice Ao25 t292.length co25 : Value).ownBlock ∧ some k_ ≠ (.slice Ao26 t295.length co26 : Value).ownBlock ∧ some k_ ≠ (.slice Ao30 t300.length co30 : Value).ownBlock ∧ some k_ ≠ (.slice Ao34 t303.length co34 : Value).ownBlock ∧ some k_ ≠ (.slice Ao35 t306.length co35 : Value).ownBlock ∧ some k_ ≠ (.slice Ao38 t310.length co38 : Value).ownBlock ∧ some k_ ≠ (.slice Ao43 t313.length co43 : Value).ownBlock ∧ some k_ ≠ (.slice Ao44 t316.length co44 : Value).ownBlock ∧ some k_ ≠ (.slice Ao71 t322.length co71 : Value).ownBlock ∧ some k_ ≠ (.slice Ao72 t325.length co72 : Value).ownBlock ∧ some k_ ≠ (.slice Ao73 t328.length co73 : Value).ownBlock) (Kd.R_keptB (HO_300000.out) hkp (fun k_ hk_ hs_ => Or.elim hs_ (fun e_ => (hk_.1.1.1.2.2.1) e_) (fun e_ => Or.elim e_ (fun e_ => (hk_.1.1.1.2.2.2.1) e_) (fun e_ => (hk_.1.1.1.2.2.2.2.1) e_)))) (fun k_ hk_ => ⟨hk_.1.1.1.1.1, hk_.1.1.1.1.2.1, hk_.1.1.1.1.2.2.1, hk_.1.1.1.1.2.2.2.1, hk_.1.1.1.1.2.2.2.2.1, hk_.1.1.1.1.2.2.2.2.2.1, hk_.1.1.1.1.2.2.2.2.2.2.1, hk_.1.1.1.1.2.2.2.2.2.2.2, hk_.1.1.1.2, hk_.1.1.2, hk_.1.2⟩)); have n1_ := Aside0.mk (Kd.R_mono (ok' := fun k_ => some k_ ≠ (.slice Ao22 t289.length co22 : Value).ownBlock ∧ some k_ ≠ (.slice Ao26 t295.length co26 : Value).ownBlock ∧ some k_ ≠ (.slice Ao30 t300.length co30 : Value).ownBlock ∧ some k_ ≠ (.slice Ao34 t303.length co34 : Value).ownBlock ∧ some k_ ≠ (.slice Ao35 t306.length co35 : Value).ownBlock ∧ some k_ ≠ (.slice Ao38 t310.length co38 : Value).ownBlock ∧ some k_ ≠ (.slice Ao43 t313.length co43 : Value).ownBlock ∧ some k_ ≠ (.slice Ao44 t316.length co44 : Value).ownBlock ∧ some k_ ≠ (.slice Ao71 t322.length co71 : Value).ownBlock ∧ some k_ ≠ (.slice Ao72 t325.length co72 : Value).ownBlock ∧ some k_ ≠ (.slice Ao73 t328.length co73 : Value).ownBlock) (Kd.R_keptB (HO_300001.out) hkp (fun k_ hk_ hs_ => Or.elim hs_ (fun e_ => (hk_.1.1.1.2.2.1) e_) (fun e_ => Or.elim e_ (fun e_ => (hk_.1.1.1.2.2.2.1) e_) (fun e_ => (hk_.1.1.1.2.2.2.2.1) e_)))) (fun k_ hk_ => ⟨hk_.1.1.1.1.1, hk_.1.1.1.1.2.1, hk_.1.1.1.1.2.2.1, hk_.1.1.1.1.2.2.2.1, hk_.1.1.1.1.2.2.2.2.1, hk_.1.1.1.1.2.2.2.2.2.1, hk_.1.1.1.1.2.2.2.2.2.2.1, hk_.1.1.1.1.2.2.2.2.2.2.2, hk_.1.1.1.2, hk_.1.1.2, hk_.1.2⟩)); have n2_ := Aside0.mk (Kd.R_mono (ok' := fun k_ => some k_ ≠ (.slice Ao22 t289.length co22 : Value).ownBlock ∧ some k_ ≠ (.slice Ao25 t292.length co25 : Value).ownBlock ∧ some k_ ≠ (.slice Ao30 t300.length co30 : Value).ownBlock ∧ some k_ ≠ (.slice Ao34 t303.length co34 : Value).ownBlock ∧ some k_ ≠ (.slice Ao35 t306.length co35 : Value).ownBlock ∧ some k_ ≠ (.slice Ao38 t310.length co38 : Value).ownBlock ∧ some k_ ≠ (.slice Ao43 t313.length co43 : Value).ownBlock ∧ some k_ ≠ (.slice Ao44 t316.length co44 : Value).ownBlock ∧ some k_ ≠ (.slice Ao71 t322.length co71 : Value).ownBlock ∧ some k_ ≠ (.slice Ao72 t325.length co72 : Value).ownBlock ∧ some k_ ≠ (.slice Ao73 t328.length co73 : Value).ownBlock) (Kd.R_keptB (HO_300002.out) hkp (fun k_ hk_ hs_ => Or.elim hs_ (fun e_ => (hk_.1.1.1.2.2.1) e_) (fun e_ => Or.elim e_ (fun e_ => (hk_.1.1.1.2.2.2.1) e_) (fun e_ => (hk_.1.1.1.2.2.2.2.1) e_)))) (fun k_ hk_ => ⟨hk_.1.1.1.1.1, hk_.1.1.1.1.2.1, hk_.1.1.1.1.2.2.1, hk_.1.1.1.1.2.2.2.1, hk_.1.1.1.1.2.2.2.2.1, hk_.1.1.1.1.2.2.2.2.2.1, hk_.1.1.1.1.2.2.2.2.2.2.1, hk_.1.1.1.1.2.2.2.2.2.2.2, hk_.1.1.1.2, hk_.1.1.2, hk_.1.2⟩)); have n3_ := Aside0.mk (Kd.R_reok rfl hy0 (fun k_ e_ => HO_310000.out.1 k_ e_)); have n4_ := Aside0.mk (Kd.R_reok rfl hy1 (fun k_ e_ => HO_310001.out.1 k_ e_)); have n5_ := Aside0.mk (Kd.R_reok rfl hy2 (fun k_ e_ => HO_310002.out.1 k_ e_)); have n6_ := Aside0.mk (Kd.R_mono (ok' := fun k_ => some k_ ≠ (.slice Ao22 t289.length co22 : Value).ownBlock ∧ some k_ ≠ (.slice Ao25 t292.length co25 : Value).ownBlock ∧ some k_ ≠ (.slice Ao26 t295.length co26 : Value).ownBlock ∧ some k_ ≠ (.slice Ao30 t300.length co30 : Value).ownBlock ∧ some k_ ≠ (.slice Ao34 t303.length co34 : Value).ownBlock ∧ some k_ ≠ (.slice Ao35 t306.length co35 : Value).ownBlock ∧ some k_ ≠ (.slice Ao43 t313.length co43 : Value).ownBlock ∧ some k_ ≠ (.slice Ao44 t316.length co44 : Value).ownBlock ∧ some k_ ≠ (.slice Ao71 t322.length co71 : Value).ownBlock ∧ some k_ ≠ (.slice Ao72 t325.length co72 : Value).ownBlock ∧ some k_ ≠ (.slice Ao73 t328.length co73 : Value).ownBlock) (Kd.R_keptB (HO_321000.out) hkp (fun k_ hk_ hs_ => Or.elim hs_ (fun e_ => (hk_.1.1.1.2.2.2.1) e_) (fun e_ => Or.elim e_ (fun e_ => (hk_.1.1.1.2.2.2.2.1) e_) (fun e_ => (hk_.1.1.1.2.2.2.2.2.1) e_)))) (fun k_ hk_ => ⟨hk_.1.1.1.1.1, hk_.1.1.1.1.2.1, hk_.1.1.1.1.2.2.1, hk_.1.1.1.1.2.2.2.1, hk_.1.1.1.1.2.2.2.2.1, hk_.1.1.1.1.2.2.2.2.2.1, hk_.1.1.1.1.2.2.2.2.2.2.1, hk_.1.1.1.1.2.2.2.2.2.2.2, hk_.1.1.1.2, hk_.1.1.2, hk_.1.2⟩)); have n7_ := Aside0.mk (Kd.R_mono (ok' := fun k_ => some k_ ≠ (.slice Ao22 t289.length co22 : Value).ownBlock ∧ some k_ ≠ (.slice Ao25 t292.length co25 : Value).ownBlock ∧ some k_ ≠ (.slice Ao26 t295.length co26 : Value).ownBlock ∧ some k_ ≠ (.slice Ao30 t300.length co30 : Value).ownBlock ∧ some k_ ≠ (.slice Ao34 t303.length co34 : Value).ownBlock ∧ some k_ ≠ (.slice Ao35 t306.length co35 : Value).ownBlock ∧ some k_ ≠ (.slice Ao38 t310.length co38 : Value).ownBlock ∧ some k_ ≠ (.slice Ao44 t316.length co44 : Value).ownBlock ∧ some k_ ≠ (.slice Ao71 t322.length co71 : Value).ownBlock ∧ some k_ ≠ (.slice Ao72 t325.length co72 : Value).ownBlock ∧ some k_ ≠ (.slice Ao73 t328.length co73 : Value).ownBlock) (Kd.R_keptB (HO_321001.out) hkp (fun k_ hk_ hs_ => Or.elim hs_ (fun e_ => (hk_.1.1.1.2.2.2.1) e_) (fun e_ => Or.elim e_ (fun e_ => (hk_.1.1.1.2.2.2.2.1) e_) (fun e_ => (hk_.1.1.1.2.2.2.2.2.1) e_)))) (fun k_ hk_ => ⟨hk_.1.1.1.1.1, hk_.1.1.1.1.2.1, hk_.1.1.1.1.2.2.1, hk_.1.1.1.1.2.2.2.1, hk_.1.1.1.1.2.2.2.2.1, hk_.1.1.1.1.2.2.2.2.2.1, hk_.1.1.1.1.2.2.2.2.2.2.1, hk_.1.1.1.1.2.2.2.2.2.2.2, hk_.1.1.1.2, hk_.1.1.2, hk_.1.2⟩)); have n8_ := Aside0.mk (Kd.R_mono (ok' := fun k_ => some k_ ≠ (.slice Ao22 t289.length co22 : Value).ownBlock ∧ some k_ ≠ (.slice Ao25 t292.length co25 : Value).ownBlock ∧ some k_ ≠ (.slice Ao26 t295.length co26 : Value).ownBlock ∧ some k_ ≠ (.slice Ao30 t300.length co30 : Value).ownBlock ∧ some k_ ≠ (.slice Ao34 t303.length co34 : Value).ownBlock ∧ some k_ ≠ (.slice Ao35 t306.length co35 : Value).ownBlock ∧ some k_ ≠ (.slice Ao38 t310.length co38 : Value).ownBlock ∧ some k_ ≠ (.slice Ao43 t313.length co43 : Value).ownBlock ∧ some k_ ≠ (.slice Ao71 t322.length co71 : Value).ownBlock ∧ some k_ ≠ (.slice Ao72 t325.length co72 : Value).ownBlock ∧ some k_ ≠ (.slice Ao73 t328.length co73 : Value).ownBlock) (Kd.R_keptB (HO_321002.out) hkp (fun k_ hk_ hs_ => Or.elim hs_ (fun e_ => (hk_.1.1.1.2.2.2.1) e_) (fun e_ => Or.elim e_ (fun e_ => (hk_.1.1.1.2.2.2.2.1) e_) (fun e_ => (hk_.1.1.1.2.2.2.2.2.1) e_)))) (fun k_ hk_ => ⟨hk_.1.1.1.1.1, hk_.1.1.1.1.2.1, hk_.1.1.1.1.2.2.1, hk_.1.1.1.1.2.2.2.1, hk_.1.1.1.1.2.2.2.2.1, hk_.1.1.1.1.2.2.2.2.2.1, hk_.1.1.1.1.2.2.2.2.2.2.1, hk_.1.1.1.1.2.2.2.2.2.2.2, hk_.1.1.1.2, hk_.1.1.2, hk_.1.2⟩)); have n9_ := Aside0.mk (blk_kept (kX BK278.out) hkp (fun hs_ => Or.elim hs_ (fun e_ => (fun e_ => (Kd.R_ne HO_310000.out BK278.out (by decide)) e_) e_) (fun e_ => Or.elim e_ (fun e_ => (fun e_ => (Kd.R_ne HO_310001.out BK278.out (by decide)) e_) e_) (fun e_ => (fun e_ => (Kd.R_ne HO_310002.out BK278.out (by decide)) e_) e_)))); have n10_ := Aside0.mk (blk_kept (kX BK299.out) hkp (fun hs_ => Or.elim hs_ (fun e_ => (fun e_ => (Kd.R_ne HO_310000.out BK299.out (by decide)) e_) e_) (fun e_ => Or.elim e_ (fun e_ => (fun e_ => (Kd.R_ne HO_310001.out BK299.out (by decide)) e_) e_) (fun e_ => (fun e_ => (Kd.R_ne HO_310002.out BK299.out (by decide)) e_) e_)))); have n11_ := Aside0.mk (blk_kept (kX BK309.out) hkp (fun hs_ => Or.elim hs_ (fun e_ => (fun e_ => (Kd.R_ne HO_310000.out BK309.out (by decide)) e_) e_) (fun e_ => Or.elim e_ (fun e_ => (fun e_ => (Kd.R_ne HO_310001.out BK309.out (by decide)) e_) e_) (fun e_ => (fun e_ => (Kd.R_ne HO_310002.out BK309.out (by decide)) e_) e_)))); have n12_ := Aside0.mk (blk_kept (kX BK320.out) hkp (fun hs_ => Or.elim hs_ (fun e_ => (fun e_ => (Kd.R_ne HO_310000.out BK320.out (by decide)) e_) e_) (fun e_ => Or.elim e_ (fun e_ => (fun e_ => (Kd.R_ne HO_310001.out BK320.out (by decide)) e_) e_) (fun e_ => (fun e_ => (Kd.R_ne HO_310002.out BK320.out (by decide)) e_) e_)))); have n13_ := Aside0.mk (Kd.R_mono (ok' := fun k_ => some k_ ≠ (.slice Ao22 t289.length co22 : Value).ownBlock ∧ some k_ ≠ (.slice Ao25 t292.length co25 : Value).ownBlock ∧ some k_ ≠ (.slice Ao26 t295.length co26 : Value).ownBlock ∧ some k_ ≠ (.slice Ao30 t300.length co30 : Value).ownBlock ∧ some k_ ≠ (.slice Ao34 t303.length co34 : Value).ownBlock ∧ some k_ ≠ (.slice Ao35 t306.length co35 : Value).ownBlock ∧ some k_ ≠ (.slice Ao38 t310.length co38 : Value).ownBlock ∧ some k_ ≠ (.slice Ao43 t313.length co43 : Value).ownBlock ∧ some k_ ≠ (.slice Ao44 t316.length co44 : Value).ownBlock ∧ some k_ ≠ (.slice Ao72 t325.length co72 : Value).ownBlock ∧ some k_ ≠ (.slice Ao73 t328.length co73 : Value).ownBlock) (Kd.R_keptB (HO324.out) hkp (fun k_ hk_ hs_ => Or.elim hs_ (fun e_ => (hk_.1.1.1.1.1.2) e_) (fun e_ => Or.elim e_ (fun e_ => (hk_.1.1.1.1.2) e_) (fun e_ => (hk_.1.1.1.2) e_)))) (fun k_ hk_ => ⟨hk_.1.1.1.1.1.1.1.1.1.2, hk_.1.1.1.1.1.1.1.1.2, hk_.1.1.1.1.1.1.1.2, hk_.1.1.1.1.1.1.2, hk_.1.1.1.1.1.2, hk_.1.1.1.1.2, hk_.1.1.1.2, hk_.1.1.2, hk_.1.2, hk_.1.1.1.1.1.1.1.1.1.1.1, hk_.1.1.1.1.1.1.1.1.1.1.2⟩)); have n14_ := Aside0.mk (Kd.R_mono (ok' := fun k_ => some k_ ≠ (.slice Ao22 t289.length co22 : Value).ownBlock ∧ some k_ ≠ (.slice Ao25 t292.length co25 : Value).ownBlock ∧ some k_ ≠ (.slice Ao26 t295.length co26 : Value).ownBlock ∧ some k_ ≠ (.slice Ao30 t300.length co30 : Value).ownBlock ∧ some k_ ≠ (.slice Ao34 t303.length co34 : Value).ownBlock ∧ some k_ ≠ (.slice Ao35 t306.length co35 : Value).ownBlock ∧ some k_ ≠ (.slice Ao38 t310.length co38 : Value).ownBlock ∧ some k_ ≠ (.slice Ao43 t313.length co43 : Value).ownBlock ∧ some k_ ≠ (.slice Ao44 t316.length co44 : Value).ownBlock ∧ some k_ ≠ (.slice Ao71 t322.length co71 : Value).ownBlock ∧ some k_ ≠ (.slice Ao73 t328.length co73 : Value).ownBlock) (Kd.R_keptB (HO327.out) hkp (fun k_ hk_ hs_ => Or.elim hs_ (fun e_ => (hk_.1.1.1.1.1.2) e_) (fun e_ => Or.elim e_ (fun e_ => (hk_.1.1.1.1.2) e_) (fun e_ => (hk_.1.1.1.2) e_)))) (fun k_ hk_ => ⟨hk_.1.1.1.1.1.1.1.1.1.2, hk_.1.1.1.1.1.1.1.1.2, hk_.1.1.1.1.1.1.1.2, hk_.1.1.1.1.1.1.2, hk_.1.1.1.1.1.2, hk_.1.1.1.1.2, hk_.1.1.1.2, hk_.1.1.2, hk_.1.2, hk_.1.1.1.1.1.1.1.1.1.1.1, hk_.1.1.1.1.1.1.1.1.1.1.2⟩)); have n15_ := Aside0.mk (Kd.R_mono (ok' := fun k_ => some k_ ≠ (.slice Ao22 t289.length co22 : Value).ownBlock ∧ some k_ ≠ (.slice Ao25 t292.length co25 : Value).ownBlock ∧ some k_ ≠ (.slice Ao26 t295.length co26 : Value).ownBlock ∧ some k_ ≠ (.slice Ao30 t300.length co30 : Value).ownBlock ∧ some k_ ≠ (.slice Ao34 t303.length co34 : Value).ownBlock ∧ some k_ ≠ (.slice Ao35 t306.length co35 : Value).ownBlock ∧ some k_ ≠ (.slice Ao38 t310.length co38 : Value).ownBlock ∧ some k_ ≠ (.slice Ao43 t313.length co43 : Value).ownBlock ∧ some k_ ≠ (.slice Ao44 t316.length co44 : Value).ownBlock ∧ some k_ ≠ (.slice Ao71 t322.length co71 : Value).ownBlock ∧ some k_ ≠ (.slice Ao72 t325.length co72 : Value).ownBlock) (Kd.R_keptB (HO330.out) hkp (fun k_ hk_ hs_ => Or.elim hs_ (fun e_ => (hk_.1.1.1.1.1.2) e_) (fun e_ => Or.elim e_ (fun e_ => (hk_.1.1.1.1.2) e_) (fun e_ => (hk_.1.1.1.2) e_)))) (fun k_ hk_ => ⟨hk_.1.1.1.1.1.1.1.1.1.2, hk_.1.1.1.1.1.1.1.1.2, hk_.1.1.1.1.1.1.1.2, hk_.1.1.1.1.1.1.2, hk_.1.1.1.1.1.2, hk_.1.1.1.1.2, hk_.1.1.1.2, hk_.1.1.2, hk_.1.2, hk_.1.1.1.1.1.1.1.1.1.1.1, hk_.1.1.1.1.1.1.1.1.1.1.2⟩)); have n16_ := Aside0.mk (hb); clear HO_300000 HO_300001 HO_300002 HO_310000 HO_310001 HO_310002 HO_321000 HO_321001 HO_321002 BK278 BK299 BK309 BK320 HO324 HO327 HO330 HB; have HO_300000 := n0_; have HO_300001 := n1_; have HO_300002 := n2_; have HO_310000 := n3_; have HO_310001 := n4_; have HO_310002 := n5_; have HO_321000 := n6_; have HO_321001 := n7_; have HO_321002 := n8_; have BK278 := n9_; have BK299 := n10_; have BK309 := n11_; have BK320 := n12_; have HO324 := n13_; have HO327 := n14_; have HO330 := n15_; have HB := n16_; clear n0_ n1_ n2_ n3_ n4_ n5_ n6_ n7_ n8_ n9_ n10_ n11_ n12_ n13_ n14_ n15_ n16_; (try clear hb); (try clear hkp); (try clear hy0); (try clear hy1); (try clear hy2)))
 (try simp only [Act.put, List.setIfInBounds_toArray, List.set_cons_zero, List.set_cons_succ])
 go_cut [61] (fun v61 wc => ∃ (kq : Nat) (x61_67 : Bool), v61 = .bool x61_67 ∧ Aside0 (laws_FnExactInduceOnce.j1 kq t298 x61_67 l0_0 l0_1 l0_2 t289 t292 t295 t310 t313 t316 = some r) ∧ Aside0 (kq ≤ kj10) ∧ Aside0 (Kd.R (Kd.int .i64) 3 wc w.heap.size (fun k_ => some k_ ≠ ((.slice Ao25 t292.length co25) : Value).ownBlock ∧ some k_ ≠ ((.slice Ao26 t295.length co26) : Value).ownBlock ∧ some k_ ≠ ((.slice Ao30 t300.length co30) : Value).ownBlock ∧ some k_ ≠ ((.slice Ao34 t303.length co34) : Value).ownBlock ∧ some k_ ≠ ((.slice Ao35 t306.length co35) : Value).ownBlock ∧ some k_ ≠ ((.slice Ao38 t310.length co38) : Value).ownBlock ∧ some k_ ≠ ((.slice Ao43 t313.length co43) : Value).ownBlock ∧ some k_ ≠ ((.slice Ao44 t316.length co44) : Value).ownBlock) (.slice Ao22 t289.length co22) t289) ∧ Aside0 (Kd.R (Kd.int .i64) 3 wc w.heap.size (fun k_ => some k_ ≠ ((.slice Ao22 t289.length co22) : Value).ownBlock ∧ some k_ ≠ ((.slice Ao26 t295.length co26) : Value).ownBlock ∧ some k_ ≠ ((.slice Ao30 t300.length co30) : Value).ownBlock ∧ some k_ ≠ ((.slice Ao34 t303.length co34) : Value).ownBlock ∧ some k_ ≠ ((.slice Ao35 t306.length co35) : Value).ownBlock ∧ some k_ ≠ ((.slice Ao38 t310.length co38) : Value).ownBlock ∧ some k_ ≠ ((.slice Ao43 t313.length co43) : Value).ownBlock ∧ some k_ ≠ ((.slice Ao44 t316.length co44) : Value).ownBlock) (.slice Ao25 t292.length co25) t292) ∧ Aside0 (Kd.R (Kd.int .i64) 3 wc w.heap.size (fun k_ => some k_ ≠ ((.slice Ao22 t289.length co22) : Value).ownBlock ∧ some k_ ≠ ((.slice Ao25 t292.length co25) : Value).ownBlock ∧ some k_ ≠ ((.slice Ao30 t300.length co30) : Value).ownBlock ∧ some k_ ≠ ((.slice Ao34 t303.length co34) : Value).ownBlock ∧ some k_ ≠ ((.slice Ao35 t306.length co35) : Value).ownBlock ∧ some k_ ≠ ((.slice Ao38 t310.length co38) : Value).ownBlock ∧ some k_ ≠ ((.slice Ao43 t313.length co43) : Value).ownBlock ∧ some k_ ≠ ((.slice Ao44 t316.length co44) : Value).ownBlock) (.slice Ao26 t295.length co26) t295) ∧ Aside0 (Kd.R (Kd.int .i64) 3 wc w.heap.size (fun k_ => some k_ ≠ ((.slice Ao22 t289.length co22) : Value).ownBlock ∧ some k_ ≠ ((.slice Ao25 t292.length co25) : Value).ownBlock ∧ some k_ ≠ ((.slice Ao26 t295.length co26) : Value).ownBlock ∧ some k_ ≠ ((.slice Ao34 t303.length co34) : Value).ownBlock ∧ some k_ ≠ ((.slice Ao35 t306.length co35) : Value).ownBlock ∧ some k_ ≠ ((.slice Ao38 t310.length co38) : Value).ownBlock ∧ some k_ ≠ ((.slice Ao43 t313.length co43) : Value).ownBlock ∧ some k_ ≠ ((.slice Ao44 t316.length co44) : Value).ownBlock) (.slice Ao30 t300.length co30) t333) ∧ Aside0 (Kd.R (Kd.int .i64) 3 wc w.heap.size (fun k_ => some k_ ≠ ((.slice Ao22 t289.length co22) : Value).ownBlock ∧ some k_ ≠ ((.slice Ao25 t292.length co25) : Value).ownBlock ∧ some k_ ≠ ((.slice Ao26 t295.length co26) : Value).ownBlock ∧ some k_ ≠ ((.slice Ao30 t300.length co30) : Value).ownBlock ∧ some k_ ≠ ((.slice Ao35 t306.length co35) : Value).ownBlock ∧ some k_ ≠ ((.slice Ao38 t310.length co38) : Value).ownBlock ∧ some k_ ≠ ((.slice Ao43 t313.length co43) : Value).ownBlock ∧ some k_ ≠ ((.slice Ao44 t316.length co44) : Value).ownBlock) (.slice Ao34 t303.length co34) t334) ∧ Aside0 (Kd.R (Kd.int .i64) 3 wc w.heap.size (fun k_ => some k_ ≠ ((.slice Ao22 t289.length co22) : Value).ownBlock ∧ some k_ ≠ ((.slice Ao25 t292.length co25) : Value).ownBlock ∧ some k_ ≠ ((.slice Ao26 t295.length co26) : Value).ownBlock ∧ some k_ ≠ ((.slice Ao30 t300.length co30) : Value).ownBlock ∧ some k_ ≠ ((.slice Ao34 t303.length co34) : Value).ownBlock ∧ some k_ ≠ ((.slice Ao38 t310.length co38) : Value).ownBlock ∧ some k_ ≠ ((.slice Ao43 t313.length co43) : Value).ownBlock ∧ some k_ ≠ ((.slice Ao44 t316.length co44) : Value).ownBlock) (.slice Ao35 t306.length co35) t335) ∧ Aside0 (Kd.R (Kd.int .i64) 3 wc w.heap.size (fun k_ => some k_ ≠ ((.slice Ao22 t289.length co22) : Value).ownBlock ∧ some k_ ≠ ((.slice Ao25 t292.length co25) : Value).ownBlock ∧ some k_ ≠ ((.slice Ao26 t295.length co26) : Value).ownBlock ∧ some k_ ≠ ((.slice Ao30 t300.length co30) : Value).ownBlock ∧ some k_ ≠ ((.slice Ao34 t303.length co34) : Value).ownBlock ∧ some k_ ≠ ((.slice Ao35 t306.length co35) : Value).ownBlock ∧ some k_ ≠ ((.slice Ao43 t313.length co43) : Value).ownBlock ∧ some k_ ≠ ((.slice Ao44 t316.length co44) : Value).ownBlock) (.slice Ao38 t310.length co38) t310) ∧ Aside0 (Kd.R (Kd.int .i64) 3 wc w.heap.size (fun k_ => some k_ ≠ ((.slice Ao22 t289.length co22) : Value).ownBlock ∧ some k_ ≠ ((.slice Ao25 t292.length co25) : Value).ownBlock ∧ some k_ ≠ ((.slice Ao26 t295.length co26) : Value).ownBlock ∧ some k_ ≠ ((.slice Ao30 t300.length co30) : Value).ownBlock ∧ some k_ ≠ ((.slice Ao34 t303.length co34) : Value).ownBlock ∧ some k_ ≠ ((.slice Ao35 t306.length co35) : Value).ownBlock ∧ some k_ ≠ ((.slice Ao38 t310.length co38) : Value).ownBlock ∧ some k_ ≠ ((.slice Ao44 t316.length co44) : Value).ownBlock) (.slice Ao43 t313.length co43) t313) ∧ Aside0 (Kd.R (Kd.int .i64) 3 wc w.heap.size (fun k_ => some k_ ≠ ((.slice Ao22 t289.length co22) : Value).ownBlock ∧ some k_ ≠ ((.slice Ao25 t292.length co25) : Value).ownBlock ∧ some k_ ≠ ((.slice Ao26 t295.length co26) : Value).ownBlock ∧ some k_ ≠ ((.slice Ao30 t300.length co30) : Value).ownBlock ∧ some k_ ≠ ((.slice Ao34 t303.length co34) : Value).ownBlock ∧ some k_ ≠ ((.slice Ao35 t306.length co35) : Value).ownBlock ∧ some k_ ≠ ((.slice Ao38 t310.length co38) : Value).ownBlock ∧ some k_ ≠ ((.slice Ao43 t313.length co43) : Value).ownBlock) (.slice Ao44 t316.length co44) t316) ∧ Aside0 (wc.heap[gb278]? = some (.cells #[(.slice A0_0 l0_0.length c0_0), (.slice A0_1 l0_1.length c0_1), (.slice A0_2 l0_2.length c0_2)] 24 (0, 0))) ∧ Aside0 (wc.heap[gb299]? = some (.cells #[(.slice Ao22 t289.length co22), (.slice Ao25 t292.length co25), (.slice Ao26 t295.length co26)] 26 (0, 0))) ∧ Aside0 (wc.heap[gb309]? = some (.cells #[(.slice Ao30 t300.length co30), (.slice Ao34 t303.length co34), (.slice Ao35 t306.length co35)] 26 (0, 0))) ∧ Aside0 (wc.heap[gb320]? = some (.cells #[(.slice Ao38 t310.length co38), (.slice Ao43 t313.length co43), (.slice Ao44 t316.length co44)] 26 (0, 0))) ∧ Aside0 (Below w.heap.size w wc))
 case first =>
  have H := HC68.out
  clear HC68
  by_cases c80 : t332 < 0
  {
  rw [if_pos c80] at H
  have c80b0 : decide (t332 < 0) = true := decide_eq_true c80
  clear c80
  (first | rw [c80b0] | (simp only [i64_w, i32_w]; rw [c80b0]) | skip)
  have H' := Aside0.mk H
  clear H
  go_wp2
  go_meet
  case rel => exact ⟨_, (true), vX, H', ⟨by have := HJ10.out; first | omega | exact Nat.le_refl _⟩, ⟨rM HO_300000.out (fun _ hk => ⟨hk.1, ⟨hk.2.1, ⟨hk.2.2.1, ⟨hk.2.2.2.1, ⟨hk.2.2.2.2.1, ⟨hk.2.2.2.2.2.1, ⟨hk.2.2.2.2.2.2.1, hk.2.2.2.2.2.2.2.1⟩⟩⟩⟩⟩⟩⟩)⟩, ⟨rM HO_300001.out (fun _ hk => ⟨hk.1, ⟨hk.2.1, ⟨hk.2.2.1, ⟨hk.2.2.2.1, ⟨hk.2.2.2.2.1, ⟨hk.2.2.2.2.2.1, ⟨hk.2.2.2.2.2.2.1, hk.2.2.2.2.2.2.2.1⟩⟩⟩⟩⟩⟩⟩)⟩, ⟨rM HO_300002.out (fun _ hk => ⟨hk.1, ⟨hk.2.1, ⟨hk.2.2.1, ⟨hk.2.2.2.1, ⟨hk.2.2.2.2.1, ⟨hk.2.2.2.2.2.1, ⟨hk.2.2.2.2.2.2.1, hk.2.2.2.2.2.2.2.1⟩⟩⟩⟩⟩⟩⟩)⟩, ⟨rM HO_310000.out (fun _ hk => ⟨hk.1.1.1.1, ⟨hk.1.1.1.2.1, ⟨hk.1.1.1.2.2.1, ⟨hk.1.1.1.2.2.2.1, ⟨hk.1.1.1.2.2.2.2.1, ⟨hk.1.1.1.2.2.2.2.2.1, ⟨hk.1.1.1.2.2.2.2.2.2.1, hk.1.1.1.2.2.2.2.2.2.2⟩⟩⟩⟩⟩⟩⟩)⟩, ⟨rM HO_310001.out (fun _ hk => ⟨hk.1.1.1.1, ⟨hk.1.1.1.2.1, ⟨hk.1.1.1.2.2.1, ⟨hk.1.1.1.2.2.2.1, ⟨hk.1.1.1.2.2.2.2.1, ⟨hk.1.1.1.2.2.2.2.2.1, ⟨hk.1.1.1.2.2.2.2.2.2.1, hk.1.1.1.2.2.2.2.2.2.2⟩⟩⟩⟩⟩⟩⟩)⟩, ⟨rM HO_310002.out (fun _ hk => ⟨hk.1.1.1.1, ⟨hk.1.1.1.2.1, ⟨hk.1.1.1.2.2.1, ⟨hk.1.1.1.2.2.2.1, ⟨hk.1.1.1.2.2.2.2.1, ⟨hk.1.1.1.2.2.2.2.2.1, ⟨hk.1.1.1.2.2.2.2.2.2.1, hk.1.1.1.2.2.2.2.2.2.2⟩⟩⟩⟩⟩⟩⟩)⟩, ⟨rM HO_321000.out (fun _ hk => ⟨hk.1, ⟨hk.2.1, ⟨hk.2.2.1, ⟨hk.2.2.2.1, ⟨hk.2.2.2.2.1, ⟨hk.2.2.2.2.2.1, ⟨hk.2.2.2.2.2.2.1, hk.2.2.2.2.2.2.2.1⟩⟩⟩⟩⟩⟩⟩)⟩, ⟨rM HO_321001.out (fun _ hk => ⟨hk.1, ⟨hk.2.1, ⟨hk.2.2.1, ⟨hk.2.2.2.1, ⟨hk.2.2.2.2.1, ⟨hk.2.2.2.2.2.1, ⟨hk.2.2.2.2.2.2.1, hk.2.2.2.2.2.2.2.1⟩⟩⟩⟩⟩⟩⟩)⟩, ⟨rM HO_321002.out (fun _ hk => ⟨hk.1, ⟨hk.2.1, ⟨hk.2.2.1, ⟨hk.2.2.2.1, ⟨hk.2.2.2.2.1, ⟨hk.2.2.2.2.2.1, ⟨hk.2.2.2.2.2.2.1, hk.2.2.2.2.2.2.2.1⟩⟩⟩⟩⟩⟩⟩)⟩, ⟨kX BK278.out⟩, ⟨kX BK299.out⟩, ⟨kX BK309.out⟩, ⟨kX BK320.out⟩, ⟨by repeat (first | (with_reducible first | exact HB.out|apply bA|apply bN|apply bD | refine below_set ?_ GE278.out | refine below_set ?_ GE299.out | refine below_set ?_ GE309.out | refine below_set ?_ GE320.out) | exact HB.out)⟩⟩
  }
  {
  rw [if_neg c80] at H
  have c80b0 : decide (t332 < 0) = false := decide_eq_false c80
  clear c80
  (first | rw [c80b0] | (simp only [i64_w, i32_w]; rw [c80b0]) | skip)
  replace H := Option.bind_eq_some_iff.mp H
  obtain ⟨t336, A810, H⟩ := H
  replace H : (if t336 = true then (laws_FnExactInduceOnce.j1 kj10 t298 (t319 != t298) l0_0 l0_1 l0_2 t289 t292 t295 t310 t313 t316) else (laws_FnExactInduceOnce.j1 kj10 t298 true l0_0 l0_1 l0_2 t289 t292 t295 t310 t313 t316)) = some r := H
  have A81 := Aside0.mk A810
  clear A810
  by_cases c82 : t336 = true
  {
  subst c82
  have H1 : (laws_FnExactInduceOnce.j1 kj10 t298 (t319 != t298) l0_0 l0_1 l0_2 t289 t292 t295 t310 t313 t316) = some r := by rw [if_pos rfl] at H; exact H
  clear H
  have H := H1
  clear H1
  have H' := Aside0.mk H
  clear H
  have hnb83 := NB320_278.out
  have hnc83 := NB278_320.out
  have hnb84 := NB320_299.out
  have hnc84 := NB299_320.out
  have hnb85 := NB320_309.out
  have hnc85 := NB309_320.out
  have hcz86_0 := cz30 BK320.out
  have hcz86_1 := cz31 BK320.out
  have hcz86_2 := cz32 BK320.out
  have hfz86_0 := blk_frozen BK320.out 0
  have hfz86_1 := blk_frozen BK320.out 1
  have hfz86_2 := blk_frozen BK320.out 2
  have hnb87 := NB299_278.out
  have hnc87 := NB278_299.out
  have hnb88 := NB299_309.out
  have hnc88 := NB309_299.out
  have hcz89_0 := cz30 BK299.out
  have hcz89_1 := cz31 BK299.out
  have hcz89_2 := cz32 BK299.out
  have hfz89_0 := blk_frozen BK299.out 0
  have hfz89_1 := blk_frozen BK299.out 1
  have hfz89_2 := blk_frozen BK299.out 2
  go_wp2_with (first | (go_at_call 10; (with_reducible refine (laws_eqExchange.calls kj10 _ _ t310 _ _ t313 _ _ t316 _ _ t289 _ _ t292 _ _ t295 true _ ?side1 ?side2 ?side3 ?side4 ?side5 ?side6 ?side7 ?side8 ?side9 ?side10 ?side11 ?side12 A81.out).mono ?_); (case side1 => exact cX (Kd.R_reads' HO_321000.out).2.2); (case side2 => exact (Kd.R_reads' HO_321000.out).2.1); (case side3 => exact cX (Kd.R_reads' HO_321001.out).2.2); (case side4 => exact (Kd.R_reads' HO_321001.out).2.1); (case side5 => exact cX (Kd.R_reads' HO_321002.out).2.2); (case side6 => exact (Kd.R_reads' HO_321002.out).2.1); (case side7 => exact cX (Kd.R_reads' HO_300000.out).2.2); (case side8 => exact (Kd.R_reads' HO_300000.out).2.1); (case side9 => exact cX (Kd.R_reads' HO_300001.out).2.2); (case side10 => exact (Kd.R_reads' HO_300001.out).2.1); (case side11 => exact cX (Kd.R_reads' HO_300002.out).2.2); (case side12 => exact (Kd.R_reads' HO_300002.out).2.1); rintro e w90 ⟨rfl, hb⟩; have n0_ := Aside0.mk (Kd.R_below (rX HO_300000.out) hb); have n1_ := Aside0.mk (Kd.R_below (rX HO_300001.out) hb); have n2_ := Aside0.mk (Kd.R_below (rX HO_300002.out) hb); have n3_ := Aside0.mk (Kd.R_below (rX HO_310000.out) hb); have n4_ := Aside0.mk (Kd.R_below (rX HO_310001.out) hb); have n5_ := Aside0.mk (Kd.R_below (rX HO_310002.out) hb); have n6_ := Aside0.mk (Kd.R_below (rX HO_321000.out) hb); have n7_ := Aside0.mk (Kd.R_below (rX HO_321001.out) hb); have n8_ := Aside0.mk (Kd.R_below (rX HO_321002.out) hb); have n9_ := Aside0.mk (Kd.R_below (rX HO324.out) hb); have n10_ := Aside0.mk (Kd.R_below (rX HO327.out) hb); have n11_ := Aside0.mk (Kd.R_below (rX HO330.out) hb); have n12_ := Aside0.mk (bbX BK278.out hb); have n13_ := Aside0.mk (bbX BK299.out hb); have n14_ := Aside0.mk (bbX BK309.out hb); have n15_ := Aside0.mk (bbX BK320.out hb); have n16_ := Aside0.mk (below_step (by repeat (first | (with_reducible first | exact HB.out|apply bA|apply bN|apply bD | refine below_set ?_ GE278.out | refine below_set ?_ GE299.out | refine below_set ?_ GE309.out | refine below_set ?_ GE320.out) | exact HB.out)) hb); clear HO_300000 HO_300001 HO_300002 HO_310000 HO_310001 HO_310002 HO_321000 HO_321001 HO_321002 HO324 HO327 HO330 BK278 BK299 BK309 BK320 HB; have HO_300000 := n0_; have HO_300001 := n1_; have HO_300002 := n2_; have HO_310000 := n3_; have HO_310001 := n4_; have HO_310002 := n5_; have HO_321000 := n6_; have HO_321001 := n7_; have HO_321002 := n8_; have HO324 := n9_; have HO327 := n10_; have HO330 := n11_; have BK278 := n12_; have BK299 := n13_; have BK309 := n14_; have BK320 := n15_; have HB := n16_; clear n0_ n1_ n2_ n3_ n4_ n5_ n6_ n7_ n8_ n9_ n10_ n11_ n12_ n13_ n14_ n15_ n16_; (try clear hb); (try clear hb2); (try clear hk); (try clear hi)))
  go_meet
  case rel => exact ⟨_, ((t319 != t298)), vX, H', ⟨by have := HJ10.out; first | omega | exact Nat.le_refl _⟩, ⟨rM HO_300000.out (fun _ hk => ⟨hk.1, ⟨hk.2.1, ⟨hk.2.2.1, ⟨hk.2.2.2.1, ⟨hk.2.2.2.2.1, ⟨hk.2.2.2.2.2.1, ⟨hk.2.2.2.2.2.2.1, hk.2.2.2.2.2.2.2.1⟩⟩⟩⟩⟩⟩⟩)⟩, ⟨rM HO_300001.out (fun _ hk => ⟨hk.1, ⟨hk.2.1, ⟨hk.2.2.1, ⟨hk.2.2.2.1, ⟨hk.2.2.2.2.1, ⟨hk.2.2.2.2.2.1, ⟨hk.2.2.2.2.2.2.1, hk.2.2.2.2.2.2.2.1⟩⟩⟩⟩⟩⟩⟩)⟩, ⟨rM HO_300002.out (fun _ hk => ⟨hk.1, ⟨hk.2.1, ⟨hk.2.2.1, ⟨hk.2.2.2.1, ⟨hk.2.2.2.2.1, ⟨hk.2.2.2.2.2.1, ⟨hk.2.2.2.2.2.2.1, hk.2.2.2.2.2.2.2.1⟩⟩⟩⟩⟩⟩⟩)⟩, ⟨rM HO_310000.out (fun _ hk => ⟨hk.1.1.1.1, ⟨hk.1.1.1.2.1, ⟨hk.1.1.1.2.2.1, ⟨hk.1.1.1.2.2.2.1, ⟨hk.1.1.1.2.2.2.2.1, ⟨hk.1.1.1.2.2.2.2.2.1, ⟨hk.1.1.1.2.2.2.2.2.2.1, hk.1.1.1.2.2.2.2.2.2.2⟩⟩⟩⟩⟩⟩⟩)⟩, ⟨rM HO_310001.out (fun _ hk => ⟨hk.1.1.1.1, ⟨hk.1.1.1.2.1, ⟨hk.1.1.1.2.2.1, ⟨hk.1.1.1.2.2.2.1, ⟨hk.1.1.1.2.2.2.2.1, ⟨hk.1.1.1.2.2.2.2.2.1, ⟨hk.1.1.1.2.2.2.2.2.2.1, hk.1.1.1.2.2.2.2.2.2.2⟩⟩⟩⟩⟩⟩⟩)⟩, ⟨rM HO_310002.out (fun _ hk => ⟨hk.1.1.1.1, ⟨hk.1.1.1.2.1, ⟨hk.1.1.1.2.2.1, ⟨hk.1.1.1.2.2.2.1, ⟨hk.1.1.1.2.2.2.2.1, ⟨hk.1.1.1.2.2.2.2.2.1, ⟨hk.1.1.1.2.2.2.2.2.2.1, hk.1.1.1.2.2.2.2.2.2.2⟩⟩⟩⟩⟩⟩⟩)⟩, ⟨rM HO_321000.out (fun _ hk => ⟨hk.1, ⟨hk.2.1, ⟨hk.2.2.1, ⟨hk.2.2.2.1, ⟨hk.2.2.2.2.1, ⟨hk.2.2.2.2.2.1, ⟨hk.2.2.2.2.2.2.1, hk.2.2.2.2.2.2.2.1⟩⟩⟩⟩⟩⟩⟩)⟩, ⟨rM HO_321001.out (fun _ hk => ⟨hk.1, ⟨hk.2.1, ⟨hk.2.2.1, ⟨hk.2.2.2.1, ⟨hk.2.2.2.2.1, ⟨hk.2.2.2.2.2.1, ⟨hk.2.2.2.2.2.2.1, hk.2.2.2.2.2.2.2.1⟩⟩⟩⟩⟩⟩⟩)⟩, ⟨rM HO_321002.out (fun _ hk => ⟨hk.1, ⟨hk.2.1, ⟨hk.2.2.1, ⟨hk.2.2.2.1, ⟨hk.2.2.2.2.1, ⟨hk.2.2.2.2.2.1, ⟨hk.2.2.2.2.2.2.1, hk.2.2.2.2.2.2.2.1⟩⟩⟩⟩⟩⟩⟩)⟩, ⟨kX BK278.out⟩, ⟨kX BK299.out⟩, ⟨kX BK309.out⟩, ⟨kX BK320.out⟩, ⟨by repeat (first | (with_reducible first | exact HB.out|apply bA|apply bN|apply bD | refine below_set ?_ GE278.out | refine below_set ?_ GE299.out | refine below_set ?_ GE309.out | refine below_set ?_ GE320.out) | exact HB.out)⟩⟩
  }
  {
  replace c82 := Bool.eq_false_iff.mpr c82
  subst c82
  have H1 : (laws_FnExactInduceOnce.j1 kj10 t298 true l0_0 l0_1 l0_2 t289 t292 t295 t310 t313 t316) = some r := by rw [if_neg (show ¬ (false = true) by decide)] at H; exact H
  clear H
  have H := H1
  clear H1
  have H' := Aside0.mk H
  clear H
  have hnb91 := NB320_278.out
  have hnc91 := NB278_320.out
  have hnb92 := NB320_299.out
  have hnc92 := NB299_320.out
  have hnb93 := NB320_309.out
  have hnc93 := NB309_320.out
  have hcz94_0 := cz30 BK320.out
  have hcz94_1 := cz31 BK320.out
  have hcz94_2 := cz32 BK320.out
  have hfz94_0 := blk_frozen BK320.out 0
  have hfz94_1 := blk_frozen BK320.out 1
  have hfz94_2 := blk_frozen BK320.out 2
  have hnb95 := NB299_278.out
  have hnc95 := NB278_299.out
  have hnb96 := NB299_309.out
  have hnc96 := NB309_299.out
  have hcz97_0 := cz30 BK299.out
  have hcz97_1 := cz31 BK299.out
  have hcz97_2 := cz32 BK299.out
  have hfz97_0 := blk_frozen BK299.out 0
  have hfz97_1 := blk_frozen BK299.out 1
  have hfz97_2 := blk_frozen BK299.out 2
  go_wp2_with (first | (go_at_call 10; (with_reducible refine (laws_eqExchange.calls kj10 _ _ t310 _ _ t313 _ _ t316 _ _ t289 _ _ t292 _ _ t295 false _ ?side1 ?side2 ?side3 ?side4 ?side5 ?side6 ?side7 ?side8 ?side9 ?side10 ?side11 ?side12 A81.out).mono ?_); (case side1 => exact cX (Kd.R_reads' HO_321000.out).2.2); (case side2 => exact (Kd.R_reads' HO_321000.out).2.1); (case side3 => exact cX (Kd.R_reads' HO_321001.out).2.2); (case side4 => exact (Kd.R_reads' HO_321001.out).2.1); (case side5 => exact cX (Kd.R_reads' HO_321002.out).2.2); (case side6 => exact (Kd.R_reads' HO_321002.out).2.1); (case side7 => exact cX (Kd.R_reads' HO_300000.out).2.2); (case side8 => exact (Kd.R_reads' HO_300000.out).2.1); (case side9 => exact cX (Kd.R_reads' HO_300001.out).2.2); (case side10 => exact (Kd.R_reads' HO_300001.out).2.1); (case side11 => exact cX (Kd.R_reads' HO_300002.out).2.2); (case side12 => exact (Kd.R_reads' HO_300002.out).2.1); rintro e w98 ⟨rfl, hb⟩; have n0_ := Aside0.mk (Kd.R_below (rX HO_300000.out) hb); have n1_ := Aside0.mk (Kd.R_below (rX HO_300001.out) hb); have n2_ := Aside0.mk (Kd.R_below (rX HO_300002.out) hb); have n3_ := Aside0.mk (Kd.R_below (rX HO_310000.out) hb); have n4_ := Aside0.mk (Kd.R_below (rX HO_310001.out) hb); have n5_ := Aside0.mk (Kd.R_below (rX HO_310002.out) hb); have n6_ := Aside0.mk (Kd.R_below (rX HO_321000.out) hb); have n7_ := Aside0.mk (Kd.R_below (rX HO_321001.out) hb); have n8_ := Aside0.mk (Kd.R_below (rX HO_321002.out) hb); have n9_ := Aside0.mk (Kd.R_below (rX HO324.out) hb); have n10_ := Aside0.mk (Kd.R_below (rX HO327.out) hb); have n11_ := Aside0.mk (Kd.R_below (rX HO330.out) hb); have n12_ := Aside0.mk (bbX BK278.out hb); have n13_ := Aside0.mk (bbX BK299.out hb); have n14_ := Aside0.mk (bbX BK309.out hb); have n15_ := Aside0.mk (bbX BK320.out hb); have n16_ := Aside0.mk (below_step (by repeat (first | (with_reducible first | exact HB.out|apply bA|apply bN|apply bD | refine below_set ?_ GE278.out | refine below_set ?_ GE299.out | refine below_set ?_ GE309.out | refine below_set ?_ GE320.out) | exact HB.out)) hb); clear HO_300000 HO_300001 HO_300002 HO_310000 HO_310001 HO_310002 HO_321000 HO_321001 HO_321002 HO324 HO327 HO330 BK278 BK299 BK309 BK320 HB; have HO_300000 := n0_; have HO_300001 := n1_; have HO_300002 := n2_; have HO_310000 := n3_; have HO_310001 := n4_; have HO_310002 := n5_; have HO_321000 := n6_; have HO_321001 := n7_; have HO_321002 := n8_; have HO324 := n9_; have HO327 := n10_; have HO330 := n11_; have BK278 := n12_; have BK299 := n13_; have BK309 := n14_; have BK320 := n15_; have HB := n16_; clear n0_ n1_ n2_ n3_ n4_ n5_ n6_ n7_ n8_ n9_ n10_ n11_ n12_ n13_ n14_ n15_ n16_; (try clear hb); (try clear hb2); (try clear hk); (try clear hi)))
  go_meet
  case rel => exact ⟨_, (true), vX, H', ⟨by have := HJ10.out; first | omega | exact Nat.le_refl _⟩, ⟨rM HO_300000.out (fun _ hk => ⟨hk.1, ⟨hk.2.1, ⟨hk.2.2.1, ⟨hk.2.2.2.1, ⟨hk.2.2.2.2.1, ⟨hk.2.2.2.2.2.1, ⟨hk.2.2.2.2.2.2.1, hk.2.2.2.2.2.2.2.1⟩⟩⟩⟩⟩⟩⟩)⟩, ⟨rM HO_300001.out (fun _ hk => ⟨hk.1, ⟨hk.2.1, ⟨hk.2.2.1, ⟨hk.2.2.2.1, ⟨hk.2.2.2.2.1, ⟨hk.2.2.2.2.2.1, ⟨hk.2.2.2.2.2.2.1, hk.2.2.2.2.2.2.2.1⟩⟩⟩⟩⟩⟩⟩)⟩, ⟨rM HO_300002.out (fun _ hk => ⟨hk.1, ⟨hk.2.1, ⟨hk.2.2.1, ⟨hk.2.2.2.1, ⟨hk.2.2.2.2.1, ⟨hk.2.2.2.2.2.1, ⟨hk.2.2.2.2.2.2.1, hk.2.2.2.2.2.2.2.1⟩⟩⟩⟩⟩⟩⟩)⟩, ⟨rM HO_310000.out (fun _ hk => ⟨hk.1.1.1.1, ⟨hk.1.1.1.2.1, ⟨hk.1.1.1.2.2.1, ⟨hk.1.1.1.2.2.2.1, ⟨hk.1.1.1.2.2.2.2.1, ⟨hk.1.1.1.2.2.2.2.2.1, ⟨hk.1.1.1.2.2.2.2.2.2.1, hk.1.1.1.2.2.2.2.2.2.2⟩⟩⟩⟩⟩⟩⟩)⟩, ⟨rM HO_310001.out (fun _ hk => ⟨hk.1.1.1.1, ⟨hk.1.1.1.2.1, ⟨hk.1.1.1.2.2.1, ⟨hk.1.1.1.2.2.2.1, ⟨hk.1.1.1.2.2.2.2.1, ⟨hk.1.1.1.2.2.2.2.2.1, ⟨hk.1.1.1.2.2.2.2.2.2.1, hk.1.1.1.2.2.2.2.2.2.2⟩⟩⟩⟩⟩⟩⟩)⟩, ⟨rM HO_310002.out (fun _ hk => ⟨hk.1.1.1.1, ⟨hk.1.1.1.2.1, ⟨hk.1.1.1.2.2.1, ⟨hk.1.1.1.2.2.2.1, ⟨hk.1.1.1.2.2.2.2.1, ⟨hk.1.1.1.2.2.2.2.2.1, ⟨hk.1.1.1.2.2.2.2.2.2.1, hk.1.1.1.2.2.2.2.2.2.2⟩⟩⟩⟩⟩⟩⟩)⟩, ⟨rM HO_321000.out (fun _ hk => ⟨hk.1, ⟨hk.2.1, ⟨hk.2.2.1, ⟨hk.2.2.2.1, ⟨hk.2.2.2.2.1, ⟨hk.2.2.2.2.2.1, ⟨hk.2.2.2.2.2.2.1, hk.2.2.2.2.2.2.2.1⟩⟩⟩⟩⟩⟩⟩)⟩, ⟨rM HO_321001.out (fun _ hk => ⟨hk.1, ⟨hk.2.1, ⟨hk.2.2.1, ⟨hk.2.2.2.1, ⟨hk.2.2.2.2.1, ⟨hk.2.2.2.2.2.1, ⟨hk.2.2.2.2.2.2.1, hk.2.2.2.2.2.2.2.1⟩⟩⟩⟩⟩⟩⟩)⟩, ⟨rM HO_321002.out (fun _ hk => ⟨hk.1, ⟨hk.2.1, ⟨hk.2.2.1, ⟨hk.2.2.2.1, ⟨hk.2.2.2.2.1, ⟨hk.2.2.2.2.2.1, ⟨hk.2.2.2.2.2.2.1, hk.2.2.2.2.2.2.2.1⟩⟩⟩⟩⟩⟩⟩)⟩, ⟨kX BK278.out⟩, ⟨kX BK299.out⟩, ⟨kX BK309.out⟩, ⟨kX BK320.out⟩, ⟨by repeat (first | (with_reducible first | exact HB.out|apply bA|apply bN|apply bD | refine below_set ?_ GE278.out | refine below_set ?_ GE299.out | refine below_set ?_ GE309.out | refine below_set ?_ GE320.out) | exact HB.out)⟩⟩
  }
  }
 case rest =>
 clear HC68
 try clear c1
 try clear c2
 try clear p2
 try clear c3
 try clear c3b0
 try clear c4
 try clear c5
 try clear c6
 try clear c7
 try clear c8
 try clear c9
 try clear c10
 try clear c11
 try clear c23
 try clear c31
 try clear c32
 try clear c39
 try clear c40
 try clear c41
 try clear c46
 try clear c47
 try clear c48
 try clear c49
 try clear c51
 try clear c52
 try clear c55
 try clear c56
 try clear c57
 try clear c59
 try clear c60
 try clear c63
 try clear c66
 try clear c75
 try clear c76
 try clear c77
 try clear c80
 try clear c80b0
 try clear c82
 try clear c83
 try clear c84
 try clear c85
 try clear c87
 try clear c88
 try clear c91
 try clear c92
 try clear c93
 try clear c95
 try clear c96
 try clear hcz13_0
 try clear hcz13_1
 try clear hcz13_2
 try clear hcz15_0
 try clear hcz15_1
 try clear hcz15_2
 try clear hcz24_0
 try clear hcz24_1
 try clear hcz24_2
 try clear hcz27_0
 try clear hcz27_1
 try clear hcz27_2
 try clear hcz33_0
 try clear hcz33_1
 try clear hcz33_2
 try clear hcz42_0
 try clear hcz42_1
 try clear hcz42_2
 try clear hcz50_0
 try clear hcz50_1
 try clear hcz50_2
 try clear hcz53_0
 try clear hcz53_1
 try clear hcz53_2
 try clear hcz58_0
 try clear hcz58_1
 try clear hcz58_2
 try clear hcz5_0
 try clear hcz5_1
 try clear hcz5_2
 try clear hcz61_0
 try clear hcz61_1
 try clear hcz61_2
 try clear hcz78_0
 try clear hcz78_1
 try clear hcz78_2
 try clear hcz86_0
 try clear hcz86_1
 try clear hcz86_2
 try clear hcz89_0
 try clear hcz89_1
 try clear hcz89_2
 try clear hcz94_0
 try clear hcz94_1
 try clear hcz94_2
 try clear hcz97_0
 try clear hcz97_1
 try clear hcz97_2
 try clear hfz13_0
 try clear hfz13_1
 try clear hfz13_2
 try clear hfz15_0
 try clear hfz15_1
 try clear hfz15_2
 try clear hfz24_0
 try clear hfz24_1
 try clear hfz24_2
 try clear hfz27_0
 try clear hfz27_1
 try clear hfz27_2
 try clear hfz33_0
 try clear hfz33_1
 try clear hfz33_2
 try clear hfz42_0
 try clear hfz42_1
 try clear hfz42_2
 try clear hfz50_0
 try clear hfz50_1
 try clear hfz50_2
 try clear hfz53_0
 try clear hfz53_1
 try clear hfz53_2
 try clear hfz58_0
 try clear hfz58_1
 try clear hfz58_2
 try clear hfz5_0
 try clear hfz5_1
 try clear hfz5_2
 try clear hfz61_0
 try clear hfz61_1
 try clear hfz61_2
 try clear hfz78_0
 try clear hfz78_1
 try clear hfz78_2
 try clear hfz86_0
 try clear hfz86_1
 try clear hfz86_2
 try clear hfz89_0
 try clear hfz89_1
 try clear hfz89_2
 try clear hfz94_0
 try clear hfz94_1
 try clear hfz94_2
 try clear hfz97_0
 try clear hfz97_1
 try clear hfz97_2
 try clear p2
 obtain ⟨kq, x61_67, rfl, HA, HJ67, HO_300000, HO_300001, HO_300002, HO_310000, HO_310001, HO_310002, HO_321000, HO_321001, HO_321002, BK278, BK299, BK309, BK320, HB⟩ := hcut
 have hl310000_67 := (Kd.R_reads' HO_310000.out).1
 rw [hl310000_67] at HO_310000
 (try simp only [hl310000_67])
 (try simp only [hl310000_67] at BK278)
 (try simp only [hl310000_67] at BK299)
 (try simp only [hl310000_67] at BK309)
 (try simp only [hl310000_67] at BK320)
 (try simp only [hl310000_67] at HO_300000)
 (try simp only [hl310000_67] at HO_300001)
 (try simp only [hl310000_67] at HO_300002)
 (try simp only [hl310000_67] at HO_310001)
 (try simp only [hl310000_67] at HO_310002)
 (try simp only [hl310000_67] at HO_321000)
 (try simp only [hl310000_67] at HO_321001)
 (try simp only [hl310000_67] at HO_321002)
 have hl310001_67 := (Kd.R_reads' HO_310001.out).1
 rw [hl310001_67] at HO_310001
 (try simp only [hl310001_67])
 (try simp only [hl310001_67] at BK278)
 (try simp only [hl310001_67] at BK299)
 (try simp only [hl310001_67] at BK309)
 (try simp only [hl310001_67] at BK320)
 (try simp only [hl310001_67] at HO_300000)
 (try simp only [hl310001_67] at HO_300001)
 (try simp only [hl310001_67] at HO_300002)
 (try simp only [hl310001_67] at HO_310000)
 (try simp only [hl310001_67] at HO_310002)
 (try simp only [hl310001_67] at HO_321000)
 (try simp only [hl310001_67] at HO_321001)
 (try simp only [hl310001_67] at HO_321002)
 have hl310002_67 := (Kd.R_reads' HO_310002.out).1
 rw [hl310002_67] at HO_310002
 (try simp only [hl310002_67])
 (try simp only [hl310002_67] at BK278)
 (try simp only [hl310002_67] at BK299)
 (try simp only [hl310002_67] at BK309)
 (try simp only [hl310002_67] at BK320)
 (try simp only [hl310002_67] at HO_300000)
 (try simp only [hl310002_67] at HO_300001)
 (try simp only [hl310002_67] at HO_300002)
 (try simp only [hl310002_67] at HO_310000)
 (try simp only [hl310002_67] at HO_310001)
 (try simp only [hl310002_67] at HO_321000)
 (try simp only [hl310002_67] at HO_321001)
 (try simp only [hl310002_67] at HO_321002)
 cases kq with
 | zero => exact absurd HA.out (by simp [laws_FnExactInduceOnce.j1])
 | succ kj67 =>
 have H := HA.out
 clear HA
 simp only [laws_FnExactInduceOnce.j1] at H
 by_cases c99 : x61_67 = true
 {
 subst c99
 have H1 : (some false) = some r := by rw [if_pos rfl] at H; exact H
 clear H
 have H := H1
 clear H1
 exact absurd ((Option.some.inj H).trans HRT.out) (by decide)
 }
 {
 replace c99 := Bool.eq_false_iff.mpr c99
 subst c99
 have H1 : ((laws_markExchange.f kj67 t310 t313 t316 1).bind fun bt337 => ((laws_heldExchange.f kj67 bt337.2.1 bt337.2.2.1 bt337.2.2.2 1).bind fun t341 => (if t341 < 0 then (some false) else (if t341 = bt337.1 then ((laws_toExchange.f kj67 l0_0 l0_1 l0_2).bind fun bt342 => ((impl_InduceOnce.f kj67 bt342.1 bt342.2.1 bt342.2.2).bind fun bt351 => ((laws_eqExchange.f kj67 bt351.1 bt351.2.1 bt351.2.2.1 t289 t292 t295).bind fun t362 => (if t362 = true then (laws_FnExactInduceOnce.j2 kj67 bt337.1 (bt351.2.2.2 != t298) bt337.2.1 bt337.2.2.1 bt337.2.2.2) else (laws_FnExactInduceOnce.j2 kj67 bt337.1 true bt337.2.1 bt337.2.2.1 bt337.2.2.2))))) else (some false))))) = some r := by rw [if_neg (show ¬ (false = true) by decide)] at H; exact H
 clear H
 have H := H1
 clear H1
 replace H := Option.bind_eq_some_iff.mp H
 obtain ⟨⟨t337, t338, t339, t340⟩, A1000, H⟩ := H
 replace H : ((laws_heldExchange.f kj67 t338 t339 t340 1).bind fun t341 => (if t341 < 0 then (some false) else (if t341 = t337 then ((laws_toExchange.f kj67 l0_0 l0_1 l0_2).bind fun bt342 => ((impl_InduceOnce.f kj67 bt342.1 bt342.2.1 bt342.2.2).bind fun bt351 => ((laws_eqExchange.f kj67 bt351.1 bt351.2.1 bt351.2.2.1 t289 t292 t295).bind fun t362 => (if t362 = true then (laws_FnExactInduceOnce.j2 kj67 t337 (bt351.2.2.2 != t298) t338 t339 t340) else (laws_FnExactInduceOnce.j2 kj67 t337 true t338 t339 t340))))) else (some false)))) = some r := H
 have A100 := Aside0.mk A1000
 clear A1000
 replace H := Option.bind_eq_some_iff.mp H
 obtain ⟨t341, A1010, H⟩ := H
 replace H : (if t341 < 0 then (some false) else (if t341 = t337 then ((laws_toExchange.f kj67 l0_0 l0_1 l0_2).bind fun bt342 => ((impl_InduceOnce.f kj67 bt342.1 bt342.2.1 bt342.2.2).bind fun bt351 => ((laws_eqExchange.f kj67 bt351.1 bt351.2.1 bt351.2.2.1 t289 t292 t295).bind fun t362 => (if t362 = true then (laws_FnExactInduceOnce.j2 kj67 t337 (bt351.2.2.2 != t298) t338 t339 t340) else (laws_FnExactInduceOnce.j2 kj67 t337 true t338 t339 t340))))) else (some false))) = some r := H
 have A101 := Aside0.mk A1010
 clear A1010
 by_cases c102 : t341 < 0
 {
 rw [if_pos c102] at H
 have c102b0 : decide (t341 < 0) = true := decide_eq_true c102
 clear c102
 exact absurd ((Option.some.inj H).trans HRT.out) (by decide)
 }
 {
 rw [if_neg c102] at H
 have c102b0 : decide (t341 < 0) = false := decide_eq_false c102
 clear c102
 by_cases c103 : t341 = t337
 {
 rw [if_pos c103] at H
 have c103b0 : (t341 == t337) = true := beq_iff_eq.mpr c103
 have c103b1 : (t341 != t337) = false := bne_eq_false_iff_eq.mpr c103
 clear c103
 replace H := Option.bind_eq_some_iff.mp H
 obtain ⟨⟨t342, t345, t348⟩, A1040, H⟩ := H
 replace H : ((impl_InduceOnce.f kj67 t342 t345 t348).bind fun bt351 => ((laws_eqExchange.f kj67 bt351.1 bt351.2.1 bt351.2.2.1 t289 t292 t295).bind fun t362 => (if t362 = true then (laws_FnExactInduceOnce.j2 kj67 t337 (bt351.2.2.2 != t298) t338 t339 t340) else (laws_FnExactInduceOnce.j2 kj67 t337 true t338 t339 t340)))) = some r := H
 have A104 := Aside0.mk A1040
 clear A1040
 replace H := Option.bind_eq_some_iff.mp H
 obtain ⟨⟨t351, t354, t357, t360⟩, A1050, H⟩ := H
 replace H : ((laws_eqExchange.f kj67 t351 t354 t357 t289 t292 t295).bind fun t362 => (if t362 = true then (laws_FnExactInduceOnce.j2 kj67 t337 (t360 != t298) t338 t339 t340) else (laws_FnExactInduceOnce.j2 kj67 t337 true t338 t339 t340))) = some r := H
 have A105 := Aside0.mk A1050
 clear A1050
 have HC106 := Aside0.mk H
 clear H
 have hnb107 := NB320_278.out
 have hnc107 := NB278_320.out
 have hnb108 := NB320_299.out
 have hnc108 := NB299_320.out
 have hnb109 := NB320_309.out
 have hnc109 := NB309_320.out
 have hcz110_0 := cz30 BK320.out
 have hcz110_1 := cz31 BK320.out
 have hcz110_2 := cz32 BK320.out
 have hfz110_0 := blk_frozen BK320.out 0
 have hfz110_1 := blk_frozen BK320.out 1
 have hfz110_2 := blk_frozen BK320.out 2
 go_upto_region 25 with (first | ((with_reducible refine gate_callee (f := 11) rfl ?_); refine goesL_ (some 64) rfl rfl Try.func11 (by kernel_rfl) rfl #[.agg #[.slice Ao38 t310.length co38, .slice Ao43 t313.length co43, .slice Ao44 t316.length co44], .int .i64 1] rfl aX ?_; (with_reducible refine (laws_markExchange.calls kj67 (fun k_ => some k_ = (.slice Ao38 t310.length co38 : Value).ownBlock) (.slice Ao38 t310.length co38) t310 (fun k_ => some k_ = (.slice Ao43 t313.length co43 : Value).ownBlock) (.slice Ao43 t313.length co43) t313 (fun k_ => some k_ = (.slice Ao44 t316.length co44 : Value).ownBlock) (.slice Ao44 t316.length co44) t316 1 t337 t338 t339 t340 w _ ?side1 ?side2 ?side3 ?side4 ?side5 ?side6 ?side7 ?side8 ?side9 ?side10 A100.out).mono ?_); (case side1 => repeat (first | (with_reducible first | exact HB.out|apply bA|apply bN|apply bD | refine below_set ?_ GE278.out | refine below_set ?_ GE299.out | refine below_set ?_ GE309.out | refine below_set ?_ GE320.out) | exact HB.out)); (case side2 => exact Kd.R_tight rfl HO_321000.out); (case side3 => exact fun k_ e_ => (HO_321000.out.1 k_ e_.symm).2.2.2.2.2.2.1); (case side4 => exact fun k_ e_ => (HO_321000.out.1 k_ e_.symm).2.2.2.2.2.2.2); (case side5 => exact Kd.R_tight rfl HO_321001.out); (case side6 => exact fun k_ e_ => (HO_321001.out.1 k_ e_.symm).2.2.2.2.2.2.1); (case side7 => exact fun k_ e_ => (HO_321001.out.1 k_ e_.symm).2.2.2.2.2.2.2); (case side8 => exact Kd.R_tight rfl HO_321002.out); (case side9 => exact fun k_ e_ => (HO_321002.out.1 k_ e_.symm).2.2.2.2.2.2.1); (case side10 => exact fun k_ e_ => (HO_321002.out.1 k_ e_.symm).2.2.2.2.2.2.2); rintro e w111 ⟨rfl, hy0, hy1, hy2, hb, hkp⟩; refine ⟨_, rfl, ?_⟩; have n0_ := Aside0.mk (Kd.R_mono (ok' := fun k_ => some k_ ≠ (.slice Ao25 t292.length co25 : Value).ownBlock ∧ some k_ ≠ (.slice Ao26 t295.length co26 : Value).ownBlock ∧ some k_ ≠ (.slice Ao30 t333.length co30 : Value).ownBlock ∧ some k_ ≠ (.slice Ao34 t334.length co34 : Value).ownBlock ∧ some k_ ≠ (.slice Ao35 t335.length co35 : Value).ownBlock ∧ some k_ ≠ (.slice Ao38 t310.length co38 : Value).ownBlock ∧ some k_ ≠ (.slice Ao43 t313.length co43 : Value).ownBlock ∧ some k_ ≠ (.slice Ao44 t316.length co44 : Value).ownBlock) (Kd.R_keptB (HO_300000.out) hkp (fun k_ hk_ hs_ => Or.elim hs_ (fun e_ => (hk_.2.2.2.2.2.1) e_) (fun e_ => Or.elim e_ (fun e_ => (hk_.2.2.2.2.2.2.1) e_) (fun e_ => (hk_.2.2.2.2.2.2.2) e_)))) (fun k_ hk_ => ⟨hk_.1.1, hk_.1.2.1, hk_.1.2.2.1, hk_.1.2.2.2.1, hk_.1.2.2.2.2.1, hk_.1.2.2.2.2.2.1, hk_.1.2.2.2.2.2.2.1, hk_.1.2.2.2.2.2.2.2⟩)); have n1_ := Aside0.mk (Kd.R_mono (ok' := fun k_ => some k_ ≠ (.slice Ao22 t289.length co22 : Value).ownBlock ∧ some k_ ≠ (.slice Ao26 t295.length co26 : Value).ownBlock ∧ some k_ ≠ (.slice Ao30 t333.length co30 : Value).ownBlock ∧ some k_ ≠ (.slice Ao34 t334.length co34 : Value).ownBlock ∧ some k_ ≠ (.slice Ao35 t335.length co35 : Value).ownBlock ∧ some k_ ≠ (.slice Ao38 t310.length co38 : Value).ownBlock ∧ some k_ ≠ (.slice Ao43 t313.length co43 : Value).ownBlock ∧ some k_ ≠ (.slice Ao44 t316.length co44 : Value).ownBlock) (Kd.R_keptB (HO_300001.out) hkp (fun k_ hk_ hs_ => Or.elim hs_ (fun e_ => (hk_.2.2.2.2.2.1) e_) (fun e_ => Or.elim e_ (fun e_ => (hk_.2.2.2.2.2.2.1) e_) (fun e_ => (hk_.2.2.2.2.2.2.2) e_)))) (fun k_ hk_ => ⟨hk_.1.1, hk_.1.2.1, hk_.1.2.2.1, hk_.1.2.2.2.1, hk_.1.2.2.2.2.1, hk_.1.2.2.2.2.2.1, hk_.1.2.2.2.2.2.2.1, hk_.1.2.2.2.2.2.2.2⟩)); have n2_ := Aside0.mk (Kd.R_mono (ok' := fun k_ => some k_ ≠ (.slice Ao22 t289.length co22 : Value).ownBlock ∧ some k_ ≠ (.slice Ao25 t292.length co25 : Value).ownBlock ∧ some k_ ≠ (.slice Ao30 t333.length co30 : Value).ownBlock ∧ some k_ ≠ (.slice Ao34 t334.length co34 : Value).ownBlock ∧ some k_ ≠ (.slice Ao35 t335.length co35 : Value).ownBlock ∧ some k_ ≠ (.slice Ao38 t310.length co38 : Value).ownBlock ∧ some k_ ≠ (.slice Ao43 t313.length co43 : Value).ownBlock ∧ some k_ ≠ (.slice Ao44 t316.length co44 : Value).ownBlock) (Kd.R_keptB (HO_300002.out) hkp (fun k_ hk_ hs_ => Or.elim hs_ (fun e_ => (hk_.2.2.2.2.2.1) e_) (fun e_ => Or.elim e_ (fun e_ => (hk_.2.2.2.2.2.2.1) e_) (fun e_ => (hk_.2.2.2.2.2.2.2) e_)))) (fun k_ hk_ => ⟨hk_.1.1, hk_.1.2.1, hk_.1.2.2.1, hk_.1.2.2.2.1, hk_.1.2.2.2.2.1, hk_.1.2.2.2.2.2.1, hk_.1.2.2.2.2.2.2.1, hk_.1.2.2.2.2.2.2.2⟩)); have n3_ := Aside0.mk (Kd.R_mono (ok' := fun k_ => some k_ ≠ (.slice Ao22 t289.length co22 : Value).ownBlock ∧ some k_ ≠ (.slice Ao25 t292.length co25 : Value).ownBlock ∧ some k_ ≠ (.slice Ao26 t295.length co26 : Value).ownBlock ∧ some k_ ≠ (.slice Ao34 t334.length co34 : Value).ownBlock ∧ some k_ ≠ (.slice Ao35 t335.length co35 : Value).ownBlock ∧ some k_ ≠ (.slice Ao38 t310.length co38 : Value).ownBlock ∧ some k_ ≠ (.slice Ao43 t313.length co43 : Value).ownBlock ∧ some k_ ≠ (.slice Ao44 t316.length co44 : Value).ownBlock) (Kd.R_keptB (HO_310000.out) hkp (fun k_ hk_ hs_ => Or.elim hs_ (fun e_ => (hk_.2.2.2.2.2.1) e_) (fun e_ => Or.elim e_ (fun e_ => (hk_.2.2.2.2.2.2.1) e_) (fun e_ => (hk_.2.2.2.2.2.2.2) e_)))) (fun k_ hk_ => ⟨hk_.1.1, hk_.1.2.1, hk_.1.2.2.1, hk_.1.2.2.2.1, hk_.1.2.2.2.2.1, hk_.1.2.2.2.2.2.1, hk_.1.2.2.2.2.2.2.1, hk_.1.2.2.2.2.2.2.2⟩)); have n4_ := Aside0.mk (Kd.R_mono (ok' := fun k_ => some k_ ≠ (.slice Ao22 t289.length co22 : Value).ownBlock ∧ some k_ ≠ (.slice Ao25 t292.length co25 : Value).ownBlock ∧ some k_ ≠ (.slice Ao26 t295.length co26 : Value).ownBlock ∧ some k_ ≠ (.slice Ao30 t333.length co30 : Value).ownBlock ∧ some k_ ≠ (.slice Ao35 t335.length co35 : Value).ownBlock ∧ some k_ ≠ (.slice Ao38 t310.length co38 : Value).ownBlock ∧ some k_ ≠ (.slice Ao43 t313.length co43 : Value).ownBlock ∧ some k_ ≠ (.slice Ao44 t316.length co44 : Value).ownBlock) (Kd.R_keptB (HO_310001.out) hkp (fun k_ hk_ hs_ => Or.elim hs_ (fun e_ => (hk_.2.2.2.2.2.1) e_) (fun e_ => Or.elim e_ (fun e_ => (hk_.2.2.2.2.2.2.1) e_) (fun e_ => (hk_.2.2.2.2.2.2.2) e_)))) (fun k_ hk_ => ⟨hk_.1.1, hk_.1.2.1, hk_.1.2.2.1, hk_.1.2.2.2.1, hk_.1.2.2.2.2.1, hk_.1.2.2.2.2.2.1, hk_.1.2.2.2.2.2.2.1, hk_.1.2.2.2.2.2.2.2⟩)); have n5_ := Aside0.mk (Kd.R_mono (ok' := fun k_ => some k_ ≠ (.slice Ao22 t289.length co22 : Value).ownBlock ∧ some k_ ≠ (.slice Ao25 t292.length co25 : Value).ownBlock ∧ some k_ ≠ (.slice Ao26 t295.length co26 : Value).ownBlock ∧ some k_ ≠ (.slice Ao30 t333.length co30 : Value).ownBlock ∧ some k_ ≠ (.slice Ao34 t334.length co34 : Value).ownBlock ∧ some k_ ≠ (.slice Ao38 t310.length co38 : Value).ownBlock ∧ some k_ ≠ (.slice Ao43 t313.length co43 : Value).ownBlock ∧ some k_ ≠ (.slice Ao44 t316.length co44 : Value).ownBlock) (Kd.R_keptB (HO_310002.out) hkp (fun k_ hk_ hs_ => Or.elim hs_ (fun e_ => (hk_.2.2.2.2.2.1) e_) (fun e_ => Or.elim e_ (fun e_ => (hk_.2.2.2.2.2.2.1) e_) (fun e_ => (hk_.2.2.2.2.2.2.2) e_)))) (fun k_ hk_ => ⟨hk_.1.1, hk_.1.2.1, hk_.1.2.2.1, hk_.1.2.2.2.1, hk_.1.2.2.2.2.1, hk_.1.2.2.2.2.2.1, hk_.1.2.2.2.2.2.2.1, hk_.1.2.2.2.2.2.2.2⟩)); have n6_ := Aside0.mk (Kd.R_reok rfl hy0 (fun k_ e_ => HO_321000.out.1 k_ e_)); have n7_ := Aside0.mk (Kd.R_reok rfl hy1 (fun k_ e_ => HO_321001.out.1 k_ e_)); have n8_ := Aside0.mk (Kd.R_reok rfl hy2 (fun k_ e_ => HO_321002.out.1 k_ e_)); have n9_ := Aside0.mk (blk_kept (kX BK278.out) hkp (fun hs_ => Or.elim hs_ (fun e_ => (fun e_ => (Kd.R_ne HO_321000.out BK278.out (by decide)) e_) e_) (fun e_ => Or.elim e_ (fun e_ => (fun e_ => (Kd.R_ne HO_321001.out BK278.out (by decide)) e_) e_) (fun e_ => (fun e_ => (Kd.R_ne HO_321002.out BK278.out (by decide)) e_) e_)))); have n10_ := Aside0.mk (blk_kept (kX BK299.out) hkp (fun hs_ => Or.elim hs_ (fun e_ => (fun e_ => (Kd.R_ne HO_321000.out BK299.out (by decide)) e_) e_) (fun e_ => Or.elim e_ (fun e_ => (fun e_ => (Kd.R_ne HO_321001.out BK299.out (by decide)) e_) e_) (fun e_ => (fun e_ => (Kd.R_ne HO_321002.out BK299.out (by decide)) e_) e_)))); have n11_ := Aside0.mk (blk_kept (kX BK309.out) hkp (fun hs_ => Or.elim hs_ (fun e_ => (fun e_ => (Kd.R_ne HO_321000.out BK309.out (by decide)) e_) e_) (fun e_ => Or.elim e_ (fun e_ => (fun e_ => (Kd.R_ne HO_321001.out BK309.out (by decide)) e_) e_) (fun e_ => (fun e_ => (Kd.R_ne HO_321002.out BK309.out (by decide)) e_) e_)))); have n12_ := Aside0.mk (blk_kept (kX BK320.out) hkp (fun hs_ => Or.elim hs_ (fun e_ => (fun e_ => (Kd.R_ne HO_321000.out BK320.out (by decide)) e_) e_) (fun e_ => Or.elim e_ (fun e_ => (fun e_ => (Kd.R_ne HO_321001.out BK320.out (by decide)) e_) e_) (fun e_ => (fun e_ => (Kd.R_ne HO_321002.out BK320.out (by decide)) e_) e_)))); have n13_ := Aside0.mk (hb); clear HO_300000 HO_300001 HO_300002 HO_310000 HO_310001 HO_310002 HO_321000 HO_321001 HO_321002 BK278 BK299 BK309 BK320 HB; have HO_300000 := n0_; have HO_300001 := n1_; have HO_300002 := n2_; have HO_310000 := n3_; have HO_310001 := n4_; have HO_310002 := n5_; have HO_321000 := n6_; have HO_321001 := n7_; have HO_321002 := n8_; have BK278 := n9_; have BK299 := n10_; have BK309 := n11_; have BK320 := n12_; have HB := n13_; clear n0_ n1_ n2_ n3_ n4_ n5_ n6_ n7_ n8_ n9_ n10_ n11_ n12_ n13_; (try clear hb); (try clear hkp); (try clear hy0); (try clear hy1); (try clear hy2); have hcz112_0 := cz30 BK320.out; have hcz112_1 := cz31 BK320.out; have hcz112_2 := cz32 BK320.out; have hfz112_0 := blk_frozen BK320.out 0; have hfz112_1 := blk_frozen BK320.out 1; have hfz112_2 := blk_frozen BK320.out 2) | ((with_reducible refine gate_callee (f := 12) rfl ?_); refine goesL_ (some 67) rfl rfl Try.func12 (by kernel_rfl) rfl #[.agg #[.slice Ao38 t338.length co38, .slice Ao43 t339.length co43, .slice Ao44 t340.length co44], .int .i64 1] rfl (by (try simp only [List.map_toArray, List.map_cons, List.map_nil]); first | done | (rw [show t338.length = t310.length from (Kd.R_reads' HO_321000.out).1.symm, show t339.length = t313.length from (Kd.R_reads' HO_321001.out).1.symm, show t340.length = t316.length from (Kd.R_reads' HO_321002.out).1.symm] <;> rfl) | rfl | (simp only [List.length_drop, List.length_take]; rfl)) ?_; (with_reducible refine (laws_heldExchange.calls kj67 _ _ t338 _ _ t339 _ _ t340 1 t341 _ ?side1 ?side2 ?side3 ?side4 ?side5 ?side6 A101.out).mono ?_); (case side1 => exact cX (Kd.R_reads' HO_321000.out).2.2); (case side2 => rw [show t338.length = t310.length from (Kd.R_reads' HO_321000.out).1.symm]; exact (Kd.R_reads' HO_321000.out).2.1); (case side3 => exact cX (Kd.R_reads' HO_321001.out).2.2); (case side4 => rw [show t339.length = t313.length from (Kd.R_reads' HO_321001.out).1.symm]; exact (Kd.R_reads' HO_321001.out).2.1); (case side5 => exact cX (Kd.R_reads' HO_321002.out).2.2); (case side6 => rw [show t340.length = t316.length from (Kd.R_reads' HO_321002.out).1.symm]; exact (Kd.R_reads' HO_321002.out).2.1); rintro e w113 ⟨rfl, hb⟩; refine ⟨_, rfl, ?_⟩; have n0_ := Aside0.mk (Kd.R_below (rX HO_300000.out) hb); have n1_ := Aside0.mk (Kd.R_below (rX HO_300001.out) hb); have n2_ := Aside0.mk (Kd.R_below (rX HO_300002.out) hb); have n3_ := Aside0.mk (Kd.R_below (rX HO_310000.out) hb); have n4_ := Aside0.mk (Kd.R_below (rX HO_310001.out) hb); have n5_ := Aside0.mk (Kd.R_below (rX HO_310002.out) hb); have n6_ := Aside0.mk (Kd.R_below (rX HO_321000.out) hb); have n7_ := Aside0.mk (Kd.R_below (rX HO_321001.out) hb); have n8_ := Aside0.mk (Kd.R_below (rX HO_321002.out) hb); have n9_ := Aside0.mk (bbX BK278.out hb); have n10_ := Aside0.mk (bbX BK299.out hb); have n11_ := Aside0.mk (bbX BK309.out hb); have n12_ := Aside0.mk (bbX BK320.out hb); have n13_ := Aside0.mk (below_step (by repeat (first | (with_reducible first | exact HB.out|apply bA|apply bN|apply bD | refine below_set ?_ GE278.out | refine below_set ?_ GE299.out | refine below_set ?_ GE309.out | refine below_set ?_ GE320.out) | exact HB.out)) hb); clear HO_300000 HO_300001 HO_300002 HO_310000 HO_310001 HO_310002 HO_321000 HO_321001 HO_321002 BK278 BK299 BK309 BK320 HB; have HO_300000 := n0_; have HO_300001 := n1_; have HO_300002 := n2_; have HO_310000 := n3_; have HO_310001 := n4_; have HO_310002 := n5_; have HO_321000 := n6_; have HO_321001 := n7_; have HO_321002 := n8_; have BK278 := n9_; have BK299 := n10_; have BK309 := n11_; have BK320 := n12_; have HB := n13_; clear n0_ n1_ n2_ n3_ n4_ n5_ n6_ n7_ n8_ n9_ n10_ n11_ n12_ n13_; (try clear hb); (try clear hb2); (try clear hk); (try clear hi); have hnb114 := NB278_299.out; have hnc114 := NB299_278.out; have hnb115 := NB278_309.out; have hnc115 := NB309_278.out; have hcz116_0 := cz30 BK278.out; have hcz116_1 := cz31 BK278.out; have hcz116_2 := cz32 BK278.out; have hfz116_0 := blk_frozen BK278.out 0; have hfz116_1 := blk_frozen BK278.out 1; have hfz116_2 := blk_frozen BK278.out 2) | ((with_reducible refine gate_callee (f := 8) rfl ?_); refine goesL_ (some 75) rfl rfl Try.func8 (by kernel_rfl) rfl #[.agg #[.slice A0_0 l0_0.length c0_0, .slice A0_1 l0_1.length c0_1, .slice A0_2 l0_2.length c0_2]] rfl aX ?_; (with_reducible refine (laws_toExchange.calls kj67 _ _ l0_0 _ _ l0_1 _ _ l0_2 t342 t345 t348 _ ?side1 ?side2 ?side3 ?side4 ?side5 ?side6 A104.out).mono ?_); (case side1 => exact cX (Kd.C_below HR0_0.out HB.out)); (case side2 => exact HC0_0.out); (case side3 => exact cX (Kd.C_below HR0_1.out HB.out)); (case side4 => exact HC0_1.out); (case side5 => exact cX (Kd.C_below HR0_2.out HB.out)); (case side6 => exact HC0_2.out); rintro e w117 ⟨v343, v346, v349, rfl, ho0, ho1, ho2, hb⟩; refine ⟨_, rfl, ?_⟩; have n0_ := Aside0.mk (Kd.R_mono (Kd.R_told (Kd.R_told (Kd.R_told (Kd.R_old (rX HO_300000.out) hb) (Kd.R_base ho0)) (Kd.R_base ho1)) (Kd.R_base ho2)) (fun _ h_ => h_.1)); have n1_ := Aside0.mk (Kd.R_mono (Kd.R_told (Kd.R_told (Kd.R_told (Kd.R_old (rX HO_300001.out) hb) (Kd.R_base ho0)) (Kd.R_base ho1)) (Kd.R_base ho2)) (fun _ h_ => h_.1)); have n2_ := Aside0.mk (Kd.R_mono (Kd.R_told (Kd.R_told (Kd.R_told (Kd.R_old (rX HO_300002.out) hb) (Kd.R_base ho0)) (Kd.R_base ho1)) (Kd.R_base ho2)) (fun _ h_ => h_.1)); have n3_ := Aside0.mk (Kd.R_mono (Kd.R_told (Kd.R_told (Kd.R_told (Kd.R_old (rX HO_310000.out) hb) (Kd.R_base ho0)) (Kd.R_base ho1)) (Kd.R_base ho2)) (fun _ h_ => h_.1)); have n4_ := Aside0.mk (Kd.R_mono (Kd.R_told (Kd.R_told (Kd.R_told (Kd.R_old (rX HO_310001.out) hb) (Kd.R_base ho0)) (Kd.R_base ho1)) (Kd.R_base ho2)) (fun _ h_ => h_.1)); have n5_ := Aside0.mk (Kd.R_mono (Kd.R_told (Kd.R_told (Kd.R_told (Kd.R_old (rX HO_310002.out) hb) (Kd.R_base ho0)) (Kd.R_base ho1)) (Kd.R_base ho2)) (fun _ h_ => h_.1)); have n6_ := Aside0.mk (Kd.R_mono (Kd.R_told (Kd.R_told (Kd.R_told (Kd.R_old (rX HO_321000.out) hb) (Kd.R_base ho0)) (Kd.R_base ho1)) (Kd.R_base ho2)) (fun _ h_ => h_.1)); have n7_ := Aside0.mk (Kd.R_mono (Kd.R_told (Kd.R_told (Kd.R_told (Kd.R_old (rX HO_321001.out) hb) (Kd.R_base ho0)) (Kd.R_base ho1)) (Kd.R_base ho2)) (fun _ h_ => h_.1)); have n8_ := Aside0.mk (Kd.R_mono (Kd.R_told (Kd.R_told (Kd.R_told (Kd.R_old (rX HO_321002.out) hb) (Kd.R_base ho0)) (Kd.R_base ho1)) (Kd.R_base ho2)) (fun _ h_ => h_.1)); have n9_ := Aside0.mk (Kd.R_lower (Kd.R_new' (Kd.R_new' (Kd.R_new' (Kd.R_new' (Kd.R_new' (Kd.R_new' (Kd.R_new' (Kd.R_new' (Kd.R_new' ho0 (Kd.R_lt (rX HO_300000.out))) (Kd.R_lt (rX HO_300001.out))) (Kd.R_lt (rX HO_300002.out))) (Kd.R_lt (rX HO_310000.out))) (Kd.R_lt (rX HO_310001.out))) (Kd.R_lt (rX HO_310002.out))) (Kd.R_lt (rX HO_321000.out))) (Kd.R_lt (rX HO_321001.out))) (Kd.R_lt (rX HO_321002.out))) (below_size (by repeat (first | (with_reducible first | exact HB.out|apply bA|apply bN|apply bD | refine below_set ?_ GE278.out | refine below_set ?_ GE299.out | refine below_set ?_ GE309.out | refine below_set ?_ GE320.out) | exact HB.out)))); have n10_ := Aside0.mk (Kd.R_lower (Kd.R_new' (Kd.R_new' (Kd.R_new' (Kd.R_new' (Kd.R_new' (Kd.R_new' (Kd.R_new' (Kd.R_new' (Kd.R_new' ho1 (Kd.R_lt (rX HO_300000.out))) (Kd.R_lt (rX HO_300001.out))) (Kd.R_lt (rX HO_300002.out))) (Kd.R_lt (rX HO_310000.out))) (Kd.R_lt (rX HO_310001.out))) (Kd.R_lt (rX HO_310002.out))) (Kd.R_lt (rX HO_321000.out))) (Kd.R_lt (rX HO_321001.out))) (Kd.R_lt (rX HO_321002.out))) (below_size (by repeat (first | (with_reducible first | exact HB.out|apply bA|apply bN|apply bD | refine below_set ?_ GE278.out | refine below_set ?_ GE299.out | refine below_set ?_ GE309.out | refine below_set ?_ GE320.out) | exact HB.out)))); have n11_ := Aside0.mk (Kd.R_lower (Kd.R_new' (Kd.R_new' (Kd.R_new' (Kd.R_new' (Kd.R_new' (Kd.R_new' (Kd.R_new' (Kd.R_new' (Kd.R_new' ho2 (Kd.R_lt (rX HO_300000.out))) (Kd.R_lt (rX HO_300001.out))) (Kd.R_lt (rX HO_300002.out))) (Kd.R_lt (rX HO_310000.out))) (Kd.R_lt (rX HO_310001.out))) (Kd.R_lt (rX HO_310002.out))) (Kd.R_lt (rX HO_321000.out))) (Kd.R_lt (rX HO_321001.out))) (Kd.R_lt (rX HO_321002.out))) (below_size (by repeat (first | (with_reducible first | exact HB.out|apply bA|apply bN|apply bD | refine below_set ?_ GE278.out | refine below_set ?_ GE299.out | refine below_set ?_ GE309.out | refine below_set ?_ GE320.out) | exact HB.out)))); have n12_ := Aside0.mk (bbX BK278.out hb); have n13_ := Aside0.mk (bbX BK299.out hb); have n14_ := Aside0.mk (bbX BK309.out hb); have n15_ := Aside0.mk (bbX BK320.out hb); have n16_ := Aside0.mk (below_step (by repeat (first | (with_reducible first | exact HB.out|apply bA|apply bN|apply bD | refine below_set ?_ GE278.out | refine below_set ?_ GE299.out | refine below_set ?_ GE309.out | refine below_set ?_ GE320.out) | exact HB.out)) hb); clear HO_300000 HO_300001 HO_300002 HO_310000 HO_310001 HO_310002 HO_321000 HO_321001 HO_321002 BK278 BK299 BK309 BK320 HB; have HO_300000 := n0_; have HO_300001 := n1_; have HO_300002 := n2_; have HO_310000 := n3_; have HO_310001 := n4_; have HO_310002 := n5_; have HO_321000 := n6_; have HO_321001 := n7_; have HO_321002 := n8_; have HO344 := n9_; have HO347 := n10_; have HO350 := n11_; have BK278 := n12_; have BK299 := n13_; have BK309 := n14_; have BK320 := n15_; have HB := n16_; clear n0_ n1_ n2_ n3_ n4_ n5_ n6_ n7_ n8_ n9_ n10_ n11_ n12_ n13_ n14_ n15_ n16_; (try clear hb); (try clear hb2); (try clear hk); (try clear hi); (try clear ho0); (try clear ho1); (try clear ho2); obtain ⟨Ao118, co118, eo118⟩ := Kd.R_slice HO344.out; subst eo118; obtain ⟨Ao119, co119, eo119⟩ := Kd.R_slice HO347.out; subst eo119; obtain ⟨Ao120, co120, eo120⟩ := Kd.R_slice HO350.out; subst eo120) | ((with_reducible refine gate_callee (f := 9) rfl ?_); refine goesL_ (some 76) rfl rfl Try.func9 (by kernel_rfl) rfl #[.agg #[.slice Ao118 t342.length co118, .slice Ao119 t345.length co119, .slice Ao120 t348.length co120]] rfl aX ?_; (with_reducible refine (impl_InduceOnce.calls kj67 _ _ t342 _ _ t345 _ _ t348 t351 t354 t357 t360 _ ?side1 ?side2 ?side3 ?side4 ?side5 ?side6 A105.out).mono ?_); (case side1 => exact cX (Kd.R_reads' HO344.out).2.2); (case side2 => exact (Kd.R_reads' HO344.out).2.1); (case side3 => exact cX (Kd.R_reads' HO347.out).2.2); (case side4 => exact (Kd.R_reads' HO347.out).2.1); (case side5 => exact cX (Kd.R_reads' HO350.out).2.2); (case side6 => exact (Kd.R_reads' HO350.out).2.1); rintro e w121 ⟨v352, v355, v358, rfl, ho0, ho1, ho2, hb⟩; refine ⟨_, rfl, ?_⟩; have n0_ := Aside0.mk (Kd.R_mono (Kd.R_told (Kd.R_told (Kd.R_told (Kd.R_old (rX HO_300000.out) hb) (Kd.R_base ho0)) (Kd.R_base ho1)) (Kd.R_base ho2)) (fun _ h_ => h_.1)); have n1_ := Aside0.mk (Kd.R_mono (Kd.R_told (Kd.R_told (Kd.R_told (Kd.R_old (rX HO_300001.out) hb) (Kd.R_base ho0)) (Kd.R_base ho1)) (Kd.R_base ho2)) (fun _ h_ => h_.1)); have n2_ := Aside0.mk (Kd.R_mono (Kd.R_told (Kd.R_told (Kd.R_told (Kd.R_old (rX HO_300002.out) hb) (Kd.R_base ho0)) (Kd.R_base ho1)) (Kd.R_base ho2)) (fun _ h_ => h_.1)); have n3_ := Aside0.mk (Kd.R_mono (Kd.R_told (Kd.R_told (Kd.R_told (Kd.R_old (rX HO_310000.out) hb) (Kd.R_base ho0)) (Kd.R_base ho1)) (Kd.R_base ho2)) (fun _ h_ => h_.1)); have n4_ := Aside0.mk (Kd.R_mono (Kd.R_told (Kd.R_told (Kd.R_told (Kd.R_old (rX HO_310001.out) hb) (Kd.R_base ho0)) (Kd.R_base ho1)) (Kd.R_base ho2)) (fun _ h_ => h_.1)); have n5_ := Aside0.mk (Kd.R_mono (Kd.R_told (Kd.R_told (Kd.R_told (Kd.R_old (rX HO_310002.out) hb) (Kd.R_base ho0)) (Kd.R_base ho1)) (Kd.R_base ho2)) (fun _ h_ => h_.1)); have n6_ := Aside0.mk (Kd.R_mono (Kd.R_told (Kd.R_told (Kd.R_told (Kd.R_old (rX HO_321000.out) hb) (Kd.R_base ho0)) (Kd.R_base ho1)) (Kd.R_base ho2)) (fun _ h_ => h_.1)); have n7_ := Aside0.mk (Kd.R_mono (Kd.R_told (Kd.R_told (Kd.R_told (Kd.R_old (rX HO_321001.out) hb) (Kd.R_base ho0)) (Kd.R_base ho1)) (Kd.R_base ho2)) (fun _ h_ => h_.1)); have n8_ := Aside0.mk (Kd.R_mono (Kd.R_told (Kd.R_told (Kd.R_told (Kd.R_old (rX HO_321002.out) hb) (Kd.R_base ho0)) (Kd.R_base ho1)) (Kd.R_base ho2)) (fun _ h_ => h_.1)); have n9_ := Aside0.mk (Kd.R_mono (Kd.R_told (Kd.R_told (Kd.R_told (Kd.R_old (rX HO344.out) hb) (Kd.R_base ho0)) (Kd.R_base ho1)) (Kd.R_base ho2)) (fun _ h_ => h_.1)); have n10_ := Aside0.mk (Kd.R_mono (Kd.R_told (Kd.R_told (Kd.R_told (Kd.R_old (rX HO347.out) hb) (Kd.R_base ho0)) (Kd.R_base ho1)) (Kd.R_base ho2)) (fun _ h_ => h_.1)); have n11_ := Aside0.mk (Kd.R_mono (Kd.R_told (Kd.R_told (Kd.R_told (Kd.R_old (rX HO350.out) hb) (Kd.R_base ho0)) (Kd.R_base ho1)) (Kd.R_base ho2)) (fun _ h_ => h_.1)); have n12_ := Aside0.mk (Kd.R_lower (Kd.R_new' (Kd.R_new' (Kd.R_new' (Kd.R_new' (Kd.R_new' (Kd.R_new' (Kd.R_new' (Kd.R_new' (Kd.R_new' (Kd.R_new' (Kd.R_new' (Kd.R_new' ho0 (Kd.R_lt (rX HO_300000.out))) (Kd.R_lt (rX HO_300001.out))) (Kd.R_lt (rX HO_300002.out))) (Kd.R_lt (rX HO_310000.out))) (Kd.R_lt (rX HO_310001.out))) (Kd.R_lt (rX HO_310002.out))) (Kd.R_lt (rX HO_321000.out))) (Kd.R_lt (rX HO_321001.out))) (Kd.R_lt (rX HO_321002.out))) (Kd.R_lt (rX HO344.out))) (Kd.R_lt (rX HO347.out))) (Kd.R_lt (rX HO350.out))) (below_size (by repeat (first | (with_reducible first | exact HB.out|apply bA|apply bN|apply bD | refine below_set ?_ GE278.out | refine below_set ?_ GE299.out | refine below_set ?_ GE309.out | refine below_set ?_ GE320.out) | exact HB.out)))); have n13_ := Aside0.mk (Kd.R_lower (Kd.R_new' (Kd.R_new' (Kd.R_new' (Kd.R_new' (Kd.R_new' (Kd.R_new' (Kd.R_new' (Kd.R_new' (Kd.R_new' (Kd.R_new' (Kd.R_new' (Kd.R_new' ho1 (Kd.R_lt (rX HO_300000.out))) (Kd.R_lt (rX HO_300001.out))) (Kd.R_lt (rX HO_300002.out))) (Kd.R_lt (rX HO_310000.out))) (Kd.R_lt (rX HO_310001.out))) (Kd.R_lt (rX HO_310002.out))) (Kd.R_lt (rX HO_321000.out))) (Kd.R_lt (rX HO_321001.out))) (Kd.R_lt (rX HO_321002.out))) (Kd.R_lt (rX HO344.out))) (Kd.R_lt (rX HO347.out))) (Kd.R_lt (rX HO350.out))) (below_size (by repeat (first | (with_reducible first | exact HB.out|apply bA|apply bN|apply bD | refine below_set ?_ GE278.out | refine below_set ?_ GE299.out | refine below_set ?_ GE309.out | refine below_set ?_ GE320.out) | exact HB.out)))); have n14_ := Aside0.mk (Kd.R_lower (Kd.R_new' (Kd.R_new' (Kd.R_new' (Kd.R_new' (Kd.R_new' (Kd.R_new' (Kd.R_new' (Kd.R_new' (Kd.R_new' (Kd.R_new' (Kd.R_new' (Kd.R_new' ho2 (Kd.R_lt (rX HO_300000.out))) (Kd.R_lt (rX HO_300001.out))) (Kd.R_lt (rX HO_300002.out))) (Kd.R_lt (rX HO_310000.out))) (Kd.R_lt (rX HO_310001.out))) (Kd.R_lt (rX HO_310002.out))) (Kd.R_lt (rX HO_321000.out))) (Kd.R_lt (rX HO_321001.out))) (Kd.R_lt (rX HO_321002.out))) (Kd.R_lt (rX HO344.out))) (Kd.R_lt (rX HO347.out))) (Kd.R_lt (rX HO350.out))) (below_size (by repeat (first | (with_reducible first | exact HB.out|apply bA|apply bN|apply bD | refine below_set ?_ GE278.out | refine below_set ?_ GE299.out | refine below_set ?_ GE309.out | refine below_set ?_ GE320.out) | exact HB.out)))); have n15_ := Aside0.mk (bbX BK278.out hb); have n16_ := Aside0.mk (bbX BK299.out hb); have n17_ := Aside0.mk (bbX BK309.out hb); have n18_ := Aside0.mk (bbX BK320.out hb); have n19_ := Aside0.mk (below_step (by repeat (first | (with_reducible first | exact HB.out|apply bA|apply bN|apply bD | refine below_set ?_ GE278.out | refine below_set ?_ GE299.out | refine below_set ?_ GE309.out | refine below_set ?_ GE320.out) | exact HB.out)) hb); clear HO_300000 HO_300001 HO_300002 HO_310000 HO_310001 HO_310002 HO_321000 HO_321001 HO_321002 HO344 HO347 HO350 BK278 BK299 BK309 BK320 HB; have HO_300000 := n0_; have HO_300001 := n1_; have HO_300002 := n2_; have HO_310000 := n3_; have HO_310001 := n4_; have HO_310002 := n5_; have HO_321000 := n6_; have HO_321001 := n7_; have HO_321002 := n8_; have HO344 := n9_; have HO347 := n10_; have HO350 := n11_; have HO353 := n12_; have HO356 := n13_; have HO359 := n14_; have BK278 := n15_; have BK299 := n16_; have BK309 := n17_; have BK320 := n18_; have HB := n19_; clear n0_ n1_ n2_ n3_ n4_ n5_ n6_ n7_ n8_ n9_ n10_ n11_ n12_ n13_ n14_ n15_ n16_ n17_ n18_ n19_; (try clear hb); (try clear hb2); (try clear hk); (try clear hi); (try clear ho0); (try clear ho1); (try clear ho2)) | ((with_reducible refine gate_dst (N := 12) rfl ?_); refine box_event ?hg (N := 12) ?hd (cs := #[.slice none 0 0, .slice none 0 0, .slice none 0 0]) (t := 26) ?hr ?_; (case hd => rfl); (case hg => rfl); (case hr => first | (go_simp; done) | (go_simp; rfl)); intro gb361 hg w122 hbox hb; have n0_ := Aside0.mk (Kd.R_below (rX HO_300000.out) hb); have n1_ := Aside0.mk (Kd.R_below (rX HO_300001.out) hb); have n2_ := Aside0.mk (Kd.R_below (rX HO_300002.out) hb); have n3_ := Aside0.mk (Kd.R_below (rX HO_310000.out) hb); have n4_ := Aside0.mk (Kd.R_below (rX HO_310001.out) hb); have n5_ := Aside0.mk (Kd.R_below (rX HO_310002.out) hb); have n6_ := Aside0.mk (Kd.R_below (rX HO_321000.out) hb); have n7_ := Aside0.mk (Kd.R_below (rX HO_321001.out) hb); have n8_ := Aside0.mk (Kd.R_below (rX HO_321002.out) hb); have n9_ := Aside0.mk (Kd.R_below (rX HO344.out) hb); have n10_ := Aside0.mk (Kd.R_below (rX HO347.out) hb); have n11_ := Aside0.mk (Kd.R_below (rX HO350.out) hb); have n12_ := Aside0.mk (Kd.R_below (rX HO353.out) hb); have n13_ := Aside0.mk (Kd.R_below (rX HO356.out) hb); have n14_ := Aside0.mk (Kd.R_below (rX HO359.out) hb); have n15_ := Aside0.mk (bbX BK278.out hb); have n16_ := Aside0.mk (bbX BK299.out hb); have n17_ := Aside0.mk (bbX BK309.out hb); have n18_ := Aside0.mk (bbX BK320.out hb); have n19_ := Aside0.mk (below_step (by repeat (first | (with_reducible first | exact HB.out|apply bA|apply bN|apply bD | refine below_set ?_ GE278.out | refine below_set ?_ GE299.out | refine below_set ?_ GE309.out | refine below_set ?_ GE320.out) | exact HB.out)) hb); have n20_ := Aside0.mk (hbox); have n21_ := Aside0.mk ((by rw [hg]; exact (below_size (by repeat (first | (with_reducible first | exact HB.out|apply bA|apply bN|apply bD | refine below_set ?_ GE278.out | refine below_set ?_ GE299.out | refine below_set ?_ GE309.out | refine below_set ?_ GE320.out) | exact HB.out))) : w.heap.size ≤ gb361)); have n22_ := Aside0.mk ((by rw [hg]; exact (below_size (by repeat (first | (with_reducible first | exact HB.out|apply bA|apply bN|apply bD | refine below_set ?_ GE278.out | refine below_set ?_ GE299.out | refine below_set ?_ GE309.out | refine below_set ?_ GE320.out) | exact HB.out))) : w.heap.size ≤ gb361)); have n23_ := Aside0.mk (neX BK278.out hg); have n24_ := Aside0.mk (nfX BK278.out hg); have n25_ := Aside0.mk (neX BK299.out hg); have n26_ := Aside0.mk (nfX BK299.out hg); have n27_ := Aside0.mk (neX BK309.out hg); have n28_ := Aside0.mk (nfX BK309.out hg); have n29_ := Aside0.mk (neX BK320.out hg); have n30_ := Aside0.mk (nfX BK320.out hg); clear HO_300000 HO_300001 HO_300002 HO_310000 HO_310001 HO_310002 HO_321000 HO_321001 HO_321002 HO344 HO347 HO350 HO353 HO356 HO359 BK278 BK299 BK309 BK320 HB; have HO_300000 := n0_; have HO_300001 := n1_; have HO_300002 := n2_; have HO_310000 := n3_; have HO_310001 := n4_; have HO_310002 := n5_; have HO_321000 := n6_; have HO_321001 := n7_; have HO_321002 := n8_; have HO344 := n9_; have HO347 := n10_; have HO350 := n11_; have HO353 := n12_; have HO356 := n13_; have HO359 := n14_; have BK278 := n15_; have BK299 := n16_; have BK309 := n17_; have BK320 := n18_; have HB := n19_; have BK361 := n20_; have GW361 := n21_; have GE361 := n22_; have NB278_361 := n23_; have NB361_278 := n24_; have NB299_361 := n25_; have NB361_299 := n26_; have NB309_361 := n27_; have NB361_309 := n28_; have NB320_361 := n29_; have NB361_320 := n30_; clear n0_ n1_ n2_ n3_ n4_ n5_ n6_ n7_ n8_ n9_ n10_ n11_ n12_ n13_ n14_ n15_ n16_ n17_ n18_ n19_ n20_ n21_ n22_ n23_ n24_ n25_ n26_ n27_ n28_ n29_ n30_ hb hbox hg; obtain ⟨Ao123, co123, eo123⟩ := Kd.R_slice HO353.out; subst eo123; have hnb124 := NB361_278.out; have hnc124 := NB278_361.out; have hnb125 := NB361_299.out; have hnc125 := NB299_361.out; have hnb126 := NB361_309.out; have hnc126 := NB309_361.out; have hnb127 := NB361_320.out; have hnc127 := NB320_361.out; have hcz128_0 := cz30 BK361.out; have hcz128_1 := cz31 BK361.out; have hcz128_2 := cz32 BK361.out; have hfz128_0 := blk_frozen BK361.out 0; have hfz128_1 := blk_frozen BK361.out 1; have hfz128_2 := blk_frozen BK361.out 2; obtain ⟨Ao129, co129, eo129⟩ := Kd.R_slice HO356.out; subst eo129; obtain ⟨Ao130, co130, eo130⟩ := Kd.R_slice HO359.out; subst eo130))
 (try simp only [Act.put, List.setIfInBounds_toArray, List.set_cons_zero, List.set_cons_succ])
 go_cut [87] (fun v87 wc => ∃ (kq : Nat) (x87_105 : Bool), v87 = .bool x87_105 ∧ Aside0 (laws_FnExactInduceOnce.j2 kq t337 x87_105 t338 t339 t340 = some r) ∧ Aside0 (kq ≤ kj67) ∧ Aside0 (Kd.R (Kd.int .i64) 3 wc w.heap.size (fun k_ => some k_ ≠ ((.slice Ao25 t292.length co25) : Value).ownBlock ∧ some k_ ≠ ((.slice Ao26 t295.length co26) : Value).ownBlock ∧ some k_ ≠ ((.slice Ao30 t333.length co30) : Value).ownBlock ∧ some k_ ≠ ((.slice Ao34 t334.length co34) : Value).ownBlock ∧ some k_ ≠ ((.slice Ao35 t335.length co35) : Value).ownBlock ∧ some k_ ≠ ((.slice Ao38 t310.length co38) : Value).ownBlock ∧ some k_ ≠ ((.slice Ao43 t313.length co43) : Value).ownBlock ∧ some k_ ≠ ((.slice Ao44 t316.length co44) : Value).ownBlock ∧ some k_ ≠ ((.slice Ao123 t351.length co123) : Value).ownBlock ∧ some k_ ≠ ((.slice Ao129 t354.length co129) : Value).ownBlock ∧ some k_ ≠ ((.slice Ao130 t357.length co130) : Value).ownBlock) (.slice Ao22 t289.length co22) t289) ∧ Aside0 (Kd.R (Kd.int .i64) 3 wc w.heap.size (fun k_ => some k_ ≠ ((.slice Ao22 t289.length co22) : Value).ownBlock ∧ some k_ ≠ ((.slice Ao26 t295.length co26) : Value).ownBlock ∧ some k_ ≠ ((.slice Ao30 t333.length co30) : Value).ownBlock ∧ some k_ ≠ ((.slice Ao34 t334.length co34) : Value).ownBlock ∧ some k_ ≠ ((.slice Ao35 t335.length co35) : Value).ownBlock ∧ some k_ ≠ ((.slice Ao38 t310.length co38) : Value).ownBlock ∧ some k_ ≠ ((.slice Ao43 t313.length co43) : Value).ownBlock ∧ some k_ ≠ ((.slice Ao44 t316.length co44) : Value).ownBlock ∧ some k_ ≠ ((.slice Ao123 t351.length co123) : Value).ownBlock ∧ some k_ ≠ ((.slice Ao129 t354.length co129) : Value).ownBlock ∧ some k_ ≠ ((.slice Ao130 t357.length co130) : Value).ownBlock) (.slice Ao25 t292.length co25) t292) ∧ Aside0 (Kd.R (Kd.int .i64) 3 wc w.heap.size (fun k_ => some k_ ≠ ((.slice Ao22 t289.length co22) : Value).ownBlock ∧ some k_ ≠ ((.slice Ao25 t292.length co25) : Value).ownBlock ∧ some k_ ≠ ((.slice Ao30 t333.length co30) : Value).ownBlock ∧ some k_ ≠ ((.slice Ao34 t334.length co34) : Value).ownBlock ∧ some k_ ≠ ((.slice Ao35 t335.length co35) : Value).ownBlock ∧ some k_ ≠ ((.slice Ao38 t310.length co38) : Value).ownBlock ∧ some k_ ≠ ((.slice Ao43 t313.length co43) : Value).ownBlock ∧ some k_ ≠ ((.slice Ao44 t316.length co44) : Value).ownBlock ∧ some k_ ≠ ((.slice Ao123 t351.length co123) : Value).ownBlock ∧ some k_ ≠ ((.slice Ao129 t354.length co129) : Value).ownBlock ∧ some k_ ≠ ((.slice Ao130 t357.length co130) : Value).ownBlock) (.slice Ao26 t295.length co26) t295) ∧ Aside0 (Kd.R (Kd.int .i64) 3 wc w.heap.size (fun k_ => some k_ ≠ ((.slice Ao22 t289.length co22) : Value).ownBlock ∧ some k_ ≠ ((.slice Ao25 t292.length co25) : Value).ownBlock ∧ some k_ ≠ ((.slice Ao26 t295.length co26) : Value).ownBlock ∧ some k_ ≠ ((.slice Ao34 t334.length co34) : Value).ownBlock ∧ some k_ ≠ ((.slice Ao35 t335.length co35) : Value).ownBlock ∧ some k_ ≠ ((.slice Ao38 t310.length co38) : Value).ownBlock ∧ some k_ ≠ ((.slice Ao43 t313.length co43) : Value).ownBlock ∧ some k_ ≠ ((.slice Ao44 t316.length co44) : Value).ownBlock ∧ some k_ ≠ ((.slice Ao123 t351.length co123) : Value).ownBlock ∧ some k_ ≠ ((.slice Ao129 t354.length co129) : Value).ownBlock ∧ some k_ ≠ ((.slice Ao130 t357.length co130) : Value).ownBlock) (.slice Ao30 t333.length co30) t333) ∧ Aside0 (Kd.R (Kd.int .i64) 3 wc w.heap.size (fun k_ => some k_ ≠ ((.slice Ao22 t289.length co22) : Value).ownBlock ∧ some k_ ≠ ((.slice Ao25 t292.length co25) : Value).ownBlock ∧ some k_ ≠ ((.slice Ao26 t295.length co26) : Value).ownBlock ∧ some k_ ≠ ((.slice Ao30 t333.length co30) : Value).ownBlock ∧ some k_ ≠ ((.slice Ao35 t335.length co35) : Value).ownBlock ∧ some k_ ≠ ((.slice Ao38 t310.length co38) : Value).ownBlock ∧ some k_ ≠ ((.slice Ao43 t313.length co43) : Value).ownBlock ∧ some k_ ≠ ((.slice Ao44 t316.length co44) : Value).ownBlock ∧ some k_ ≠ ((.slice Ao123 t351.length co123) : Value).ownBlock ∧ some k_ ≠ ((.slice Ao129 t354.length co129) : Value).ownBlock ∧ some k_ ≠ ((.slice Ao130 t357.length co130) : Value).ownBlock) (.slice Ao34 t334.length co34) t334) ∧ Aside0 (Kd.R (Kd.int .i64) 3 wc w.heap.size (fun k_ => some k_ ≠ ((.slice Ao22 t289.length co22) : Value).ownBlock ∧ some k_ ≠ ((.slice Ao25 t292.length co25) : Value).ownBlock ∧ some k_ ≠ ((.slice Ao26 t295.length co26) : Value).ownBlock ∧ some k_ ≠ ((.slice Ao30 t333.length co30) : Value).ownBlock ∧ some k_ ≠ ((.slice Ao34 t334.length co34) : Value).ownBlock ∧ some k_ ≠ ((.slice Ao38 t310.length co38) : Value).ownBlock ∧ some k_ ≠ ((.slice Ao43 t313.length co43) : Value).ownBlock ∧ some k_ ≠ ((.slice Ao44 t316.length co44) : Value).ownBlock ∧ some k_ ≠ ((.slice Ao123 t351.length co123) : Value).ownBlock ∧ some k_ ≠ ((.slice Ao129 t354.length co129) : Value).ownBlock ∧ some k_ ≠ ((.slice Ao130 t357.length co130) : Value).ownBlock) (.slice Ao35 t335.length co35) t335) ∧ Aside0 (Kd.R (Kd.int .i64) 3 wc w.heap.size (fun k_ => some k_ ≠ ((.slice Ao22 t289.length co22) : Value).ownBlock ∧ some k_ ≠ ((.slice Ao25 t292.length co25) : Value).ownBlock ∧ some k_ ≠ ((.slice Ao26 t295.length co26) : Value).ownBlock ∧ some k_ ≠ ((.slice Ao30 t333.length co30) : Value).ownBlock ∧ some k_ ≠ ((.slice Ao34 t334.length co34) : Value).ownBlock ∧ some k_ ≠ ((.slice Ao35 t335.length co35) : Value).ownBlock ∧ some k_ ≠ ((.slice Ao43 t313.length co43) : Value).ownBlock ∧ some k_ ≠ ((.slice Ao44 t316.length co44) : Value).ownBlock ∧ some k_ ≠ ((.slice Ao123 t351.length co123) : Value).ownBlock ∧ some k_ ≠ ((.slice Ao129 t354.length co129) : Value).ownBlock ∧ some k_ ≠ ((.slice Ao130 t357.length co130) : Value).ownBlock) (.slice Ao38 t310.length co38) t338) ∧ Aside0 (Kd.R (Kd.int .i64) 3 wc w.heap.size (fun k_ => some k_ ≠ ((.slice Ao22 t289.length co22) : Value).ownBlock ∧ some k_ ≠ ((.slice Ao25 t292.length co25) : Value).ownBlock ∧ some k_ ≠ ((.slice Ao26 t295.length co26) : Value).ownBlock ∧ some k_ ≠ ((.slice Ao30 t333.length co30) : Value).ownBlock ∧ some k_ ≠ ((.slice Ao34 t334.length co34) : Value).ownBlock ∧ some k_ ≠ ((.slice Ao35 t335.length co35) : Value).ownBlock ∧ some k_ ≠ ((.slice Ao38 t310.length co38) : Value).ownBlock ∧ some k_ ≠ ((.slice Ao44 t316.length co44) : Value).ownBlock ∧ some k_ ≠ ((.slice Ao123 t351.length co123) : Value).ownBlock ∧ some k_ ≠ ((.slice Ao129 t354.length co129) : Value).ownBlock ∧ some k_ ≠ ((.slice Ao130 t357.length co130) : Value).ownBlock) (.slice Ao43 t313.length co43) t339) ∧ Aside0 (Kd.R (Kd.int .i64) 3 wc w.heap.size (fun k_ => some k_ ≠ ((.slice Ao22 t289.length co22) : Value).ownBlock ∧ some k_ ≠ ((.slice Ao25 t292.length co25) : Value).ownBlock ∧ some k_ ≠ ((.slice Ao26 t295.length co26) : Value).ownBlock ∧ some k_ ≠ ((.slice Ao30 t333.length co30) : Value).ownBlock ∧ some k_ ≠ ((.slice Ao34 t334.length co34) : Value).ownBlock ∧ some k_ ≠ ((.slice Ao35 t335.length co35) : Value).ownBlock ∧ some k_ ≠ ((.slice Ao38 t310.length co38) : Value).ownBlock ∧ some k_ ≠ ((.slice Ao43 t313.length co43) : Value).ownBlock ∧ some k_ ≠ ((.slice Ao123 t351.length co123) : Value).ownBlock ∧ some k_ ≠ ((.slice Ao129 t354.length co129) : Value).ownBlock ∧ some k_ ≠ ((.slice Ao130 t357.length co130) : Value).ownBlock) (.slice Ao44 t316.length co44) t340) ∧ Aside0 (Kd.R (Kd.int .i64) 3 wc w.heap.size (fun k_ => some k_ ≠ ((.slice Ao22 t289.length co22) : Value).ownBlock ∧ some k_ ≠ ((.slice Ao25 t292.length co25) : Value).ownBlock ∧ some k_ ≠ ((.slice Ao26 t295.length co26) : Value).ownBlock ∧ some k_ ≠ ((.slice Ao30 t333.length co30) : Value).ownBlock ∧ some k_ ≠ ((.slice Ao34 t334.length co34) : Value).ownBlock ∧ some k_ ≠ ((.slice Ao35 t335.length co35) : Value).ownBlock ∧ some k_ ≠ ((.slice Ao38 t310.length co38) : Value).ownBlock ∧ some k_ ≠ ((.slice Ao43 t313.length co43) : Value).ownBlock ∧ some k_ ≠ ((.slice Ao44 t316.length co44) : Value).ownBlock ∧ some k_ ≠ ((.slice Ao129 t354.length co129) : Value).ownBlock ∧ some k_ ≠ ((.slice Ao130 t357.length co130) : Value).ownBlock) (.slice Ao123 t351.length co123) t351) ∧ Aside0 (Kd.R (Kd.int .i64) 3 wc w.heap.size (fun k_ => some k_ ≠ ((.slice Ao22 t289.length co22) : Value).ownBlock ∧ some k_ ≠ ((.slice Ao25 t292.length co25) : Value).ownBlock ∧ some k_ ≠ ((.slice Ao26 t295.length co26) : Value).ownBlock ∧ some k_ ≠ ((.slice Ao30 t333.length co30) : Value).ownBlock ∧ some k_ ≠ ((.slice Ao34 t334.length co34) : Value).ownBlock ∧ some k_ ≠ ((.slice Ao35 t335.length co35) : Value).ownBlock ∧ some k_ ≠ ((.slice Ao38 t310.length co38) : Value).ownBlock ∧ some k_ ≠ ((.slice Ao43 t313.length co43) : Value).ownBlock ∧ some k_ ≠ ((.slice Ao44 t316.length co44) : Value).ownBlock ∧ some k_ ≠ ((.slice Ao123 t351.length co123) : Value).ownBlock ∧ some k_ ≠ ((.slice Ao130 t357.length co130) : Value).ownBlock) (.slice Ao129 t354.length co129) t354) ∧ Aside0 (Kd.R (Kd.int .i64) 3 wc w.heap.size (fun k_ => some k_ ≠ ((.slice Ao22 t289.length co22) : Value).ownBlock ∧ some k_ ≠ ((.slice Ao25 t292.length co25) : Value).ownBlock ∧ some k_ ≠ ((.slice Ao26 t295.length co26) : Value).ownBlock ∧ some k_ ≠ ((.slice Ao30 t333.length co30) : Value).ownBlock ∧ some k_ ≠ ((.slice Ao34 t334.length co34) : Value).ownBlock ∧ some k_ ≠ ((.slice Ao35 t335.length co35) : Value).ownBlock ∧ some k_ ≠ ((.slice Ao38 t310.length co38) : Value).ownBlock ∧ some k_ ≠ ((.slice Ao43 t313.length co43) : Value).ownBlock ∧ some k_ ≠ ((.slice Ao44 t316.length co44) : Value).ownBlock ∧ some k_ ≠ ((.slice Ao123 t351.length co123) : Value).ownBlock ∧ some k_ ≠ ((.slice Ao129 t354.length co129) : Value).ownBlock) (.slice Ao130 t357.length co130) t357) ∧ Aside0 (wc.heap[gb278]? = some (.cells #[(.slice A0_0 l0_0.length c0_0), (.slice A0_1 l0_1.length c0_1), (.slice A0_2 l0_2.length c0_2)] 24 (0, 0))) ∧ Aside0 (wc.heap[gb299]? = some (.cells #[(.slice Ao22 t289.length co22), (.slice Ao25 t292.length co25), (.slice Ao26 t295.length co26)] 26 (0, 0))) ∧ Aside0 (wc.heap[gb309]? = some (.cells #[(.slice Ao30 t333.length co30), (.slice Ao34 t334.length co34), (.slice Ao35 t335.length co35)] 26 (0, 0))) ∧ Aside0 (wc.heap[gb320]? = some (.cells #[(.slice Ao38 t310.length co38), (.slice Ao43 t313.length co43), (.slice Ao44 t316.length co44)] 26 (0, 0))) ∧ Aside0 (wc.heap[gb361]? = some (.cells #[(.slice Ao123 t351.length co123), (.slice Ao129 t354.length co129), (.slice Ao130 t357.length co130)] 26 (0, 0))) ∧ Aside0 (Below w.heap.size w wc))
 case first =>
  have H := HC106.out
  clear HC106
  replace H := Option.bind_eq_some_iff.mp H
  obtain ⟨t362, A1310, H⟩ := H
  replace H : (if t362 = true then (laws_FnExactInduceOnce.j2 kj67 t337 (t360 != t298) t338 t339 t340) else (laws_FnExactInduceOnce.j2 kj67 t337 true t338 t339 t340)) = some r := H
  have A131 := Aside0.mk A1310
  clear A1310
  by_cases c132 : t362 = true
  {
  subst c132
  have H1 : (laws_FnExactInduceOnce.j2 kj67 t337 (t360 != t298) t338 t339 t340) = some r := by rw [if_pos rfl] at H; exact H
  clear H
  have H := H1
  clear H1
  have H' := Aside0.mk H
  clear H
  have hnb133 := NB361_278.out
  have hnc133 := NB278_361.out
  have hnb134 := NB361_299.out
  have hnc134 := NB299_361.out
  have hnb135 := NB361_309.out
  have hnc135 := NB309_361.out
  have hnb136 := NB361_320.out
  have hnc136 := NB320_361.out
  have hcz137_0 := cz30 BK361.out
  have hcz137_1 := cz31 BK361.out
  have hcz137_2 := cz32 BK361.out
  have hfz137_0 := blk_frozen BK361.out 0
  have hfz137_1 := blk_frozen BK361.out 1
  have hfz137_2 := blk_frozen BK361.out 2
  have hnb138 := NB299_278.out
  have hnc138 := NB278_299.out
  have hnb139 := NB299_309.out
  have hnc139 := NB309_299.out
  have hnb140 := NB299_320.out
  have hnc140 := NB320_299.out
  have hcz141_0 := cz30 BK299.out
  have hcz141_1 := cz31 BK299.out
  have hcz141_2 := cz32 BK299.out
  have hfz141_0 := blk_frozen BK299.out 0
  have hfz141_1 := blk_frozen BK299.out 1
  have hfz141_2 := blk_frozen BK299.out 2
  go_wp2_with (first | ((with_reducible refine gate_callee (f := 10) rfl ?_); refine goesL_ (some 81) rfl rfl Try.func10 (by kernel_rfl) rfl #[.agg #[.slice Ao123 t351.length co123, .slice Ao129 t354.length co129, .slice Ao130 t357.length co130], .agg #[.slice Ao22 t289.length co22, .slice Ao25 t292.length co25, .slice Ao26 t295.length co26]] rfl aX ?_; (with_reducible refine (laws_eqExchange.calls kj67 _ _ t351 _ _ t354 _ _ t357 _ _ t289 _ _ t292 _ _ t295 true _ ?side1 ?side2 ?side3 ?side4 ?side5 ?side6 ?side7 ?side8 ?side9 ?side10 ?side11 ?side12 A131.out).mono ?_); (case side1 => exact rcX (fr3 HO353.out BK361.out (.slice Ao123 t351.length co123) (.slice Ao129 t354.length co129) (.slice Ao130 t357.length co130))); (case side2 => exact (Kd.R_reads' HO353.out).2.1); (case side3 => exact rcX (fr3 HO356.out BK361.out (.slice Ao123 t351.length co123) (.slice Ao129 t354.length co129) (.slice Ao130 t357.length co130))); (case side4 => exact (Kd.R_reads' HO356.out).2.1); (case side5 => exact rcX (fr3 HO359.out BK361.out (.slice Ao123 t351.length co123) (.slice Ao129 t354.length co129) (.slice Ao130 t357.length co130))); (case side6 => exact (Kd.R_reads' HO359.out).2.1); (case side7 => exact rcX (fr3 HO_300000.out BK361.out (.slice Ao123 t351.length co123) (.slice Ao129 t354.length co129) (.slice Ao130 t357.length co130))); (case side8 => exact (Kd.R_reads' HO_300000.out).2.1); (case side9 => exact rcX (fr3 HO_300001.out BK361.out (.slice Ao123 t351.length co123) (.slice Ao129 t354.length co129) (.slice Ao130 t357.length co130))); (case side10 => exact (Kd.R_reads' HO_300001.out).2.1); (case side11 => exact rcX (fr3 HO_300002.out BK361.out (.slice Ao123 t351.length co123) (.slice Ao129 t354.length co129) (.slice Ao130 t357.length co130))); (case side12 => exact (Kd.R_reads' HO_300002.out).2.1); rintro e w142 ⟨rfl, hb⟩; refine ⟨_, rfl, ?_⟩; have n0_ := Aside0.mk (Kd.R_below (rX (fr3 HO_300000.out BK361.out (.slice Ao123 t351.length co123) (.slice Ao129 t354.length co129) (.slice Ao130 t357.length co130))) hb); have n1_ := Aside0.mk (Kd.R_below (rX (fr3 HO_300001.out BK361.out (.slice Ao123 t351.length co123) (.slice Ao129 t354.length co129) (.slice Ao130 t357.length co130))) hb); have n2_ := Aside0.mk (Kd.R_below (rX (fr3 HO_300002.out BK361.out (.slice Ao123 t351.length co123) (.slice Ao129 t354.length co129) (.slice Ao130 t357.length co130))) hb); have n3_ := Aside0.mk (Kd.R_below (rX (fr3 HO_310000.out BK361.out (.slice Ao123 t351.length co123) (.slice Ao129 t354.length co129) (.slice Ao130 t357.length co130))) hb); have n4_ := Aside0.mk (Kd.R_below (rX (fr3 HO_310001.out BK361.out (.slice Ao123 t351.length co123) (.slice Ao129 t354.length co129) (.slice Ao130 t357.length co130))) hb); have n5_ := Aside0.mk (Kd.R_below (rX (fr3 HO_310002.out BK361.out (.slice Ao123 t351.length co123) (.slice Ao129 t354.length co129) (.slice Ao130 t357.length co130))) hb); have n6_ := Aside0.mk (Kd.R_below (rX (fr3 HO_321000.out BK361.out (.slice Ao123 t351.length co123) (.slice Ao129 t354.length co129) (.slice Ao130 t357.length co130))) hb); have n7_ := Aside0.mk (Kd.R_below (rX (fr3 HO_321001.out BK361.out (.slice Ao123 t351.length co123) (.slice Ao129 t354.length co129) (.slice Ao130 t357.length co130))) hb); have n8_ := Aside0.mk (Kd.R_below (rX (fr3 HO_321002.out BK361.out (.slice Ao123 t351.length co123) (.slice Ao129 t354.length co129) (.slice Ao130 t357.length co130))) hb); have n9_ := Aside0.mk (Kd.R_below (rX (fr3 HO344.out BK361.out (.slice Ao123 t351.length co123) (.slice Ao129 t354.length co129) (.slice Ao130 t357.length co130))) hb); have n10_ := Aside0.mk (Kd.R_below (rX (fr3 HO347.out BK361.out (.slice Ao123 t351.length co123) (.slice Ao129 t354.length co129) (.slice Ao130 t357.length co130))) hb); have n11_ := Aside0.mk (Kd.R_below (rX (fr3 HO350.out BK361.out (.slice Ao123 t351.length co123) (.slice Ao129 t354.length co129) (.slice Ao130 t357.length co130))) hb); have n12_ := Aside0.mk (Kd.R_below (rX (fr3 HO353.out BK361.out (.slice Ao123 t351.length co123) (.slice Ao129 t354.length co129) (.slice Ao130 t357.length co130))) hb); have n13_ := Aside0.mk (Kd.R_below (rX (fr3 HO356.out BK361.out (.slice Ao123 t351.length co123) (.slice Ao129 t354.length co129) (.slice Ao130 t357.length co130))) hb); have n14_ := Aside0.mk (Kd.R_below (rX (fr3 HO359.out BK361.out (.slice Ao123 t351.length co123) (.slice Ao129 t354.length co129) (.slice Ao130 t357.length co130))) hb); have n15_ := Aside0.mk (blk_below (g := gb278) (o := .cells #[.slice A0_0 l0_0.length c0_0, .slice A0_1 l0_1.length c0_1, .slice A0_2 l0_2.length c0_2] 24 (0, 0)) (by (with_reducible repeat (first|refine kN ?_ _|refine kD ?_|refine kA ?_ _)); refine blk_far ?_ NB278_361.out _; (with_reducible repeat (first|refine kN ?_ _|refine kD ?_|refine kA ?_ _)); refine blk_far ?_ NB278_361.out _; (with_reducible repeat (first|refine kN ?_ _|refine kD ?_|refine kA ?_ _)); refine blk_far ?_ NB278_361.out _; (with_reducible repeat (first|refine kN ?_ _|refine kD ?_|refine kA ?_ _)); exact BK278.out) hb); have n16_ := Aside0.mk (blk_below (g := gb299) (o := .cells #[.slice Ao22 t289.length co22, .slice Ao25 t292.length co25, .slice Ao26 t295.length co26] 26 (0, 0)) (by (with_reducible repeat (first|refine kN ?_ _|refine kD ?_|refine kA ?_ _)); refine blk_far ?_ NB299_361.out _; (with_reducible repeat (first|refine kN ?_ _|refine kD ?_|refine kA ?_ _)); refine blk_far ?_ NB299_361.out _; (with_reducible repeat (first|refine kN ?_ _|refine kD ?_|refine kA ?_ _)); refine blk_far ?_ NB299_361.out _; (with_reducible repeat (first|refine kN ?_ _|refine kD ?_|refine kA ?_ _)); exact BK299.out) hb); have n17_ := Aside0.mk (blk_below (g := gb309) (o := .cells #[.slice Ao30 t333.length co30, .slice Ao34 t334.length co34, .slice Ao35 t335.length co35] 26 (0, 0)) (by (with_reducible repeat (first|refine kN ?_ _|refine kD ?_|refine kA ?_ _)); refine blk_far ?_ NB309_361.out _; (with_reducible repeat (first|refine kN ?_ _|refine kD ?_|refine kA ?_ _)); refine blk_far ?_ NB309_361.out _; (with_reducible repeat (first|refine kN ?_ _|refine kD ?_|refine kA ?_ _)); refine blk_far ?_ NB309_361.out _; (with_reducible repeat (first|refine kN ?_ _|refine kD ?_|refine kA ?_ _)); exact BK309.out) hb); have n18_ := Aside0.mk (blk_below (g := gb320) (o := .cells #[.slice Ao38 t310.length co38, .slice Ao43 t313.length co43, .slice Ao44 t316.length co44] 26 (0, 0)) (by (with_reducible repeat (first|refine kN ?_ _|refine kD ?_|refine kA ?_ _)); refine blk_far ?_ NB320_361.out _; (with_reducible repeat (first|refine kN ?_ _|refine kD ?_|refine kA ?_ _)); refine blk_far ?_ NB320_361.out _; (with_reducible repeat (first|refine kN ?_ _|refine kD ?_|refine kA ?_ _)); refine blk_far ?_ NB320_361.out _; (with_reducible repeat (first|refine kN ?_ _|refine kD ?_|refine kA ?_ _)); exact BK320.out) hb); have n19_ := Aside0.mk (blk_below (g := gb361) (o := .cells #[.slice Ao123 t351.length co123, .slice Ao129 t354.length co129, .slice Ao130 t357.length co130] 26 (0, 0)) (by (with_reducible repeat (first|refine kN ?_ _|refine kD ?_|refine kA ?_ _)); refine blk_put (cs := #[.slice Ao123 t351.length co123, .slice Ao129 t354.length co129, .slice none 0 0]) ?_ 2 _ rfl; (with_reducible repeat (first|refine kN ?_ _|refine kD ?_|refine kA ?_ _)); refine blk_put (cs := #[.slice Ao123 t351.length co123, .slice none 0 0, .slice none 0 0]) ?_ 1 _ rfl; (with_reducible repeat (first|refine kN ?_ _|refine kD ?_|refine kA ?_ _)); refine blk_put (cs := #[.slice none 0 0, .slice none 0 0, .slice none 0 0]) ?_ 0 _ rfl; (with_reducible repeat (first|refine kN ?_ _|refine kD ?_|refine kA ?_ _)); exact BK361.out) hb); have n20_ := Aside0.mk (below_step (by repeat (first | (with_reducible first | exact HB.out|apply bA|apply bN|apply bD | refine below_set ?_ GE278.out | refine below_set ?_ GE299.out | refine below_set ?_ GE309.out | refine below_set ?_ GE320.out | refine below_set ?_ GE361.out) | exact HB.out)) hb); clear HO_300000 HO_300001 HO_300002 HO_310000 HO_310001 HO_310002 HO_321000 HO_321001 HO_321002 HO344 HO347 HO350 HO353 HO356 HO359 BK278 BK299 BK309 BK320 BK361 HB; have HO_300000 := n0_; have HO_300001 := n1_; have HO_300002 := n2_; have HO_310000 := n3_; have HO_310001 := n4_; have HO_310002 := n5_; have HO_321000 := n6_; have HO_321001 := n7_; have HO_321002 := n8_; have HO344 := n9_; have HO347 := n10_; have HO350 := n11_; have HO353 := n12_; have HO356 := n13_; have HO359 := n14_; have BK278 := n15_; have BK299 := n16_; have BK309 := n17_; have BK320 := n18_; have BK361 := n19_; have HB := n20_; clear n0_ n1_ n2_ n3_ n4_ n5_ n6_ n7_ n8_ n9_ n10_ n11_ n12_ n13_ n14_ n15_ n16_ n17_ n18_ n19_ n20_; (try clear hb); (try clear hb2); (try clear hk); (try clear hi)))
  go_meet
  case rel => exact ⟨_, ((t360 != t298)), vX, H', ⟨by have := HJ10.out; have := HJ67.out; first | omega | exact Nat.le_refl _⟩, ⟨by (try simp only [hl310000_67]); (try simp only [hl310001_67]); (try simp only [hl310002_67]); (with_reducible repeat (first|apply rA|apply rN|apply rD)); exact Kd.R_mono HO_300000.out (fun _ hk => ⟨hk.1.1.1.1.1.1.1, ⟨hk.1.1.1.1.1.1.2.1, ⟨hk.1.1.1.1.1.1.2.2.1, ⟨hk.1.1.1.1.1.1.2.2.2.1, ⟨hk.1.1.1.1.1.1.2.2.2.2.1, ⟨hk.1.1.1.1.1.1.2.2.2.2.2.1, ⟨hk.1.1.1.1.1.1.2.2.2.2.2.2.1, ⟨hk.1.1.1.1.1.1.2.2.2.2.2.2.2, ⟨hk.1.1.2, ⟨hk.1.2, hk.2⟩⟩⟩⟩⟩⟩⟩⟩⟩⟩)⟩, ⟨by (try simp only [hl310000_67]); (try simp only [hl310001_67]); (try simp only [hl310002_67]); (with_reducible repeat (first|apply rA|apply rN|apply rD)); exact Kd.R_mono HO_300001.out (fun _ hk => ⟨hk.1.1.1.1.1.1.1, ⟨hk.1.1.1.1.1.1.2.1, ⟨hk.1.1.1.1.1.1.2.2.1, ⟨hk.1.1.1.1.1.1.2.2.2.1, ⟨hk.1.1.1.1.1.1.2.2.2.2.1, ⟨hk.1.1.1.1.1.1.2.2.2.2.2.1, ⟨hk.1.1.1.1.1.1.2.2.2.2.2.2.1, ⟨hk.1.1.1.1.1.1.2.2.2.2.2.2.2, ⟨hk.1.1.2, ⟨hk.1.2, hk.2⟩⟩⟩⟩⟩⟩⟩⟩⟩⟩)⟩, ⟨by (try simp only [hl310000_67]); (try simp only [hl310001_67]); (try simp only [hl310002_67]); (with_reducible repeat (first|apply rA|apply rN|apply rD)); exact Kd.R_mono HO_300002.out (fun _ hk => ⟨hk.1.1.1.1.1.1.1, ⟨hk.1.1.1.1.1.1.2.1, ⟨hk.1.1.1.1.1.1.2.2.1, ⟨hk.1.1.1.1.1.1.2.2.2.1, ⟨hk.1.1.1.1.1.1.2.2.2.2.1, ⟨hk.1.1.1.1.1.1.2.2.2.2.2.1, ⟨hk.1.1.1.1.1.1.2.2.2.2.2.2.1, ⟨hk.1.1.1.1.1.1.2.2.2.2.2.2.2, ⟨hk.1.1.2, ⟨hk.1.2, hk.2⟩⟩⟩⟩⟩⟩⟩⟩⟩⟩)⟩, ⟨by (try simp only [hl310000_67]); (try simp only [hl310001_67]); (try simp only [hl310002_67]); (with_reducible repeat (first|apply rA|apply rN|apply rD)); exact Kd.R_mono HO_310000.out (fun _ hk => ⟨hk.1.1.1.1.1.1.1, ⟨hk.1.1.1.1.1.1.2.1, ⟨hk.1.1.1.1.1.1.2.2.1, ⟨hk.1.1.1.1.1.1.2.2.2.1, ⟨hk.1.1.1.1.1.1.2.2.2.2.1, ⟨hk.1.1.1.1.1.1.2.2.2.2.2.1, ⟨hk.1.1.1.1.1.1.2.2.2.2.2.2.1, ⟨hk.1.1.1.1.1.1.2.2.2.2.2.2.2, ⟨hk.1.1.2, ⟨hk.1.2, hk.2⟩⟩⟩⟩⟩⟩⟩⟩⟩⟩)⟩, ⟨by (try simp only [hl310000_67]); (try simp only [hl310001_67]); (try simp only [hl310002_67]); (with_reducible repeat (first|apply rA|apply rN|apply rD)); exact Kd.R_mono HO_310001.out (fun _ hk => ⟨hk.1.1.1.1.1.1.1, ⟨hk.1.1.1.1.1.1.2.1, ⟨hk.1.1.1.1.1.1.2.2.1, ⟨hk.1.1.1.1.1.1.2.2.2.1, ⟨hk.1.1.1.1.1.1.2.2.2.2.1, ⟨hk.1.1.1.1.1.1.2.2.2.2.2.1, ⟨hk.1.1.1.1.1.1.2.2.2.2.2.2.1, ⟨hk.1.1.1.1.1.1.2.2.2.2.2.2.2, ⟨hk.1.1.2, ⟨hk.1.2, hk.2⟩⟩⟩⟩⟩⟩⟩⟩⟩⟩)⟩, ⟨by (try simp only [hl310000_67]); (try simp only [hl310001_67]); (try simp only [hl310002_67]); (with_reducible repeat (first|apply rA|apply rN|apply rD)); exact Kd.R_mono HO_310002.out (fun _ hk => ⟨hk.1.1.1.1.1.1.1, ⟨hk.1.1.1.1.1.1.2.1, ⟨hk.1.1.1.1.1.1.2.2.1, ⟨hk.1.1.1.1.1.1.2.2.2.1, ⟨hk.1.1.1.1.1.1.2.2.2.2.1, ⟨hk.1.1.1.1.1.1.2.2.2.2.2.1, ⟨hk.1.1.1.1.1.1.2.2.2.2.2.2.1, ⟨hk.1.1.1.1.1.1.2.2.2.2.2.2.2, ⟨hk.1.1.2, ⟨hk.1.2, hk.2⟩⟩⟩⟩⟩⟩⟩⟩⟩⟩)⟩, ⟨by (try simp only [hl310000_67]); (try simp only [hl310001_67]); (try simp only [hl310002_67]); (with_reducible repeat (first|apply rA|apply rN|apply rD)); exact Kd.R_mono HO_321000.out (fun _ hk => ⟨hk.1.1.1.1.1.1.1, ⟨hk.1.1.1.1.1.1.2.1, ⟨hk.1.1.1.1.1.1.2.2.1, ⟨hk.1.1.1.1.1.1.2.2.2.1, ⟨hk.1.1.1.1.1.1.2.2.2.2.1, ⟨hk.1.1.1.1.1.1.2.2.2.2.2.1, ⟨hk.1.1.1.1.1.1.2.2.2.2.2.2.1, ⟨hk.1.1.1.1.1.1.2.2.2.2.2.2.2, ⟨hk.1.1.2, ⟨hk.1.2, hk.2⟩⟩⟩⟩⟩⟩⟩⟩⟩⟩)⟩, ⟨by (try simp only [hl310000_67]); (try simp only [hl310001_67]); (try simp only [hl310002_67]); (with_reducible repeat (first|apply rA|apply rN|apply rD)); exact Kd.R_mono HO_321001.out (fun _ hk => ⟨hk.1.1.1.1.1.1.1, ⟨hk.1.1.1.1.1.1.2.1, ⟨hk.1.1.1.1.1.1.2.2.1, ⟨hk.1.1.1.1.1.1.2.2.2.1, ⟨hk.1.1.1.1.1.1.2.2.2.2.1, ⟨hk.1.1.1.1.1.1.2.2.2.2.2.1, ⟨hk.1.1.1.1.1.1.2.2.2.2.2.2.1, ⟨hk.1.1.1.1.1.1.2.2.2.2.2.2.2, ⟨hk.1.1.2, ⟨hk.1.2, hk.2⟩⟩⟩⟩⟩⟩⟩⟩⟩⟩)⟩, ⟨by (try simp only [hl310000_67]); (try simp only [hl310001_67]); (try simp only [hl310002_67]); (with_reducible repeat (first|apply rA|apply rN|apply rD)); exact Kd.R_mono HO_321002.out (fun _ hk => ⟨hk.1.1.1.1.1.1.1, ⟨hk.1.1.1.1.1.1.2.1, ⟨hk.1.1.1.1.1.1.2.2.1, ⟨hk.1.1.1.1.1.1.2.2.2.1, ⟨hk.1.1.1.1.1.1.2.2.2.2.1, ⟨hk.1.1.1.1.1.1.2.2.2.2.2.1, ⟨hk.1.1.1.1.1.1.2.2.2.2.2.2.1, ⟨hk.1.1.1.1.1.1.2.2.2.2.2.2.2, ⟨hk.1.1.2, ⟨hk.1.2, hk.2⟩⟩⟩⟩⟩⟩⟩⟩⟩⟩)⟩, ⟨by (try simp only [hl310000_67]); (try simp only [hl310001_67]); (try simp only [hl310002_67]); (with_reducible repeat (first|apply rA|apply rN|apply rD)); exact Kd.R_mono HO353.out (fun _ hk => ⟨hk.1.1.1.1.1.1.1.1.1.1.1.2, ⟨hk.1.1.1.1.1.1.1.1.1.1.2, ⟨hk.1.1.1.1.1.1.1.1.1.2, ⟨hk.1.1.1.1.1.1.1.1.2, ⟨hk.1.1.1.1.1.1.1.2, ⟨hk.1.1.1.1.1.1.2, ⟨hk.1.1.1.1.1.2, ⟨hk.1.1.1.1.2, ⟨hk.1.1.1.2, ⟨hk.1.1.1.1.1.1.1.1.1.1.1.1.1, hk.1.1.1.1.1.1.1.1.1.1.1.1.2⟩⟩⟩⟩⟩⟩⟩⟩⟩⟩)⟩, ⟨by (try simp only [hl310000_67]); (try simp only [hl310001_67]); (try simp only [hl310002_67]); (with_reducible repeat (first|apply rA|apply rN|apply rD)); exact Kd.R_mono HO356.out (fun _ hk => ⟨hk.1.1.1.1.1.1.1.1.1.1.1.2, ⟨hk.1.1.1.1.1.1.1.1.1.1.2, ⟨hk.1.1.1.1.1.1.1.1.1.2, ⟨hk.1.1.1.1.1.1.1.1.2, ⟨hk.1.1.1.1.1.1.1.2, ⟨hk.1.1.1.1.1.1.2, ⟨hk.1.1.1.1.1.2, ⟨hk.1.1.1.1.2, ⟨hk.1.1.1.2, ⟨hk.1.1.1.1.1.1.1.1.1.1.1.1.1, hk.1.1.1.1.1.1.1.1.1.1.1.1.2⟩⟩⟩⟩⟩⟩⟩⟩⟩⟩)⟩, ⟨by (try simp only [hl310000_67]); (try simp only [hl310001_67]); (try simp only [hl310002_67]); (with_reducible repeat (first|apply rA|apply rN|apply rD)); exact Kd.R_mono HO359.out (fun _ hk => ⟨hk.1.1.1.1.1.1.1.1.1.1.1.2, ⟨hk.1.1.1.1.1.1.1.1.1.1.2, ⟨hk.1.1.1.1.1.1.1.1.1.2, ⟨hk.1.1.1.1.1.1.1.1.2, ⟨hk.1.1.1.1.1.1.1.2, ⟨hk.1.1.1.1.1.1.2, ⟨hk.1.1.1.1.1.2, ⟨hk.1.1.1.1.2, ⟨hk.1.1.1.2, ⟨hk.1.1.1.1.1.1.1.1.1.1.1.1.1, hk.1.1.1.1.1.1.1.1.1.1.1.1.2⟩⟩⟩⟩⟩⟩⟩⟩⟩⟩)⟩, ⟨by (try simp only [hl310000_67]); (try simp only [hl310001_67]); (try simp only [hl310002_67]); (with_reducible repeat (first|refine kN ?_ _|refine kD ?_|refine kA ?_ _)); exact BK278.out⟩, ⟨by (try simp only [hl310000_67]); (try simp only [hl310001_67]); (try simp only [hl310002_67]); (with_reducible repeat (first|refine kN ?_ _|refine kD ?_|refine kA ?_ _)); exact BK299.out⟩, ⟨by (try simp only [hl310000_67]); (try simp only [hl310001_67]); (try simp only [hl310002_67]); (with_reducible repeat (first|refine kN ?_ _|refine kD ?_|refine kA ?_ _)); exact BK309.out⟩, ⟨by (try simp only [hl310000_67]); (try simp only [hl310001_67]); (try simp only [hl310002_67]); (with_reducible repeat (first|refine kN ?_ _|refine kD ?_|refine kA ?_ _)); exact BK320.out⟩, ⟨by (try simp only [hl310000_67]); (try simp only [hl310001_67]); (try simp only [hl310002_67]); (with_reducible repeat (first|refine kN ?_ _|refine kD ?_|refine kA ?_ _)); exact BK361.out⟩, ⟨by repeat (first | (with_reducible first | exact HB.out|apply bA|apply bN|apply bD | refine below_set ?_ GE278.out | refine below_set ?_ GE299.out | refine below_set ?_ GE309.out | refine below_set ?_ GE320.out | refine below_set ?_ GE361.out) | exact HB.out)⟩⟩
  }
  {
  replace c132 := Bool.eq_false_iff.mpr c132
  subst c132
  have H1 : (laws_FnExactInduceOnce.j2 kj67 t337 true t338 t339 t340) = some r := by rw [if_neg (show ¬ (false = true) by decide)] at H; exact H
  clear H
  have H := H1
  clear H1
  have H' := Aside0.mk H
  clear H
  have hnb143 := NB361_278.out
  have hnc143 := NB278_361.out
  have hnb144 := NB361_299.out
  have hnc144 := NB299_361.out
  have hnb145 := NB361_309.out
  have hnc145 := NB309_361.out
  have hnb146 := NB361_320.out
  have hnc146 := NB320_361.out
  have hcz147_0 := cz30 BK361.out
  have hcz147_1 := cz31 BK361.out
  have hcz147_2 := cz32 BK361.out
  have hfz147_0 := blk_frozen BK361.out 0
  have hfz147_1 := blk_frozen BK361.out 1
  have hfz147_2 := blk_frozen BK361.out 2
  have hnb148 := NB299_278.out
  have hnc148 := NB278_299.out
  have hnb149 := NB299_309.out
  have hnc149 := NB309_299.out
  have hnb150 := NB299_320.out
  have hnc150 := NB320_299.out
  have hcz151_0 := cz30 BK299.out
  have hcz151_1 := cz31 BK299.out
  have hcz151_2 := cz32 BK299.out
  have hfz151_0 := blk_frozen BK299.out 0
  have hfz151_1 := blk_frozen BK299.out 1
  have hfz151_2 := blk_frozen BK299.out 2
  go_wp2_with (first | ((with_reducible refine gate_callee (f := 10) rfl ?_); refine goesL_ (some 81) rfl rfl Try.func10 (by kernel_rfl) rfl #[.agg #[.slice Ao123 t351.length co123, .slice Ao129 t354.length co129, .slice Ao130 t357.length co130], .agg #[.slice Ao22 t289.length co22, .slice Ao25 t292.length co25, .slice Ao26 t295.length co26]] rfl aX ?_; (with_reducible refine (laws_eqExchange.calls kj67 _ _ t351 _ _ t354 _ _ t357 _ _ t289 _ _ t292 _ _ t295 false _ ?side1 ?side2 ?side3 ?side4 ?side5 ?side6 ?side7 ?side8 ?side9 ?side10 ?side11 ?side12 A131.out).mono ?_); (case side1 => exact rcX (fr3 HO353.out BK361.out (.slice Ao123 t351.length co123) (.slice Ao129 t354.length co129) (.slice Ao130 t357.length co130))); (case side2 => exact (Kd.R_reads' HO353.out).2.1); (case side3 => exact rcX (fr3 HO356.out BK361.out (.slice Ao123 t351.length co123) (.slice Ao129 t354.length co129) (.slice Ao130 t357.length co130))); (case side4 => exact (Kd.R_reads' HO356.out).2.1); (case side5 => exact rcX (fr3 HO359.out BK361.out (.slice Ao123 t351.length co123) (.slice Ao129 t354.length co129) (.slice Ao130 t357.length co130))); (case side6 => exact (Kd.R_reads' HO359.out).2.1); (case side7 => exact rcX (fr3 HO_300000.out BK361.out (.slice Ao123 t351.length co123) (.slice Ao129 t354.length co129) (.slice Ao130 t357.length co130))); (case side8 => exact (Kd.R_reads' HO_300000.out).2.1); (case side9 => exact rcX (fr3 HO_300001.out BK361.out (.slice Ao123 t351.length co123) (.slice Ao129 t354.length co129) (.slice Ao130 t357.length co130))); (case side10 => exact (Kd.R_reads' HO_300001.out).2.1); (case side11 => exact rcX (fr3 HO_300002.out BK361.out (.slice Ao123 t351.length co123) (.slice Ao129 t354.length co129) (.slice Ao130 t357.length co130))); (case side12 => exact (Kd.R_reads' HO_300002.out).2.1); rintro e w152 ⟨rfl, hb⟩; refine ⟨_, rfl, ?_⟩; have n0_ := Aside0.mk (Kd.R_below (rX (fr3 HO_300000.out BK361.out (.slice Ao123 t351.length co123) (.slice Ao129 t354.length co129) (.slice Ao130 t357.length co130))) hb); have n1_ := Aside0.mk (Kd.R_below (rX (fr3 HO_300001.out BK361.out (.slice Ao123 t351.length co123) (.slice Ao129 t354.length co129) (.slice Ao130 t357.length co130))) hb); have n2_ := Aside0.mk (Kd.R_below (rX (fr3 HO_300002.out BK361.out (.slice Ao123 t351.length co123) (.slice Ao129 t354.length co129) (.slice Ao130 t357.length co130))) hb); have n3_ := Aside0.mk (Kd.R_below (rX (fr3 HO_310000.out BK361.out (.slice Ao123 t351.length co123) (.slice Ao129 t354.length co129) (.slice Ao130 t357.length co130))) hb); have n4_ := Aside0.mk (Kd.R_below (rX (fr3 HO_310001.out BK361.out (.slice Ao123 t351.length co123) (.slice Ao129 t354.length co129) (.slice Ao130 t357.length co130))) hb); have n5_ := Aside0.mk (Kd.R_below (rX (fr3 HO_310002.out BK361.out (.slice Ao123 t351.length co123) (.slice Ao129 t354.length co129) (.slice Ao130 t357.length co130))) hb); have n6_ := Aside0.mk (Kd.R_below (rX (fr3 HO_321000.out BK361.out (.slice Ao123 t351.length co123) (.slice Ao129 t354.length co129) (.slice Ao130 t357.length co130))) hb); have n7_ := Aside0.mk (Kd.R_below (rX (fr3 HO_321001.out BK361.out (.slice Ao123 t351.length co123) (.slice Ao129 t354.length co129) (.slice Ao130 t357.length co130))) hb); have n8_ := Aside0.mk (Kd.R_below (rX (fr3 HO_321002.out BK361.out (.slice Ao123 t351.length co123) (.slice Ao129 t354.length co129) (.slice Ao130 t357.length co130))) hb); have n9_ := Aside0.mk (Kd.R_below (rX (fr3 HO344.out BK361.out (.slice Ao123 t351.length co123) (.slice Ao129 t354.length co129) (.slice Ao130 t357.length co130))) hb); have n10_ := Aside0.mk (Kd.R_below (rX (fr3 HO347.out BK361.out (.slice Ao123 t351.length co123) (.slice Ao129 t354.length co129) (.slice Ao130 t357.length co130))) hb); have n11_ := Aside0.mk (Kd.R_below (rX (fr3 HO350.out BK361.out (.slice Ao123 t351.length co123) (.slice Ao129 t354.length co129) (.slice Ao130 t357.length co130))) hb); have n12_ := Aside0.mk (Kd.R_below (rX (fr3 HO353.out BK361.out (.slice Ao123 t351.length co123) (.slice Ao129 t354.length co129) (.slice Ao130 t357.length co130))) hb); have n13_ := Aside0.mk (Kd.R_below (rX (fr3 HO356.out BK361.out (.slice Ao123 t351.length co123) (.slice Ao129 t354.length co129) (.slice Ao130 t357.length co130))) hb); have n14_ := Aside0.mk (Kd.R_below (rX (fr3 HO359.out BK361.out (.slice Ao123 t351.length co123) (.slice Ao129 t354.length co129) (.slice Ao130 t357.length co130))) hb); have n15_ := Aside0.mk (blk_below (g := gb278) (o := .cells #[.slice A0_0 l0_0.length c0_0, .slice A0_1 l0_1.length c0_1, .slice A0_2 l0_2.length c0_2] 24 (0, 0)) (by (with_reducible repeat (first|refine kN ?_ _|refine kD ?_|refine kA ?_ _)); refine blk_far ?_ NB278_361.out _; (with_reducible repeat (first|refine kN ?_ _|refine kD ?_|refine kA ?_ _)); refine blk_far ?_ NB278_361.out _; (with_reducible repeat (first|refine kN ?_ _|refine kD ?_|refine kA ?_ _)); refine blk_far ?_ NB278_361.out _; (with_reducible repeat (first|refine kN ?_ _|refine kD ?_|refine kA ?_ _)); exact BK278.out) hb); have n16_ := Aside0.mk (blk_below (g := gb299) (o := .cells #[.slice Ao22 t289.length co22, .slice Ao25 t292.length co25, .slice Ao26 t295.length co26] 26 (0, 0)) (by (with_reducible repeat (first|refine kN ?_ _|refine kD ?_|refine kA ?_ _)); refine blk_far ?_ NB299_361.out _; (with_reducible repeat (first|refine kN ?_ _|refine kD ?_|refine kA ?_ _)); refine blk_far ?_ NB299_361.out _; (with_reducible repeat (first|refine kN ?_ _|refine kD ?_|refine kA ?_ _)); refine blk_far ?_ NB299_361.out _; (with_reducible repeat (first|refine kN ?_ _|refine kD ?_|refine kA ?_ _)); exact BK299.out) hb); have n17_ := Aside0.mk (blk_below (g := gb309) (o := .cells #[.slice Ao30 t333.length co30, .slice Ao34 t334.length co34, .slice Ao35 t335.length co35] 26 (0, 0)) (by (with_reducible repeat (first|refine kN ?_ _|refine kD ?_|refine kA ?_ _)); refine blk_far ?_ NB309_361.out _; (with_reducible repeat (first|refine kN ?_ _|refine kD ?_|refine kA ?_ _)); refine blk_far ?_ NB309_361.out _; (with_reducible repeat (first|refine kN ?_ _|refine kD ?_|refine kA ?_ _)); refine blk_far ?_ NB309_361.out _; (with_reducible repeat (first|refine kN ?_ _|refine kD ?_|refine kA ?_ _)); exact BK309.out) hb); have n18_ := Aside0.mk (blk_below (g := gb320) (o := .cells #[.slice Ao38 t310.length co38, .slice Ao43 t313.length co43, .slice Ao44 t316.length co44] 26 (0, 0)) (by (with_reducible repeat (first|refine kN ?_ _|refine kD ?_|refine kA ?_ _)); refine blk_far ?_ NB320_361.out _; (with_reducible repeat (first|refine kN ?_ _|refine kD ?_|refine kA ?_ _)); refine blk_far ?_ NB320_361.out _; (with_reducible repeat (first|refine kN ?_ _|refine kD ?_|refine kA ?_ _)); refine blk_far ?_ NB320_361.out _; (with_reducible repeat (first|refine kN ?_ _|refine kD ?_|refine kA ?_ _)); exact BK320.out) hb); have n19_ := Aside0.mk (blk_below (g := gb361) (o := .cells #[.slice Ao123 t351.length co123, .slice Ao129 t354.length co129, .slice Ao130 t357.length co130] 26 (0, 0)) (by (with_reducible repeat (first|refine kN ?_ _|refine kD ?_|refine kA ?_ _)); refine blk_put (cs := #[.slice Ao123 t351.length co123, .slice Ao129 t354.length co129, .slice none 0 0]) ?_ 2 _ rfl; (with_reducible repeat (first|refine kN ?_ _|refine kD ?_|refine kA ?_ _)); refine blk_put (cs := #[.slice Ao123 t351.length co123, .slice none 0 0, .slice none 0 0]) ?_ 1 _ rfl; (with_reducible repeat (first|refine kN ?_ _|refine kD ?_|refine kA ?_ _)); refine blk_put (cs := #[.slice none 0 0, .slice none 0 0, .slice none 0 0]) ?_ 0 _ rfl; (with_reducible repeat (first|refine kN ?_ _|refine kD ?_|refine kA ?_ _)); exact BK361.out) hb); have n20_ := Aside0.mk (below_step (by repeat (first | (with_reducible first | exact HB.out|apply bA|apply bN|apply bD | refine below_set ?_ GE278.out | refine below_set ?_ GE299.out | refine below_set ?_ GE309.out | refine below_set ?_ GE320.out | refine below_set ?_ GE361.out) | exact HB.out)) hb); clear HO_300000 HO_300001 HO_300002 HO_310000 HO_310001 HO_310002 HO_321000 HO_321001 HO_321002 HO344 HO347 HO350 HO353 HO356 HO359 BK278 BK299 BK309 BK320 BK361 HB; have HO_300000 := n0_; have HO_300001 := n1_; have HO_300002 := n2_; have HO_310000 := n3_; have HO_310001 := n4_; have HO_310002 := n5_; have HO_321000 := n6_; have HO_321001 := n7_; have HO_321002 := n8_; have HO344 := n9_; have HO347 := n10_; have HO350 := n11_; have HO353 := n12_; have HO356 := n13_; have HO359 := n14_; have BK278 := n15_; have BK299 := n16_; have BK309 := n17_; have BK320 := n18_; have BK361 := n19_; have HB := n20_; clear n0_ n1_ n2_ n3_ n4_ n5_ n6_ n7_ n8_ n9_ n10_ n11_ n12_ n13_ n14_ n15_ n16_ n17_ n18_ n19_ n20_; (try clear hb); (try clear hb2); (try clear hk); (try clear hi)))
  go_meet
  case rel => exact ⟨_, (true), vX, H', ⟨by have := HJ10.out; have := HJ67.out; first | omega | exact Nat.le_refl _⟩, ⟨by (try simp only [hl310000_67]); (try simp only [hl310001_67]); (try simp only [hl310002_67]); (with_reducible repeat (first|apply rA|apply rN|apply rD)); exact Kd.R_mono HO_300000.out (fun _ hk => ⟨hk.1.1.1.1.1.1.1, ⟨hk.1.1.1.1.1.1.2.1, ⟨hk.1.1.1.1.1.1.2.2.1, ⟨hk.1.1.1.1.1.1.2.2.2.1, ⟨hk.1.1.1.1.1.1.2.2.2.2.1, ⟨hk.1.1.1.1.1.1.2.2.2.2.2.1, ⟨hk.1.1.1.1.1.1.2.2.2.2.2.2.1, ⟨hk.1.1.1.1.1.1.2.2.2.2.2.2.2, ⟨hk.1.1.2, ⟨hk.1.2, hk.2⟩⟩⟩⟩⟩⟩⟩⟩⟩⟩)⟩, ⟨by (try simp only [hl310000_67]); (try simp only [hl310001_67]); (try simp only [hl310002_67]); (with_reducible repeat (first|apply rA|apply rN|apply rD)); exact Kd.R_mono HO_300001.out (fun _ hk => ⟨hk.1.1.1.1.1.1.1, ⟨hk.1.1.1.1.1.1.2.1, ⟨hk.1.1.1.1.1.1.2.2.1, ⟨hk.1.1.1.1.1.1.2.2.2.1, ⟨hk.1.1.1.1.1.1.2.2.2.2.1, ⟨hk.1.1.1.1.1.1.2.2.2.2.2.1, ⟨hk.1.1.1.1.1.1.2.2.2.2.2.2.1, ⟨hk.1.1.1.1.1.1.2.2.2.2.2.2.2, ⟨hk.1.1.2, ⟨hk.1.2, hk.2⟩⟩⟩⟩⟩⟩⟩⟩⟩⟩)⟩, ⟨by (try simp only [hl310000_67]); (try simp only [hl310001_67]); (try simp only [hl310002_67]); (with_reducible repeat (first|apply rA|apply rN|apply rD)); exact Kd.R_mono HO_300002.out (fun _ hk => ⟨hk.1.1.1.1.1.1.1, ⟨hk.1.1.1.1.1.1.2.1, ⟨hk.1.1.1.1.1.1.2.2.1, ⟨hk.1.1.1.1.1.1.2.2.2.1, ⟨hk.1.1.1.1.1.1.2.2.2.2.1, ⟨hk.1.1.1.1.1.1.2.2.2.2.2.1, ⟨hk.1.1.1.1.1.1.2.2.2.2.2.2.1, ⟨hk.1.1.1.1.1.1.2.2.2.2.2.2.2, ⟨hk.1.1.2, ⟨hk.1.2, hk.2⟩⟩⟩⟩⟩⟩⟩⟩⟩⟩)⟩, ⟨by (try simp only [hl310000_67]); (try simp only [hl310001_67]); (try simp only [hl310002_67]); (with_reducible repeat (first|apply rA|apply rN|apply rD)); exact Kd.R_mono HO_310000.out (fun _ hk => ⟨hk.1.1.1.1.1.1.1, ⟨hk.1.1.1.1.1.1.2.1, ⟨hk.1.1.1.1.1.1.2.2.1, ⟨hk.1.1.1.1.1.1.2.2.2.1, ⟨hk.1.1.1.1.1.1.2.2.2.2.1, ⟨hk.1.1.1.1.1.1.2.2.2.2.2.1, ⟨hk.1.1.1.1.1.1.2.2.2.2.2.2.1, ⟨hk.1.1.1.1.1.1.2.2.2.2.2.2.2, ⟨hk.1.1.2, ⟨hk.1.2, hk.2⟩⟩⟩⟩⟩⟩⟩⟩⟩⟩)⟩, ⟨by (try simp only [hl310000_67]); (try simp only [hl310001_67]); (try simp only [hl310002_67]); (with_reducible repeat (first|apply rA|apply rN|apply rD)); exact Kd.R_mono HO_310001.out (fun _ hk => ⟨hk.1.1.1.1.1.1.1, ⟨hk.1.1.1.1.1.1.2.1, ⟨hk.1.1.1.1.1.1.2.2.1, ⟨hk.1.1.1.1.1.1.2.2.2.1, ⟨hk.1.1.1.1.1.1.2.2.2.2.1, ⟨hk.1.1.1.1.1.1.2.2.2.2.2.1, ⟨hk.1.1.1.1.1.1.2.2.2.2.2.2.1, ⟨hk.1.1.1.1.1.1.2.2.2.2.2.2.2, ⟨hk.1.1.2, ⟨hk.1.2, hk.2⟩⟩⟩⟩⟩⟩⟩⟩⟩⟩)⟩, ⟨by (try simp only [hl310000_67]); (try simp only [hl310001_67]); (try simp only [hl310002_67]); (with_reducible repeat (first|apply rA|apply rN|apply rD)); exact Kd.R_mono HO_310002.out (fun _ hk => ⟨hk.1.1.1.1.1.1.1, ⟨hk.1.1.1.1.1.1.2.1, ⟨hk.1.1.1.1.1.1.2.2.1, ⟨hk.1.1.1.1.1.1.2.2.2.1, ⟨hk.1.1.1.1.1.1.2.2.2.2.1, ⟨hk.1.1.1.1.1.1.2.2.2.2.2.1, ⟨hk.1.1.1.1.1.1.2.2.2.2.2.2.1, ⟨hk.1.1.1.1.1.1.2.2.2.2.2.2.2, ⟨hk.1.1.2, ⟨hk.1.2, hk.2⟩⟩⟩⟩⟩⟩⟩⟩⟩⟩)⟩, ⟨by (try simp only [hl310000_67]); (try simp only [hl310001_67]); (try simp only [hl310002_67]); (with_reducible repeat (first|apply rA|apply rN|apply rD)); exact Kd.R_mono HO_321000.out (fun _ hk => ⟨hk.1.1.1.1.1.1.1, ⟨hk.1.1.1.1.1.1.2.1, ⟨hk.1.1.1.1.1.1.2.2.1, ⟨hk.1.1.1.1.1.1.2.2.2.1, ⟨hk.1.1.1.1.1.1.2.2.2.2.1, ⟨hk.1.1.1.1.1.1.2.2.2.2.2.1, ⟨hk.1.1.1.1.1.1.2.2.2.2.2.2.1, ⟨hk.1.1.1.1.1.1.2.2.2.2.2.2.2, ⟨hk.1.1.2, ⟨hk.1.2, hk.2⟩⟩⟩⟩⟩⟩⟩⟩⟩⟩)⟩, ⟨by (try simp only [hl310000_67]); (try simp only [hl310001_67]); (try simp only [hl310002_67]); (with_reducible repeat (first|apply rA|apply rN|apply rD)); exact Kd.R_mono HO_321001.out (fun _ hk => ⟨hk.1.1.1.1.1.1.1, ⟨hk.1.1.1.1.1.1.2.1, ⟨hk.1.1.1.1.1.1.2.2.1, ⟨hk.1.1.1.1.1.1.2.2.2.1, ⟨hk.1.1.1.1.1.1.2.2.2.2.1, ⟨hk.1.1.1.1.1.1.2.2.2.2.2.1, ⟨hk.1.1.1.1.1.1.2.2.2.2.2.2.1, ⟨hk.1.1.1.1.1.1.2.2.2.2.2.2.2, ⟨hk.1.1.2, ⟨hk.1.2, hk.2⟩⟩⟩⟩⟩⟩⟩⟩⟩⟩)⟩, ⟨by (try simp only [hl310000_67]); (try simp only [hl310001_67]); (try simp only [hl310002_67]); (with_reducible repeat (first|apply rA|apply rN|apply rD)); exact Kd.R_mono HO_321002.out (fun _ hk => ⟨hk.1.1.1.1.1.1.1, ⟨hk.1.1.1.1.1.1.2.1, ⟨hk.1.1.1.1.1.1.2.2.1, ⟨hk.1.1.1.1.1.1.2.2.2.1, ⟨hk.1.1.1.1.1.1.2.2.2.2.1, ⟨hk.1.1.1.1.1.1.2.2.2.2.2.1, ⟨hk.1.1.1.1.1.1.2.2.2.2.2.2.1, ⟨hk.1.1.1.1.1.1.2.2.2.2.2.2.2, ⟨hk.1.1.2, ⟨hk.1.2, hk.2⟩⟩⟩⟩⟩⟩⟩⟩⟩⟩)⟩, ⟨by (try simp only [hl310000_67]); (try simp only [hl310001_67]); (try simp only [hl310002_67]); (with_reducible repeat (first|apply rA|apply rN|apply rD)); exact Kd.R_mono HO353.out (fun _ hk => ⟨hk.1.1.1.1.1.1.1.1.1.1.1.2, ⟨hk.1.1.1.1.1.1.1.1.1.1.2, ⟨hk.1.1.1.1.1.1.1.1.1.2, ⟨hk.1.1.1.1.1.1.1.1.2, ⟨hk.1.1.1.1.1.1.1.2, ⟨hk.1.1.1.1.1.1.2, ⟨hk.1.1.1.1.1.2, ⟨hk.1.1.1.1.2, ⟨hk.1.1.1.2, ⟨hk.1.1.1.1.1.1.1.1.1.1.1.1.1, hk.1.1.1.1.1.1.1.1.1.1.1.1.2⟩⟩⟩⟩⟩⟩⟩⟩⟩⟩)⟩, ⟨by (try simp only [hl310000_67]); (try simp only [hl310001_67]); (try simp only [hl310002_67]); (with_reducible repeat (first|apply rA|apply rN|apply rD)); exact Kd.R_mono HO356.out (fun _ hk => ⟨hk.1.1.1.1.1.1.1.1.1.1.1.2, ⟨hk.1.1.1.1.1.1.1.1.1.1.2, ⟨hk.1.1.1.1.1.1.1.1.1.2, ⟨hk.1.1.1.1.1.1.1.1.2, ⟨hk.1.1.1.1.1.1.1.2, ⟨hk.1.1.1.1.1.1.2, ⟨hk.1.1.1.1.1.2, ⟨hk.1.1.1.1.2, ⟨hk.1.1.1.2, ⟨hk.1.1.1.1.1.1.1.1.1.1.1.1.1, hk.1.1.1.1.1.1.1.1.1.1.1.1.2⟩⟩⟩⟩⟩⟩⟩⟩⟩⟩)⟩, ⟨by (try simp only [hl310000_67]); (try simp only [hl310001_67]); (try simp only [hl310002_67]); (with_reducible repeat (first|apply rA|apply rN|apply rD)); exact Kd.R_mono HO359.out (fun _ hk => ⟨hk.1.1.1.1.1.1.1.1.1.1.1.2, ⟨hk.1.1.1.1.1.1.1.1.1.1.2, ⟨hk.1.1.1.1.1.1.1.1.1.2, ⟨hk.1.1.1.1.1.1.1.1.2, ⟨hk.1.1.1.1.1.1.1.2, ⟨hk.1.1.1.1.1.1.2, ⟨hk.1.1.1.1.1.2, ⟨hk.1.1.1.1.2, ⟨hk.1.1.1.2, ⟨hk.1.1.1.1.1.1.1.1.1.1.1.1.1, hk.1.1.1.1.1.1.1.1.1.1.1.1.2⟩⟩⟩⟩⟩⟩⟩⟩⟩⟩)⟩, ⟨by (try simp only [hl310000_67]); (try simp only [hl310001_67]); (try simp only [hl310002_67]); (with_reducible repeat (first|refine kN ?_ _|refine kD ?_|refine kA ?_ _)); exact BK278.out⟩, ⟨by (try simp only [hl310000_67]); (try simp only [hl310001_67]); (try simp only [hl310002_67]); (with_reducible repeat (first|refine kN ?_ _|refine kD ?_|refine kA ?_ _)); exact BK299.out⟩, ⟨by (try simp only [hl310000_67]); (try simp only [hl310001_67]); (try simp only [hl310002_67]); (with_reducible repeat (first|refine kN ?_ _|refine kD ?_|refine kA ?_ _)); exact BK309.out⟩, ⟨by (try simp only [hl310000_67]); (try simp only [hl310001_67]); (try simp only [hl310002_67]); (with_reducible repeat (first|refine kN ?_ _|refine kD ?_|refine kA ?_ _)); exact BK320.out⟩, ⟨by (try simp only [hl310000_67]); (try simp only [hl310001_67]); (try simp only [hl310002_67]); (with_reducible repeat (first|refine kN ?_ _|refine kD ?_|refine kA ?_ _)); exact BK361.out⟩, ⟨by repeat (first | (with_reducible first | exact HB.out|apply bA|apply bN|apply bD | refine below_set ?_ GE278.out | refine below_set ?_ GE299.out | refine below_set ?_ GE309.out | refine below_set ?_ GE320.out | refine below_set ?_ GE361.out) | exact HB.out)⟩⟩
  }
 case rest =>
 clear HC106
 try clear c1
 try clear c2
 try clear p2
 try clear c3
 try clear c3b0
 try clear c4
 try clear c5
 try clear c6
 try clear c7
 try clear c8
 try clear c9
 try clear c10
 try clear c11
 try clear c12
 try clear c13
 try clear c14
 try clear c15
 try clear c23
 try clear c31
 try clear c32
 try clear c39
 try clear c40
 try clear c41
 try clear c46
 try clear c47
 try clear c48
 try clear c49
 try clear c51
 try clear c52
 try clear c55
 try clear c56
 try clear c57
 try clear c59
 try clear c60
 try clear c63
 try clear c66
 try clear c75
 try clear c76
 try clear c77
 try clear c80
 try clear c80b0
 try clear c82
 try clear c83
 try clear c84
 try clear c85
 try clear c87
 try clear c88
 try clear c91
 try clear c92
 try clear c93
 try clear c95
 try clear c96
 try clear c99
 try clear c102
 try clear c102b0
 try clear c103
 try clear c103b0
 try clear c103b1
 try clear c107
 try clear c108
 try clear c109
 try clear c114
 try clear c115
 try clear c124
 try clear c125
 try clear c126
 try clear c127
 try clear c132
 try clear c133
 try clear c134
 try clear c135
 try clear c136
 try clear c138
 try clear c139
 try clear c140
 try clear c143
 try clear c144
 try clear c145
 try clear c146
 try clear c148
 try clear c149
 try clear c150
 try clear hcz110_0
 try clear hcz110_1
 try clear hcz110_2
 try clear hcz112_0
 try clear hcz112_1
 try clear hcz112_2
 try clear hcz116_0
 try clear hcz116_1
 try clear hcz116_2
 try clear hcz128_0
 try clear hcz128_1
 try clear hcz128_2
 try clear hcz137_0
 try clear hcz137_1
 try clear hcz137_2
 try clear hcz13_0
 try clear hcz13_1
 try clear hcz13_2
 try clear hcz141_0
 try clear hcz141_1
 try clear hcz141_2
 try clear hcz147_0
 try clear hcz147_1
 try clear hcz147_2
 try clear hcz151_0
 try clear hcz151_1
 try clear hcz151_2
 try clear hcz15_0
 try clear hcz15_1
 try clear hcz15_2
 try clear hcz24_0
 try clear hcz24_1
 try clear hcz24_2
 try clear hcz27_0
 try clear hcz27_1
 try clear hcz27_2
 try clear hcz33_0
 try clear hcz33_1
 try clear hcz33_2
 try clear hcz42_0
 try clear hcz42_1
 try clear hcz42_2
 try clear hcz50_0
 try clear hcz50_1
 try clear hcz50_2
 try clear hcz53_0
 try clear hcz53_1
 try clear hcz53_2
 try clear hcz58_0
 try clear hcz58_1
 try clear hcz58_2
 try clear hcz5_0
 try clear hcz5_1
 try clear hcz5_2
 try clear hcz61_0
 try clear hcz61_1
 try clear hcz61_2
 try clear hcz78_0
 try clear hcz78_1
 try clear hcz78_2
 try clear hcz86_0
 try clear hcz86_1
 try clear hcz86_2
 try clear hcz89_0
 try clear hcz89_1
 try clear hcz89_2
 try clear hcz94_0
 try clear hcz94_1
 try clear hcz94_2
 try clear hcz97_0
 try clear hcz97_1
 try clear hcz97_2
 try clear hfz110_0
 try clear hfz110_1
 try clear hfz110_2
 try clear hfz112_0
 try clear hfz112_1
 try clear hfz112_2
 try clear hfz116_0
 try clear hfz116_1
 try clear hfz116_2
 try clear hfz128_0
 try clear hfz128_1
 try clear hfz128_2
 try clear hfz137_0
 try clear hfz137_1
 try clear hfz137_2
 try clear hfz13_0
 try clear hfz13_1
 try clear hfz13_2
 try clear hfz141_0
 try clear hfz141_1
 try clear hfz141_2
 try clear hfz147_0
 try clear hfz147_1
 try clear hfz147_2
 try clear hfz151_0
 try clear hfz151_1
 try clear hfz151_2
 try clear hfz15_0
 try clear hfz15_1
 try clear hfz15_2
 try clear hfz24_0
 try clear hfz24_1
 try clear hfz24_2
 try clear hfz27_0
 try clear hfz27_1
 try clear hfz27_2
 try clear hfz33_0
 try clear hfz33_1
 try clear hfz33_2
 try clear hfz42_0
 try clear hfz42_1
 try clear hfz42_2
 try clear hfz50_0
 try clear hfz50_1
 try clear hfz50_2
 try clear hfz53_0
 try clear hfz53_1
 try clear hfz53_2
 try clear hfz58_0
 try clear hfz58_1
 try clear hfz58_2
 try clear hfz5_0
 try clear hfz5_1
 try clear hfz5_2
 try clear hfz61_0
 try clear hfz61_1
 try clear hfz61_2
 try clear hfz78_0
 try clear hfz78_1
 try clear hfz78_2
 try clear hfz86_0
 try clear hfz86_1
 try clear hfz86_2
 try clear hfz89_0
 try clear hfz89_1
 try clear hfz89_2
 try clear hfz94_0
 try clear hfz94_1
 try clear hfz94_2
 try clear hfz97_0
 try clear hfz97_1
 try clear hfz97_2
 try clear p2
 obtain ⟨kq, x87_105, rfl, HA, HJ105, HO_300000, HO_300001, HO_300002, HO_310000, HO_310001, HO_310002, HO_321000, HO_321001, HO_321002, HO_362000, HO_362001, HO_362002, BK278, BK299, BK309, BK320, BK361, HB⟩ := hcut
 have hl321000_105 := (Kd.R_reads' HO_321000.out).1
 rw [hl321000_105] at HO_321000
 (try simp only [hl321000_105])
 (try simp only [hl321000_105] at BK278)
 (try simp only [hl321000_105] at BK299)
 (try simp only [hl321000_105] at BK309)
 (try simp only [hl321000_105] at BK320)
 (try simp only [hl321000_105] at BK361)
 (try simp only [hl321000_105] at HO_300000)
 (try simp only [hl321000_105] at HO_300001)
 (try simp only [hl321000_105] at HO_300002)
 (try simp only [hl321000_105] at HO_310000)
 (try simp only [hl321000_105] at HO_310001)
 (try simp only [hl321000_105] at HO_310002)
 (try simp only [hl321000_105] at HO_321001)
 (try simp only [hl321000_105] at HO_321002)
 (try simp only [hl321000_105] at HO_362000)
 (try simp only [hl321000_105] at HO_362001)
 (try simp only [hl321000_105] at HO_362002)
 have hl321001_105 := (Kd.R_reads' HO_321001.out).1
 rw [hl321001_105] at HO_321001
 (try simp only [hl321001_105])
 (try simp only [hl321001_105] at BK278)
 (try simp only [hl321001_105] at BK299)
 (try simp only [hl321001_105] at BK309)
 (try simp only [hl321001_105] at BK320)
 (try simp only [hl321001_105] at BK361)
 (try simp only [hl321001_105] at HO_300000)
 (try simp only [hl321001_105] at HO_300001)
 (try simp only [hl321001_105] at HO_300002)
 (try simp only [hl321001_105] at HO_310000)
 (try simp only [hl321001_105] at HO_310001)
 (try simp only [hl321001_105] at HO_310002)
 (try simp only [hl321001_105] at HO_321000)
 (try simp only [hl321001_105] at HO_321002)
 (try simp only [hl321001_105] at HO_362000)
 (try simp only [hl321001_105] at HO_362001)
 (try simp only [hl321001_105] at HO_362002)
 have hl321002_105 := (Kd.R_reads' HO_321002.out).1
 rw [hl321002_105] at HO_321002
 (try simp only [hl321002_105])
 (try simp only [hl321002_105] at BK278)
 (try simp only [hl321002_105] at BK299)
 (try simp only [hl321002_105] at BK309)
 (try simp only [hl321002_105] at BK320)
 (try simp only [hl321002_105] at BK361)
 (try simp only [hl321002_105] at HO_300000)
 (try simp only [hl321002_105] at HO_300001)
 (try simp only [hl321002_105] at HO_300002)
 (try simp only [hl321002_105] at HO_310000)
 (try simp only [hl321002_105] at HO_310001)
 (try simp only [hl321002_105] at HO_310002)
 (try simp only [hl321002_105] at HO_321000)
 (try simp only [hl321002_105] at HO_321001)
 (try simp only [hl321002_105] at HO_362000)
 (try simp only [hl321002_105] at HO_362001)
 (try simp only [hl321002_105] at HO_362002)
 cases kq with
 | zero => exact absurd HA.out (by simp [laws_FnExactInduceOnce.j2])
 | succ kj105 =>
 have H := HA.out
 clear HA
 simp only [laws_FnExactInduceOnce.j2] at H
 by_cases c153 : x87_105 = true
 {
 subst c153
 have H1 : (some false) = some r := by rw [if_pos rfl] at H; exact H
 clear H
 have H := H1
 clear H1
 exact absurd ((Option.some.inj H).trans HRT.out) (by decide)
 }
 {
 replace c153 := Bool.eq_false_iff.mpr c153
 subst c153
 have H1 : ((laws_heldExchange.f kj105 t338 t339 t340 1).bind fun t363 => (if t363 < 0 then (some false) else (if t363 = t337 then (some true) else (some false)))) = some r := by rw [if_neg (show ¬ (false = true) by decide)] at H; exact H
 clear H
 have H := H1
 clear H1
 replace H := Option.bind_eq_some_iff.mp H
 obtain ⟨t363, A1540, H⟩ := H
 replace H : (if t363 < 0 then (some false) else (if t363 = t337 then (some true) else (some false))) = some r := H
 have A154 := Aside0.mk A1540
 clear A1540
 by_cases c155 : t363 < 0
 {
 rw [if_pos c155] at H
 have c155b0 : decide (t363 < 0) = true := decide_eq_true c155
 clear c155
 exact absurd ((Option.some.inj H).trans HRT.out) (by decide)
 }
 {
 rw [if_neg c155] at H
 have c155b0 : decide (t363 < 0) = false := decide_eq_false c155
 clear c155
 by_cases c156 : t363 = t337
 {
 rw [if_pos c156] at H
 have c156b0 : (t363 == t337) = true := beq_iff_eq.mpr c156
 have c156b1 : (t363 != t337) = false := bne_eq_false_iff_eq.mpr c156
 clear c156
 obtain rfl := Option.some.inj H
 have hnb157 := NB320_278.out
 have hnc157 := NB278_320.out
 have hnb158 := NB320_299.out
 have hnc158 := NB299_320.out
 have hnb159 := NB320_309.out
 have hnc159 := NB309_320.out
 have hnb160 := NB320_361.out
 have hnc160 := NB361_320.out
 have hcz161_0 := cz30 BK320.out
 have hcz161_1 := cz31 BK320.out
 have hcz161_2 := cz32 BK320.out
 have hfz161_0 := blk_frozen BK320.out 0
 have hfz161_1 := blk_frozen BK320.out 1
 have hfz161_2 := blk_frozen BK320.out 2
 go_wp2_with (first | ((with_reducible refine gate_callee (f := 12) rfl ?_); refine goesL_ (some 90) rfl rfl Try.func12 (by kernel_rfl) rfl #[.agg #[.slice Ao38 t338.length co38, .slice Ao43 t339.length co43, .slice Ao44 t340.length co44], .int .i64 1] rfl aX ?_; (with_reducible refine (laws_heldExchange.calls kj105 _ _ t338 _ _ t339 _ _ t340 1 t363 _ ?side1 ?side2 ?side3 ?side4 ?side5 ?side6 A154.out).mono ?_); (case side1 => exact cX (Kd.R_reads' HO_321000.out).2.2); (case side2 => exact (Kd.R_reads' HO_321000.out).2.1); (case side3 => exact cX (Kd.R_reads' HO_321001.out).2.2); (case side4 => exact (Kd.R_reads' HO_321001.out).2.1); (case side5 => exact cX (Kd.R_reads' HO_321002.out).2.2); (case side6 => exact (Kd.R_reads' HO_321002.out).2.1); rintro e w162 ⟨rfl, hb⟩; refine ⟨_, rfl, ?_⟩; have n0_ := Aside0.mk (Kd.R_below (rX HO_300000.out) hb); have n1_ := Aside0.mk (Kd.R_below (rX HO_300001.out) hb); have n2_ := Aside0.mk (Kd.R_below (rX HO_300002.out) hb); have n3_ := Aside0.mk (Kd.R_below (rX HO_310000.out) hb); have n4_ := Aside0.mk (Kd.R_below (rX HO_310001.out) hb); have n5_ := Aside0.mk (Kd.R_below (rX HO_310002.out) hb); have n6_ := Aside0.mk (Kd.R_below (rX HO_321000.out) hb); have n7_ := Aside0.mk (Kd.R_below (rX HO_321001.out) hb); have n8_ := Aside0.mk (Kd.R_below (rX HO_321002.out) hb); have n9_ := Aside0.mk (Kd.R_below (rX HO_362000.out) hb); have n10_ := Aside0.mk (Kd.R_below (rX HO_362001.out) hb); have n11_ := Aside0.mk (Kd.R_below (rX HO_362002.out) hb); have n12_ := Aside0.mk (bbX BK278.out hb); have n13_ := Aside0.mk (bbX BK299.out hb); have n14_ := Aside0.mk (bbX BK309.out hb); have n15_ := Aside0.mk (bbX BK320.out hb); have n16_ := Aside0.mk (bbX BK361.out hb); have n17_ := Aside0.mk (below_step (by repeat (first | (with_reducible first | exact HB.out|apply bA|apply bN|apply bD | refine below_set ?_ GE278.out | refine below_set ?_ GE299.out | refine below_set ?_ GE309.out | refine below_set ?_ GE320.out | refine below_set ?_ GE361.out) | exact HB.out)) hb); clear HO_300000 HO_300001 HO_300002 HO_310000 HO_310001 HO_310002 HO_321000 HO_321001 HO_321002 HO_362000 HO_362001 HO_362002 BK278 BK299 BK309 BK320 BK361 HB; have HO_300000 := n0_; have HO_300001 := n1_; have HO_300002 := n2_; have HO_310000 := n3_; have HO_310001 := n4_; have HO_310002 := n5_; have HO_321000 := n6_; have HO_321001 := n7_; have HO_321002 := n8_; have HO_362000 := n9_; have HO_362001 := n10_; have HO_362002 := n11_; have BK278 := n12_; have BK299 := n13_; have BK309 := n14_; have BK320 := n15_; have BK361 := n16_; have HB := n17_; clear n0_ n1_ n2_ n3_ n4_ n5_ n6_ n7_ n8_ n9_ n10_ n11_ n12_ n13_ n14_ n15_ n16_ n17_; (try clear hb); (try clear hb2); (try clear hk); (try clear hi)))
 go_ret
 exact ⟨eX, by repeat (first | (with_reducible first | exact HB.out|apply bA|apply bN|apply bD | refine below_set ?_ GE278.out | refine below_set ?_ GE299.out | refine below_set ?_ GE309.out | refine below_set ?_ GE320.out | refine below_set ?_ GE361.out) | exact HB.out)⟩
 }
 {
 rw [if_neg c156] at H
 have c156b0 : (t363 == t337) = false := beq_eq_false_iff_ne.mpr c156
 have c156b1 : (t363 != t337) = true := bne_iff_ne.mpr c156
 exact absurd ((Option.some.inj H).trans HRT.out) (by decide)
 }
 }
 }
 }
 {
 rw [if_neg c103] at H
 have c103b0 : (t341 == t337) = false := beq_eq_false_iff_ne.mpr c103
 have c103b1 : (t341 != t337) = true := bne_iff_ne.mpr c103
 exact absurd ((Option.some.inj H).trans HRT.out) (by decide)
 }
 }
 }
 }
 {
 replace c66 := Bool.eq_false_iff.mpr c66
 subst c66
 have H1 : (some false) = some r := by rw [if_neg (show ¬ (false = true) by decide)] at H; exact H
 clear H
 have H := H1
 clear H1
 exact absurd ((Option.some.inj H).trans HRT.out) (by decide)
 }
 }
 }

end Go.Proofs.Ytfomhkfgdggngaa.S
