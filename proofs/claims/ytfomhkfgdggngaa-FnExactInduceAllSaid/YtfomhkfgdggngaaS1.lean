-- PRINTED by print.py (a twelfth state) out of the translation. Not trusted: Lean checks it.
import Derived.Test.YtfomhkfgdggngaaS0
namespace Go.Proofs.Ytfomhkfgdggngaa.S
open Go.RowKit Go.Proofs.YtfomhkfgdggngaaW.PrintWords Go.Proofs.YtfomhkfgdggngaaW.PrintLast Go.Proofs.YtfomhkfgdggngaaW.PrintMore
attribute [local go_sem] max2_int min2_int max_two min_two max_three min_three max_four min_four   -- for this text's walks alone
set_option linter.unusedVariables false
set_option linter.unusedSimpArgs false

/-! ### laws_szIntS: function 27 -/
def laws_szIntS.f (l0 : List Int) (a1 : Int) : Option (Int) := if (wrap64 (a1 - (l0.length : Int))) < 0 then (some (-1)) else (some (wrap64 (a1 - (l0.length : Int))))
set_option maxHeartbeats 8000000 in
set_option maxRecDepth 100000 in
theorem laws_szIntS.calls (A0 : Option Addr) (c0 : Nat) (l0 : List Int) (a1 : Int) (r : Int) (w : World) (hr0 : Kd.C (Kd.int .i64) w A0 l0.length l0) (hc0 : l0.length ≤ c0) (h : laws_szIntS.f l0 a1 = some r) :
  Calls Try.prog 27 #[.slice A0 l0.length c0, .int .i64 a1] w fun e w' => e = .returned (.int .i64 r) ∧ Drawn0 w w' := by
 have HR0 := Aside0.mk hr0
 have HC0 := Aside0.mk hc0
 clear hr0 hc0
 have H : (if (wrap64 (a1 - (l0.length : Int))) < 0 then (some (-1)) else (some (wrap64 (a1 - (l0.length : Int))))) = some r := h
 clear h
 by_cases c3 : (wrap64 (a1 - (l0.length : Int))) < 0
 {
 rw [if_pos c3] at H
 have c3b0 : decide ((wrap64 (a1 - (l0.length : Int))) < 0) = true := decide_eq_true c3
 clear c3
 obtain rfl := Option.some.inj H
 go_enter Try.func27, Try.ntmps27
 go_wp2
 go_ret
 exact ⟨by first | rfl | (simp; done) | (simp [*]; done), by repeat (first | exact Drawn0.refl _ | apply Drawn0.step)⟩
 }
 {
 rw [if_neg c3] at H
 have c3b0 : decide ((wrap64 (a1 - (l0.length : Int))) < 0) = false := decide_eq_false c3
 clear c3
 obtain rfl := Option.some.inj H
 go_enter Try.func27, Try.ntmps27
 go_wp2
 go_ret
 exact ⟨by first | rfl | (simp; done) | (simp [*]; done), by repeat (first | exact Drawn0.refl _ | apply Drawn0.step)⟩
 }

/-! ### laws_szExchange: function 6 -/
def laws_szExchange.f (l0_0 : List Int) (l0_1 : List Int) (l0_2 : List Int) (a1 : Int) : Option (Int) := (laws_szIntS.f l0_0 a1).bind fun t102 => (if t102 < 0 then (some (-1)) else ((laws_szIntS.f l0_1 t102).bind fun t103 => (if t103 < 0 then (some (-1)) else ((laws_szIntS.f l0_2 t103).bind fun t104 => (if t104 < 0 then (some (-1)) else (some t104))))))
set_option maxHeartbeats 8000000 in
set_option maxRecDepth 100000 in
theorem laws_szExchange.calls (A0_0 : Option Addr) (c0_0 : Nat) (l0_0 : List Int) (A0_1 : Option Addr) (c0_1 : Nat) (l0_1 : List Int) (A0_2 : Option Addr) (c0_2 : Nat) (l0_2 : List Int) (a1 : Int) (r : Int) (w : World) (hr0_0 : Kd.C (Kd.int .i64) w A0_0 l0_0.length l0_0) (hc0_0 : l0_0.length ≤ c0_0) (hr0_1 : Kd.C (Kd.int .i64) w A0_1 l0_1.length l0_1) (hc0_1 : l0_1.length ≤ c0_1) (hr0_2 : Kd.C (Kd.int .i64) w A0_2 l0_2.length l0_2) (hc0_2 : l0_2.length ≤ c0_2) (h : laws_szExchange.f l0_0 l0_1 l0_2 a1 = some r) :
  Calls Try.prog 6 #[.agg #[.slice A0_0 l0_0.length c0_0, .slice A0_1 l0_1.length c0_1, .slice A0_2 l0_2.length c0_2], .int .i64 a1] w fun e w' => e = .returned (.int .i64 r) ∧ Below w.heap.size w w' := by
 have hu24 := Try.underlying24
 have HR0_0 := Aside0.mk hr0_0
 have HC0_0 := Aside0.mk hc0_0
 clear hr0_0 hc0_0
 have HR0_1 := Aside0.mk hr0_1
 have HC0_1 := Aside0.mk hc0_1
 clear hr0_1 hc0_1
 have HR0_2 := Aside0.mk hr0_2
 have HC0_2 := Aside0.mk hc0_2
 clear hr0_2 hc0_2
 have HB := Aside0.mk (Below.refl w.heap.size w)
 have H : ((laws_szIntS.f l0_0 a1).bind fun t102 => (if t102 < 0 then (some (-1)) else ((laws_szIntS.f l0_1 t102).bind fun t103 => (if t103 < 0 then (some (-1)) else ((laws_szIntS.f l0_2 t103).bind fun t104 => (if t104 < 0 then (some (-1)) else (some t104))))))) = some r := h
 clear h
 replace H := Option.bind_eq_some_iff.mp H
 obtain ⟨t102, A30, H⟩ := H
 replace H : (if t102 < 0 then (some (-1)) else ((laws_szIntS.f l0_1 t102).bind fun t103 => (if t103 < 0 then (some (-1)) else ((laws_szIntS.f l0_2 t103).bind fun t104 => (if t104 < 0 then (some (-1)) else (some t104)))))) = some r := H
 have A3 := Aside0.mk A30
 clear A30
 by_cases c4 : t102 < 0
 {
 rw [if_pos c4] at H
 have c4b0 : decide (t102 < 0) = true := decide_eq_true c4
 clear c4
 obtain rfl := Option.some.inj H
 go_enter Try.func6, Try.ntmps6
 go_wp2_with (first | ((with_reducible refine gate_dst (N := 2) rfl ?_); refine box_event ?hg (N := 2) ?hd (cs := #[.slice A0_0 l0_0.length c0_0, .slice A0_1 l0_1.length c0_1, .slice A0_2 l0_2.length c0_2]) (t := 24) ?hr ?_; (case hd => rfl); (case hg => rfl); (case hr => first | (go_simp; done) | (go_simp; rfl)); intro gb101 hg w5 hbox hb; have n0_ := Aside0.mk (below_step (bX HB.out) hb); have n1_ := Aside0.mk (hbox); have n2_ := Aside0.mk ((szX (below_size (bX HB.out)) hg : w.heap.size ≤ gb101)); have n3_ := Aside0.mk ((szX (below_size (bX HB.out)) hg : w.heap.size ≤ gb101)); clear HB; have HB := n0_; have BK101 := n1_; have GW101 := n2_; have GE101 := n3_; clear n0_ n1_ n2_ n3_ hb hbox hg; have hcz6_0 : w5.cell? ⟨gb101, 0, none⟩ = some (.slice A0_0 l0_0.length c0_0) := (blk_cell BK101.out 0).trans rfl; have hcz6_1 : w5.cell? ⟨gb101, 1, none⟩ = some (.slice A0_1 l0_1.length c0_1) := (blk_cell BK101.out 1).trans rfl; have hcz6_2 : w5.cell? ⟨gb101, 2, none⟩ = some (.slice A0_2 l0_2.length c0_2) := (blk_cell BK101.out 2).trans rfl; have hfz6_0 := blk_frozen BK101.out 0; have hfz6_1 := blk_frozen BK101.out 1; have hfz6_2 := blk_frozen BK101.out 2) | ((with_reducible refine gate_callee (f := 27) rfl ?_); refine goesL_ (some 8) rfl rfl Try.func27 (by kernel_rfl) rfl #[.slice A0_0 l0_0.length c0_0, .int .i64 a1] rfl aX ?_; (with_reducible refine (laws_szIntS.calls _ _ l0_0 a1 t102 _ ?side1 ?side2 A3.out).mono ?_); (case side1 => exact cX (Kd.C_below HR0_0.out HB.out)); (case side2 => exact HC0_0.out); rintro e w' ⟨rfl, ⟨nd, rfl⟩⟩; refine ⟨_, rfl, ?_⟩))
 go_ret
 exact ⟨eX, bX1 HB.out GE101.out⟩
 }
 {
 rw [if_neg c4] at H
 have c4b0 : decide (t102 < 0) = false := decide_eq_false c4
 clear c4
 replace H := Option.bind_eq_some_iff.mp H
 obtain ⟨t103, A70, H⟩ := H
 replace H : (if t103 < 0 then (some (-1)) else ((laws_szIntS.f l0_2 t103).bind fun t104 => (if t104 < 0 then (some (-1)) else (some t104)))) = some r := H
 have A7 := Aside0.mk A70
 clear A70
 by_cases c8 : t103 < 0
 {
 rw [if_pos c8] at H
 have c8b0 : decide (t103 < 0) = true := decide_eq_true c8
 clear c8
 obtain rfl := Option.some.inj H
 go_enter Try.func6, Try.ntmps6
 go_wp2_with (first | ((with_reducible refine gate_dst (N := 2) rfl ?_); refine box_event ?hg (N := 2) ?hd (cs := #[.slice A0_0 l0_0.length c0_0, .slice A0_1 l0_1.length c0_1, .slice A0_2 l0_2.length c0_2]) (t := 24) ?hr ?_; (case hd => rfl); (case hg => rfl); (case hr => first | (go_simp; done) | (go_simp; rfl)); intro gb101 hg w9 hbox hb; have n0_ := Aside0.mk (below_step (bX HB.out) hb); have n1_ := Aside0.mk (hbox); have n2_ := Aside0.mk ((szX (below_size (bX HB.out)) hg : w.heap.size ≤ gb101)); have n3_ := Aside0.mk ((szX (below_size (bX HB.out)) hg : w.heap.size ≤ gb101)); clear HB; have HB := n0_; have BK101 := n1_; have GW101 := n2_; have GE101 := n3_; clear n0_ n1_ n2_ n3_ hb hbox hg; have hcz10_0 : w9.cell? ⟨gb101, 0, none⟩ = some (.slice A0_0 l0_0.length c0_0) := (blk_cell BK101.out 0).trans rfl; have hcz10_1 : w9.cell? ⟨gb101, 1, none⟩ = some (.slice A0_1 l0_1.length c0_1) := (blk_cell BK101.out 1).trans rfl; have hcz10_2 : w9.cell? ⟨gb101, 2, none⟩ = some (.slice A0_2 l0_2.length c0_2) := (blk_cell BK101.out 2).trans rfl; have hfz10_0 := blk_frozen BK101.out 0; have hfz10_1 := blk_frozen BK101.out 1; have hfz10_2 := blk_frozen BK101.out 2) | ((with_reducible refine gate_callee (f := 27) rfl ?_); refine goesL_ (some 8) rfl rfl Try.func27 (by kernel_rfl) rfl #[.slice A0_0 l0_0.length c0_0, .int .i64 a1] rfl aX ?_; (with_reducible refine (laws_szIntS.calls _ _ l0_0 a1 t102 _ ?side1 ?side2 A3.out).mono ?_); (case side1 => exact cX (Kd.C_below HR0_0.out HB.out)); (case side2 => exact HC0_0.out); rintro e w' ⟨rfl, ⟨nd, rfl⟩⟩; refine ⟨_, rfl, ?_⟩) | ((with_reducible refine gate_callee (f := 27) rfl ?_); refine goesL_ (some 14) rfl rfl Try.func27 (by kernel_rfl) rfl #[.slice A0_1 l0_1.length c0_1, .int .i64 t102] rfl aX ?_; (with_reducible refine (laws_szIntS.calls _ _ l0_1 t102 t103 _ ?side1 ?side2 A7.out).mono ?_); (case side1 => exact cX (Kd.C_below HR0_1.out (bX1 HB.out GE101.out))); (case side2 => exact HC0_1.out); rintro e w' ⟨rfl, ⟨nd, rfl⟩⟩; refine ⟨_, rfl, ?_⟩))
 go_ret
 exact ⟨eX, bX1 HB.out GE101.out⟩
 }
 {
 rw [if_neg c8] at H
 have c8b0 : decide (t103 < 0) = false := decide_eq_false c8
 clear c8
 replace H := Option.bind_eq_some_iff.mp H
 obtain ⟨t104, A110, H⟩ := H
 replace H : (if t104 < 0 then (some (-1)) else (some t104)) = some r := H
 have A11 := Aside0.mk A110
 clear A110
 by_cases c12 : t104 < 0
 {
 rw [if_pos c12] at H
 have c12b0 : decide (t104 < 0) = true := decide_eq_true c12
 clear c12
 obtain rfl := Option.some.inj H
 go_enter Try.func6, Try.ntmps6
 go_wp2_with (first | ((with_reducible refine gate_dst (N := 2) rfl ?_); refine box_event ?hg (N := 2) ?hd (cs := #[.slice A0_0 l0_0.length c0_0, .slice A0_1 l0_1.length c0_1, .slice A0_2 l0_2.length c0_2]) (t := 24) ?hr ?_; (case hd => rfl); (case hg => rfl); (case hr => first | (go_simp; done) | (go_simp; rfl)); intro gb101 hg w13 hbox hb; have n0_ := Aside0.mk (below_step (bX HB.out) hb); have n1_ := Aside0.mk (hbox); have n2_ := Aside0.mk ((szX (below_size (bX HB.out)) hg : w.heap.size ≤ gb101)); have n3_ := Aside0.mk ((szX (below_size (bX HB.out)) hg : w.heap.size ≤ gb101)); clear HB; have HB := n0_; have BK101 := n1_; have GW101 := n2_; have GE101 := n3_; clear n0_ n1_ n2_ n3_ hb hbox hg; have hcz14_0 : w13.cell? ⟨gb101, 0, none⟩ = some (.slice A0_0 l0_0.length c0_0) := (blk_cell BK101.out 0).trans rfl; have hcz14_1 : w13.cell? ⟨gb101, 1, none⟩ = some (.slice A0_1 l0_1.length c0_1) := (blk_cell BK101.out 1).trans rfl; have hcz14_2 : w13.cell? ⟨gb101, 2, none⟩ = some (.slice A0_2 l0_2.length c0_2) := (blk_cell BK101.out 2).trans rfl; have hfz14_0 := blk_frozen BK101.out 0; have hfz14_1 := blk_frozen BK101.out 1; have hfz14_2 := blk_frozen BK101.out 2) | ((with_reducible refine gate_callee (f := 27) rfl ?_); refine goesL_ (some 8) rfl rfl Try.func27 (by kernel_rfl) rfl #[.slice A0_0 l0_0.length c0_0, .int .i64 a1] rfl aX ?_; (with_reducible refine (laws_szIntS.calls _ _ l0_0 a1 t102 _ ?side1 ?side2 A3.out).mono ?_); (case side1 => exact cX (Kd.C_below HR0_0.out HB.out)); (case side2 => exact HC0_0.out); rintro e w' ⟨rfl, ⟨nd, rfl⟩⟩; refine ⟨_, rfl, ?_⟩) | ((with_reducible refine gate_callee (f := 27) rfl ?_); refine goesL_ (some 14) rfl rfl Try.func27 (by kernel_rfl) rfl #[.slice A0_1 l0_1.length c0_1, .int .i64 t102] rfl aX ?_; (with_reducible refine (laws_szIntS.calls _ _ l0_1 t102 t103 _ ?side1 ?side2 A7.out).mono ?_); (case side1 => exact cX (Kd.C_below HR0_1.out (bX1 HB.out GE101.out))); (case side2 => exact HC0_1.out); rintro e w' ⟨rfl, ⟨nd, rfl⟩⟩; refine ⟨_, rfl, ?_⟩) | ((with_reducible refine gate_callee (f := 27) rfl ?_); refine goesL_ (some 20) rfl rfl Try.func27 (by kernel_rfl) rfl #[.slice A0_2 l0_2.length c0_2, .int .i64 t103] rfl aX ?_; (with_reducible refine (laws_szIntS.calls _ _ l0_2 t103 t104 _ ?side1 ?side2 A11.out).mono ?_); (case side1 => exact cX (Kd.C_below HR0_2.out (bX1 HB.out GE101.out))); (case side2 => exact HC0_2.out); rintro e w' ⟨rfl, ⟨nd, rfl⟩⟩; refine ⟨_, rfl, ?_⟩))
 go_ret
 exact ⟨eX, bX1 HB.out GE101.out⟩
 }
 {
 rw [if_neg c12] at H
 have c12b0 : decide (t104 < 0) = false := decide_eq_false c12
 clear c12
 obtain rfl := Option.some.inj H
 go_enter Try.func6, Try.ntmps6
 go_wp2_with (first | ((with_reducible refine gate_dst (N := 2) rfl ?_); refine box_event ?hg (N := 2) ?hd (cs := #[.slice A0_0 l0_0.length c0_0, .slice A0_1 l0_1.length c0_1, .slice A0_2 l0_2.length c0_2]) (t := 24) ?hr ?_; (case hd => rfl); (case hg => rfl); (case hr => first | (go_simp; done) | (go_simp; rfl)); intro gb101 hg w15 hbox hb; have n0_ := Aside0.mk (below_step (bX HB.out) hb); have n1_ := Aside0.mk (hbox); have n2_ := Aside0.mk ((szX (below_size (bX HB.out)) hg : w.heap.size ≤ gb101)); have n3_ := Aside0.mk ((szX (below_size (bX HB.out)) hg : w.heap.size ≤ gb101)); clear HB; have HB := n0_; have BK101 := n1_; have GW101 := n2_; have GE101 := n3_; clear n0_ n1_ n2_ n3_ hb hbox hg; have hcz16_0 : w15.cell? ⟨gb101, 0, none⟩ = some (.slice A0_0 l0_0.length c0_0) := (blk_cell BK101.out 0).trans rfl; have hcz16_1 : w15.cell? ⟨gb101, 1, none⟩ = some (.slice A0_1 l0_1.length c0_1) := (blk_cell BK101.out 1).trans rfl; have hcz16_2 : w15.cell? ⟨gb101, 2, none⟩ = some (.slice A0_2 l0_2.length c0_2) := (blk_cell BK101.out 2).trans rfl; have hfz16_0 := blk_frozen BK101.out 0; have hfz16_1 := blk_frozen BK101.out 1; have hfz16_2 := blk_frozen BK101.out 2) | ((with_reducible refine gate_callee (f := 27) rfl ?_); refine goesL_ (some 8) rfl rfl Try.func27 (by kernel_rfl) rfl #[.slice A0_0 l0_0.length c0_0, .int .i64 a1] rfl aX ?_; (with_reducible refine (laws_szIntS.calls _ _ l0_0 a1 t102 _ ?side1 ?side2 A3.out).mono ?_); (case side1 => exact cX (Kd.C_below HR0_0.out HB.out)); (case side2 => exact HC0_0.out); rintro e w' ⟨rfl, ⟨nd, rfl⟩⟩; refine ⟨_, rfl, ?_⟩) | ((with_reducible refine gate_callee (f := 27) rfl ?_); refine goesL_ (some 14) rfl rfl Try.func27 (by kernel_rfl) rfl #[.slice A0_1 l0_1.length c0_1, .int .i64 t102] rfl aX ?_; (with_reducible refine (laws_szIntS.calls _ _ l0_1 t102 t103 _ ?side1 ?side2 A7.out).mono ?_); (case side1 => exact cX (Kd.C_below HR0_1.out (bX1 HB.out GE101.out))); (case side2 => exact HC0_1.out); rintro e w' ⟨rfl, ⟨nd, rfl⟩⟩; refine ⟨_, rfl, ?_⟩) | ((with_reducible refine gate_callee (f := 27) rfl ?_); refine goesL_ (some 20) rfl rfl Try.func27 (by kernel_rfl) rfl #[.slice A0_2 l0_2.length c0_2, .int .i64 t103] rfl aX ?_; (with_reducible refine (laws_szIntS.calls _ _ l0_2 t103 t104 _ ?side1 ?side2 A11.out).mono ?_); (case side1 => exact cX (Kd.C_below HR0_2.out (bX1 HB.out GE101.out))); (case side2 => exact HC0_2.out); rintro e w' ⟨rfl, ⟨nd, rfl⟩⟩; refine ⟨_, rfl, ?_⟩))
 go_ret
 exact ⟨eX, bX1 HB.out GE101.out⟩
 }
 }
 }

/-! ### spec_l01In: function 46 -/
def spec_l01In.f (a0 : Int) (a1 : Int) (a2 : Int) : Option (Bool) := if a0 ≥ a1 then (some (decide (a0 ≤ a2))) else (some false)
set_option maxHeartbeats 8000000 in
set_option maxRecDepth 100000 in
theorem spec_l01In.calls (a0 : Int) (a1 : Int) (a2 : Int) (r : Bool) (w : World) (h : spec_l01In.f a0 a1 a2 = some r) :
  Calls Try.prog 46 #[.int .i64 a0, .int .i64 a1, .int .i64 a2] w fun e w' => e = .returned (.bool r) ∧ Drawn0 w w' := by
 have H : (if a0 ≥ a1 then (some (decide (a0 ≤ a2))) else (some false)) = some r := h
 clear h
 by_cases c4 : a0 ≥ a1
 {
 rw [if_pos c4] at H
 have c4b0 : decide (a1 ≤ a0) = true := decide_eq_true c4
 clear c4
 obtain rfl := Option.some.inj H
 go_enter Try.func46, Try.ntmps46
 go_wp2
 go_ret
 exact ⟨by first | rfl | (simp; done) | (simp [*]; done), by repeat (first | exact Drawn0.refl _ | apply Drawn0.step)⟩
 }
 {
 rw [if_neg c4] at H
 have c4b0 : decide (a1 ≤ a0) = false := decide_eq_false c4
 clear c4
 obtain rfl := Option.some.inj H
 go_enter Try.func46, Try.ntmps46
 go_wp2
 go_ret
 exact ⟨by first | rfl | (simp; done) | (simp [*]; done), by repeat (first | exact Drawn0.refl _ | apply Drawn0.step)⟩
 }

/-! ### spec_l02Has: function 61 -/
def spec_l02Has.l0 : Nat → Int → List Int → Int → Int → Option (Bool)
 | 0, _, _, _, _ => none
 | k + 1, x1, x7, x8, x9 => if x9 < x8 then (if 0 ≤ x9 then (if x9 < (x7.length : Int) then (if (rd x7 x9) = x1 then (some true) else (spec_l02Has.l0 k x1 x7 x8 (wrap64 (x9 + 1)))) else (none)) else (none)) else (some false)
def spec_l02Has.f (k : Nat) (l0 : List Int) (a1 : Int) : Option (Bool) := spec_l02Has.l0 k a1 l0 (l0.length : Int) 0
set_option maxHeartbeats 8000000 in
set_option maxRecDepth 100000 in
theorem spec_l02Has.calls (k : Nat) (A0 : Option Addr) (c0 : Nat) (l0 : List Int) (a1 : Int) (r : Bool) (w : World) (hr0 : Kd.C (Kd.int .i64) w A0 l0.length l0) (hc0 : l0.length ≤ c0) (h : spec_l02Has.f k l0 a1 = some r) :
  Calls Try.prog 61 #[.slice A0 l0.length c0, .int .i64 a1] w fun e w' => e = .returned (.bool r) ∧ Drawn0 w w' := by
 have HR0 := Aside0.mk hr0
 have HC0 := Aside0.mk hc0
 clear hr0 hc0
 have H : (spec_l02Has.l0 k a1 l0 (l0.length : Int) 0) = some r := h
 clear h
 have H' := Aside0.mk H
 clear H
 go_enter Try.func61, Try.ntmps61
 go_wp2
 go_loopg [9] k (fun kq v9 w' => ∃ (x9_1 : Int), v9 = .int .i64 x9_1 ∧ Aside0 (spec_l02Has.l0 kq a1 l0 (l0.length : Int) x9_1 = some r) ∧ Aside0 (kq ≤ k) ∧ Drawn0 w w')
 case atStart => exact ⟨(0), vX, H', ⟨Nat.le_refl _⟩, by repeat (first | exact Drawn0.refl _ | apply Drawn0.step)⟩
 case round =>
 clear H'
 try clear p2
 obtain ⟨x9_1, rfl, HA, HK1, ⟨m1, rfl⟩⟩ := hrel
 cases gk with
 | zero => exact absurd HA.out (by simp [spec_l02Has.l0])
 | succ k1 =>
 have H := HA.out
 clear HA
 simp only [spec_l02Has.l0] at H
 by_cases c3 : x9_1 < (l0.length : Int)
 {
 rw [if_pos c3] at H
 have c3b0 : decide (x9_1 < (l0.length : Int)) = true := decide_eq_true c3
 clear c3
 by_cases c4 : 0 ≤ x9_1
 {
 rw [if_pos c4] at H
 have c4b0 : decide (0 ≤ x9_1) = true := decide_eq_true c4
 clear c4
 by_cases c5 : x9_1 < (l0.length : Int)
 {
 rw [if_pos c5] at H
 have c5b0 : decide (x9_1 < (l0.length : Int)) = true := decide_eq_true c5
 clear c5
 by_cases c6 : (rd l0 x9_1) = a1
 {
 rw [if_pos c6] at H
 have c6b0 : ((rd l0 x9_1) == a1) = true := beq_iff_eq.mpr c6
 have c6b1 : ((rd l0 x9_1) != a1) = false := bne_eq_false_iff_eq.mpr c6
 clear c6
 obtain rfl := Option.some.inj H
 have p105 : 0 ≤ (x9_1 : Int) := dX
 have q105 : x9_1 < (l0.length : Int) := dX
 obtain ⟨ad105, e105, hx105_0⟩ := Kd.at_int HR0.out x9_1 p105 q105
 cases e105
 replace p105 := eq_true p105
 replace q105 := eq_true q105
 go_wp2
 go_ret
 exact ⟨by first | rfl | (simp; done) | (simp [*]; done), by repeat (first | exact Drawn0.refl _ | apply Drawn0.step)⟩
 }
 {
 rw [if_neg c6] at H
 have c6b0 : ((rd l0 x9_1) == a1) = false := beq_eq_false_iff_ne.mpr c6
 have c6b1 : ((rd l0 x9_1) != a1) = true := bne_iff_ne.mpr c6
 have H' := Aside0.mk H
 clear H
 have p105 : 0 ≤ (x9_1 : Int) := dX
 have q105 : x9_1 < (l0.length : Int) := dX
 obtain ⟨ad105, e105, hx105_0⟩ := Kd.at_int HR0.out x9_1 p105 q105
 cases e105
 replace p105 := eq_true p105
 replace q105 := eq_true q105
 go_wp2
 go_roundg k1
 case measure => have := HK1.out; omega
 case rel => exact ⟨(wrap64 (x9_1 + 1)), vX, H', ⟨by have := HK1.out; omega⟩, by repeat (first | exact Drawn0.refl _ | apply Drawn0.step)⟩
 }
 }
 {
 rw [if_neg c5] at H
 exact absurd H (by simp)
 }
 }
 {
 rw [if_neg c4] at H
 exact absurd H (by simp)
 }
 }
 {
 rw [if_neg c3] at H
 have c3b0 : decide (x9_1 < (l0.length : Int)) = false := decide_eq_false c3
 clear c3
 obtain rfl := Option.some.inj H
 go_wp2
 go_ret
 exact ⟨by first | rfl | (simp; done) | (simp [*]; done), by repeat (first | exact Drawn0.refl _ | apply Drawn0.step)⟩
 }

/-! ### spec_PermOk: function 47 -/
theorem hand_in01 (a b c : Int) : spec_l01In.f a b c = some (decide (b ≤ a ∧ a ≤ c)) := by
 unfold spec_l01In.f
 split
 {
 rename_i h
 by_cases h2 : a ≤ c
 {
 rw [decide_eq_true h2, decide_eq_true ⟨h, h2⟩]
 }
 {
 rw [decide_eq_false h2, decide_eq_false (fun h => h2 h.2)]
 }
 }
 {
 rename_i h
 rw [decide_eq_false (fun h2 => h h2.1)]
 }
theorem hand_has_l0 (l : List Int) (hl : l.length ≤ 4611686018427387904) (x : Int) : ∀ (suf pre : List Int), l = pre ++ suf →
    Ev (fun k => spec_l02Has.l0 k x l (l.length : Int) (pre.length : Int)) (decide (x ∈ suf)) := by
 intro suf
 induction suf with
 | nil =>
  intro pre h
  subst h
  refine Ev.step (f := fun _ => some false) (fun k => ?_) (by simpa using Ev.now false)
  simp only [spec_l02Has.l0]
  rw [if_neg (by simp)]
 | cons c suf ih =>
 intro pre h
 have := ih (pre ++ [c]) (by simp [h])
 subst h
 have h1 : ((pre.length : Nat) : Int) < ((pre ++ c :: suf).length : Int) := by simp; omega
 have hr : rd (pre ++ c :: suf) (pre.length : Int) = c := by simp [rd, List.getD]
 have hw : wrap64 ((pre.length : Int) + 1) = ((pre ++ [c]).length : Int) := by simp at hl ⊢; unfold wrap64; omega
 by_cases hc : c = x
 {
 refine Ev.step (f := fun _ => some true) (fun k => ?_) (by simpa [hc] using Ev.now true)
 simp only [spec_l02Has.l0]
 rw [if_pos h1, if_pos (Int.natCast_nonneg _), if_pos h1, hr, if_pos hc]
 }
 {
 rw [show decide (x ∈ c :: suf) = decide (x ∈ suf) by simp [Ne.symm hc]]
 refine Ev.step (fun k => ?_) this
 simp only [spec_l02Has.l0]
 rw [if_pos h1, if_pos (Int.natCast_nonneg _), if_pos h1, hr, if_neg hc, hw]
 }
theorem hand_has (l : List Int) (hl : l.length ≤ 4611686018427387904) (x : Int) : ∃ k, spec_l02Has.f k l x = some (decide (x ∈ l)) := by
 obtain ⟨k, hk⟩ := Ev.rounds (hand_has_l0 l hl x l [] rfl)
 exact ⟨k, by simpa [spec_l02Has.f] using hk⟩
/-- The reference's way: each is in range and none stands before. -/
def permSGo (n : Int) : List Int → List Int → Bool
  | _, [] => true
  | pre, x :: xs => if 0 ≤ x ∧ x ≤ n - 1 then (if x ∈ pre then false else permSGo n (pre ++ [x]) xs) else false
def permSB (p : List Int) : Bool := if p.length ≤ 24 then permSGo p.length [] p else false
def spec_PermOk.f (l0 : List Int) : Option Bool := some (permSB l0)
set_option maxHeartbeats 8000000 in
set_option maxRecDepth 100000 in
theorem spec_PermOk.calls_le (A0 : Option Addr) (c0 : Nat) (l0 : List (Int)) (r : Bool) (w : World) (hr0 : Kd.C (Kd.int .i64) w A0 l0.length l0) (hc0 : l0.length ≤ c0) (hle : l0.length ≤ 24) (hres : permSGo l0.length [] l0 = r) :
    Calls Try.prog 47 #[.slice A0 l0.length c0] w fun e w' => e = .returned (.bool r) ∧ Drawn0 w w' := by
 have HR0 := Aside0.mk hr0
 have HC0 := Aside0.mk hc0
 have HRES := Aside0.mk hres
 have HLE := Aside0.mk hle
 have hb24 : decide (24 < (l0.length : Int)) = false := decide_eq_false (by omega)
 clear hr0 hc0 hres hle
 go_enter Try.func47, Try.ntmps47
 go_wp2
 go_loopg [10] (l0.length + 1) (fun kq v10 w' => ∃ (i : Int), v10 = .int .i64 i ∧ Aside0 (0 ≤ i ∧ i ≤ l0.length ∧ (kq : Int) + i = l0.length + 1 ∧ permSGo l0.length (l0.take i.toNat) (l0.drop i.toNat) = r) ∧ Drawn0 w w')
 case atStart => exact ⟨0, rfl, ⟨by omega, by omega, by simp, by simpa using HRES.out⟩, by repeat (first | exact Drawn0.refl _ | apply Drawn0.step)⟩
 case round =>
 obtain ⟨i, rfl, HI, ⟨m1, rfl⟩⟩ := hrel
 obtain ⟨hi0, hi1, hik, hgo⟩ := HI.out
 clear HI
 have hle := HLE.out
 obtain ⟨k1, rfl⟩ : ∃ m, gk = m + 1 := ⟨gk - 1, by omega⟩
 have HGO := Aside0.mk hgo
 have HK := Aside0.mk hik
 clear hgo hik
 by_cases hlt : i < (l0.length : Int)
 {
 have c1 : decide (i < (l0.length : Int)) = true := decide_eq_true hlt
 have c1' : decide (i ≤ (l0.length : Int)) = true := decide_eq_true hi1
 have p0 : decide (0 ≤ i) = true := decide_eq_true hi0
 have HW := Aside0.mk (show wrap64 (i + 1) = i + 1 from by unfold wrap64; omega)
 have HW2 := Aside0.mk (show wrap64 ((l0.length : Int) - 1) = (l0.length : Int) - 1 from by unfold wrap64; omega)
 have hlen : (l0.take i.toNat).length = i.toNat := by simp; omega
 obtain ⟨ad, ead, hx⟩ := Kd.at_int HR0.out i hi0 hlt
 cases ead
 have hdrop : l0.drop i.toNat = rd l0 i :: l0.drop (i + 1).toNat := by
  have h1 : i.toNat < l0.length := by omega
  rw [show (i + 1).toNat = i.toNat + 1 by omega, List.drop_eq_getElem_cons h1]
  simp [rd, List.getD, h1]
 have htake : l0.take (i + 1).toNat = l0.take i.toNat ++ [rd l0 i] := by
  have h1 : i.toNat < l0.length := by omega
  rw [show (i + 1).toNat = i.toNat + 1 by omega, List.take_succ_eq_append_getElem h1]
  simp [rd, List.getD, h1]
 have HD := Aside0.mk hdrop
 have HT := Aside0.mk htake
 clear hdrop htake
 obtain ⟨i3, hi3, _, hsz3, _⟩ := info_parts (show (Try.prog.info? 3).map (fun i => (i.zero, i.size, i.bytes)) = some (some (.int .i64 0), 1, 8) by kernel_rfl)
 obtain ⟨hcut, hA, hC⟩ := print_take_of (P := Try.prog) (Value.int .i64) 0 22 3 .i64 Try.underlying22 hi3 hsz3 (some ad) c0 l0 i hi0 hi1 HC0.out
 rw [hlen] at hcut hC
 have HR1 := Aside0.mk (Kd.C_of_reads (h1 := fun _ => rfl) (hA _ (Kd.reads_of_C HR0.out)))
 have HC1 := Aside0.mk hC
 have HL := Aside0.mk hlen
 clear hA hC hi3 hsz3 hlen
 generalize hX : rd l0 i = x at *
 clear hX
 replace hi0 := eq_true hi0
 replace hi1 := eq_true hi1
 replace hlt := eq_true hlt
 clear hle
 have HIN := Aside0.mk (hand_in01 x 0 (wrap64 ((l0.length : Int) - 1)))
 by_cases h1 : 0 ≤ x ∧ x ≤ (l0.length : Int) - 1
 {
 rw [HW2.out, decide_eq_true h1, ← HW2.out] at HIN
 by_cases h2 : x ∈ l0.take i.toNat
 {
 have hr : r = false := by
  have := HGO.out
  rw [HD.out] at this
  simp only [permSGo] at this
  rw [if_pos h1, if_pos h2] at this
  exact this.symm
 subst hr
 obtain ⟨kh, hkh⟩ := hand_has (l0.take i.toNat) (by have := HL.out; have := HLE.out; simp; omega) x
 rw [decide_eq_true h2] at hkh
 have HH : ∀ W : World, Drawn0 w W → Calls Try.prog 61 #[.slice (some ad) i.toNat c0, .int .i64 x] W fun e w' => e = .returned (.bool true) ∧ Drawn0 W w' := by
  intro W hW
  obtain ⟨n, rfl⟩ := hW.out
  have := spec_l02Has.calls kh _ _ (l0.take i.toNat) x true (w.drewN n) (Kd.C_drewN HR1.out n) (by rw [HL.out]; exact HC1.out) hkh
  rw [HL.out] at this
  exact this
 have HHA := Aside0.mk HH
 clear h1 h2 HH hkh
 go_wp2_with (first
  | (go_at_call 46; refine (spec_l01In.calls x 0 (wrap64 ((l0.length : Int) - 1)) true _ HIN.out).mono ?_; rintro e w' ⟨rfl, ⟨nd, rfl⟩⟩)
  | (go_at_call 61; refine (HHA.out _ (by repeat (first | exact Drawn0.refl _ | apply Drawn0.step))).mono ?_; rintro e w' ⟨rfl, ⟨nd, rfl⟩⟩))
 go_ret
 exact ⟨rfl, by repeat (first | exact Drawn0.refl _ | apply Drawn0.step)⟩
 }
 {
 have hg2 : permSGo l0.length (l0.take (i + 1).toNat) (l0.drop (i + 1).toNat) = r := by
  have := HGO.out
  rw [HD.out] at this
  simp only [permSGo] at this
  rw [if_pos h1, if_neg h2] at this
  rw [HT.out]
  exact this
 have HG2 := Aside0.mk hg2
 clear hg2
 obtain ⟨kh, hkh⟩ := hand_has (l0.take i.toNat) (by have := HL.out; have := HLE.out; simp; omega) x
 rw [decide_eq_false h2] at hkh
 have HH : ∀ W : World, Drawn0 w W → Calls Try.prog 61 #[.slice (some ad) i.toNat c0, .int .i64 x] W fun e w' => e = .returned (.bool false) ∧ Drawn0 W w' := by
  intro W hW
  obtain ⟨n, rfl⟩ := hW.out
  have := spec_l02Has.calls kh _ _ (l0.take i.toNat) x false (w.drewN n) (Kd.C_drewN HR1.out n) (by rw [HL.out]; exact HC1.out) hkh
  rw [HL.out] at this
  exact this
 have HHA := Aside0.mk HH
 clear h1 h2 HH hkh
 go_wp2_with (first
  | (go_at_call 46; refine (spec_l01In.calls x 0 (wrap64 ((l0.length : Int) - 1)) true _ HIN.out).mono ?_; rintro e w' ⟨rfl, ⟨nd, rfl⟩⟩)
  | (go_at_call 61; refine (HHA.out _ (by repeat (first | exact Drawn0.refl _ | apply Drawn0.step))).mono ?_; rintro e w' ⟨rfl, ⟨nd, rfl⟩⟩))
 go_roundg k1
 case measure => omega
 case rel => exact ⟨i + 1, by rw [HW.out], ⟨by simp at hi0; omega, by simp at hlt; omega, by have := HK.out; simp at this ⊢; omega, HG2.out⟩, by repeat (first | exact Drawn0.refl _ | apply Drawn0.step)⟩
 }
 }
 {
 rw [HW2.out, decide_eq_false h1, ← HW2.out] at HIN
 have hr : r = false := by
  have := HGO.out
  rw [HD.out] at this
  simp only [permSGo] at this
  rw [if_neg h1] at this
  exact this.symm
 subst hr
 clear h1
 go_wp2_with (go_at_call 46; refine (spec_l01In.calls x 0 (wrap64 ((l0.length : Int) - 1)) false _ HIN.out).mono ?_; rintro e w' ⟨rfl, ⟨nd, rfl⟩⟩)
 go_ret
 exact ⟨rfl, by repeat (first | exact Drawn0.refl _ | apply Drawn0.step)⟩
 }
 }
 {
 have hie : i = l0.length := by omega
 have hr : r = true := by
  have := HGO.out
  rw [show l0.drop i.toNat = [] from by rw [hie]; simp] at this
  simp only [permSGo] at this
  exact this.symm
 subst hr
 have c1 : decide (i < (l0.length : Int)) = false := decide_eq_false hlt
 clear hlt hie
 go_wp2
 go_ret
 exact ⟨rfl, by repeat (first | exact Drawn0.refl _ | apply Drawn0.step)⟩
 }
set_option maxHeartbeats 8000000 in
set_option maxRecDepth 100000 in
theorem spec_PermOk.calls (A0 : Option Addr) (c0 : Nat) (l0 : List Int) (r : Bool) (w : World) (hr0 : Kd.C (Kd.int .i64) w A0 l0.length l0) (hc0 : l0.length ≤ c0) (h : spec_PermOk.f l0 = some r) :
    Calls Try.prog 47 #[.slice A0 l0.length c0] w fun e w' => e = .returned (.bool r) ∧ Drawn0 w w' := by
 unfold spec_PermOk.f permSB at h
 by_cases hle : l0.length ≤ 24
 {
 rw [if_pos hle] at h
 exact spec_PermOk.calls_le A0 c0 l0 r w hr0 hc0 hle (Option.some.inj h)
 }
 {
 rw [if_neg hle] at h
 obtain rfl := Option.some.inj h
 have hb24 : decide (24 < (l0.length : Int)) = true := decide_eq_true (by omega)
 clear hle
 go_enter Try.func47, Try.ntmps47
 go_wp2
 go_ret
 exact ⟨rfl, by repeat (first | exact Drawn0.refl _ | apply Drawn0.step)⟩
 }

/-! ### spec_ExchangeOk: function 28 -/
mutual
def spec_ExchangeOk.j0 : Nat → Bool → List Int → List Int → List Int → Option (Bool)
 | 0, _, _, _, _ => none
 | k + 1, x28, x107000, x107001, x107002 => if x28 = true then (some false) else (spec_ExchangeOk.l0 k 0 x107000 (x107000.length : Int) 0 x107000 x107001 x107002)
def spec_ExchangeOk.l0 : Nat → Int → List Int → Int → Int → List Int → List Int → List Int → Option (Bool)
 | 0, _, _, _, _, _, _, _ => none
 | k + 1, x3, x30, x31, x32, x107000, x107001, x107002 => if x32 < x31 then (if 0 ≤ x32 then (if x32 < (x30.length : Int) then ((spec_l01In.f (rd x30 x32) 1 60).bind fun t109 => (if t109 = true then (spec_ExchangeOk.l0 k (wrap64 (x3 + (rd x30 x32))) x30 x31 (wrap64 (x32 + 1)) x107000 x107001 x107002) else (some false))) else (none)) else (none)) else (if x3 ≤ 60 then ((spec_PermOk.f x107001).bind fun t110 => (if t110 = true then ((spec_PermOk.f x107002).bind fun t111 => (some t111)) else (some false))) else (some false))
end
def spec_ExchangeOk.f (k : Nat) (l0_0 : List Int) (l0_1 : List Int) (l0_2 : List Int) : Option (Bool) := (spec_l01In.f (l0_0.length : Int) 1 6).bind fun t107 => (if t107 = true then (if (l0_1.length : Int) = (l0_0.length : Int) then (spec_ExchangeOk.j0 k ((l0_2.length : Int) != (l0_0.length : Int)) l0_0 l0_1 l0_2) else (spec_ExchangeOk.j0 k true l0_0 l0_1 l0_2)) else (spec_ExchangeOk.j0 k true l0_0 l0_1 l0_2))
set_option maxHeartbeats 8000000 in
set_option maxRecDepth 100000 in
theorem spec_ExchangeOk.calls (k : Nat) (A0_0 : Option Addr) (c0_0 : Nat) (l0_0 : List Int) (A0_1 : Option Addr) (c0_1 : Nat) (l0_1 : List Int) (A0_2 : Option Addr) (c0_2 : Nat) (l0_2 : List Int) (r : Bool) (w : World) (hr0_0 : Kd.C (Kd.int .i64) w A0_0 l0_0.length l0_0) (hc0_0 : l0_0.length ≤ c0_0) (hr0_1 : Kd.C (Kd.int .i64) w A0_1 l0_1.length l0_1) (hc0_1 : l0_1.length ≤ c0_1) (hr0_2 : Kd.C (Kd.int .i64) w A0_2 l0_2.length l0_2) (hc0_2 : l0_2.length ≤ c0_2) (h : spec_ExchangeOk.f k l0_0 l0_1 l0_2 = some r) :
  Calls Try.prog 28 #[.agg #[.slice A0_0 l0_0.length c0_0, .slice A0_1 l0_1.length c0_1, .slice A0_2 l0_2.length c0_2]] w fun e w' => e = .returned (.bool r) ∧ Below w.heap.size w w' := by
 have hu26 := Try.underlying26
 have HR0_0 := Aside0.mk hr0_0
 have HC0_0 := Aside0.mk hc0_0
 clear hr0_0 hc0_0
 have HR0_1 := Aside0.mk hr0_1
 have HC0_1 := Aside0.mk hc0_1
 clear hr0_1 hc0_1
 have HR0_2 := Aside0.mk hr0_2
 have HC0_2 := Aside0.mk hc0_2
 clear hr0_2 hc0_2
 have HB := Aside0.mk (Below.refl w.heap.size w)
 have H : ((spec_l01In.f (l0_0.length : Int) 1 6).bind fun t107 => (if t107 = true then (if (l0_1.length : Int) = (l0_0.length : Int) then (spec_ExchangeOk.j0 k ((l0_2.length : Int) != (l0_0.length : Int)) l0_0 l0_1 l0_2) else (spec_ExchangeOk.j0 k true l0_0 l0_1 l0_2)) else (spec_ExchangeOk.j0 k true l0_0 l0_1 l0_2))) = some r := h
 clear h
 have HC2 := Aside0.mk H
 clear H
 go_enter Try.func28, Try.ntmps28
 go_upto_region 1 with (first | ((with_reducible refine gate_dst (N := 1) rfl ?_); (try (refine gate_guard (by rfl) ?_; dsimp only)); refine box_event ?hg (N := 1) ?hd (cs := #[.slice A0_0 l0_0.length c0_0, .slice A0_1 l0_1.length c0_1, .slice A0_2 l0_2.length c0_2]) (t := 26) ?hr ?_; (case hd => rfl); (case hg => rfl); (case hr => first | (go_simp; done) | (go_simp; rfl)); intro gb106 hg w3 hbox hb; have n0_ := Aside0.mk (below_step (bX HB.out) hb); have n1_ := Aside0.mk (hbox); have n2_ := Aside0.mk ((szX (below_size (bX HB.out)) hg : w.heap.size ≤ gb106)); have n3_ := Aside0.mk ((szX (below_size (bX HB.out)) hg : w.heap.size ≤ gb106)); clear HB; have HB := n0_; have BK106 := n1_; have GW106 := n2_; have GE106 := n3_; clear n0_ n1_ n2_ n3_ hb hbox hg))
 (try simp only [Act.put, List.setIfInBounds_toArray, List.set_cons_zero, List.set_cons_succ])
 go_cut [28] (fun v28 wc => ∃ (kq : Nat) (x28_1 : Bool), v28 = .bool x28_1 ∧ Aside0 (spec_ExchangeOk.j0 kq x28_1 l0_0 l0_1 l0_2 = some r) ∧ Aside0 (kq ≤ k) ∧ Aside0 (wc.heap[gb106]? = some (.cells #[(.slice A0_0 l0_0.length c0_0), (.slice A0_1 l0_1.length c0_1), (.slice A0_2 l0_2.length c0_2)] 26 (0, 0))) ∧ Aside0 (Below w.heap.size w wc))
 case first =>
  have H := HC2.out
  clear HC2
  replace H := Option.bind_eq_some_iff.mp H
  obtain ⟨t107, A40, H⟩ := H
  replace H : (if t107 = true then (if (l0_1.length : Int) = (l0_0.length : Int) then (spec_ExchangeOk.j0 k ((l0_2.length : Int) != (l0_0.length : Int)) l0_0 l0_1 l0_2) else (spec_ExchangeOk.j0 k true l0_0 l0_1 l0_2)) else (spec_ExchangeOk.j0 k true l0_0 l0_1 l0_2)) = some r := H
  have A4 := Aside0.mk A40
  clear A40
  by_cases c5 : t107 = true
  {
  subst c5
  have H1 : (if (l0_1.length : Int) = (l0_0.length : Int) then (spec_ExchangeOk.j0 k ((l0_2.length : Int) != (l0_0.length : Int)) l0_0 l0_1 l0_2) else (spec_ExchangeOk.j0 k true l0_0 l0_1 l0_2)) = some r := by rw [if_pos rfl] at H; exact H
  clear H
  have H := H1
  clear H1
  by_cases c6 : (l0_1.length : Int) = (l0_0.length : Int)
  {
  rw [if_pos c6] at H
  have c6b0 : ((l0_1.length : Int) == (l0_0.length : Int)) = true := beq_iff_eq.mpr c6
  have c6b1 : ((l0_1.length : Int) != (l0_0.length : Int)) = false := bne_eq_false_iff_eq.mpr c6
  have c6b2 : (l0_1.length == l0_0.length) = true := by first | simpa using c6 | (simp at c6 ⊢; omega)
  clear c6
  (first | rw [c6b0] | (simp only [i64_w, i32_w]; rw [c6b0]) | skip)
  have H' := Aside0.mk H
  clear H
  have hcz7_0 := cz30 BK106.out
  have hcz7_1 := cz31 BK106.out
  have hcz7_2 := cz32 BK106.out
  have hfz7_0 := blk_frozen BK106.out 0
  have hfz7_1 := blk_frozen BK106.out 1
  have hfz7_2 := blk_frozen BK106.out 2
  go_wp2_with (first | ((with_reducible refine gate_callee (f := 46) rfl ?_); refine goesL_ (some 9) rfl rfl Try.func46 (by kernel_rfl) rfl #[.int .i64 (l0_0.length : Int), .int .i64 1, .int .i64 6] rfl aX ?_; (with_reducible refine (spec_l01In.calls (l0_0.length : Int) 1 6 true _ A4.out).mono ?_); rintro e w' ⟨rfl, ⟨nd, rfl⟩⟩; refine ⟨_, rfl, ?_⟩))
  go_meet
  case rel => exact ⟨_, (((l0_2.length : Int) != (l0_0.length : Int))), vX, H', ⟨by first | omega | exact Nat.le_refl _⟩, ⟨kX BK106.out⟩, ⟨bX1 HB.out GE106.out⟩⟩
  }
  {
  rw [if_neg c6] at H
  have c6b0 : ((l0_1.length : Int) == (l0_0.length : Int)) = false := beq_eq_false_iff_ne.mpr c6
  have c6b1 : ((l0_1.length : Int) != (l0_0.length : Int)) = true := bne_iff_ne.mpr c6
  have c6b2 : (l0_1.length == l0_0.length) = false := by first | simpa using c6 | (simp at c6 ⊢; omega)
  (first | rw [c6b0] | (simp only [i64_w, i32_w]; rw [c6b0]) | skip)
  have H' := Aside0.mk H
  clear H
  have hcz8_0 := cz30 BK106.out
  have hcz8_1 := cz31 BK106.out
  have hcz8_2 := cz32 BK106.out
  have hfz8_0 := blk_frozen BK106.out 0
  have hfz8_1 := blk_frozen BK106.out 1
  have hfz8_2 := blk_frozen BK106.out 2
  go_wp2_with (first | ((with_reducible refine gate_callee (f := 46) rfl ?_); refine goesL_ (some 9) rfl rfl Try.func46 (by kernel_rfl) rfl #[.int .i64 (l0_0.length : Int), .int .i64 1, .int .i64 6] rfl aX ?_; (with_reducible refine (spec_l01In.calls (l0_0.length : Int) 1 6 true _ A4.out).mono ?_); rintro e w' ⟨rfl, ⟨nd, rfl⟩⟩; refine ⟨_, rfl, ?_⟩))
  go_meet
  case rel => exact ⟨_, (true), vX, H', ⟨by first | omega | exact Nat.le_refl _⟩, ⟨kX BK106.out⟩, ⟨bX1 HB.out GE106.out⟩⟩
  }
  }
  {
  replace c5 := Bool.eq_false_iff.mpr c5
  subst c5
  have H1 : (spec_ExchangeOk.j0 k true l0_0 l0_1 l0_2) = some r := by rw [if_neg (show ¬ (false = true) by decide)] at H; exact H
  clear H
  have H := H1
  clear H1
  have H' := Aside0.mk H
  clear H
  have hcz9_0 := cz30 BK106.out
  have hcz9_1 := cz31 BK106.out
  have hcz9_2 := cz32 BK106.out
  have hfz9_0 := blk_frozen BK106.out 0
  have hfz9_1 := blk_frozen BK106.out 1
  have hfz9_2 := blk_frozen BK106.out 2
  go_wp2_with (first | ((with_reducible refine gate_callee (f := 46) rfl ?_); refine goesL_ (some 9) rfl rfl Try.func46 (by kernel_rfl) rfl #[.int .i64 (l0_0.length : Int), .int .i64 1, .int .i64 6] rfl aX ?_; (with_reducible refine (spec_l01In.calls (l0_0.length : Int) 1 6 false _ A4.out).mono ?_); rintro e w' ⟨rfl, ⟨nd, rfl⟩⟩; refine ⟨_, rfl, ?_⟩))
  go_meet
  case rel => exact ⟨_, (true), vX, H', ⟨by first | omega | exact Nat.le_refl _⟩, ⟨kX BK106.out⟩, ⟨bX1 HB.out GE106.out⟩⟩
  }
 case rest =>
 clear HC2
 try clear c2
 try clear p2
 try clear c4
 try clear c5
 try clear c6
 try clear c6b0
 try clear c6b1
 try clear c6b2
 try clear hcz7_0
 try clear hcz7_1
 try clear hcz7_2
 try clear hcz8_0
 try clear hcz8_1
 try clear hcz8_2
 try clear hcz9_0
 try clear hcz9_1
 try clear hcz9_2
 try clear hfz7_0
 try clear hfz7_1
 try clear hfz7_2
 try clear hfz8_0
 try clear hfz8_1
 try clear hfz8_2
 try clear hfz9_0
 try clear hfz9_1
 try clear hfz9_2
 obtain ⟨kq, x28_1, rfl, HA, HJ1, BK106, HB⟩ := hcut
 cases kq with
 | zero => exact absurd HA.out (by simp [spec_ExchangeOk.j0])
 | succ kj1 =>
 have H := HA.out
 clear HA
 simp only [spec_ExchangeOk.j0] at H
 by_cases c10 : x28_1 = true
 {
 subst c10
 have H1 : (some false) = some r := by rw [if_pos rfl] at H; exact H
 clear H
 have H := H1
 clear H1
 obtain rfl := Option.some.inj H
 go_wp2
 go_ret
 exact ⟨eX, bX1 HB.out GE106.out⟩
 }
 {
 replace c10 := Bool.eq_false_iff.mpr c10
 subst c10
 have H1 : (spec_ExchangeOk.l0 kj1 0 l0_0 (l0_0.length : Int) 0 l0_0 l0_1 l0_2) = some r := by rw [if_neg (show ¬ (false = true) by decide)] at H; exact H
 clear H
 have H := H1
 clear H1
 have H' := Aside0.mk H
 clear H
 have hcz11_0 := cz30 BK106.out
 have hcz11_1 := cz31 BK106.out
 have hcz11_2 := cz32 BK106.out
 have hfz11_0 := blk_frozen BK106.out 0
 have hfz11_1 := blk_frozen BK106.out 1
 have hfz11_2 := blk_frozen BK106.out 2
 go_wp2
 go_loopg [3, 32] kj1 (fun kq v3 v32 w' => ∃ (x3_2 : Int) (x32_2 : Int), v3 = .int .i64 x3_2 ∧ v32 = .int .i64 x32_2 ∧ Aside0 (spec_ExchangeOk.l0 kq x3_2 l0_0 (l0_0.length : Int) x32_2 l0_0 l0_1 l0_2 = some r) ∧ Aside0 (kq ≤ kj1) ∧ Aside0 (w'.heap[gb106]? = some (.cells #[(.slice A0_0 l0_0.length c0_0), (.slice A0_1 l0_1.length c0_1), (.slice A0_2 l0_2.length c0_2)] 26 (0, 0))) ∧ Aside0 (Below w.heap.size w w'))
 case atStart => exact ⟨(0), (0), vX, vX, H', ⟨Nat.le_refl _⟩, ⟨kX BK106.out⟩, ⟨bX1 HB.out GE106.out⟩⟩
 case round =>
 clear H'
 try clear c1
 try clear c2
 try clear p2
 try clear c4
 try clear c5
 try clear c6
 try clear c6b0
 try clear c6b1
 try clear c6b2
 try clear c10
 try clear hcz11_0
 try clear hcz11_1
 try clear hcz11_2
 try clear hcz7_0
 try clear hcz7_1
 try clear hcz7_2
 try clear hcz8_0
 try clear hcz8_1
 try clear hcz8_2
 try clear hcz9_0
 try clear hcz9_1
 try clear hcz9_2
 try clear hfz11_0
 try clear hfz11_1
 try clear hfz11_2
 try clear hfz7_0
 try clear hfz7_1
 try clear hfz7_2
 try clear hfz8_0
 try clear hfz8_1
 try clear hfz8_2
 try clear hfz9_0
 try clear hfz9_1
 try clear hfz9_2
 try clear p2
 obtain ⟨x3_2, x32_2, rfl, rfl, HA, HK2, BK106, HB⟩ := hrel
 cases gk with
 | zero => exact absurd HA.out (by simp [spec_ExchangeOk.l0])
 | succ k2 =>
 have H := HA.out
 clear HA
 simp only [spec_ExchangeOk.l0] at H
 by_cases c12 : x32_2 < (l0_0.length : Int)
 {
 rw [if_pos c12] at H
 have c12b0 : decide (x32_2 < (l0_0.length : Int)) = true := decide_eq_true c12
 clear c12
 by_cases c13 : 0 ≤ x32_2
 {
 rw [if_pos c13] at H
 have c13b0 : decide (0 ≤ x32_2) = true := decide_eq_true c13
 clear c13
 by_cases c14 : x32_2 < (l0_0.length : Int)
 {
 rw [if_pos c14] at H
 have c14b0 : decide (x32_2 < (l0_0.length : Int)) = true := decide_eq_true c14
 clear c14
 replace H := Option.bind_eq_some_iff.mp H
 obtain ⟨t109, A150, H⟩ := H
 replace H : (if t109 = true then (spec_ExchangeOk.l0 k2 (wrap64 (x3_2 + (rd l0_0 x32_2))) l0_0 (l0_0.length : Int) (wrap64 (x32_2 + 1)) l0_0 l0_1 l0_2) else (some false)) = some r := H
 have A15 := Aside0.mk A150
 clear A150
 by_cases c16 : t109 = true
 {
 subst c16
 have H1 : (spec_ExchangeOk.l0 k2 (wrap64 (x3_2 + (rd l0_0 x32_2))) l0_0 (l0_0.length : Int) (wrap64 (x32_2 + 1)) l0_0 l0_1 l0_2) = some r := by rw [if_pos rfl] at H; exact H
 clear H
 have H := H1
 clear H1
 have H' := Aside0.mk H
 clear H
 have p108 : 0 ≤ (x32_2 : Int) := dX
 have q108 : x32_2 < (l0_0.length : Int) := dX
 obtain ⟨ad108, e108, hx108_0⟩ := Kd.at_int HR0_0.out x32_2 p108 q108
 cases e108
 replace hx108_0 := (HB.out.cell (World.block_lt_of_cell? w _ hx108_0)).trans hx108_0
 replace p108 := eq_true p108
 replace q108 := eq_true q108
 go_wp2_with (first | ((with_reducible refine gate_callee (f := 46) rfl ?_); refine goesL_ (some 37) rfl rfl Try.func46 (by kernel_rfl) rfl #[.int .i64 (rd l0_0 x32_2), .int .i64 1, .int .i64 60] rfl aX ?_; (with_reducible refine (spec_l01In.calls (rd l0_0 x32_2) 1 60 true _ A15.out).mono ?_); rintro e w' ⟨rfl, ⟨nd, rfl⟩⟩; refine ⟨_, rfl, ?_⟩))
 go_roundg k2
 case measure => have := HJ1.out; have := HK2.out; omega
 case rel => exact ⟨(wrap64 (x3_2 + (rd l0_0 x32_2))), (wrap64 (x32_2 + 1)), vX, vX, H', ⟨by have := HJ1.out; have := HK2.out; omega⟩, ⟨kX BK106.out⟩, ⟨bX1 HB.out GE106.out⟩⟩
 }
 {
 replace c16 := Bool.eq_false_iff.mpr c16
 subst c16
 have H1 : (some false) = some r := by rw [if_neg (show ¬ (false = true) by decide)] at H; exact H
 clear H
 have H := H1
 clear H1
 obtain rfl := Option.some.inj H
 have p108 : 0 ≤ (x32_2 : Int) := dX
 have q108 : x32_2 < (l0_0.length : Int) := dX
 obtain ⟨ad108, e108, hx108_0⟩ := Kd.at_int HR0_0.out x32_2 p108 q108
 cases e108
 replace hx108_0 := (HB.out.cell (World.block_lt_of_cell? w _ hx108_0)).trans hx108_0
 replace p108 := eq_true p108
 replace q108 := eq_true q108
 go_wp2_with (first | ((with_reducible refine gate_callee (f := 46) rfl ?_); refine goesL_ (some 37) rfl rfl Try.func46 (by kernel_rfl) rfl #[.int .i64 (rd l0_0 x32_2), .int .i64 1, .int .i64 60] rfl aX ?_; (with_reducible refine (spec_l01In.calls (rd l0_0 x32_2) 1 60 false _ A15.out).mono ?_); rintro e w' ⟨rfl, ⟨nd, rfl⟩⟩; refine ⟨_, rfl, ?_⟩))
 go_ret
 exact ⟨eX, bX1 HB.out GE106.out⟩
 }
 }
 {
 rw [if_neg c14] at H
 exact absurd H (by simp)
 }
 }
 {
 rw [if_neg c13] at H
 exact absurd H (by simp)
 }
 }
 {
 rw [if_neg c12] at H
 have c12b0 : decide (x32_2 < (l0_0.length : Int)) = false := decide_eq_false c12
 clear c12
 by_cases c17 : x3_2 ≤ 60
 {
 rw [if_pos c17] at H
 have c17b0 : decide (x3_2 ≤ 60) = true := decide_eq_true c17
 clear c17
 replace H := Option.bind_eq_some_iff.mp H
 obtain ⟨t110, A180, H⟩ := H
 replace H : (if t110 = true then ((spec_PermOk.f l0_2).bind fun t111 => (some t111)) else (some false)) = some r := H
 have A18 := Aside0.mk A180
 clear A180
 by_cases c19 : t110 = true
 {
 subst c19
 have H1 : ((spec_PermOk.f l0_2).bind fun t111 => (some t111)) = some r := by rw [if_pos rfl] at H; exact H
 clear H
 have H := H1
 clear H1
 replace H := Option.bind_eq_some_iff.mp H
 obtain ⟨t111, A200, H⟩ := H
 replace H : (some t111) = some r := H
 have A20 := Aside0.mk A200
 clear A200
 obtain rfl := Option.some.inj H
 have hcz21_0 := cz30 BK106.out
 have hcz21_1 := cz31 BK106.out
 have hcz21_2 := cz32 BK106.out
 have hfz21_0 := blk_frozen BK106.out 0
 have hfz21_1 := blk_frozen BK106.out 1
 have hfz21_2 := blk_frozen BK106.out 2
 go_wp2_with (first | (go_at_call 47; (with_reducible refine (spec_PermOk.calls _ _ l0_1 true _ ?side1 ?side2 A18.out).mono ?_); (case side1 => exact cX (Kd.C_below HR0_1.out HB.out)); (case side2 => exact HC0_1.out); rintro e w' ⟨rfl, ⟨nd, rfl⟩⟩) | (go_at_call 47; (with_reducible refine (spec_PermOk.calls _ _ l0_2 t111 _ ?side1 ?side2 A20.out).mono ?_); (case side1 => exact cX (Kd.C_below HR0_2.out (bX1 HB.out GE106.out))); (case side2 => exact HC0_2.out); rintro e w' ⟨rfl, ⟨nd, rfl⟩⟩))
 go_ret
 exact ⟨eX, bX1 HB.out GE106.out⟩
 }
 {
 replace c19 := Bool.eq_false_iff.mpr c19
 subst c19
 have H1 : (some false) = some r := by rw [if_neg (show ¬ (false = true) by decide)] at H; exact H
 clear H
 have H := H1
 clear H1
 obtain rfl := Option.some.inj H
 have hcz22_0 := cz30 BK106.out
 have hcz22_1 := cz31 BK106.out
 have hcz22_2 := cz32 BK106.out
 have hfz22_0 := blk_frozen BK106.out 0
 have hfz22_1 := blk_frozen BK106.out 1
 have hfz22_2 := blk_frozen BK106.out 2
 go_wp2_with (first | (go_at_call 47; (with_reducible refine (spec_PermOk.calls _ _ l0_1 false _ ?side1 ?side2 A18.out).mono ?_); (case side1 => exact cX (Kd.C_below HR0_1.out HB.out)); (case side2 => exact HC0_1.out); rintro e w' ⟨rfl, ⟨nd, rfl⟩⟩))
 go_ret
 exact ⟨eX, bX1 HB.out GE106.out⟩
 }
 }
 {
 rw [if_neg c17] at H
 have c17b0 : decide (x3_2 ≤ 60) = false := decide_eq_false c17
 clear c17
 obtain rfl := Option.some.inj H
 go_wp2
 go_ret
 exact ⟨eX, bX1 HB.out GE106.out⟩
 }
 }
 }

/-! ### spec_l16After: function 48 -/
def spec_l16After.l0 : Nat → Int → Int → List Int → List Int → Int → Int → Option (List Int)
 | 0, _, _, _, _, _, _ => none
 | k + 1, x1, x5, x6, x20, x21, x22 => if x22 < x21 then (if 0 ≤ x22 then (if x22 < (x20.length : Int) then (if x6.length < 17592186044416 then ((some (x6 ++ [rd x20 x22] : List Int)).bind fun y118 => (if (rd x20 x22) = x1 then (if y118.length < 17592186044416 then (spec_l16After.l0 k x1 x5 (y118 ++ [x5]) x20 x21 (wrap64 (x22 + 1))) else (none)) else (spec_l16After.l0 k x1 x5 y118 x20 x21 (wrap64 (x22 + 1))))) else (none)) else (none)) else (none)) else (some x6)
def spec_l16After.f (k : Nat) (l0 : List Int) (a1 : Int) : Option (List Int) := if 0 ≤ (wrap64 ((l0.length : Int) - 1)) then (if (wrap64 ((l0.length : Int) - 1)) < (l0.length : Int) then (if (wrap64 ((l0.length : Int) - 1)) ≤ (l0.length : Int) then (spec_l16After.l0 k a1 (rd l0 (wrap64 ((l0.length : Int) - 1))) (([] : List Int)) (l0.take ((wrap64 ((l0.length : Int) - 1)) : Int).toNat) ((l0.take ((wrap64 ((l0.length : Int) - 1)) : Int).toNat).length : Int) 0) else (none)) else (none)) else (none)
set_option maxHeartbeats 8000000 in
set_option maxRecDepth 100000 in
theorem spec_l16After.calls (k : Nat) (A0 : Option Addr) (c0 : Nat) (l0 : List Int) (a1 : Int) (r : List Int) (w : World) (hr0 : Kd.C (Kd.int .i64) w A0 l0.length l0) (hc0 : l0.length ≤ c0) (h : spec_l16After.f k l0 a1 = some r) :
  Calls Try.prog 48 #[.slice A0 l0.length c0, .int .i64 a1] w fun e w' => ∃ v0_ : Value, e = .returned (v0_) ∧ Kd.R (Kd.int .i64) 3 w' w.heap.size (fun _ => True) v0_ r ∧ Below w.heap.size w w' := by
 have HR0 := Aside0.mk hr0
 have HC0 := Aside0.mk hc0
 clear hr0 hc0
 have HB := Aside0.mk (Below.refl w.heap.size w)
 have H : (if 0 ≤ (wrap64 ((l0.length : Int) - 1)) then (if (wrap64 ((l0.length : Int) - 1)) < (l0.length : Int) then (if (wrap64 ((l0.length : Int) - 1)) ≤ (l0.length : Int) then (spec_l16After.l0 k a1 (rd l0 (wrap64 ((l0.length : Int) - 1))) (([] : List Int)) (l0.take ((wrap64 ((l0.length : Int) - 1)) : Int).toNat) ((l0.take ((wrap64 ((l0.length : Int) - 1)) : Int).toNat).length : Int) 0) else (none)) else (none)) else (none)) = some r := h
 clear h
 obtain ⟨ji3, hji3⟩ : ∃ j_ : Int, (wrap64 ((l0.length : Int) - 1)) = j_ := ⟨_, rfl⟩
 replace H : (if 0 ≤ (ji3) then (if (ji3) < (l0.length : Int) then (if (ji3) ≤ (l0.length : Int) then (spec_l16After.l0 k a1 (rd l0 (ji3)) (([] : List Int)) (l0.take ((ji3) : Int).toNat) ((l0.take ((ji3) : Int).toNat).length : Int) 0) else (none)) else (none)) else (none)) = some r := by first | (rw [hji3] at H; exact H) | (simp only [hji3] at H ⊢; exact H)
 have hji3w : (IntKind.i64.wrap ((l0.length : Int) - 1)) = ji3 := (i64_w _).trans hji3
 by_cases c4 : 0 ≤ (ji3)
 {
 rw [if_pos c4] at H
 have c4b0 : decide (0 ≤ (ji3)) = true := decide_eq_true c4
 clear c4
 by_cases c5 : (ji3) < (l0.length : Int)
 {
 rw [if_pos c5] at H
 have c5b0 : decide ((ji3) < (l0.length : Int)) = true := decide_eq_true c5
 clear c5
 obtain ⟨y113, hy113⟩ : ∃ y_ : List Int, y_ = (([] : List Int)) := ⟨_, rfl⟩
 replace H : (if (ji3) ≤ (l0.length : Int) then (spec_l16After.l0 k a1 (rd l0 (ji3)) y113 (l0.take ((ji3) : Int).toNat) ((l0.take ((ji3) : Int).toNat).length : Int) 0) else (none)) = some r := by first | (rw [hy113]; with_reducible exact H) | (have H2_ := (Option.bind_some _ _).symm.trans H; rw [hy113]; with_reducible exact H2_) | (have H2_ := (Option.bind_some _ _).symm.trans H; with_reducible exact H2_) | with_reducible exact H | (rw [hy113]; exact H) | exact H
 have Ny113 := Aside0.mk hy113
 clear hy113
 have c6b0 := eq_true (dX : 0 ≤ (ji3))
 by_cases c7 : (ji3) ≤ (l0.length : Int)
 {
 rw [if_pos c7] at H
 have c7b0 := eq_true c7
 have c7b1 : decide ((ji3) ≤ (l0.length : Int)) = true := decide_eq_true c7
 clear c7
 have H' := Aside0.mk H
 clear H
 have p112 : 0 ≤ ((ji3) : Int) := dX
 have q112 : (ji3) < (l0.length : Int) := dX
 obtain ⟨ad112, e112, hx112_0⟩ := Kd.at_int HR0.out (ji3) p112 q112
 cases e112
 replace p112 := eq_true p112
 replace q112 := eq_true q112
 obtain ⟨cut_, hcut_⟩ : ∃ z_ : List Int, z_ = (l0.take ((ji3) : Int).toNat) := ⟨_, rfl⟩
 rw [← hcut_] at H'
 have HCUT_ := Aside0.mk hcut_
 clear hcut_
 go_enter Try.func48, Try.ntmps48
 go_wp2_with (first | ((with_reducible refine gate_dst (N := 15) rfl ?_); refine Kd.R_lit (Kd.int .i64) _ 3 ?hg (N := 15) ?hd (xs := ([] : List Int)) (inner := []) (ok := fun _ => True) (okp := fun _ => True) ?hr ?hp (fun _ hk => hk) trivial (Below.refl _ _) (Nat.le_refl _) (by simp) ?_; (case hd => rfl); (case hg => rfl); (case hr => first | (go_simp; done) | (go_simp; rfl)); (case hp => exact (Reps.none _ _)); intro v114 w8 ho9 hb hg_ hnew_; clear hg_ hnew_; (first | rw [← Ny113.out] at ho9 | (simp only [Int.reduceToNat] at ho9; rw [← Ny113.out] at ho9)); have n0_ := Aside0.mk (Kd.R_lower ho9 (below_size (bX HB.out))); have n1_ := Aside0.mk (below_step (bX HB.out) hb); clear HB; have HO115 := n0_; have HB := n1_; clear n0_ n1_ hb ho9; obtain ⟨i010, hi010, _, hsz10, _⟩ := info_parts info3; obtain ⟨hcut10, hA10, hC10⟩ := print_take_of (P := Try.prog) (Value.int .i64) 0 22 3 .i64 Try.underlying22 hi010 hsz10 (some ad112) c0 l0 (ji3) (dX) (dX) HC0.out; rw [← HCUT_.out] at hcut10 hA10 hC10; have HR116 := Aside0.mk (Kd.C_of_reads (h1 := fun _ => rfl) (hA10 _ (Kd.reads_of_C HR0.out))); have HC116 := Aside0.mk hC10; clear hA10 hC10 hi010 hsz10))
 go_loopg [6, 22] k (fun kq v6 v22 w' => ∃ (x6_1 : List Int) (x22_1 : Int), v22 = .int .i64 x22_1 ∧ Aside0 (spec_l16After.l0 kq a1 (rd l0 (ji3)) x6_1 cut_ (cut_.length : Int) x22_1 = some r) ∧ Aside0 (kq ≤ k) ∧ Aside0 (Kd.R (Kd.int .i64) 3 w' w.heap.size (fun _ => True) v6 x6_1) ∧ Aside0 (Below w.heap.size w w'))
 case atStart => exact ⟨(y113), (0), vX, H', ⟨Nat.le_refl _⟩, ⟨rX HO115.out⟩, ⟨bX HB.out⟩⟩
 case round =>
 clear H'
 try clear p1
 try clear q1
 try clear hx1
 try clear p2
 try clear c4
 try clear c4b0
 try clear c5
 try clear c5b0
 try clear c6
 try clear c6b0
 try clear p6
 try clear c7
 try clear c7b0
 try clear c7b1
 try clear hx112_0
 try clear p112
 try clear q112
 obtain ⟨x6_1, x22_1, rfl, HA, HK1, HO_6, HB⟩ := hrel
 cases gk with
 | zero => exact absurd HA.out (by simp [spec_l16After.l0])
 | succ k1 =>
 have H := HA.out
 clear HA
 simp only [spec_l16After.l0] at H
 by_cases c11 : x22_1 < (cut_.length : Int)
 {
 rw [if_pos c11] at H
 have c11b0 : decide (x22_1 < (cut_.length : Int)) = true := decide_eq_true c11
 clear c11
 by_cases c12 : 0 ≤ x22_1
 {
 rw [if_pos c12] at H
 have c12b0 : decide (0 ≤ x22_1) = true := decide_eq_true c12
 clear c12
 by_cases c13 : x22_1 < (cut_.length : Int)
 {
 rw [if_pos c13] at H
 have c13b0 : decide (x22_1 < (cut_.length : Int)) = true := decide_eq_true c13
 clear c13
 by_cases c14 : x6_1.length < 17592186044416
 {
 rw [if_pos c14] at H
 have LMc14 := Aside0.mk c14
 clear c14
 obtain ⟨y118, hy118⟩ : ∃ y_ : List Int, y_ = (x6_1 ++ [rd cut_ x22_1]) := ⟨_, rfl⟩
 replace H : (if (rd cut_ x22_1) = a1 then (if y118.length < 17592186044416 then (spec_l16After.l0 k1 a1 (rd l0 (ji3)) (y118 ++ [(rd l0 (ji3))]) cut_ (cut_.length : Int) (wrap64 (x22_1 + 1))) else (none)) else (spec_l16After.l0 k1 a1 (rd l0 (ji3)) y118 cut_ (cut_.length : Int) (wrap64 (x22_1 + 1)))) = some r := by first | (rw [hy118]; with_reducible exact H) | (have H2_ := (Option.bind_some _ _).symm.trans H; rw [hy118]; with_reducible exact H2_) | (have H2_ := (Option.bind_some _ _).symm.trans H; with_reducible exact H2_) | with_reducible exact H | (rw [hy118]; exact H) | exact H
 have Ny118 := Aside0.mk hy118
 clear hy118
 by_cases c15 : (rd cut_ x22_1) = a1
 {
 rw [if_pos c15] at H
 have c15b0 : ((rd cut_ x22_1) == a1) = true := beq_iff_eq.mpr c15
 have c15b1 : ((rd cut_ x22_1) != a1) = false := bne_eq_false_iff_eq.mpr c15
 clear c15
 by_cases c16 : y118.length < 17592186044416
 {
 rw [if_pos c16] at H
 have LMc16 := Aside0.mk c16
 clear c16
 obtain ⟨y121, hy121⟩ : ∃ y_ : List Int, y_ = (y118 ++ [(rd l0 (ji3))]) := ⟨_, rfl⟩
 replace H : (spec_l16After.l0 k1 a1 (rd l0 (ji3)) y121 cut_ (cut_.length : Int) (wrap64 (x22_1 + 1))) = some r := by first | (rw [hy121]; with_reducible exact H) | (have H2_ := (Option.bind_some _ _).symm.trans H; rw [hy121]; with_reducible exact H2_) | (have H2_ := (Option.bind_some _ _).symm.trans H; with_reducible exact H2_) | with_reducible exact H | (rw [hy121]; exact H) | exact H
 have Ny121 := Aside0.mk hy121
 clear hy121
 have H' := Aside0.mk H
 clear H
 have p117 : 0 ≤ (x22_1 : Int) := dX
 have q117 : x22_1 < (cut_.length : Int) := dX
 obtain ⟨ad117, e117, hx117_0⟩ := Kd.at_int HR116.out x22_1 p117 q117
 obtain rfl : ad112 = ad117 := (by injection e117)
 replace hx117_0 := (HB.out.cell (World.block_lt_of_cell? w _ hx117_0)).trans hx117_0
 replace p117 := eq_true p117
 replace q117 := eq_true q117
 go_wp2_with (first | ((with_reducible refine gate_builtin (b := .append) (xs := #[.tmp 26, .tmp 28]) rfl ?_); at_builtin; refine Kd.R_append (Kd.int .i64) (w0 := w) w.heap.size rfl (.tmp 26) (.tmp 28) 22 3 (.int .i64 0) 8 rfl Try.underlying22 info3 rfl (by decide) (by omega) u6 x6_1 (rd cut_ x22_1) [.int .i64 (rd cut_ x22_1)] (fun _ => True) (fun _ => False) rfl rfl ?aP (fun _ hk => hk.elim) ?aF ?aO ?aB ?aS ?aL ?_; (case aP => exact rfl); (case aB => exact (bX HB.out)); (case aF => exact (fun _ _ => trivial)); (case aO => exact (rX HO_6.out)); (case aS => exact (below_size (bX HB.out))); (case aL => have := LMc14.out; omega); intro v119 w17 ho hb hg hat; rw [← Ny118.out] at ho; have n0_ := Aside0.mk (hb); have n1_ := Aside0.mk (ho); clear HB HO_6; have HB := n0_; have HO120 := n1_; clear n0_ n1_ ho hb hg hat) | ((with_reducible refine gate_builtin (b := .append) (xs := #[.tmp 33, .tmp 35]) rfl ?_); at_builtin; refine Kd.R_append (Kd.int .i64) (w0 := w) w.heap.size rfl (.tmp 33) (.tmp 35) 22 3 (.int .i64 0) 8 rfl Try.underlying22 info3 rfl (by decide) (by omega) v119 y118 (rd l0 (ji3)) [.int .i64 (rd l0 (ji3))] (fun _ => True) (fun _ => False) rfl rfl ?aP (fun _ hk => hk.elim) ?aF ?aO ?aB ?aS ?aL ?_; (case aP => exact rfl); (case aB => exact (bX HB.out)); (case aF => exact (fun _ _ => trivial)); (case aO => exact (rX HO120.out)); (case aS => exact (below_size (bX HB.out))); (case aL => have := LMc16.out; omega); intro v122 w18 ho hb hg hat; rw [← Ny121.out] at ho; have n0_ := Aside0.mk (hb); have n1_ := Aside0.mk (ho); clear HB HO120; have HB := n0_; have HO123 := n1_; clear n0_ n1_ ho hb hg hat))
 go_roundg k1
 case measure => have := HK1.out; omega
 case rel => exact ⟨(y121), (wrap64 (x22_1 + 1)), vX, H', ⟨by have := HK1.out; omega⟩, ⟨rX HO123.out⟩, ⟨bX HB.out⟩⟩
 }
 {
 rw [if_neg c16] at H
 exact absurd H (by simp)
 }
 }
 {
 rw [if_neg c15] at H
 have c15b0 : ((rd cut_ x22_1) == a1) = false := beq_eq_false_iff_ne.mpr c15
 have c15b1 : ((rd cut_ x22_1) != a1) = true := bne_iff_ne.mpr c15
 have H' := Aside0.mk H
 clear H
 have p117 : 0 ≤ (x22_1 : Int) := dX
 have q117 : x22_1 < (cut_.length : Int) := dX
 obtain ⟨ad117, e117, hx117_0⟩ := Kd.at_int HR116.out x22_1 p117 q117
 obtain rfl : ad112 = ad117 := (by injection e117)
 replace hx117_0 := (HB.out.cell (World.block_lt_of_cell? w _ hx117_0)).trans hx117_0
 replace p117 := eq_true p117
 replace q117 := eq_true q117
 go_wp2_with (first | ((with_reducible refine gate_builtin (b := .append) (xs := #[.tmp 26, .tmp 28]) rfl ?_); at_builtin; refine Kd.R_append (Kd.int .i64) (w0 := w) w.heap.size rfl (.tmp 26) (.tmp 28) 22 3 (.int .i64 0) 8 rfl Try.underlying22 info3 rfl (by decide) (by omega) u6 x6_1 (rd cut_ x22_1) [.int .i64 (rd cut_ x22_1)] (fun _ => True) (fun _ => False) rfl rfl ?aP (fun _ hk => hk.elim) ?aF ?aO ?aB ?aS ?aL ?_; (case aP => exact rfl); (case aB => exact (bX HB.out)); (case aF => exact (fun _ _ => trivial)); (case aO => exact (rX HO_6.out)); (case aS => exact (below_size (bX HB.out))); (case aL => have := LMc14.out; omega); intro v119 w19 ho hb hg hat; rw [← Ny118.out] at ho; have n0_ := Aside0.mk (hb); have n1_ := Aside0.mk (ho); clear HB HO_6; have HB := n0_; have HO120 := n1_; clear n0_ n1_ ho hb hg hat))
 go_roundg k1
 case measure => have := HK1.out; omega
 case rel => exact ⟨(y118), (wrap64 (x22_1 + 1)), vX, H', ⟨by have := HK1.out; omega⟩, ⟨rX HO120.out⟩, ⟨bX HB.out⟩⟩
 }
 }
 {
 rw [if_neg c14] at H
 exact absurd H (by simp)
 }
 }
 {
 rw [if_neg c13] at H
 exact absurd H (by simp)
 }
 }
 {
 rw [if_neg c12] at H
 exact absurd H (by simp)
 }
 }
 {
 rw [if_neg c11] at H
 have c11b0 : decide (x22_1 < (cut_.length : Int)) = false := decide_eq_false c11
 clear c11
 obtain rfl := Option.some.inj H
 go_wp2
 go_ret
 exact ⟨_, by first | rfl | (simp [errW_none, errW_some] <;> rfl) | (simp only [← hji3]; first | rfl | (simp [errW_none, errW_some] <;> rfl)) | (simp [*, errW_none, errW_some] <;> rfl), by (with_reducible repeat (first|apply rA|apply rN|apply rD)); exact HO_6.out, bX HB.out⟩
 }
 }
 {
 rw [if_neg c7] at H
 exact absurd H (by simp)
 }
 }
 {
 rw [if_neg c5] at H
 exact absurd H (by simp)
 }
 }
 {
 rw [if_neg c4] at H
 exact absurd H (by simp)
 }

end Go.Proofs.Ytfomhkfgdggngaa.S
