-- PRINTED by print.py (a twelfth state) out of the translation. Not trusted: Lean checks it.
import Derived.Test.YthhdgeafdnikcaaGreatDoorS0
import Derived.Test.YthhdgeafdnikcaaGreatDoorS6
namespace Go.Proofs.YthhdgeafdnikcaaGreatDoor.S
open Go.RowKit Go.Proofs.YthhdgeafdnikcaaGreatDoorW.PrintWords Go.Proofs.YthhdgeafdnikcaaGreatDoorW.PrintLast Go.Proofs.YthhdgeafdnikcaaGreatDoorW.PrintMore
attribute [local go_sem] max2_int min2_int max_two min_two max_three min_three max_four min_four   -- for this text's walks alone
set_option linter.unusedVariables false
set_option linter.unusedSimpArgs false

/-! ### spec_l03Less: function 153 -/
def spec_l03Less.l0 : Nat → List Int → List Int → Int → Int → Option (Bool)
 | 0, _, _, _, _ => none
 | k + 1, x1, x7, x8, x9 => if x9 < x8 then (if 0 ≤ x9 then (if x9 < (x7.length : Int) then (if x9 < (x1.length : Int) then (if (rd x7 x9) = (rd x1 x9) then (spec_l03Less.l0 k x1 x7 x8 (wrap64 (x9 + 1))) else (some (decide ((rd x7 x9) < (rd x1 x9))))) else (none)) else (none)) else (none)) else (some false)
def spec_l03Less.f (k : Nat) (l0 : List Int) (l1 : List Int) : Option (Bool) := spec_l03Less.l0 k l1 l0 (l0.length : Int) 0
set_option maxHeartbeats 8000000 in
set_option maxRecDepth 100000 in
theorem spec_l03Less.calls (k : Nat) (A0 : Option Addr) (c0 : Nat) (l0 : List Int) (A1 : Option Addr) (c1 : Nat) (l1 : List Int) (r : Bool) (w : World) (hr0 : Kd.C (Kd.int .i64) w A0 l0.length l0) (hc0 : l0.length ≤ c0) (hr1 : Kd.C (Kd.int .i64) w A1 l1.length l1) (hc1 : l1.length ≤ c1) (h : spec_l03Less.f k l0 l1 = some r) :
  Calls Tryz.prog 153 #[.slice A0 l0.length c0, .slice A1 l1.length c1] w fun e w' => e = .returned (.bool r) ∧ Drawn0 w w' := by
 have HR0 := Aside0.mk hr0
 have HC0 := Aside0.mk hc0
 clear hr0 hc0
 have HR1 := Aside0.mk hr1
 have HC1 := Aside0.mk hc1
 clear hr1 hc1
 have H : (spec_l03Less.l0 k l1 l0 (l0.length : Int) 0) = some r := h
 clear h
 have H' := Aside0.mk H
 clear H
 go_enter Tryz.func153, Tryz.ntmps153
 go_wp2
 go_loopg [9] k (fun kq v9 w' => ∃ (x9_1 : Int), v9 = .int .i64 x9_1 ∧ Aside0 (spec_l03Less.l0 kq l1 l0 (l0.length : Int) x9_1 = some r) ∧ Aside0 (kq ≤ k) ∧ Drawn0 w w')
 case atStart => exact ⟨(0), vX, H', ⟨Nat.le_refl _⟩, by repeat (first | exact Drawn0.refl _ | apply Drawn0.step)⟩
 case round =>
 clear H'
 try clear c1
 try clear p2
 obtain ⟨x9_1, rfl, HA, HK1, ⟨m1, rfl⟩⟩ := hrel
 cases gk with
 | zero => exact absurd HA.out (by simp [spec_l03Less.l0])
 | succ k1 =>
 have H := HA.out
 clear HA
 simp only [spec_l03Less.l0] at H
 by_cases c3 : x9_1 < (l0.length : Int)
 {
 rw [if_pos c3] at H
 have c3b0 : decide (x9_1 < (l0.length : Int)) = true := decide_eq_true c3
 clear c3
 by_cases c4 : 0 ≤ x9_1
 {
 rw [if_pos c4] at H
 have c4b0 : decide (0 ≤ x9_1) = true := decide_eq_true c4
 clear c4
 by_cases c5 : x9_1 < (l0.length : Int)
 {
 rw [if_pos c5] at H
 have c5b0 : decide (x9_1 < (l0.length : Int)) = true := decide_eq_true c5
 clear c5
 by_cases c6 : x9_1 < (l1.length : Int)
 {
 rw [if_pos c6] at H
 have c6b0 : decide (x9_1 < (l1.length : Int)) = true := decide_eq_true c6
 clear c6
 by_cases c7 : (rd l0 x9_1) = (rd l1 x9_1)
 {
 rw [if_pos c7] at H
 have c7b0 : ((rd l0 x9_1) == (rd l1 x9_1)) = true := beq_iff_eq.mpr c7
 have c7b1 : ((rd l0 x9_1) != (rd l1 x9_1)) = false := bne_eq_false_iff_eq.mpr c7
 clear c7
 have H' := Aside0.mk H
 clear H
 have p529 : 0 ≤ (x9_1 : Int) := dX
 have q529 : x9_1 < (l0.length : Int) := dX
 obtain ⟨ad529, e529, hx529_0⟩ := Kd.at_int HR0.out x9_1 p529 q529
 cases e529
 replace p529 := eq_true p529
 replace q529 := eq_true q529
 have p530 : 0 ≤ (x9_1 : Int) := dX
 have q530 : x9_1 < (l1.length : Int) := dX
 obtain ⟨ad530, e530, hx530_0⟩ := Kd.at_int HR1.out x9_1 p530 q530
 cases e530
 replace p530 := eq_true p530
 replace q530 := eq_true q530
 go_wp2
 go_roundg k1
 case measure => have := HK1.out; omega
 case rel => exact ⟨(wrap64 (x9_1 + 1)), vX, H', ⟨by have := HK1.out; omega⟩, by repeat (first | exact Drawn0.refl _ | apply Drawn0.step)⟩
 }
 {
 rw [if_neg c7] at H
 have c7b0 : ((rd l0 x9_1) == (rd l1 x9_1)) = false := beq_eq_false_iff_ne.mpr c7
 have c7b1 : ((rd l0 x9_1) != (rd l1 x9_1)) = true := bne_iff_ne.mpr c7
 obtain rfl := Option.some.inj H
 have p529 : 0 ≤ (x9_1 : Int) := dX
 have q529 : x9_1 < (l0.length : Int) := dX
 obtain ⟨ad529, e529, hx529_0⟩ := Kd.at_int HR0.out x9_1 p529 q529
 cases e529
 replace p529 := eq_true p529
 replace q529 := eq_true q529
 have p530 : 0 ≤ (x9_1 : Int) := dX
 have q530 : x9_1 < (l1.length : Int) := dX
 obtain ⟨ad530, e530, hx530_0⟩ := Kd.at_int HR1.out x9_1 p530 q530
 cases e530
 replace p530 := eq_true p530
 replace q530 := eq_true q530
 have p531 : 0 ≤ (x9_1 : Int) := dX
 have q531 : x9_1 < (l1.length : Int) := dX
 obtain ⟨ad531, e531, hx531_0⟩ := Kd.at_int HR1.out x9_1 p531 q531
 obtain rfl : ad530 = ad531 := (by injection e531)
 replace p531 := eq_true p531
 replace q531 := eq_true q531
 go_wp2
 go_ret
 exact ⟨by first | rfl | (simp; done) | (simp [*]; done), by repeat (first | exact Drawn0.refl _ | apply Drawn0.step)⟩
 }
 }
 {
 rw [if_neg c6] at H
 exact absurd H (by simp)
 }
 }
 {
 rw [if_neg c5] at H
 exact absurd H (by simp)
 }
 }
 {
 rw [if_neg c4] at H
 exact absurd H (by simp)
 }
 }
 {
 rw [if_neg c3] at H
 have c3b0 : decide (x9_1 < (l0.length : Int)) = false := decide_eq_false c3
 clear c3
 obtain rfl := Option.some.inj H
 go_wp2
 go_ret
 exact ⟨by first | rfl | (simp; done) | (simp [*]; done), by repeat (first | exact Drawn0.refl _ | apply Drawn0.step)⟩
 }

/-! ### spec_l03Before: function 129 -/
def spec_l03Before.f (k : Nat) (l0_0 : List Int) (l0_1 : List Int) (l1_0 : List Int) (l1_1 : List Int) : Option (Bool) := (spec_SameList.f k l0_0 l1_0).bind fun t534 => (if t534 = true then ((spec_l03Less.f k l0_1 l1_1).bind fun t535 => (some t535)) else ((spec_l03Less.f k l0_0 l1_0).bind fun t536 => (some t536)))
set_option maxHeartbeats 8000000 in
set_option maxRecDepth 100000 in
theorem spec_l03Before.calls (k : Nat) (A0_0 : Option Addr) (c0_0 : Nat) (l0_0 : List Int) (A0_1 : Option Addr) (c0_1 : Nat) (l0_1 : List Int) (A1_0 : Option Addr) (c1_0 : Nat) (l1_0 : List Int) (A1_1 : Option Addr) (c1_1 : Nat) (l1_1 : List Int) (r : Bool) (w : World) (hr0_0 : Kd.C (Kd.int .i64) w A0_0 l0_0.length l0_0) (hc0_0 : l0_0.length ≤ c0_0) (hr0_1 : Kd.C (Kd.int .i64) w A0_1 l0_1.length l0_1) (hc0_1 : l0_1.length ≤ c0_1) (hr1_0 : Kd.C (Kd.int .i64) w A1_0 l1_0.length l1_0) (hc1_0 : l1_0.length ≤ c1_0) (hr1_1 : Kd.C (Kd.int .i64) w A1_1 l1_1.length l1_1) (hc1_1 : l1_1.length ≤ c1_1) (h : spec_l03Before.f k l0_0 l0_1 l1_0 l1_1 = some r) :
  Calls Tryz.prog 129 #[.agg #[.slice A0_0 l0_0.length c0_0, .slice A0_1 l0_1.length c0_1], .agg #[.slice A1_0 l1_0.length c1_0, .slice A1_1 l1_1.length c1_1]] w fun e w' => e = .returned (.bool r) ∧ Below w.heap.size w w' := by
 have hu25 := Tryz.underlying25
 have HR0_0 := Aside0.mk hr0_0
 have HC0_0 := Aside0.mk hc0_0
 clear hr0_0 hc0_0
 have HR0_1 := Aside0.mk hr0_1
 have HC0_1 := Aside0.mk hc0_1
 clear hr0_1 hc0_1
 have HR1_0 := Aside0.mk hr1_0
 have HC1_0 := Aside0.mk hc1_0
 clear hr1_0 hc1_0
 have HR1_1 := Aside0.mk hr1_1
 have HC1_1 := Aside0.mk hc1_1
 clear hr1_1 hc1_1
 have HB := Aside0.mk (Below.refl w.heap.size w)
 have H : ((spec_SameList.f k l0_0 l1_0).bind fun t534 => (if t534 = true then ((spec_l03Less.f k l0_1 l1_1).bind fun t535 => (some t535)) else ((spec_l03Less.f k l0_0 l1_0).bind fun t536 => (some t536)))) = some r := h
 clear h
 replace H := Option.bind_eq_some_iff.mp H
 obtain ⟨t534, A30, H⟩ := H
 replace H : (if t534 = true then ((spec_l03Less.f k l0_1 l1_1).bind fun t535 => (some t535)) else ((spec_l03Less.f k l0_0 l1_0).bind fun t536 => (some t536))) = some r := H
 have A3 := Aside0.mk A30
 clear A30
 by_cases c4 : t534 = true
 {
 subst c4
 have H1 : ((spec_l03Less.f k l0_1 l1_1).bind fun t535 => (some t535)) = some r := by rw [if_pos rfl] at H; exact H
 clear H
 have H := H1
 clear H1
 replace H := Option.bind_eq_some_iff.mp H
 obtain ⟨t535, A50, H⟩ := H
 replace H : (some t535) = some r := H
 have A5 := Aside0.mk A50
 clear A50
 obtain rfl := Option.some.inj H
 go_enter Tryz.func129, Tryz.ntmps129
 go_wp2_with (first | ((with_reducible refine gate_dst (N := 2) rfl ?_); refine box_event ?hg (N := 2) ?hd (cs := #[.slice A0_0 l0_0.length c0_0, .slice A0_1 l0_1.length c0_1]) (t := 25) ?hr ?_; (case hd => rfl); (case hg => rfl); (case hr => first | (go_simp; done) | (go_simp; rfl)); intro gb532 hg w6 hbox hb; have n0_ := Aside0.mk (below_step (bX HB.out) hb); have n1_ := Aside0.mk (hbox); have n2_ := Aside0.mk ((szX (below_size (bX HB.out)) hg : w.heap.size ≤ gb532)); have n3_ := Aside0.mk ((szX (below_size (bX HB.out)) hg : w.heap.size ≤ gb532)); clear HB; have HB := n0_; have BK532 := n1_; have GW532 := n2_; have GE532 := n3_; clear n0_ n1_ n2_ n3_ hb hbox hg) | ((with_reducible refine gate_dst (N := 3) rfl ?_); refine box_event ?hg (N := 3) ?hd (cs := #[.slice A1_0 l1_0.length c1_0, .slice A1_1 l1_1.length c1_1]) (t := 25) ?hr ?_; (case hd => rfl); (case hg => rfl); (case hr => first | (go_simp; done) | (go_simp; rfl)); intro gb533 hg w7 hbox hb; have n0_ := Aside0.mk (bbX BK532.out hb); have n1_ := Aside0.mk (below_step (bX1 HB.out GE532.out) hb); have n2_ := Aside0.mk (hbox); have n3_ := Aside0.mk ((szX (below_size (bX1 HB.out GE532.out)) hg : w.heap.size ≤ gb533)); have n4_ := Aside0.mk ((szX (below_size (bX1 HB.out GE532.out)) hg : w.heap.size ≤ gb533)); have n5_ := Aside0.mk (neX BK532.out hg); have n6_ := Aside0.mk (nfX BK532.out hg); clear BK532 HB; have BK532 := n0_; have HB := n1_; have BK533 := n2_; have GW533 := n3_; have GE533 := n4_; have NB532_533 := n5_; have NB533_532 := n6_; clear n0_ n1_ n2_ n3_ n4_ n5_ n6_ hb hbox hg; have hnb8 := NB532_533.out; have hnc8 := NB533_532.out; have hcz9_0 := cz20 BK532.out; have hcz9_1 := cz21 BK532.out; have hfz9_0 := blk_frozen BK532.out 0; have hfz9_1 := blk_frozen BK532.out 1; have hcz10_0 : w7.cell? ⟨gb533, 0, none⟩ = some (.slice A1_0 l1_0.length c1_0) := (blk_cell BK533.out 0).trans rfl; have hcz10_1 : w7.cell? ⟨gb533, 1, none⟩ = some (.slice A1_1 l1_1.length c1_1) := (blk_cell BK533.out 1).trans rfl; have hfz10_0 := blk_frozen BK533.out 0; have hfz10_1 := blk_frozen BK533.out 1) | ((with_reducible refine gate_callee (f := 130) rfl ?_); refine goesL_ (some 9) rfl rfl Tryz.func130 (by kernel_rfl) rfl #[.slice A0_0 l0_0.length c0_0, .slice A1_0 l1_0.length c1_0] rfl aX ?_; (with_reducible refine (spec_SameList.calls k _ _ l0_0 _ _ l1_0 true _ ?side1 ?side2 ?side3 ?side4 A3.out).mono ?_); (case side1 => exact cX (Kd.C_below HR0_0.out HB.out)); (case side2 => exact HC0_0.out); (case side3 => exact cX (Kd.C_below HR1_0.out HB.out)); (case side4 => exact HC1_0.out); rintro e w' ⟨rfl, ⟨nd, rfl⟩⟩; refine ⟨_, rfl, ?_⟩) | ((with_reducible refine gate_callee (f := 153) rfl ?_); refine goesL_ (some 14) rfl rfl Tryz.func153 (by kernel_rfl) rfl #[.slice A0_1 l0_1.length c0_1, .slice A1_1 l1_1.length c1_1] rfl aX ?_; (with_reducible refine (spec_l03Less.calls k _ _ l0_1 _ _ l1_1 t535 _ ?side1 ?side2 ?side3 ?side4 A5.out).mono ?_); (case side1 => exact cX (Kd.C_below HR0_1.out (bX2 HB.out GE532.out GE533.out))); (case side2 => exact HC0_1.out); (case side3 => exact cX (Kd.C_below HR1_1.out (bX2 HB.out GE532.out GE533.out))); (case side4 => exact HC1_1.out); rintro e w' ⟨rfl, ⟨nd, rfl⟩⟩; refine ⟨_, rfl, ?_⟩))
 go_ret
 exact ⟨eX, bX2 HB.out GE532.out GE533.out⟩
 }
 {
 replace c4 := Bool.eq_false_iff.mpr c4
 subst c4
 have H1 : ((spec_l03Less.f k l0_0 l1_0).bind fun t536 => (some t536)) = some r := by rw [if_neg (show ¬ (false = true) by decide)] at H; exact H
 clear H
 have H := H1
 clear H1
 replace H := Option.bind_eq_some_iff.mp H
 obtain ⟨t536, A110, H⟩ := H
 replace H : (some t536) = some r := H
 have A11 := Aside0.mk A110
 clear A110
 obtain rfl := Option.some.inj H
 go_enter Tryz.func129, Tryz.ntmps129
 go_wp2_with (first | ((with_reducible refine gate_dst (N := 2) rfl ?_); refine box_event ?hg (N := 2) ?hd (cs := #[.slice A0_0 l0_0.length c0_0, .slice A0_1 l0_1.length c0_1]) (t := 25) ?hr ?_; (case hd => rfl); (case hg => rfl); (case hr => first | (go_simp; done) | (go_simp; rfl)); intro gb532 hg w12 hbox hb; have n0_ := Aside0.mk (below_step (bX HB.out) hb); have n1_ := Aside0.mk (hbox); have n2_ := Aside0.mk ((szX (below_size (bX HB.out)) hg : w.heap.size ≤ gb532)); have n3_ := Aside0.mk ((szX (below_size (bX HB.out)) hg : w.heap.size ≤ gb532)); clear HB; have HB := n0_; have BK532 := n1_; have GW532 := n2_; have GE532 := n3_; clear n0_ n1_ n2_ n3_ hb hbox hg) | ((with_reducible refine gate_dst (N := 3) rfl ?_); refine box_event ?hg (N := 3) ?hd (cs := #[.slice A1_0 l1_0.length c1_0, .slice A1_1 l1_1.length c1_1]) (t := 25) ?hr ?_; (case hd => rfl); (case hg => rfl); (case hr => first | (go_simp; done) | (go_simp; rfl)); intro gb533 hg w13 hbox hb; have n0_ := Aside0.mk (bbX BK532.out hb); have n1_ := Aside0.mk (below_step (bX1 HB.out GE532.out) hb); have n2_ := Aside0.mk (hbox); have n3_ := Aside0.mk ((szX (below_size (bX1 HB.out GE532.out)) hg : w.heap.size ≤ gb533)); have n4_ := Aside0.mk ((szX (below_size (bX1 HB.out GE532.out)) hg : w.heap.size ≤ gb533)); have n5_ := Aside0.mk (neX BK532.out hg); have n6_ := Aside0.mk (nfX BK532.out hg); clear BK532 HB; have BK532 := n0_; have HB := n1_; have BK533 := n2_; have GW533 := n3_; have GE533 := n4_; have NB532_533 := n5_; have NB533_532 := n6_; clear n0_ n1_ n2_ n3_ n4_ n5_ n6_ hb hbox hg; have hnb14 := NB532_533.out; have hnc14 := NB533_532.out; have hcz15_0 := cz20 BK532.out; have hcz15_1 := cz21 BK532.out; have hfz15_0 := blk_frozen BK532.out 0; have hfz15_1 := blk_frozen BK532.out 1; have hcz16_0 : w13.cell? ⟨gb533, 0, none⟩ = some (.slice A1_0 l1_0.length c1_0) := (blk_cell BK533.out 0).trans rfl; have hcz16_1 : w13.cell? ⟨gb533, 1, none⟩ = some (.slice A1_1 l1_1.length c1_1) := (blk_cell BK533.out 1).trans rfl; have hfz16_0 := blk_frozen BK533.out 0; have hfz16_1 := blk_frozen BK533.out 1) | ((with_reducible refine gate_callee (f := 130) rfl ?_); refine goesL_ (some 9) rfl rfl Tryz.func130 (by kernel_rfl) rfl #[.slice A0_0 l0_0.length c0_0, .slice A1_0 l1_0.length c1_0] rfl aX ?_; (with_reducible refine (spec_SameList.calls k _ _ l0_0 _ _ l1_0 false _ ?side1 ?side2 ?side3 ?side4 A3.out).mono ?_); (case side1 => exact cX (Kd.C_below HR0_0.out HB.out)); (case side2 => exact HC0_0.out); (case side3 => exact cX (Kd.C_below HR1_0.out HB.out)); (case side4 => exact HC1_0.out); rintro e w' ⟨rfl, ⟨nd, rfl⟩⟩; refine ⟨_, rfl, ?_⟩) | ((with_reducible refine gate_callee (f := 153) rfl ?_); refine goesL_ (some 19) rfl rfl Tryz.func153 (by kernel_rfl) rfl #[.slice A0_0 l0_0.length c0_0, .slice A1_0 l1_0.length c1_0] rfl aX ?_; (with_reducible refine (spec_l03Less.calls k _ _ l0_0 _ _ l1_0 t536 _ ?side1 ?side2 ?side3 ?side4 A11.out).mono ?_); (case side1 => exact cX (Kd.C_below HR0_0.out (bX2 HB.out GE532.out GE533.out))); (case side2 => exact HC0_0.out); (case side3 => exact cX (Kd.C_below HR1_0.out (bX2 HB.out GE532.out GE533.out))); (case side4 => exact HC1_0.out); rintro e w' ⟨rfl, ⟨nd, rfl⟩⟩; refine ⟨_, rfl, ?_⟩))
 go_ret
 exact ⟨eX, bX2 HB.out GE532.out GE533.out⟩
 }

end Go.Proofs.YthhdgeafdnikcaaGreatDoor.S
