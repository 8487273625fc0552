-- PRINTED by print.py (a twelfth state) out of the translation. Not trusted: Lean checks it.
import Derived.Test.YtlbhjemkjkdndaaS0
import Derived.Test.YtlbhjemkjkdndaaS1
import Derived.Test.YtlbhjemkjkdndaaS2
import Derived.Test.YtlbhjemkjkdndaaS3
namespace Go.Proofs.Ytlbhjemkjkdndaa.S
set_option maxHeartbeats 8000000
set_option maxRecDepth 100000
open Go.RowKit Go.Proofs.YtlbhjemkjkdndaaW.PrintWords Go.Proofs.YtlbhjemkjkdndaaW.PrintLast Go.Proofs.YtlbhjemkjkdndaaW.PrintMore
attribute [local go_sem] max2_int min2_int max_two min_two max_three min_three max_four min_four   -- for this text's walks alone
set_option linter.unusedVariables false
set_option linter.unusedSimpArgs false

attribute [local go_sem high] eqA41
/-! ### s_l01New: function 17 -/
def s_l01New.l0 : Nat → List Int → Int → Int → Option (List Int × Int × Int)
 | 0, _, _, _ => none
 | k + 1, x0, x3, x4 => if x4 < (x0.length : Int) then (if x4 < 4000 then (if 0 ≤ x4 then (s_l01New.l0 k x0 (Go.bits .and .i64 (wrap64 ((wrap64 ((wrap64 (x3 * 109)) + (wrap64 (rd x0 x4)))) + 7)) 1073741823) (wrap64 (x4 + 1))) else (none)) else (some (x0, 0, x3))) else (some (x0, 0, x3))
def s_l01New.f (k : Nat) (l0 : List Int) : Option (List Int × Int × Int) := s_l01New.l0 k l0 (wrap64 (2073 + (l0.length : Int))) 0
theorem s_l01New.calls (k : Nat) (A0 : Option Addr) (c0 : Nat) (l0 : List Int) (r1 : List Int) (r2 : Int) (r3 : Int) (w0 w : World) (hB : Below w0.heap.size w0 w) (hr0 : Kd.C (Kd.int .u8) w0 A0 l0.length l0) (hc0 : l0.length ≤ c0) (h : s_l01New.f k l0 = some (r1, r2, r3)) :
  Calls Try.prog 17 #[.slice A0 l0.length c0] w fun e w' => ∃ g_ : Nat, e = .returned (.pointer (some ⟨g_, 0, none⟩)) ∧ IsS55 w0 w' g_ r1 r2 r3 ∧ Below w0.heap.size w0 w' ∧ Below w.heap.size w w' := by
 have hu55 := Try.underlying55
 have HR0 := aM hr0
 have HC0 := aM hc0
 clear hr0 hc0
 have HBW := aM (Below.refl w.heap.size w)
 have HW0 := aM hB.size
 have HB := aM hB
 clear hB
 have H : (s_l01New.l0 k l0 (wrap64 (2073 + (l0.length : Int))) 0) = some (r1, r2, r3) := h
 clear h
 have H' := aM H
 clear H
 go_enter Try.func17, Try.ntmps17
 go_wp2
 go_loopg [3, 4] k (fun kq v3 v4 w' => ∃ (x3_1 : Int) (x4_1 : Int), v3 = .int .i64 x3_1 ∧ v4 = .int .i64 x4_1 ∧ Aside0 (s_l01New.l0 kq l0 x3_1 x4_1 = some (r1, r2, r3)) ∧ Aside0 (kq ≤ k) ∧ Aside0 (Below w0.heap.size w0 w') ∧ Aside0 (Below w.heap.size w w'))
 case atStart => exact ⟨(wrap64 (2073 + (l0.length : Int))), (0), vX, vX, H', ⟨Nat.le_refl _⟩, ⟨bX HB.out⟩, ⟨by repeat (first | (with_reducible first | exact HBW.out | apply below_alloc | apply pw_below_drewN | apply below_drew1) | exact HBW.out)⟩⟩
 case round =>
 clear H'
 obtain ⟨x3_1, x4_1, rfl, rfl, HA, HK1, HB, HBW⟩ := hrel
 cases gk with
 | zero => exact absurd HA.out (by simp [s_l01New.l0])
 | succ k1 =>
 have H := HA.out
 clear HA
 simp only [s_l01New.l0] at H
 by_cases c2 : x4_1 < (l0.length : Int)
 {
 rw [if_pos c2] at H
 have c2b0 : decide (x4_1 < (l0.length : Int)) = true := decide_eq_true c2
 clear c2
 by_cases c3 : x4_1 < 4000
 {
 rw [if_pos c3] at H
 have c3b0 : decide (x4_1 < 4000) = true := decide_eq_true c3
 clear c3
 by_cases c4 : 0 ≤ x4_1
 {
 rw [if_pos c4] at H
 have c4b0 : decide (0 ≤ x4_1) = true := decide_eq_true c4
 clear c4
 have H' := aM H
 clear H
 have p184 : 0 ≤ (x4_1 : Int) := dX
 have q184 : x4_1 < (l0.length : Int) := dX
 obtain ⟨ad184, e184, hx184_0⟩ := Kd.at_int HR0.out x4_1 p184 q184
 cases e184
 replace hx184_0 := pw_cell_below HB.out hx184_0
 replace p184 := eq_true p184
 replace q184 := eq_true q184
 go_wp2
 go_roundg k1
 case measure => have := HK1.out; omega
 case rel => exact ⟨(Go.bits .and .i64 (wrap64 ((wrap64 ((wrap64 (x3_1 * 109)) + (wrap64 (rd l0 x4_1)))) + 7)) 1073741823), (wrap64 (x4_1 + 1)), vX, vX, H', ⟨by have := HK1.out; omega⟩, ⟨bX HB.out⟩, ⟨by repeat (first | (with_reducible first | exact HBW.out | apply below_alloc | apply pw_below_drewN | apply below_drew1) | exact HBW.out)⟩⟩
 }
 {
 rw [if_neg c4] at H
 exact absurd H (by simp)
 }
 }
 {
 rw [if_neg c3] at H
 have c3b0 : decide (x4_1 < 4000) = false := decide_eq_false c3
 clear c3
 simp only [Option.some.injEq, Prod.mk.injEq] at H
 obtain ⟨rfl, rfl, rfl⟩ := H
 go_wp2_with (first | ((with_reducible refine gate_dst (N := 31) rfl ?_); refine bEv (cs := #[.slice A0 l0.length c0, .int .i64 0, .int .i64 x3_1]) (t := 55) ?_; intro gb185 hg w5 hbox hb; replace HB := aM (below_step (bX HB.out) hb); have BK185 := aM (hbox); have GW185 := aM ((by rw [hg]; exact (below_size (by repeat (first | (with_reducible first | exact HBW.out | apply below_alloc | apply pw_below_drewN | apply below_drew1) | exact HBW.out))) : w.heap.size ≤ gb185)); have GE185 := aM ((Nat.le_trans HW0.out (by rw [hg]; exact (below_size (by repeat (first | (with_reducible first | exact HBW.out | apply below_alloc | apply pw_below_drewN | apply below_drew1) | exact HBW.out))) : w.heap.size ≤ gb185) : w0.heap.size ≤ gb185)); replace HBW := aM (below_step HBW.out hb); clear hb hbox hg))
 go_ret
 exact ⟨_, rfl, (show IsS55 w0 _ gb185 l0 0 x3_1 from ⟨_, _, by (with_reducible repeat (first|refine kN ?_ _|refine kD ?_|refine kA ?_ _)); exact BK185.out, GE185.out, HR0.out⟩), bX1 HB.out GE185.out, by repeat (first | (with_reducible first | exact HBW.out | apply below_alloc | apply pw_below_drewN | apply below_drew1 | refine below_set ?_ GW185.out) | exact HBW.out)⟩
 }
 }
 {
 rw [if_neg c2] at H
 have c2b0 : decide (x4_1 < (l0.length : Int)) = false := decide_eq_false c2
 clear c2
 simp only [Option.some.injEq, Prod.mk.injEq] at H
 obtain ⟨rfl, rfl, rfl⟩ := H
 go_wp2_with (first | ((with_reducible refine gate_dst (N := 31) rfl ?_); refine bEv (cs := #[.slice A0 l0.length c0, .int .i64 0, .int .i64 x3_1]) (t := 55) ?_; intro gb186 hg w6 hbox hb; replace HB := aM (below_step (bX HB.out) hb); have BK186 := aM (hbox); have GW186 := aM ((by rw [hg]; exact (below_size (by repeat (first | (with_reducible first | exact HBW.out | apply below_alloc | apply pw_below_drewN | apply below_drew1) | exact HBW.out))) : w.heap.size ≤ gb186)); have GE186 := aM ((Nat.le_trans HW0.out (by rw [hg]; exact (below_size (by repeat (first | (with_reducible first | exact HBW.out | apply below_alloc | apply pw_below_drewN | apply below_drew1) | exact HBW.out))) : w.heap.size ≤ gb186) : w0.heap.size ≤ gb186)); replace HBW := aM (below_step HBW.out hb); clear hb hbox hg))
 go_ret
 exact ⟨_, rfl, (show IsS55 w0 _ gb186 l0 0 x3_1 from ⟨_, _, by (with_reducible repeat (first|refine kN ?_ _|refine kD ?_|refine kA ?_ _)); exact BK186.out, GE186.out, HR0.out⟩), bX1 HB.out GE186.out, by repeat (first | (with_reducible first | exact HBW.out | apply below_alloc | apply pw_below_drewN | apply below_drew1 | refine below_set ?_ GW186.out) | exact HBW.out)⟩
 }
theorem s_l01New.calls2 (k : Nat) (A0 : Option Addr) (c0 : Nat) (l0 : List Int) (r1 : List Int) (r2 : Int) (r3 : Int) (w0 w : World) (hB : Below w0.heap.size w0 w) (hr0 : Kd.C (Kd.int .u8) w0 A0 l0.length l0) (hc0 : l0.length ≤ c0) (h : s_l01New.f k l0 = some (r1, r2, r3)) :
  Calls Try.prog 17 #[.slice A0 l0.length c0] w fun e w' => ∃ g_ : Nat, e = .returned (.pointer (some ⟨g_, 0, none⟩)) ∧ IsS55 w0 w' g_ r1 r2 r3 ∧ Below w0.heap.size w0 w' ∧ Below w.heap.size w w' ∧ w.heap.size ≤ g_ := by
 have hu55 := Try.underlying55
 have HR0 := aM hr0
 have HC0 := aM hc0
 clear hr0 hc0
 have HBW := aM (Below.refl w.heap.size w)
 have HW0 := aM hB.size
 have HB := aM hB
 clear hB
 have H : (s_l01New.l0 k l0 (wrap64 (2073 + (l0.length : Int))) 0) = some (r1, r2, r3) := h
 clear h
 have H' := aM H
 clear H
 go_enter Try.func17, Try.ntmps17
 go_wp2
 go_loopg [3, 4] k (fun kq v3 v4 w' => ∃ (x3_1 : Int) (x4_1 : Int), v3 = .int .i64 x3_1 ∧ v4 = .int .i64 x4_1 ∧ Aside0 (s_l01New.l0 kq l0 x3_1 x4_1 = some (r1, r2, r3)) ∧ Aside0 (kq ≤ k) ∧ Aside0 (Below w0.heap.size w0 w') ∧ Aside0 (Below w.heap.size w w'))
 case atStart => exact ⟨(wrap64 (2073 + (l0.length : Int))), (0), vX, vX, H', ⟨Nat.le_refl _⟩, ⟨bX HB.out⟩, ⟨by repeat (first | (with_reducible first | exact HBW.out | apply below_alloc | apply pw_below_drewN | apply below_drew1) | exact HBW.out)⟩⟩
 case round =>
 clear H'
 obtain ⟨x3_1, x4_1, rfl, rfl, HA, HK1, HB, HBW⟩ := hrel
 cases gk with
 | zero => exact absurd HA.out (by simp [s_l01New.l0])
 | succ k1 =>
 have H := HA.out
 clear HA
 simp only [s_l01New.l0] at H
 by_cases c2 : x4_1 < (l0.length : Int)
 {
 rw [if_pos c2] at H
 have c2b0 : decide (x4_1 < (l0.length : Int)) = true := decide_eq_true c2
 clear c2
 by_cases c3 : x4_1 < 4000
 {
 rw [if_pos c3] at H
 have c3b0 : decide (x4_1 < 4000) = true := decide_eq_true c3
 clear c3
 by_cases c4 : 0 ≤ x4_1
 {
 rw [if_pos c4] at H
 have c4b0 : decide (0 ≤ x4_1) = true := decide_eq_true c4
 clear c4
 have H' := aM H
 clear H
 have p184 : 0 ≤ (x4_1 : Int) := dX
 have q184 : x4_1 < (l0.length : Int) := dX
 obtain ⟨ad184, e184, hx184_0⟩ := Kd.at_int HR0.out x4_1 p184 q184
 cases e184
 replace hx184_0 := pw_cell_below HB.out hx184_0
 replace p184 := eq_true p184
 replace q184 := eq_true q184
 go_wp2
 go_roundg k1
 case measure => have := HK1.out; omega
 case rel => exact ⟨(Go.bits .and .i64 (wrap64 ((wrap64 ((wrap64 (x3_1 * 109)) + (wrap64 (rd l0 x4_1)))) + 7)) 1073741823), (wrap64 (x4_1 + 1)), vX, vX, H', ⟨by have := HK1.out; omega⟩, ⟨bX HB.out⟩, ⟨by repeat (first | (with_reducible first | exact HBW.out | apply below_alloc | apply pw_below_drewN | apply below_drew1) | exact HBW.out)⟩⟩
 }
 {
 rw [if_neg c4] at H
 exact absurd H (by simp)
 }
 }
 {
 rw [if_neg c3] at H
 have c3b0 : decide (x4_1 < 4000) = false := decide_eq_false c3
 clear c3
 simp only [Option.some.injEq, Prod.mk.injEq] at H
 obtain ⟨rfl, rfl, rfl⟩ := H
 go_wp2_with (first | ((with_reducible refine gate_dst (N := 31) rfl ?_); refine bEv (cs := #[.slice A0 l0.length c0, .int .i64 0, .int .i64 x3_1]) (t := 55) ?_; intro gb185 hg w5 hbox hb; replace HB := aM (below_step (bX HB.out) hb); have BK185 := aM (hbox); have GW185 := aM ((by rw [hg]; exact (below_size (by repeat (first | (with_reducible first | exact HBW.out | apply below_alloc | apply pw_below_drewN | apply below_drew1) | exact HBW.out))) : w.heap.size ≤ gb185)); have GE185 := aM ((Nat.le_trans HW0.out (by rw [hg]; exact (below_size (by repeat (first | (with_reducible first | exact HBW.out | apply below_alloc | apply pw_below_drewN | apply below_drew1) | exact HBW.out))) : w.heap.size ≤ gb185) : w0.heap.size ≤ gb185)); replace HBW := aM (below_step HBW.out hb); clear hb hbox hg))
 go_ret
 exact ⟨_, rfl, (show IsS55 w0 _ gb185 l0 0 x3_1 from ⟨_, _, by (with_reducible repeat (first|refine kN ?_ _|refine kD ?_|refine kA ?_ _)); exact BK185.out, GE185.out, HR0.out⟩), bX1 HB.out GE185.out, by repeat (first | (with_reducible first | exact HBW.out | apply below_alloc | apply pw_below_drewN | apply below_drew1 | refine below_set ?_ GW185.out) | exact HBW.out), GW185.out⟩
 }
 }
 {
 rw [if_neg c2] at H
 have c2b0 : decide (x4_1 < (l0.length : Int)) = false := decide_eq_false c2
 clear c2
 simp only [Option.some.injEq, Prod.mk.injEq] at H
 obtain ⟨rfl, rfl, rfl⟩ := H
 go_wp2_with (first | ((with_reducible refine gate_dst (N := 31) rfl ?_); refine bEv (cs := #[.slice A0 l0.length c0, .int .i64 0, .int .i64 x3_1]) (t := 55) ?_; intro gb186 hg w6 hbox hb; replace HB := aM (below_step (bX HB.out) hb); have BK186 := aM (hbox); have GW186 := aM ((by rw [hg]; exact (below_size (by repeat (first | (with_reducible first | exact HBW.out | apply below_alloc | apply pw_below_drewN | apply below_drew1) | exact HBW.out))) : w.heap.size ≤ gb186)); have GE186 := aM ((Nat.le_trans HW0.out (by rw [hg]; exact (below_size (by repeat (first | (with_reducible first | exact HBW.out | apply below_alloc | apply pw_below_drewN | apply below_drew1) | exact HBW.out))) : w.heap.size ≤ gb186) : w0.heap.size ≤ gb186)); replace HBW := aM (below_step HBW.out hb); clear hb hbox hg))
 go_ret
 exact ⟨_, rfl, (show IsS55 w0 _ gb186 l0 0 x3_1 from ⟨_, _, by (with_reducible repeat (first|refine kN ?_ _|refine kD ?_|refine kA ?_ _)); exact BK186.out, GE186.out, HR0.out⟩), bX1 HB.out GE186.out, by repeat (first | (with_reducible first | exact HBW.out | apply below_alloc | apply pw_below_drewN | apply below_drew1 | refine below_set ?_ GW186.out) | exact HBW.out), GW186.out⟩
 }

/-! ### s_MakeTable: function 4 -/
def s_MakeTable.f (k : Nat) (l0 : List Int) : Option ((List (S41))) := (s_l01New.f k l0).bind fun bt187 => ((s_l15Draw.f k bt187.1 bt187.2.1 bt187.2.2 4).bind fun bt191 => (some bt191.1))
theorem s_MakeTable.calls (k : Nat) (A0 : Option Addr) (c0 : Nat) (l0 : List Int) (r : List (S41)) (w : World) (hr0 : Kd.C (Kd.int .u8) w A0 l0.length l0) (hc0 : l0.length ≤ c0) (h : s_MakeTable.f k l0 = some r) :
  Calls Try.prog 4 #[.slice A0 l0.length c0] w fun e w' => ∃ v0_ : Value, e = .returned (v0_) ∧ Kd.R k41 41 w' w.heap.size (fun _ => True) v0_ r ∧ Below w.heap.size w w' := by
 have HR0 := aM hr0
 have HC0 := aM hc0
 clear hr0 hc0
 have HB := aM (Below.refl w.heap.size w)
 have H : ((s_l01New.f k l0).bind fun bt187 => ((s_l15Draw.f k bt187.1 bt187.2.1 bt187.2.2 4).bind fun bt191 => (some bt191.1))) = some r := h
 clear h
 replace H := oB H
 obtain ⟨⟨t187, t188, t189⟩, A20, H⟩ := H
 replace H : ((s_l15Draw.f k t187 t188 t189 4).bind fun bt191 => (some bt191.1)) = some r := H
 have A2 := aM A20
 clear A20
 replace H := oB H
 obtain ⟨⟨t191, t194, t195⟩, A30, H⟩ := H
 replace H : (some t191) = some r := H
 have A3 := aM A30
 clear A30
 obtain rfl := Option.some.inj H
 go_enter Try.func4, Try.ntmps4
 go_wp2_with (first | ((with_reducible refine gate_callee (f := 17) rfl ?_); refine goesL_ (some 4) rfl rfl Try.func17 (by kernel_rfl) rfl #[.slice A0 l0.length c0] rfl aX ?_; (with_reducible refine (s_l01New.calls k _ _ l0 t187 t188 t189 w _ ?side1 ?side2 ?side3 A2.out).mono ?_); (case side1 => repeat (first | (with_reducible first | exact HB.out|apply bA|apply bN|apply bD) | exact HB.out)); (case side2 => exact HR0.out); (case side3 => exact HC0.out); rintro e w4 ⟨g190, rfl, hi, hb, hb2⟩; refine ⟨_, rfl, ?_⟩; replace HB := aM (hb); have HI190 := aM (hi); (try clear hb); (try clear hb2); (try clear hk); (try clear hi)) | ((with_reducible refine gate_callee (f := 16) rfl ?_); refine goesL_ (some 5) rfl rfl Try.func16 (by kernel_rfl) rfl #[.pointer (some ⟨g190, 0, none⟩), .int .i64 4] rfl aX ?_; (with_reducible refine (s_l15Draw.calls k g190 t187 t188 t189 4 t191 t194 t195 w _ ?side1 ?side2 A3.out).mono ?_); (case side1 => repeat (first | (with_reducible first | exact HI190.out | apply IsS55.alloc | apply IsS55.drewN | apply IsS55.drew | apply IsS55.set_1 | apply IsS55.set_2) | exact HI190.out)); (case side2 => repeat (first | (with_reducible first | exact HB.out|apply bA|apply bN|apply bD | refine below_set ?_ (IsS55.ge HI190.out)) | exact HB.out)); rintro e w5 ⟨v192, rfl, ho0, hi, hb, hk⟩; refine ⟨_, rfl, ?_⟩; have HO193 := aM (Kd.R_lower ho0 (below_size (bX1 HB.out (IsS55.ge HI190.out)))); replace HB := aM (hb); replace HI190 := aM (hi); (try clear hb); (try clear hb2); (try clear hk); (try clear hi); (try clear ho0)))
 go_ret
 exact ⟨_, eX, by (with_reducible repeat (first|apply rA|apply rN|apply rD)); exact HO193.out, bX1 HB.out (IsS55.ge HI190.out)⟩

/-! ### i_Cell: function 24 -/
def i_Cell.l0 : Nat → List (S41) → Int → Int → Int → Int → Option (Int)
 | 0, _, _, _, _, _ => none
 | k + 1, x0, x7, x8, x197000, x197001 => if x8 < x7 then (if 0 ≤ x8 then (if x8 < (x0.length : Int) then (if (x197000 == ((rd_T41 x0 x8).f0) && (x197001 == ((rd_T41 x0 x8).f1))) = true then (some x8) else (i_Cell.l0 k x0 x7 (wrap64 (x8 + 1)) x197000 x197001)) else (none)) else (none)) else (some (-1))
def i_Cell.f (k : Nat) (l0 : List (S41)) (a1_0 : Int) (a1_1 : Int) : Option (Int) := i_Cell.l0 k l0 (l0.length : Int) 0 a1_0 a1_1
theorem i_Cell.calls (k : Nat) (A0 : Option Addr) (c0 : Nat) (l0 : List (S41)) (a1_0 : Int) (a1_1 : Int) (r : Int) (w : World) (hr0 : Kd.C k41 w A0 l0.length l0) (hc0 : l0.length ≤ c0) (h : i_Cell.f k l0 a1_0 a1_1 = some r) :
  Calls Try.prog 24 #[.slice A0 l0.length c0, .agg #[.int .i64 a1_0, .int .i64 a1_1]] w fun e w' => e = .returned (.int .i64 r) ∧ Below w.heap.size w w' := by
 have hu41 := Try.underlying41
 have HR0 := aM hr0
 have HC0 := aM hc0
 clear hr0 hc0
 have HB := aM (Below.refl w.heap.size w)
 have H : (i_Cell.l0 k l0 (l0.length : Int) 0 a1_0 a1_1) = some r := h
 clear h
 have H' := aM H
 clear H
 go_enter Try.func24, Try.ntmps24
 go_wp2_with (first | ((with_reducible refine gate_dst (N := 3) rfl ?_); refine bEv (cs := #[.int .i64 a1_0, .int .i64 a1_1]) (t := 41) ?_; intro gb196 hg w3 hbox hb; have BK196 := aM (hbox); have GW196 := aM ((szX (below_size (bX HB.out)) hg : w.heap.size ≤ gb196)); have GE196 := aM ((szX (below_size (bX HB.out)) hg : w.heap.size ≤ gb196)); replace HB := aM (below_step (bX HB.out) hb); clear hb hbox hg))
 repeat (go_quiet (first | ((with_reducible refine gate_dst (N := 3) rfl ?_); refine bEv (cs := #[.int .i64 a1_0, .int .i64 a1_1]) (t := 41) ?_; intro gb196 hg w3 hbox hb; have BK196 := aM (hbox); have GW196 := aM ((szX (below_size (bX HB.out)) hg : w.heap.size ≤ gb196)); have GE196 := aM ((szX (below_size (bX HB.out)) hg : w.heap.size ≤ gb196)); replace HB := aM (below_step (bX HB.out) hb); clear hb hbox hg)); try go_wp2_with (first | ((with_reducible refine gate_dst (N := 3) rfl ?_); refine bEv (cs := #[.int .i64 a1_0, .int .i64 a1_1]) (t := 41) ?_; intro gb196 hg w3 hbox hb; have BK196 := aM (hbox); have GW196 := aM ((szX (below_size (bX HB.out)) hg : w.heap.size ≤ gb196)); have GE196 := aM ((szX (below_size (bX HB.out)) hg : w.heap.size ≤ gb196)); replace HB := aM (below_step (bX HB.out) hb); clear hb hbox hg)))
 go_loopg [8] k (fun kq v8 w' => ∃ (x8_1 : Int), v8 = .int .i64 x8_1 ∧ Aside0 (i_Cell.l0 kq l0 (l0.length : Int) x8_1 a1_0 a1_1 = some r) ∧ Aside0 (kq ≤ k) ∧ Aside0 (w'.heap[gb196]? = some (.cells #[.int .i64 a1_0, .int .i64 a1_1] 41 (0, 0))) ∧ Aside0 (Below w.heap.size w w'))
 case atStart => exact ⟨(0), vX, H', ⟨Nat.le_refl _⟩, ⟨kX BK196.out⟩, ⟨bX1 HB.out GE196.out⟩⟩
 case round =>
 clear H'
 obtain ⟨x8_1, rfl, HA, HK1, BK196, HB⟩ := hrel
 cases gk with
 | zero => exact absurd HA.out (by simp [i_Cell.l0])
 | succ k1 =>
 have H := HA.out
 clear HA
 simp only [i_Cell.l0] at H
 by_cases c4 : x8_1 < (l0.length : Int)
 {
 rw [if_pos c4] at H
 have c4b0 : decide (x8_1 < (l0.length : Int)) = true := decide_eq_true c4
 clear c4
 by_cases c5 : 0 ≤ x8_1
 {
 rw [if_pos c5] at H
 have c5b0 : decide (0 ≤ x8_1) = true := decide_eq_true c5
 clear c5
 by_cases c6 : x8_1 < (l0.length : Int)
 {
 rw [if_pos c6] at H
 have c6b0 : decide (x8_1 < (l0.length : Int)) = true := decide_eq_true c6
 clear c6
 by_cases c7 : (a1_0 == ((rd_T41 l0 x8_1).f0) && (a1_1 == ((rd_T41 l0 x8_1).f1))) = true
 {
 rw [if_pos c7] at H
 have c7b0 : (a1_0 == ((rd_T41 l0 x8_1).f0) && (a1_1 == ((rd_T41 l0 x8_1).f1))) = true := c7
 (try (have c7b1 : decide (a1_0 = ((rd_T41 l0 x8_1).f0) && (a1_1 == ((rd_T41 l0 x8_1).f1))) = true := by simpa using c7))
 (try (have c7b2 : (a1_0 == ((rd_T41 l0 x8_1).f0) && (a1_1 == ((rd_T41 l0 x8_1).f1))) = true := by simpa using c7))
 clear c7
 obtain rfl := Option.some.inj H
 have hcz8_0 := cz20 BK196.out
 have hcz8_1 := cz21 BK196.out
 have hfz8_0 := blk_frozen BK196.out 0
 have hfz8_1 := blk_frozen BK196.out 1
 have p197 : 0 ≤ (x8_1 : Int) := dX
 have q197 : x8_1 < (l0.length : Int) := dX
 obtain ⟨ad197, e197, hx197_0, hx197_1⟩ := at_T41 HR0.out x8_1 p197 q197
 cases e197
 replace hx197_0 := (HB.out.cell (World.block_lt_of_cell? w _ hx197_0)).trans hx197_0
 replace hx197_1 := (HB.out.cell (World.block_lt_of_cell? w _ hx197_1)).trans hx197_1
 replace p197 := eq_true p197
 replace q197 := eq_true q197
 go_wp2
 repeat (go_quiet (fail); try go_wp2)
 go_ret
 exact ⟨eX, bX1 HB.out GE196.out⟩
 }
 {
 rw [if_neg c7] at H
 have c7b0 : (a1_0 == ((rd_T41 l0 x8_1).f0) && (a1_1 == ((rd_T41 l0 x8_1).f1))) = false := by simpa using c7
 (try (have c7b1 : decide (a1_0 = ((rd_T41 l0 x8_1).f0) && (a1_1 == ((rd_T41 l0 x8_1).f1))) = false := by simpa using c7))
 (try (have c7b2 : (a1_0 == ((rd_T41 l0 x8_1).f0) && (a1_1 == ((rd_T41 l0 x8_1).f1))) = false := by simpa using c7))
 (try (have c7b3 : ¬ (a1_0 = ((rd_T41 l0 x8_1).f0) && (a1_1 == ((rd_T41 l0 x8_1).f1))) := by simpa using c7))
 clear c7
 have H' := aM H
 clear H
 have hcz9_0 := cz20 BK196.out
 have hcz9_1 := cz21 BK196.out
 have hfz9_0 := blk_frozen BK196.out 0
 have hfz9_1 := blk_frozen BK196.out 1
 have p197 : 0 ≤ (x8_1 : Int) := dX
 have q197 : x8_1 < (l0.length : Int) := dX
 obtain ⟨ad197, e197, hx197_0, hx197_1⟩ := at_T41 HR0.out x8_1 p197 q197
 cases e197
 replace hx197_0 := (HB.out.cell (World.block_lt_of_cell? w _ hx197_0)).trans hx197_0
 replace hx197_1 := (HB.out.cell (World.block_lt_of_cell? w _ hx197_1)).trans hx197_1
 replace p197 := eq_true p197
 replace q197 := eq_true q197
 go_wp2
 repeat (go_quiet (fail); try go_wp2)
 go_roundg k1
 case measure => have := HK1.out; omega
 case rel => exact ⟨(wrap64 (x8_1 + 1)), vX, H', ⟨by have := HK1.out; omega⟩, ⟨kX BK196.out⟩, ⟨bX1 HB.out GE196.out⟩⟩
 }
 }
 {
 rw [if_neg c6] at H
 exact absurd H (by simp)
 }
 }
 {
 rw [if_neg c5] at H
 exact absurd H (by simp)
 }
 }
 {
 rw [if_neg c4] at H
 have c4b0 : decide (x8_1 < (l0.length : Int)) = false := decide_eq_false c4
 clear c4
 obtain rfl := Option.some.inj H
 go_wp2
 repeat (go_quiet (fail); try go_wp2)
 go_ret
 exact ⟨eX, bX1 HB.out GE196.out⟩
 }

/-! ### i_CellAt: function 15 -/
def i_CellAt.f (k : Nat) (l0 : List (S41)) (a1 : Int) (a2 : Int) : Option (Int) := (i_Cell.f k l0 a1 a2).bind fun t198 => (some t198)
theorem i_CellAt.calls (k : Nat) (A0 : Option Addr) (c0 : Nat) (l0 : List (S41)) (a1 : Int) (a2 : Int) (r : Int) (w : World) (hr0 : Kd.C k41 w A0 l0.length l0) (hc0 : l0.length ≤ c0) (h : i_CellAt.f k l0 a1 a2 = some r) :
  Calls Try.prog 15 #[.slice A0 l0.length c0, .int .i64 a1, .int .i64 a2] w fun e w' => e = .returned (.int .i64 r) ∧ Below w.heap.size w w' := by
 have hu41 := Try.underlying41
 have HR0 := aM hr0
 have HC0 := aM hc0
 clear hr0 hc0
 have HB := aM (Below.refl w.heap.size w)
 have H : ((i_Cell.f k l0 a1 a2).bind fun t198 => (some t198)) = some r := h
 clear h
 replace H := oB H
 obtain ⟨t198, A40, H⟩ := H
 replace H : (some t198) = some r := H
 have A4 := aM A40
 clear A40
 obtain rfl := Option.some.inj H
 go_enter Try.func15, Try.ntmps15
 go_wp2_with (first | ((with_reducible refine gate_callee (f := 24) rfl ?_); refine goesL_ (some 11) rfl rfl Try.func24 (by kernel_rfl) rfl #[.slice A0 l0.length c0, .agg #[.int .i64 a1, .int .i64 a2]] rfl (by (try simp only [List.map_toArray, List.map_cons, List.map_nil]); first | done | rfl | (simp only [List.length_drop, List.length_take]; rfl)) ?_; (with_reducible refine (i_Cell.calls k _ _ l0 a1 a2 t198 _ ?side1 ?side2 A4.out).mono ?_); (case side1 => exact cX HR0.out); (case side2 => exact HC0.out); rintro e w5 ⟨rfl, hb⟩; refine ⟨_, rfl, ?_⟩; replace HB := aM (below_step (by repeat (first | (with_reducible first | exact HB.out | apply below_alloc | apply pw_below_drewN | apply below_drew1) | exact HB.out)) hb); (try clear hb); (try clear hb2); (try clear hk); (try clear hi)))
 go_ret
 exact ⟨eX, by repeat (first | (with_reducible first | exact HB.out | apply below_alloc | apply pw_below_drewN | apply below_drew1) | exact HB.out)⟩

/-! ### slices_Index_int_int: function 28 -/
def slices_Index_int_int.l0 : Nat → List Int → Int → Int → Int → Option (Int)
 | 0, _, _, _, _ => none
 | k + 1, x0, x1, x7, x8 => if x8 < x7 then (if 0 ≤ x8 then (if x8 < (x0.length : Int) then (if x1 = (rd x0 x8) then (some x8) else (slices_Index_int_int.l0 k x0 x1 x7 (wrap64 (x8 + 1)))) else (none)) else (none)) else (some (-1))
def slices_Index_int_int.f (k : Nat) (l0 : List Int) (a1 : Int) : Option (Int) := slices_Index_int_int.l0 k l0 a1 (l0.length : Int) 0
theorem slices_Index_int_int.calls (k : Nat) (A0 : Option Addr) (c0 : Nat) (l0 : List Int) (a1 : Int) (r : Int) (w : World) (hr0 : Kd.C (Kd.int .i64) w A0 l0.length l0) (hc0 : l0.length ≤ c0) (h : slices_Index_int_int.f k l0 a1 = some r) :
  Calls Try.prog 28 #[.slice A0 l0.length c0, .int .i64 a1] w fun e w' => e = .returned (.int .i64 r) ∧ Drawn0 w w' := by
 have HR0 := aM hr0
 have HC0 := aM hc0
 clear hr0 hc0
 have H : (slices_Index_int_int.l0 k l0 a1 (l0.length : Int) 0) = some r := h
 clear h
 have H' := aM H
 clear H
 go_enter Try.func28, Try.ntmps28
 go_wp2
 go_loopg [8] k (fun kq v8 w' => ∃ (x8_1 : Int), v8 = .int .i64 x8_1 ∧ Aside0 (slices_Index_int_int.l0 kq l0 a1 (l0.length : Int) x8_1 = some r) ∧ Aside0 (kq ≤ k) ∧ Drawn0 w w')
 case atStart => exact ⟨(0), vX, H', ⟨Nat.le_refl _⟩, by repeat (first | exact Drawn0.refl _ | apply Drawn0.step)⟩
 case round =>
 clear H'
 obtain ⟨x8_1, rfl, HA, HK1, ⟨m1, rfl⟩⟩ := hrel
 cases gk with
 | zero => exact absurd HA.out (by simp [slices_Index_int_int.l0])
 | succ k1 =>
 have H := HA.out
 clear HA
 simp only [slices_Index_int_int.l0] at H
 by_cases c3 : x8_1 < (l0.length : Int)
 {
 rw [if_pos c3] at H
 have c3b0 : decide (x8_1 < (l0.length : Int)) = true := decide_eq_true c3
 clear c3
 by_cases c4 : 0 ≤ x8_1
 {
 rw [if_pos c4] at H
 have c4b0 : decide (0 ≤ x8_1) = true := decide_eq_true c4
 clear c4
 by_cases c5 : x8_1 < (l0.length : Int)
 {
 rw [if_pos c5] at H
 have c5b0 : decide (x8_1 < (l0.length : Int)) = true := decide_eq_true c5
 clear c5
 by_cases c6 : a1 = (rd l0 x8_1)
 {
 rw [if_pos c6] at H
 have c6b0 : (a1 == (rd l0 x8_1)) = true := beq_iff_eq.mpr c6
 have c6b1 : (a1 != (rd l0 x8_1)) = false := bne_eq_false_iff_eq.mpr c6
 clear c6
 obtain rfl := Option.some.inj H
 have p199 : 0 ≤ (x8_1 : Int) := dX
 have q199 : x8_1 < (l0.length : Int) := dX
 obtain ⟨ad199, e199, hx199_0⟩ := Kd.at_int HR0.out x8_1 p199 q199
 cases e199
 replace p199 := eq_true p199
 replace q199 := eq_true q199
 go_wp2
 go_ret
 exact ⟨by first | rfl | (simp; done) | (simp [*]; done), by repeat (first | exact Drawn0.refl _ | apply Drawn0.step)⟩
 }
 {
 rw [if_neg c6] at H
 have c6b0 : (a1 == (rd l0 x8_1)) = false := beq_eq_false_iff_ne.mpr c6
 have c6b1 : (a1 != (rd l0 x8_1)) = true := bne_iff_ne.mpr c6
 have H' := aM H
 clear H
 have p199 : 0 ≤ (x8_1 : Int) := dX
 have q199 : x8_1 < (l0.length : Int) := dX
 obtain ⟨ad199, e199, hx199_0⟩ := Kd.at_int HR0.out x8_1 p199 q199
 cases e199
 replace p199 := eq_true p199
 replace q199 := eq_true q199
 go_wp2
 go_roundg k1
 case measure => have := HK1.out; omega
 case rel => exact ⟨(wrap64 (x8_1 + 1)), vX, H', ⟨by have := HK1.out; omega⟩, by repeat (first | exact Drawn0.refl _ | apply Drawn0.step)⟩
 }
 }
 {
 rw [if_neg c5] at H
 exact absurd H (by simp)
 }
 }
 {
 rw [if_neg c4] at H
 exact absurd H (by simp)
 }
 }
 {
 rw [if_neg c3] at H
 have c3b0 : decide (x8_1 < (l0.length : Int)) = false := decide_eq_false c3
 clear c3
 obtain rfl := Option.some.inj H
 go_wp2
 go_ret
 exact ⟨by first | rfl | (simp; done) | (simp [*]; done), by repeat (first | exact Drawn0.refl _ | apply Drawn0.step)⟩
 }

/-! ### slices_Contains_int_int: function 18 -/
def slices_Contains_int_int.f (k : Nat) (l0 : List Int) (a1 : Int) : Option (Bool) := (slices_Index_int_int.f k l0 a1).bind fun t200 => (some (decide (t200 ≥ 0)))
theorem slices_Contains_int_int.calls (k : Nat) (A0 : Option Addr) (c0 : Nat) (l0 : List Int) (a1 : Int) (r : Bool) (w : World) (hr0 : Kd.C (Kd.int .i64) w A0 l0.length l0) (hc0 : l0.length ≤ c0) (h : slices_Contains_int_int.f k l0 a1 = some r) :
  Calls Try.prog 18 #[.slice A0 l0.length c0, .int .i64 a1] w fun e w' => e = .returned (.bool r) ∧ Drawn0 w w' := by
 have HR0 := aM hr0
 have HC0 := aM hc0
 clear hr0 hc0
 have H : ((slices_Index_int_int.f k l0 a1).bind fun t200 => (some (decide (t200 ≥ 0)))) = some r := h
 clear h
 replace H := oB H
 obtain ⟨t200, A30, H⟩ := H
 replace H : (some (decide (t200 ≥ 0))) = some r := H
 have A3 := aM A30
 clear A30
 obtain rfl := Option.some.inj H
 go_enter Try.func18, Try.ntmps18
 go_wp2_with (first | ((with_reducible refine gate_callee (f := 28) rfl ?_); refine goesL_ (some 7) rfl rfl Try.func28 (by kernel_rfl) rfl #[.slice A0 l0.length c0, .int .i64 a1] rfl (by (try simp only [List.map_toArray, List.map_cons, List.map_nil]); first | done | rfl | (simp only [List.length_drop, List.length_take]; rfl)) ?_; (with_reducible refine (slices_Index_int_int.calls k _ _ l0 a1 t200 _ ?side1 ?side2 A3.out).mono ?_); (case side1 => exact cX HR0.out); (case side2 => exact HC0.out); rintro e w' ⟨rfl, ⟨nd, rfl⟩⟩; refine ⟨_, rfl, ?_⟩))
 go_ret
 exact ⟨by first | rfl | (simp; done) | (simp [*]; done), by repeat (first | exact Drawn0.refl _ | apply Drawn0.step)⟩

/-! ### i_TableOk: function 7 -/
mutual
def i_TableOk.j0 : Nat → List (S41) → Bool → Option (Bool)
 | 0, _, _ => none
 | k + 1, x0, x17 => if x17 = true then (some false) else (i_TableOk.l0 k x0 x0 (x0.length : Int) 0)
def i_TableOk.l0 : Nat → List (S41) → List (S41) → Int → Int → Option (Bool)
 | 0, _, _, _, _ => none
 | k + 1, x0, x18, x19, x20 => if x20 < x19 then (if 0 ≤ x20 then (if x20 < (x18.length : Int) then (if ((rd_T41 x18 x20).f0) < 0 then (i_TableOk.j2 k x0 x20 x18 x19 x20 true ((rd_T41 x18 x20).f0) ((rd_T41 x18 x20).f1)) else (if ((rd_T41 x18 x20).f0) > 9 then (i_TableOk.j2 k x0 x20 x18 x19 x20 true ((rd_T41 x18 x20).f0) ((rd_T41 x18 x20).f1)) else (if ((rd_T41 x18 x20).f1) < 0 then (i_TableOk.j2 k x0 x20 x18 x19 x20 true ((rd_T41 x18 x20).f0) ((rd_T41 x18 x20).f1)) else (i_TableOk.j2 k x0 x20 x18 x19 x20 (decide (((rd_T41 x18 x20).f1) > 9)) ((rd_T41 x18 x20).f0) ((rd_T41 x18 x20).f1))))) else (none)) else (none)) else (i_TableOk.l1 k x0 (([0] : List Int)) 0)
def i_TableOk.j2 : Nat → List (S41) → Int → List (S41) → Int → Int → Bool → Int → Int → Option (Bool)
 | 0, _, _, _, _, _, _, _, _ => none
 | k + 1, x0, x3, x18, x19, x20, x42, x203000, x203001 => if x42 = true then (some false) else (if x3 > 0 then (if 0 ≤ (wrap64 (x3 - 1)) then (if (wrap64 (x3 - 1)) < (x0.length : Int) then (if x203001 < ((rd_T41 x0 (wrap64 (x3 - 1))).f1) then (some false) else (if x203001 = ((rd_T41 x0 (wrap64 (x3 - 1))).f1) then (if x203000 ≤ ((rd_T41 x0 (wrap64 (x3 - 1))).f0) then (some false) else (i_TableOk.l0 k x0 x18 x19 (wrap64 (x20 + 1)))) else (i_TableOk.l0 k x0 x18 x19 (wrap64 (x20 + 1))))) else (none)) else (none)) else (i_TableOk.l0 k x0 x18 x19 (wrap64 (x20 + 1))))
def i_TableOk.l1 : Nat → List (S41) → List Int → Int → Option (Bool)
 | 0, _, _, _ => none
 | k + 1, x0, x5, x6 => if x6 < (x5.length : Int) then (if 0 ≤ x6 then (if 0 ≤ (rd x5 x6) then (if (rd x5 x6) < (x0.length : Int) then ((i_CellAt.f k x0 (wrap64 (((rd_T41 x0 (rd x5 x6)).f0) + 1)) ((rd_T41 x0 (rd x5 x6)).f1)).bind fun t212 => ((i_CellAt.f k x0 (wrap64 (((rd_T41 x0 (rd x5 x6)).f0) - 1)) ((rd_T41 x0 (rd x5 x6)).f1)).bind fun t213 => ((i_CellAt.f k x0 ((rd_T41 x0 (rd x5 x6)).f0) (wrap64 (((rd_T41 x0 (rd x5 x6)).f1) + 1))).bind fun t214 => ((i_CellAt.f k x0 ((rd_T41 x0 (rd x5 x6)).f0) (wrap64 (((rd_T41 x0 (rd x5 x6)).f1) - 1))).bind fun t215 => ((some (([t212, t213, t214, t215] : List Int) : List Int)).bind fun y216 => (i_TableOk.l2 k x0 x5 x6 y216 (y216.length : Int) 0)))))) else (none)) else (none)) else (none)) else (some ((x5.length : Int) == (x0.length : Int)))
def i_TableOk.l2 : Nat → List (S41) → List Int → Int → List Int → Int → Int → Option (Bool)
 | 0, _, _, _, _, _, _ => none
 | k + 1, x0, x5, x6, x121, x122, x123 => if x123 < x122 then (if 0 ≤ x123 then (if x123 < (x121.length : Int) then (if (rd x121 x123) ≥ 0 then ((slices_Contains_int_int.f k x5 (rd x121 x123)).bind fun t220 => (if t220 = true then (i_TableOk.l2 k x0 x5 x6 x121 x122 (wrap64 (x123 + 1))) else (if x5.length < 17592186044416 then (i_TableOk.l2 k x0 (x5 ++ [rd x121 x123]) x6 x121 x122 (wrap64 (x123 + 1))) else (none)))) else (i_TableOk.l2 k x0 x5 x6 x121 x122 (wrap64 (x123 + 1)))) else (none)) else (none)) else (i_TableOk.l1 k x0 x5 (wrap64 (x6 + 1)))
end
def i_TableOk.f (k : Nat) (l0 : List (S41)) : Option (Bool) := if (l0.length : Int) < 1 then (i_TableOk.j0 k l0 true) else (i_TableOk.j0 k l0 (decide ((l0.length : Int) > 6)))
def i_TableOk.T8 : Bool × List (List Nat × List Nat) := (true, [([], []), ([0], [0]), ([1], [1]), ([2], [2]), ([3, 2], [2, 3]), ([2], [2]), ([2], [2]), ([6, 2], [2, 6]), ([5, 7, 2], [2, 5, 7]), ([8, 2], [2, 8]), ([9, 2], [2, 9]), ([4, 10, 2], [2, 4, 10]), ([11, 2, 2], [2, 11]), ([12], [12]), ([13, 12], [12, 13]), ([12], [12]), ([12], [12]), ([16, 12], [12, 16]), ([15, 17, 12], [12, 15, 17]), ([18, 12], [12, 18]), ([19, 12], [12, 19]), ([14, 20, 12], [12, 14, 20]), ([21, 12, 12], [12, 21]), ([22], [22]), ([23, 22], [22, 23]), ([22], [22]), ([22], [22]), ([26, 22], [22, 26]), ([25, 27, 22], [22, 25, 27]), ([28, 22], [22, 28]), ([29, 22], [22, 29]), ([24, 30, 22], [22, 24, 30]), ([22, 31, 12], [12, 22, 31]), ([12, 32, 2], [2, 12, 32]), ([2, 33], [2, 33])])
def i_TableOk.B8 : List Nat := [0, 1, 3, 7, 15, 7, 7, 71, 231, 487, 999, 2047, 4095, 8191, 16383, 8191, 8191, 73727, 237567, 499711, 1023999, 2097151, 4194303, 8388607, 16777215, 8388607, 8388607, 75497471, 243269631, 511705087, 1048575999, 2147483647, 4294967295, 8589934591, 17179869183]
theorem i_TableOk.tab8 : rtab .any (opsOf Try.f7 8) = i_TableOk.T8 := by kernel_rfl
theorem i_TableOk.bits8 : waitsOk i_TableOk.T8.2 i_TableOk.B8 = true := by kernel_rfl
def i_TableOk.T16 : Bool × List (List Nat × List Nat) := (true, [([], []), ([], []), ([1], [1]), ([2], [2]), ([], []), ([4], [4]), ([0, 3, 5], [0, 3, 5]), ([], []), ([], []), ([8], [8]), ([9], [9]), ([], []), ([11], [11]), ([7, 10, 12, 6], [7, 10, 12]), ([], []), ([], []), ([15], [15]), ([], []), ([17], [17]), ([18], [18]), ([14, 16, 19, 13], [14, 16, 19]), ([], []), ([], []), ([22], [22]), ([], []), ([24], [24]), ([25], [25]), ([21, 23, 26, 20], [21, 23, 26]), ([6, 13, 20, 27], [6, 13, 20, 27]), ([28], [28]), ([], [])])
def i_TableOk.B16 : List Nat := [0, 0, 2, 6, 0, 16, 63, 0, 0, 256, 768, 0, 2048, 8191, 0, 0, 32768, 0, 131072, 393216, 1048575, 0, 0, 4194304, 0, 16777216, 50331648, 134217727, 268435455, 536870911, 0]
theorem i_TableOk.tab16 : rtab .any (opsOf Try.f7 16) = i_TableOk.T16 := by kernel_rfl
theorem i_TableOk.bits16 : waitsOk i_TableOk.T16.2 i_TableOk.B16 = true := by kernel_rfl
theorem i_TableOk.calls (k : Nat) (A0 : Option Addr) (c0 : Nat) (l0 : List (S41)) (r : Bool) (w : World) (hr0 : Kd.C k41 w A0 l0.length l0) (hc0 : l0.length ≤ c0) (h : i_TableOk.f k l0 = some r) :
  Calls Try.prog 7 #[.slice A0 l0.length c0] w fun e w' => e = .returned (.bool r) ∧ Below w.heap.size w w' := by
 have hu41 := Try.underlying41
 have HR0 := aM hr0
 have HC0 := aM hc0
 clear hr0 hc0
 have HB := aM (Below.refl w.heap.size w)
 have H : (if (l0.length : Int) < 1 then (i_TableOk.j0 k l0 true) else (i_TableOk.j0 k l0 (decide ((l0.length : Int) > 6)))) = some r := h
 clear h
 have HC2 := aM H
 clear H
 go_enter Try.func7, Try.ntmps7
 go_upto_region 1 with (fail)
 go_cut [17] (fun v17 wc => ∃ (kq : Nat) (x17_1 : Bool), v17 = .bool x17_1 ∧ Aside0 (i_TableOk.j0 kq l0 x17_1 = some r) ∧ Aside0 (kq ≤ k) ∧ Aside0 (Below w.heap.size w wc))
 case first =>
  have H := HC2.out
  clear HC2
  by_cases c3 : (l0.length : Int) < 1
  {
  rw [if_pos c3] at H
  have c3b0 : decide ((l0.length : Int) < 1) = true := decide_eq_true c3
  have c3b1 : decide (l0.length < 1) = true := decide_eq_true (by omega)
  clear c3
  (first | rw [c3b0] | (simp only [i64_w, i32_w]; rw [c3b0]) | skip)
  have H' := aM H
  clear H
  go_wp2
  go_meet
  case rel => exact ⟨_, (true), vX, H', ⟨by first | omega | exact Nat.le_refl _⟩, ⟨bX HB.out⟩⟩
  }
  {
  rw [if_neg c3] at H
  have c3b0 : decide ((l0.length : Int) < 1) = false := decide_eq_false c3
  have c3b1 : decide (l0.length < 1) = false := decide_eq_false (by omega)
  clear c3
  (first | rw [c3b0] | (simp only [i64_w, i32_w]; rw [c3b0]) | skip)
  have H' := aM H
  clear H
  go_wp2
  go_meet
  case rel => exact ⟨_, (decide ((l0.length : Int) > 6)), vX, H', ⟨by first | omega | exact Nat.le_refl _⟩, ⟨bX HB.out⟩⟩
  }
 case rest =>
 clear HC2
 try clear c3
 try clear c3b0
 try clear c3b1
 obtain ⟨kq, x17_1, rfl, HA, HJ1, HB⟩ := hcut
 cases kq with
 | zero => exact absurd HA.out (by simp [i_TableOk.j0])
 | succ kj1 =>
 have H := HA.out
 clear HA
 simp only [i_TableOk.j0] at H
 by_cases c4 : x17_1 = true
 {
 subst c4
 have H1 : (some false) = some r := by rw [if_pos rfl] at H; exact H
 clear H
 have H := H1
 clear H1
 obtain rfl := Option.some.inj H
 go_wp2
 go_ret
 exact ⟨eX, bX HB.out⟩
 }
 {
 replace c4 := Bool.eq_false_iff.mpr c4
 subst c4
 have H1 : (i_TableOk.l0 kj1 l0 l0 (l0.length : Int) 0) = some r := by rw [if_neg (show ¬ (false = true) by decide)] at H; exact H
 clear H
 have H := H1
 clear H1
 have H' := aM H
 clear H
 go_wp2
 go_loopg [20] kj1 (fun kq v20 w' => ∃ (x20_2 : Int), v20 = .int .i64 x20_2 ∧ Aside0 (i_TableOk.l0 kq l0 l0 (l0.length : Int) x20_2 = some r) ∧ Aside0 (kq ≤ kj1) ∧ Aside0 (Below w.heap.size w w'))
 case atStart => exact ⟨(0), vX, H', ⟨Nat.le_refl _⟩, ⟨bX HB.out⟩⟩
 case round =>
 clear H'
 try clear c3
 try clear c3b0
 try clear c3b1
 try clear c4
 obtain ⟨x20_2, rfl, HA, HK2, HB⟩ := hrel
 cases gk with
 | zero => exact absurd HA.out (by simp [i_TableOk.l0])
 | succ k2 =>
 have H := HA.out
 clear HA
 simp only [i_TableOk.l0] at H
 by_cases c5 : x20_2 < (l0.length : Int)
 {
 rw [if_pos c5] at H
 have c5b0 : decide (x20_2 < (l0.length : Int)) = true := decide_eq_true c5
 clear c5
 by_cases c6 : 0 ≤ x20_2
 {
 rw [if_pos c6] at H
 have c6b0 : decide (0 ≤ x20_2) = true := decide_eq_true c6
 clear c6
 by_cases c7 : x20_2 < (l0.length : Int)
 {
 rw [if_pos c7] at H
 have c7b0 : decide (x20_2 < (l0.length : Int)) = true := decide_eq_true c7
 clear c7
 have HC8 := aM H
 clear H
 have p201 : 0 ≤ (x20_2 : Int) := dX
 have q201 : x20_2 < (l0.length : Int) := dX
 obtain ⟨ad201, e201, hx201_0, hx201_1⟩ := at_T41 HR0.out x20_2 p201 q201
 cases e201
 replace hx201_0 := (HB.out.cell (World.block_lt_of_cell? w _ hx201_0)).trans hx201_0
 replace hx201_1 := (HB.out.cell (World.block_lt_of_cell? w _ hx201_1)).trans hx201_1
 replace p201 := eq_true p201
 replace q201 := eq_true q201
 go_upto_region 6 with (first | ((with_reducible refine gate_dst (N := 4) rfl ?_); (try (refine gate_guard (by rfl) ?_; dsimp only)); refine bEv (cs := #[.int .i64 0, .int .i64 0]) (t := 41) ?_; intro gb202 hg w9 hbox hb; have BK202 := aM (hbox); have GW202 := aM ((szX (below_size (bX HB.out)) hg : w.heap.size ≤ gb202)); have GE202 := aM ((szX (below_size (bX HB.out)) hg : w.heap.size ≤ gb202)); replace HB := aM (below_step (bX HB.out) hb); clear hb hbox hg; have hcz10_0 := cz20 BK202.out; have hcz10_1 := cz21 BK202.out; have hfz10_0 := blk_frozen BK202.out 0; have hfz10_1 := blk_frozen BK202.out 1))
 (try simp only [Act.put, List.setIfInBounds_toArray, List.set_cons_zero, List.set_cons_succ])
 go_cut [42] (fun v42 wc => ∃ (kq : Nat) (x42_7 : Bool), v42 = .bool x42_7 ∧ Aside0 (i_TableOk.j2 kq l0 x20_2 l0 (l0.length : Int) x20_2 x42_7 ((rd_T41 l0 x20_2).f0) ((rd_T41 l0 x20_2).f1) = some r) ∧ Aside0 (kq ≤ k2) ∧ Aside0 (wc.heap[gb202]? = some (.cells #[.int .i64 ((rd_T41 l0 x20_2).f0), .int .i64 ((rd_T41 l0 x20_2).f1)] 41 (0, 0))) ∧ Aside0 (Below w.heap.size w wc))
 case first =>
  have H := HC8.out
  clear HC8
  by_cases c11 : ((rd_T41 l0 x20_2).f0) < 0
  {
  rw [if_pos c11] at H
  have c11b0 : decide (((rd_T41 l0 x20_2).f0) < 0) = true := decide_eq_true c11
  clear c11
  (first | rw [c11b0] | (simp only [i64_w, i32_w]; rw [c11b0]) | skip)
  have H' := aM H
  clear H
  have hcz12_0 := cz20 BK202.out
  have hcz12_1 := cz21 BK202.out
  have hfz12_0 := blk_frozen BK202.out 0
  have hfz12_1 := blk_frozen BK202.out 1
  go_wp2
  go_meet
  case rel => exact ⟨_, (true), vX, H', ⟨by have := HJ1.out; have := HK2.out; first | omega | exact Nat.le_refl _⟩, ⟨by (with_reducible repeat (first|refine kN ?_ _|refine kD ?_|refine kA ?_ _)); refine blk_put (cs := #[.int .i64 ((rd_T41 l0 x20_2).f0), .int .i64 0]) ?_ 1 _ rfl; (with_reducible repeat (first|refine kN ?_ _|refine kD ?_|refine kA ?_ _)); refine blk_put (cs := #[.int .i64 0, .int .i64 0]) ?_ 0 _ rfl; (with_reducible repeat (first|refine kN ?_ _|refine kD ?_|refine kA ?_ _)); exact BK202.out⟩, ⟨bX1 HB.out GE202.out⟩⟩
  }
  {
  rw [if_neg c11] at H
  have c11b0 : decide (((rd_T41 l0 x20_2).f0) < 0) = false := decide_eq_false c11
  clear c11
  (first | rw [c11b0] | (simp only [i64_w, i32_w]; rw [c11b0]) | skip)
  by_cases c13 : ((rd_T41 l0 x20_2).f0) > 9
  {
  rw [if_pos c13] at H
  have c13b0 : decide (9 < ((rd_T41 l0 x20_2).f0)) = true := decide_eq_true c13
  clear c13
  have H' := aM H
  clear H
  have hcz14_0 := cz20 BK202.out
  have hcz14_1 := cz21 BK202.out
  have hfz14_0 := blk_frozen BK202.out 0
  have hfz14_1 := blk_frozen BK202.out 1
  go_wp2
  go_meet
  case rel => exact ⟨_, (true), vX, H', ⟨by have := HJ1.out; have := HK2.out; first | omega | exact Nat.le_refl _⟩, ⟨by (with_reducible repeat (first|refine kN ?_ _|refine kD ?_|refine kA ?_ _)); refine blk_put (cs := #[.int .i64 ((rd_T41 l0 x20_2).f0), .int .i64 0]) ?_ 1 _ rfl; (with_reducible repeat (first|refine kN ?_ _|refine kD ?_|refine kA ?_ _)); refine blk_put (cs := #[.int .i64 0, .int .i64 0]) ?_ 0 _ rfl; (with_reducible repeat (first|refine kN ?_ _|refine kD ?_|refine kA ?_ _)); exact BK202.out⟩, ⟨bX1 HB.out GE202.out⟩⟩
  }
  {
  rw [if_neg c13] at H
  have c13b0 : decide (9 < ((rd_T41 l0 x20_2).f0)) = false := decide_eq_false c13
  clear c13
  by_cases c15 : ((rd_T41 l0 x20_2).f1) < 0
  {
  rw [if_pos c15] at H
  have c15b0 : decide (((rd_T41 l0 x20_2).f1) < 0) = true := decide_eq_true c15
  clear c15
  have H' := aM H
  clear H
  have hcz16_0 := cz20 BK202.out
  have hcz16_1 := cz21 BK202.out
  have hfz16_0 := blk_frozen BK202.out 0
  have hfz16_1 := blk_frozen BK202.out 1
  go_wp2
  go_meet
  case rel => exact ⟨_, (true), vX, H', ⟨by have := HJ1.out; have := HK2.out; first | omega | exact Nat.le_refl _⟩, ⟨by (with_reducible repeat (first|refine kN ?_ _|refine kD ?_|refine kA ?_ _)); refine blk_put (cs := #[.int .i64 ((rd_T41 l0 x20_2).f0), .int .i64 0]) ?_ 1 _ rfl; (with_reducible repeat (first|refine kN ?_ _|refine kD ?_|refine kA ?_ _)); refine blk_put (cs := #[.int .i64 0, .int .i64 0]) ?_ 0 _ rfl; (with_reducible repeat (first|refine kN ?_ _|refine kD ?_|refine kA ?_ _)); exact BK202.out⟩, ⟨bX1 HB.out GE202.out⟩⟩
  }
  {
  rw [if_neg c15] at H
  have c15b0 : decide (((rd_T41 l0 x20_2).f1) < 0) = false := decide_eq_false c15
  clear c15
  have H' := aM H
  clear H
  have hcz17_0 := cz20 BK202.out
  have hcz17_1 := cz21 BK202.out
  have hfz17_0 := blk_frozen BK202.out 0
  have hfz17_1 := blk_frozen BK202.out 1
  go_wp2
  go_meet
  case rel => exact ⟨_, (decide (((rd_T41 l0 x20_2).f1) > 9)), vX, H', ⟨by have := HJ1.out; have := HK2.out; first | omega | exact Nat.le_refl _⟩, ⟨by (with_reducible repeat (first|refine kN ?_ _|refine kD ?_|refine kA ?_ _)); refine blk_put (cs := #[.int .i64 ((rd_T41 l0 x20_2).f0), .int .i64 0]) ?_ 1 _ rfl; (with_reducible repeat (first|refine kN ?_ _|refine kD ?_|refine kA ?_ _)); refine blk_put (cs := #[.int .i64 0, .int .i64 0]) ?_ 0 _ rfl; (with_reducible repeat (first|refine kN ?_ _|refine kD ?_|refine kA ?_ _)); exact BK202.out⟩, ⟨bX1 HB.out GE202.out⟩⟩
  }
  }
  }
 case rest =>
 clear HC8
 try clear c3
 try clear c3b0
 try clear c3b1
 try clear c4
 try clear c5
 try clear c5b0
 try clear c6
 try clear c6b0
 try clear c7
 try clear c7b0
 try clear c11
 try clear c11b0
 try clear c13
 try clear c13b0
 try clear c15
 try clear c15b0
 try clear hcz10_0
 try clear hcz10_1
 try clear hcz12_0
 try clear hcz12_1
 try clear hcz14_0
 try clear hcz14_1
 try clear hcz16_0
 try clear hcz16_1
 try clear hcz17_0
 try clear hcz17_1
 try clear hfz10_0
 try clear hfz10_1
 try clear hfz12_0
 try clear hfz12_1
 try clear hfz14_0
 try clear hfz14_1
 try clear hfz16_0
 try clear hfz16_1
 try clear hfz17_0
 try clear hfz17_1
 try clear hx201_0
 try clear hx201_1
 try clear p201
 try clear q201
 obtain ⟨kq, x42_7, rfl, HA, HJ7, BK202, HB⟩ := hcut
 cases kq with
 | zero => exact absurd HA.out (by simp [i_TableOk.j2])
 | succ kj7 =>
 have H := HA.out
 clear HA
 simp only [i_TableOk.j2] at H
 by_cases c18 : x42_7 = true
 {
 subst c18
 have H1 : (some false) = some r := by rw [if_pos rfl] at H; exact H
 clear H
 have H := H1
 clear H1
 obtain rfl := Option.some.inj H
 go_wp2
 go_ret
 exact ⟨eX, bX1 HB.out GE202.out⟩
 }
 {
 replace c18 := Bool.eq_false_iff.mpr c18
 subst c18
 have H1 : (if x20_2 > 0 then (if 0 ≤ (wrap64 (x20_2 - 1)) then (if (wrap64 (x20_2 - 1)) < (l0.length : Int) then (if ((rd_T41 l0 x20_2).f1) < ((rd_T41 l0 (wrap64 (x20_2 - 1))).f1) then (some false) else (if ((rd_T41 l0 x20_2).f1) = ((rd_T41 l0 (wrap64 (x20_2 - 1))).f1) then (if ((rd_T41 l0 x20_2).f0) ≤ ((rd_T41 l0 (wrap64 (x20_2 - 1))).f0) then (some false) else (i_TableOk.l0 kj7 l0 l0 (l0.length : Int) (wrap64 (x20_2 + 1)))) else (i_TableOk.l0 kj7 l0 l0 (l0.length : Int) (wrap64 (x20_2 + 1))))) else (none)) else (none)) else (i_TableOk.l0 kj7 l0 l0 (l0.length : Int) (wrap64 (x20_2 + 1)))) = some r := by rw [if_neg (show ¬ (false = true) by decide)] at H; exact H
 clear H
 have H := H1
 clear H1
 by_cases c19 : x20_2 > 0
 {
 rw [if_pos c19] at H
 have c19b0 : decide (0 < x20_2) = true := decide_eq_true c19
 clear c19
 obtain ⟨ji20, hji20⟩ : ∃ j_ : Int, (wrap64 (x20_2 - 1)) = j_ := ⟨_, rfl⟩
 replace H : (if 0 ≤ (ji20) then (if (ji20) < (l0.length : Int) then (if ((rd_T41 l0 x20_2).f1) < ((rd_T41 l0 (ji20)).f1) then (some false) else (if ((rd_T41 l0 x20_2).f1) = ((rd_T41 l0 (ji20)).f1) then (if ((rd_T41 l0 x20_2).f0) ≤ ((rd_T41 l0 (ji20)).f0) then (some false) else (i_TableOk.l0 kj7 l0 l0 (l0.length : Int) (wrap64 (x20_2 + 1)))) else (i_TableOk.l0 kj7 l0 l0 (l0.length : Int) (wrap64 (x20_2 + 1))))) else (none)) else (none)) = some r := by first | (rw [hji20] at H; exact H) | (simp only [hji20] at H ⊢; exact H)
 have hji20w : (IntKind.i64.wrap (x20_2 - 1)) = ji20 := (i64_w _).trans hji20
 by_cases c21 : 0 ≤ (ji20)
 {
 rw [if_pos c21] at H
 have c21b0 : decide (0 ≤ (ji20)) = true := decide_eq_true c21
 clear c21
 by_cases c22 : (ji20) < (l0.length : Int)
 {
 rw [if_pos c22] at H
 have c22b0 : decide ((ji20) < (l0.length : Int)) = true := decide_eq_true c22
 clear c22
 by_cases c23 : ((rd_T41 l0 x20_2).f1) < ((rd_T41 l0 (ji20)).f1)
 {
 rw [if_pos c23] at H
 have c23b0 : decide (((rd_T41 l0 x20_2).f1) < ((rd_T41 l0 (ji20)).f1)) = true := decide_eq_true c23
 clear c23
 obtain rfl := Option.some.inj H
 try go_wp2
 replace BK202 := aM (blk_drew BK202.out)
 replace HB := aM (below_drew1 HB.out)
 have p203 : 0 ≤ ((ji20) : Int) := dX
 have q203 : (ji20) < (l0.length : Int) := dX
 obtain ⟨ad203, e203, hx203_0, hx203_1⟩ := at_T41 HR0.out (ji20) p203 q203
 have hw203_1 := hx203_1
 have hw203_0 := hx203_0
 obtain rfl : ad201 = ad203 := (by injection e203)
 replace hx203_0 := (HB.out.cell (World.block_lt_of_cell? w _ hx203_0)).trans hx203_0
 replace hx203_1 := (HB.out.cell (World.block_lt_of_cell? w _ hx203_1)).trans hx203_1
 replace p203 := eq_true p203
 replace q203 := eq_true q203
 refine start_ (n := 35) (S := fun w' => w'.cell? ⟨gb202, 0, none⟩ = some (.int .i64 ((rd_T41 l0 x20_2).f0)) ∧ w'.cell? ⟨gb202, 1, none⟩ = some (.int .i64 ((rd_T41 l0 x20_2).f1)) ∧ w'.cell? (ad201.add (((ji20)).toNat * 2)) = some (.int .i64 ((rd_T41 l0 (ji20)).f0)) ∧ w'.cell? ⟨(ad201.add (((ji20)).toNat * 2)).block, (ad201.add (((ji20)).toNat * 2)).off + 1, none⟩ = some (.int .i64 ((rd_T41 l0 (ji20)).f1))) (ds := []) #[ff,ff,ff,ff,ff,ff,ff,ff,ff,ff,ff,ff,ff,ff,ff,ff,ff,ff,ff,ff,ff,ff,ff,ff,ff,ff,ff,ff,ff,ff,ff,ff,ff,ff,ff] (by kernel_rfl) rfl rfl ⟨cz20 BK202.out, cz21 BK202.out, ((HB.out.cell (World.block_lt_of_cell? w _ hw203_0)).trans hw203_0), ((HB.out.cell (World.block_lt_of_cell? w _ hw203_1)).trans hw203_1)⟩ (fun hHeld => ?_); refine with_tabW i_TableOk.tab8 i_TableOk.bits8 (fun HT_ HW_ => ?_)
 generalize wc.drew = w24 at BK202 HB hx203_0 hx203_1 hHeld ⊢
 refine pX 0 43 (fl 35 1) rfl rfl HT_.out ?_
 refine pX 1 44 (fl 35 3) rfl rfl HT_.out ?_
 refine pX 2 45 (fl 35 7) rfl rfl HT_.out ?_
 refine pX 3 46 (fl 35 15) rfl rfl HT_.out ?_
 refine pX 5 48 (fl 35 47) rfl rfl HT_.out ?_
 refine pX 6 49 (fl 35 111) rfl rfl HT_.out ?_
 refine pX 7 50 (fl 35 239) rfl rfl HT_.out ?_
 refine pX 8 51 (fl 35 495) rfl rfl HT_.out ?_
 refine pX 9 52 (fl 35 1007) rfl rfl HT_.out ?_
 refine tX4 4 47 (fl 35 1023) rfl rfl HT_.out HW_.out hHeld ?_
 refine tX4 10 53 (fl 35 2047) rfl rfl HT_.out HW_.out hHeld ?_
 refine pX 11 54 (fl 35 4095) rfl rfl HT_.out ?_
 refine pX 12 55 (fl 35 8191) rfl rfl HT_.out ?_
 refine uX 13 56 (fl 35 16383) rfl rfl HT_.out ?_
 refine uX 14 57 (fl 35 32767) rfl rfl HT_.out ?_
 refine uX 15 58 (fl 35 65535) rfl rfl HT_.out ?_
 refine uX 16 59 (fl 35 131071) rfl rfl HT_.out ?_
 refine uX 17 60 (fl 35 262143) rfl rfl HT_.out ?_
 refine uX 18 61 (fl 35 524287) rfl rfl HT_.out ?_
 refine uX 19 62 (fl 35 1048575) rfl rfl HT_.out ?_
 refine uX 20 63 (fl 35 2097151) rfl rfl HT_.out ?_
 refine uX 21 64 (fl 35 4194303) rfl rfl HT_.out ?_
 refine uX 22 65 (fl 35 8388607) rfl rfl HT_.out ?_
 refine uX 23 66 (fl 35 16777215) rfl rfl HT_.out ?_
 refine uX 24 67 (fl 35 33554431) rfl rfl HT_.out ?_
 refine uX 25 68 (fl 35 67108863) rfl rfl HT_.out ?_
 refine uX 26 69 (fl 35 134217727) rfl rfl HT_.out ?_
 refine uX 27 70 (fl 35 268435455) rfl rfl HT_.out ?_
 refine uX 28 71 (fl 35 536870911) rfl rfl HT_.out ?_
 refine uX 29 72 (fl 35 1073741823) rfl rfl HT_.out ?_
 refine uX 30 73 (fl 35 2147483647) rfl rfl HT_.out ?_
 refine uX 31 74 (fl 35 4294967295) rfl rfl HT_.out ?_
 refine uX 32 75 (fl 35 8589934591) rfl rfl HT_.out ?_
 refine pX 33 76 (fl 35 17179869183) rfl rfl HT_.out ?_
 refine pX 34 77 (fl 35 34359738367) rfl rfl HT_.out ?_
 refine done_ (done_of HT_.out (by kernel_rfl)) ?_
 try go_wp2
 go_ret
 exact ⟨by first | rfl | (simp [errW_none, errW_some] <;> rfl) | (simp only [← hji20]; first | rfl | (simp [errW_none, errW_some] <;> rfl)) | (simp [*, errW_none, errW_some] <;> rfl), bX1 HB.out GE202.out⟩
 }
 {
 rw [if_neg c23] at H
 have c23b0 : decide (((rd_T41 l0 x20_2).f1) < ((rd_T41 l0 (ji20)).f1)) = false := decide_eq_false c23
 clear c23
 by_cases c25 : ((rd_T41 l0 x20_2).f1) = ((rd_T41 l0 (ji20)).f1)
 {
 rw [if_pos c25] at H
 have c25b0 : (((rd_T41 l0 x20_2).f1) == ((rd_T41 l0 (ji20)).f1)) = true := beq_iff_eq.mpr c25
 have c25b1 : (((rd_T41 l0 x20_2).f1) != ((rd_T41 l0 (ji20)).f1)) = false := bne_eq_false_iff_eq.mpr c25
 clear c25
 by_cases c26 : ((rd_T41 l0 x20_2).f0) ≤ ((rd_T41 l0 (ji20)).f0)
 {
 rw [if_pos c26] at H
 have c26b0 : decide (((rd_T41 l0 x20_2).f0) ≤ ((rd_T41 l0 (ji20)).f0)) = true := decide_eq_true c26
 clear c26
 obtain rfl := Option.some.inj H
 try go_wp2
 replace BK202 := aM (blk_drew BK202.out)
 replace HB := aM (below_drew1 HB.out)
 have p203 : 0 ≤ ((ji20) : Int) := dX
 have q203 : (ji20) < (l0.length : Int) := dX
 obtain ⟨ad203, e203, hx203_0, hx203_1⟩ := at_T41 HR0.out (ji20) p203 q203
 have hw203_1 := hx203_1
 have hw203_0 := hx203_0
 obtain rfl : ad201 = ad203 := (by injection e203)
 replace hx203_0 := (HB.out.cell (World.block_lt_of_cell? w _ hx203_0)).trans hx203_0
 replace hx203_1 := (HB.out.cell (World.block_lt_of_cell? w _ hx203_1)).trans hx203_1
 replace p203 := eq_true p203
 replace q203 := eq_true q203
 have p204 : 0 ≤ ((ji20) : Int) := dX
 have q204 : (ji20) < (l0.length : Int) := dX
 obtain ⟨ad204, e204, hx204_0, hx204_1⟩ := at_T41 HR0.out (ji20) p204 q204
 have hw204_1 := hx204_1
 have hw204_0 := hx204_0
 obtain rfl : ad201 = ad204 := (by injection e204)
 replace hx204_0 := (HB.out.cell (World.block_lt_of_cell? w _ hx204_0)).trans hx204_0
 replace hx204_1 := (HB.out.cell (World.block_lt_of_cell? w _ hx204_1)).trans hx204_1
 replace p204 := eq_true p204
 replace q204 := eq_true q204
 have p205 : 0 ≤ ((ji20) : Int) := dX
 have q205 : (ji20) < (l0.length : Int) := dX
 obtain ⟨ad205, e205, hx205_0, hx205_1⟩ := at_T41 HR0.out (ji20) p205 q205
 have hw205_1 := hx205_1
 have hw205_0 := hx205_0
 obtain rfl : ad201 = ad205 := (by injection e205)
 replace hx205_0 := (HB.out.cell (World.block_lt_of_cell? w _ hx205_0)).trans hx205_0
 replace hx205_1 := (HB.out.cell (World.block_lt_of_cell? w _ hx205_1)).trans hx205_1
 replace p205 := eq_true p205
 replace q205 := eq_true q205
 refine start_ (n := 35) (S := fun w' => w'.cell? ⟨gb202, 0, none⟩ = some (.int .i64 ((rd_T41 l0 x20_2).f0)) ∧ w'.cell? ⟨gb202, 1, none⟩ = some (.int .i64 ((rd_T41 l0 x20_2).f1)) ∧ w'.cell? (ad201.add (((ji20)).toNat * 2)) = some (.int .i64 ((rd_T41 l0 (ji20)).f0)) ∧ w'.cell? ⟨(ad201.add (((ji20)).toNat * 2)).block, (ad201.add (((ji20)).toNat * 2)).off + 1, none⟩ = some (.int .i64 ((rd_T41 l0 (ji20)).f1)) ∧ w'.cell? (ad201.add (((ji20)).toNat * 2)) = some (.int .i64 ((rd_T41 l0 (ji20)).f0)) ∧ w'.cell? ⟨(ad201.add (((ji20)).toNat * 2)).block, (ad201.add (((ji20)).toNat * 2)).off + 1, none⟩ = some (.int .i64 ((rd_T41 l0 (ji20)).f1)) ∧ w'.cell? (ad201.add (((ji20)).toNat * 2)) = some (.int .i64 ((rd_T41 l0 (ji20)).f0)) ∧ w'.cell? ⟨(ad201.add (((ji20)).toNat * 2)).block, (ad201.add (((ji20)).toNat * 2)).off + 1, none⟩ = some (.int .i64 ((rd_T41 l0 (ji20)).f1))) (ds := []) #[ff,ff,ff,ff,ff,ff,ff,ff,ff,ff,ff,ff,ff,ff,ff,ff,ff,ff,ff,ff,ff,ff,ff,ff,ff,ff,ff,ff,ff,ff,ff,ff,ff,ff,ff] (by kernel_rfl) rfl rfl ⟨cz20 BK202.out, cz21 BK202.out, ((HB.out.cell (World.block_lt_of_cell? w _ hw203_0)).trans hw203_0), ((HB.out.cell (World.block_lt_of_cell? w _ hw203_1)).trans hw203_1), ((HB.out.cell (World.block_lt_of_cell? w _ hw204_0)).trans hw204_0), ((HB.out.cell (World.block_lt_of_cell? w _ hw204_1)).trans hw204_1), ((HB.out.cell (World.block_lt_of_cell? w _ hw205_0)).trans hw205_0), ((HB.out.cell (World.block_lt_of_cell? w _ hw205_1)).trans hw205_1)⟩ (fun hHeld => ?_); refine with_tabW i_TableOk.tab8 i_TableOk.bits8 (fun HT_ HW_ => ?_)
 generalize wc.drew = w27 at BK202 HB hx203_0 hx203_1 hx204_0 hx204_1 hx205_0 hx205_1 hHeld ⊢
 refine pX 0 43 (fl 35 1) rfl rfl HT_.out ?_
 refine pX 1 44 (fl 35 3) rfl rfl HT_.out ?_
 refine pX 2 45 (fl 35 7) rfl rfl HT_.out ?_
 refine pX 3 46 (fl 35 15) rfl rfl HT_.out ?_
 refine pX 5 48 (fl 35 47) rfl rfl HT_.out ?_
 refine pX 6 49 (fl 35 111) rfl rfl HT_.out ?_
 refine pX 7 50 (fl 35 239) rfl rfl HT_.out ?_
 refine pX 8 51 (fl 35 495) rfl rfl HT_.out ?_
 refine pX 9 52 (fl 35 1007) rfl rfl HT_.out ?_
 refine tX8 4 47 (fl 35 1023) rfl rfl HT_.out HW_.out hHeld ?_
 refine tX8 10 53 (fl 35 2047) rfl rfl HT_.out HW_.out hHeld ?_
 refine pX 11 54 (fl 35 4095) rfl rfl HT_.out ?_
 refine pX 12 55 (fl 35 8191) rfl rfl HT_.out ?_
 refine pX 13 56 (fl 35 16383) rfl rfl HT_.out ?_
 refine pX 15 58 (fl 35 49151) rfl rfl HT_.out ?_
 refine pX 16 59 (fl 35 114687) rfl rfl HT_.out ?_
 refine pX 17 60 (fl 35 245759) rfl rfl HT_.out ?_
 refine pX 18 61 (fl 35 507903) rfl rfl HT_.out ?_
 refine pX 19 62 (fl 35 1032191) rfl rfl HT_.out ?_
 refine tX8 14 57 (fl 35 1048575) rfl rfl HT_.out HW_.out hHeld ?_
 refine tX8 20 63 (fl 35 2097151) rfl rfl HT_.out HW_.out hHeld ?_
 refine pX 21 64 (fl 35 4194303) rfl rfl HT_.out ?_
 refine pX 22 65 (fl 35 8388607) rfl rfl HT_.out ?_
 refine pX 23 66 (fl 35 16777215) rfl rfl HT_.out ?_
 refine pX 25 68 (fl 35 50331647) rfl rfl HT_.out ?_
 refine pX 26 69 (fl 35 117440511) rfl rfl HT_.out ?_
 refine pX 27 70 (fl 35 251658239) rfl rfl HT_.out ?_
 refine pX 28 71 (fl 35 520093695) rfl rfl HT_.out ?_
 refine pX 29 72 (fl 35 1056964607) rfl rfl HT_.out ?_
 refine tX8 24 67 (fl 35 1073741823) rfl rfl HT_.out HW_.out hHeld ?_
 refine tX8 30 73 (fl 35 2147483647) rfl rfl HT_.out HW_.out hHeld ?_
 refine pX 31 74 (fl 35 4294967295) rfl rfl HT_.out ?_
 refine pX 32 75 (fl 35 8589934591) rfl rfl HT_.out ?_
 refine pX 33 76 (fl 35 17179869183) rfl rfl HT_.out ?_
 refine pX 34 77 (fl 35 34359738367) rfl rfl HT_.out ?_
 refine done_ (done_of HT_.out (by kernel_rfl)) ?_
 try go_wp2
 go_ret
 exact ⟨by first | rfl | (simp [errW_none, errW_some] <;> rfl) | (simp only [← hji20]; first | rfl | (simp [errW_none, errW_some] <;> rfl)) | (simp [*, errW_none, errW_some] <;> rfl), bX1 HB.out GE202.out⟩
 }
 {
 rw [if_neg c26] at H
 have c26b0 : decide (((rd_T41 l0 x20_2).f0) ≤ ((rd_T41 l0 (ji20)).f0)) = false := decide_eq_false c26
 clear c26
 have H' := aM H
 clear H
 try go_wp2
 replace BK202 := aM (blk_drew BK202.out)
 replace HB := aM (below_drew1 HB.out)
 have p203 : 0 ≤ ((ji20) : Int) := dX
 have q203 : (ji20) < (l0.length : Int) := dX
 obtain ⟨ad203, e203, hx203_0, hx203_1⟩ := at_T41 HR0.out (ji20) p203 q203
 have hw203_1 := hx203_1
 have hw203_0 := hx203_0
 obtain rfl : ad201 = ad203 := (by injection e203)
 replace hx203_0 := (HB.out.cell (World.block_lt_of_cell? w _ hx203_0)).trans hx203_0
 replace hx203_1 := (HB.out.cell (World.block_lt_of_cell? w _ hx203_1)).trans hx203_1
 replace p203 := eq_true p203
 replace q203 := eq_true q203
 have p204 : 0 ≤ ((ji20) : Int) := dX
 have q204 : (ji20) < (l0.length : Int) := dX
 obtain ⟨ad204, e204, hx204_0, hx204_1⟩ := at_T41 HR0.out (ji20) p204 q204
 have hw204_1 := hx204_1
 have hw204_0 := hx204_0
 obtain rfl : ad201 = ad204 := (by injection e204)
 replace hx204_0 := (HB.out.cell (World.block_lt_of_cell? w _ hx204_0)).trans hx204_0
 replace hx204_1 := (HB.out.cell (World.block_lt_of_cell? w _ hx204_1)).trans hx204_1
 replace p204 := eq_true p204
 replace q204 := eq_true q204
 have p205 : 0 ≤ ((ji20) : Int) := dX
 have q205 : (ji20) < (l0.length : Int) := dX
 obtain ⟨ad205, e205, hx205_0, hx205_1⟩ := at_T41 HR0.out (ji20) p205 q205
 have hw205_1 := hx205_1
 have hw205_0 := hx205_0
 obtain rfl : ad201 = ad205 := (by injection e205)
 replace hx205_0 := (HB.out.cell (World.block_lt_of_cell? w _ hx205_0)).trans hx205_0
 replace hx205_1 := (HB.out.cell (World.block_lt_of_cell? w _ hx205_1)).trans hx205_1
 replace p205 := eq_true p205
 replace q205 := eq_true q205
 refine start_ (n := 35) (S := fun w' => w'.cell? ⟨gb202, 0, none⟩ = some (.int .i64 ((rd_T41 l0 x20_2).f0)) ∧ w'.cell? ⟨gb202, 1, none⟩ = some (.int .i64 ((rd_T41 l0 x20_2).f1)) ∧ w'.cell? (ad201.add (((ji20)).toNat * 2)) = some (.int .i64 ((rd_T41 l0 (ji20)).f0)) ∧ w'.cell? ⟨(ad201.add (((ji20)).toNat * 2)).block, (ad201.add (((ji20)).toNat * 2)).off + 1, none⟩ = some (.int .i64 ((rd_T41 l0 (ji20)).f1)) ∧ w'.cell? (ad201.add (((ji20)).toNat * 2)) = some (.int .i64 ((rd_T41 l0 (ji20)).f0)) ∧ w'.cell? ⟨(ad201.add (((ji20)).toNat * 2)).block, (ad201.add (((ji20)).toNat * 2)).off + 1, none⟩ = some (.int .i64 ((rd_T41 l0 (ji20)).f1)) ∧ w'.cell? (ad201.add (((ji20)).toNat * 2)) = some (.int .i64 ((rd_T41 l0 (ji20)).f0)) ∧ w'.cell? ⟨(ad201.add (((ji20)).toNat * 2)).block, (ad201.add (((ji20)).toNat * 2)).off + 1, none⟩ = some (.int .i64 ((rd_T41 l0 (ji20)).f1))) (ds := []) #[ff,ff,ff,ff,ff,ff,ff,ff,ff,ff,ff,ff,ff,ff,ff,ff,ff,ff,ff,ff,ff,ff,ff,ff,ff,ff,ff,ff,ff,ff,ff,ff,ff,ff,ff] (by kernel_rfl) rfl rfl ⟨cz20 BK202.out, cz21 BK202.out, ((HB.out.cell (World.block_lt_of_cell? w _ hw203_0)).trans hw203_0), ((HB.out.cell (World.block_lt_of_cell? w _ hw203_1)).trans hw203_1), ((HB.out.cell (World.block_lt_of_cell? w _ hw204_0)).trans hw204_0), ((HB.out.cell (World.block_lt_of_cell? w _ hw204_1)).trans hw204_1), ((HB.out.cell (World.block_lt_of_cell? w _ hw205_0)).trans hw205_0), ((HB.out.cell (World.block_lt_of_cell? w _ hw205_1)).trans hw205_1)⟩ (fun hHeld => ?_); refine with_tabW i_TableOk.tab8 i_TableOk.bits8 (fun HT_ HW_ => ?_)
 generalize wc.drew = w28 at BK202 HB hx203_0 hx203_1 hx204_0 hx204_1 hx205_0 hx205_1 hHeld ⊢
 refine pX 0 43 (fl 35 1) rfl rfl HT_.out ?_
 refine pX 1 44 (fl 35 3) rfl rfl HT_.out ?_
 refine pX 2 45 (fl 35 7) rfl rfl HT_.out ?_
 refine pX 3 46 (fl 35 15) rfl rfl HT_.out ?_
 refine pX 5 48 (fl 35 47) rfl rfl HT_.out ?_
 refine pX 6 49 (fl 35 111) rfl rfl HT_.out ?_
 refine pX 7 50 (fl 35 239) rfl rfl HT_.out ?_
 refine pX 8 51 (fl 35 495) rfl rfl HT_.out ?_
 refine pX 9 52 (fl 35 1007) rfl rfl HT_.out ?_
 refine tX8 4 47 (fl 35 1023) rfl rfl HT_.out HW_.out hHeld ?_
 refine tX8 10 53 (fl 35 2047) rfl rfl HT_.out HW_.out hHeld ?_
 refine pX 11 54 (fl 35 4095) rfl rfl HT_.out ?_
 refine pX 12 55 (fl 35 8191) rfl rfl HT_.out ?_
 refine pX 13 56 (fl 35 16383) rfl rfl HT_.out ?_
 refine pX 15 58 (fl 35 49151) rfl rfl HT_.out ?_
 refine pX 16 59 (fl 35 114687) rfl rfl HT_.out ?_
 refine pX 17 60 (fl 35 245759) rfl rfl HT_.out ?_
 refine pX 18 61 (fl 35 507903) rfl rfl HT_.out ?_
 refine pX 19 62 (fl 35 1032191) rfl rfl HT_.out ?_
 refine tX8 14 57 (fl 35 1048575) rfl rfl HT_.out HW_.out hHeld ?_
 refine tX8 20 63 (fl 35 2097151) rfl rfl HT_.out HW_.out hHeld ?_
 refine pX 21 64 (fl 35 4194303) rfl rfl HT_.out ?_
 refine pX 22 65 (fl 35 8388607) rfl rfl HT_.out ?_
 refine pX 23 66 (fl 35 16777215) rfl rfl HT_.out ?_
 refine pX 25 68 (fl 35 50331647) rfl rfl HT_.out ?_
 refine pX 26 69 (fl 35 117440511) rfl rfl HT_.out ?_
 refine pX 27 70 (fl 35 251658239) rfl rfl HT_.out ?_
 refine pX 28 71 (fl 35 520093695) rfl rfl HT_.out ?_
 refine pX 29 72 (fl 35 1056964607) rfl rfl HT_.out ?_
 refine tX8 24 67 (fl 35 1073741823) rfl rfl HT_.out HW_.out hHeld ?_
 refine tX8 30 73 (fl 35 2147483647) rfl rfl HT_.out HW_.out hHeld ?_
 refine pX 31 74 (fl 35 4294967295) rfl rfl HT_.out ?_
 refine pX 32 75 (fl 35 8589934591) rfl rfl HT_.out ?_
 refine pX 33 76 (fl 35 17179869183) rfl rfl HT_.out ?_
 refine pX 34 77 (fl 35 34359738367) rfl rfl HT_.out ?_
 refine done_ (done_of HT_.out (by kernel_rfl)) ?_
 try go_wp2
 go_roundg kj7
 case measure => have := HJ1.out; have := HK2.out; have := HJ7.out; omega
 case rel => exact ⟨(wrap64 (x20_2 + 1)), vX, H', ⟨by have := HJ1.out; have := HK2.out; have := HJ7.out; omega⟩, ⟨bX1 HB.out GE202.out⟩⟩
 }
 }
 {
 rw [if_neg c25] at H
 have c25b0 : (((rd_T41 l0 x20_2).f1) == ((rd_T41 l0 (ji20)).f1)) = false := beq_eq_false_iff_ne.mpr c25
 have c25b1 : (((rd_T41 l0 x20_2).f1) != ((rd_T41 l0 (ji20)).f1)) = true := bne_iff_ne.mpr c25
 have H' := aM H
 clear H
 try go_wp2
 replace BK202 := aM (blk_drew BK202.out)
 replace HB := aM (below_drew1 HB.out)
 have p203 : 0 ≤ ((ji20) : Int) := dX
 have q203 : (ji20) < (l0.length : Int) := dX
 obtain ⟨ad203, e203, hx203_0, hx203_1⟩ := at_T41 HR0.out (ji20) p203 q203
 have hw203_1 := hx203_1
 have hw203_0 := hx203_0
 obtain rfl : ad201 = ad203 := (by injection e203)
 replace hx203_0 := (HB.out.cell (World.block_lt_of_cell? w _ hx203_0)).trans hx203_0
 replace hx203_1 := (HB.out.cell (World.block_lt_of_cell? w _ hx203_1)).trans hx203_1
 replace p203 := eq_true p203
 replace q203 := eq_true q203
 have p204 : 0 ≤ ((ji20) : Int) := dX
 have q204 : (ji20) < (l0.length : Int) := dX
 obtain ⟨ad204, e204, hx204_0, hx204_1⟩ := at_T41 HR0.out (ji20) p204 q204
 have hw204_1 := hx204_1
 have hw204_0 := hx204_0
 obtain rfl : ad201 = ad204 := (by injection e204)
 replace hx204_0 := (HB.out.cell (World.block_lt_of_cell? w _ hx204_0)).trans hx204_0
 replace hx204_1 := (HB.out.cell (World.block_lt_of_cell? w _ hx204_1)).trans hx204_1
 replace p204 := eq_true p204
 replace q204 := eq_true q204
 refine start_ (n := 35) (S := fun w' => w'.cell? ⟨gb202, 0, none⟩ = some (.int .i64 ((rd_T41 l0 x20_2).f0)) ∧ w'.cell? ⟨gb202, 1, none⟩ = some (.int .i64 ((rd_T41 l0 x20_2).f1)) ∧ w'.cell? (ad201.add (((ji20)).toNat * 2)) = some (.int .i64 ((rd_T41 l0 (ji20)).f0)) ∧ w'.cell? ⟨(ad201.add (((ji20)).toNat * 2)).block, (ad201.add (((ji20)).toNat * 2)).off + 1, none⟩ = some (.int .i64 ((rd_T41 l0 (ji20)).f1)) ∧ w'.cell? (ad201.add (((ji20)).toNat * 2)) = some (.int .i64 ((rd_T41 l0 (ji20)).f0)) ∧ w'.cell? ⟨(ad201.add (((ji20)).toNat * 2)).block, (ad201.add (((ji20)).toNat * 2)).off + 1, none⟩ = some (.int .i64 ((rd_T41 l0 (ji20)).f1))) (ds := []) #[ff,ff,ff,ff,ff,ff,ff,ff,ff,ff,ff,ff,ff,ff,ff,ff,ff,ff,ff,ff,ff,ff,ff,ff,ff,ff,ff,ff,ff,ff,ff,ff,ff,ff,ff] (by kernel_rfl) rfl rfl ⟨cz20 BK202.out, cz21 BK202.out, ((HB.out.cell (World.block_lt_of_cell? w _ hw203_0)).trans hw203_0), ((HB.out.cell (World.block_lt_of_cell? w _ hw203_1)).trans hw203_1), ((HB.out.cell (World.block_lt_of_cell? w _ hw204_0)).trans hw204_0), ((HB.out.cell (World.block_lt_of_cell? w _ hw204_1)).trans hw204_1)⟩ (fun hHeld => ?_); refine with_tabW i_TableOk.tab8 i_TableOk.bits8 (fun HT_ HW_ => ?_)
 generalize wc.drew = w29 at BK202 HB hx203_0 hx203_1 hx204_0 hx204_1 hHeld ⊢
 refine pX 0 43 (fl 35 1) rfl rfl HT_.out ?_
 refine pX 1 44 (fl 35 3) rfl rfl HT_.out ?_
 refine pX 2 45 (fl 35 7) rfl rfl HT_.out ?_
 refine pX 3 46 (fl 35 15) rfl rfl HT_.out ?_
 refine pX 5 48 (fl 35 47) rfl rfl HT_.out ?_
 refine pX 6 49 (fl 35 111) rfl rfl HT_.out ?_
 refine pX 7 50 (fl 35 239) rfl rfl HT_.out ?_
 refine pX 8 51 (fl 35 495) rfl rfl HT_.out ?_
 refine pX 9 52 (fl 35 1007) rfl rfl HT_.out ?_
 refine tX6 4 47 (fl 35 1023) rfl rfl HT_.out HW_.out hHeld ?_
 refine tX6 10 53 (fl 35 2047) rfl rfl HT_.out HW_.out hHeld ?_
 refine pX 11 54 (fl 35 4095) rfl rfl HT_.out ?_
 refine pX 12 55 (fl 35 8191) rfl rfl HT_.out ?_
 refine pX 13 56 (fl 35 16383) rfl rfl HT_.out ?_
 refine pX 15 58 (fl 35 49151) rfl rfl HT_.out ?_
 refine pX 16 59 (fl 35 114687) rfl rfl HT_.out ?_
 refine pX 17 60 (fl 35 245759) rfl rfl HT_.out ?_
 refine pX 18 61 (fl 35 507903) rfl rfl HT_.out ?_
 refine pX 19 62 (fl 35 1032191) rfl rfl HT_.out ?_
 refine tX6 14 57 (fl 35 1048575) rfl rfl HT_.out HW_.out hHeld ?_
 refine tX6 20 63 (fl 35 2097151) rfl rfl HT_.out HW_.out hHeld ?_
 refine pX 21 64 (fl 35 4194303) rfl rfl HT_.out ?_
 refine pX 22 65 (fl 35 8388607) rfl rfl HT_.out ?_
 refine uX 23 66 (fl 35 16777215) rfl rfl HT_.out ?_
 refine uX 24 67 (fl 35 33554431) rfl rfl HT_.out ?_
 refine uX 25 68 (fl 35 67108863) rfl rfl HT_.out ?_
 refine uX 26 69 (fl 35 134217727) rfl rfl HT_.out ?_
 refine uX 27 70 (fl 35 268435455) rfl rfl HT_.out ?_
 refine uX 28 71 (fl 35 536870911) rfl rfl HT_.out ?_
 refine uX 29 72 (fl 35 1073741823) rfl rfl HT_.out ?_
 refine uX 30 73 (fl 35 2147483647) rfl rfl HT_.out ?_
 refine uX 31 74 (fl 35 4294967295) rfl rfl HT_.out ?_
 refine pX 32 75 (fl 35 8589934591) rfl rfl HT_.out ?_
 refine pX 33 76 (fl 35 17179869183) rfl rfl HT_.out ?_
 refine pX 34 77 (fl 35 34359738367) rfl rfl HT_.out ?_
 refine done_ (done_of HT_.out (by kernel_rfl)) ?_
 try go_wp2
 go_roundg kj7
 case measure => have := HJ1.out; have := HK2.out; have := HJ7.out; omega
 case rel => exact ⟨(wrap64 (x20_2 + 1)), vX, H', ⟨by have := HJ1.out; have := HK2.out; have := HJ7.out; omega⟩, ⟨bX1 HB.out GE202.out⟩⟩
 }
 }
 }
 {
 rw [if_neg c22] at H
 exact absurd H (by simp)
 }
 }
 {
 rw [if_neg c21] at H
 exact absurd H (by simp)
 }
 }
 {
 rw [if_neg c19] at H
 have c19b0 : decide (0 < x20_2) = false := decide_eq_false c19
 clear c19
 have H' := aM H
 clear H
 try go_wp2
 replace BK202 := aM (blk_drew BK202.out)
 replace HB := aM (below_drew1 HB.out)
 refine start_ (n := 35) (S := fun w' => True) (ds := []) #[ff,ff,ff,ff,ff,ff,ff,ff,ff,ff,ff,ff,ff,ff,ff,ff,ff,ff,ff,ff,ff,ff,ff,ff,ff,ff,ff,ff,ff,ff,ff,ff,ff,ff,ff] (by kernel_rfl) rfl rfl trivial (fun hHeld => ?_); refine with_tabW i_TableOk.tab8 i_TableOk.bits8 (fun HT_ HW_ => ?_)
 generalize wc.drew = w30 at BK202 HB hHeld ⊢
 refine pX 0 43 (fl 35 1) rfl rfl HT_.out ?_
 refine pX 1 44 (fl 35 3) rfl rfl HT_.out ?_
 refine pX 2 45 (fl 35 7) rfl rfl HT_.out ?_
 refine uX 3 46 (fl 35 15) rfl rfl HT_.out ?_
 refine uX 4 47 (fl 35 31) rfl rfl HT_.out ?_
 refine uX 5 48 (fl 35 63) rfl rfl HT_.out ?_
 refine uX 6 49 (fl 35 127) rfl rfl HT_.out ?_
 refine uX 7 50 (fl 35 255) rfl rfl HT_.out ?_
 refine uX 8 51 (fl 35 511) rfl rfl HT_.out ?_
 refine uX 9 52 (fl 35 1023) rfl rfl HT_.out ?_
 refine uX 10 53 (fl 35 2047) rfl rfl HT_.out ?_
 refine uX 11 54 (fl 35 4095) rfl rfl HT_.out ?_
 refine uX 12 55 (fl 35 8191) rfl rfl HT_.out ?_
 refine uX 13 56 (fl 35 16383) rfl rfl HT_.out ?_
 refine uX 14 57 (fl 35 32767) rfl rfl HT_.out ?_
 refine uX 15 58 (fl 35 65535) rfl rfl HT_.out ?_
 refine uX 16 59 (fl 35 131071) rfl rfl HT_.out ?_
 refine uX 17 60 (fl 35 262143) rfl rfl HT_.out ?_
 refine uX 18 61 (fl 35 524287) rfl rfl HT_.out ?_
 refine uX 19 62 (fl 35 1048575) rfl rfl HT_.out ?_
 refine uX 20 63 (fl 35 2097151) rfl rfl HT_.out ?_
 refine uX 21 64 (fl 35 4194303) rfl rfl HT_.out ?_
 refine uX 22 65 (fl 35 8388607) rfl rfl HT_.out ?_
 refine uX 23 66 (fl 35 16777215) rfl rfl HT_.out ?_
 refine uX 24 67 (fl 35 33554431) rfl rfl HT_.out ?_
 refine uX 25 68 (fl 35 67108863) rfl rfl HT_.out ?_
 refine uX 26 69 (fl 35 134217727) rfl rfl HT_.out ?_
 refine uX 27 70 (fl 35 268435455) rfl rfl HT_.out ?_
 refine uX 28 71 (fl 35 536870911) rfl rfl HT_.out ?_
 refine uX 29 72 (fl 35 1073741823) rfl rfl HT_.out ?_
 refine uX 30 73 (fl 35 2147483647) rfl rfl HT_.out ?_
 refine uX 31 74 (fl 35 4294967295) rfl rfl HT_.out ?_
 refine uX 32 75 (fl 35 8589934591) rfl rfl HT_.out ?_
 refine uX 33 76 (fl 35 17179869183) rfl rfl HT_.out ?_
 refine pX 34 77 (fl 35 34359738367) rfl rfl HT_.out ?_
 refine done_ (done_of HT_.out (by kernel_rfl)) ?_
 try go_wp2
 go_roundg kj7
 case measure => have := HJ1.out; have := HK2.out; have := HJ7.out; omega
 case rel => exact ⟨(wrap64 (x20_2 + 1)), vX, H', ⟨by have := HJ1.out; have := HK2.out; have := HJ7.out; omega⟩, ⟨bX1 HB.out GE202.out⟩⟩
 }
 }
 }
 {
 rw [if_neg c7] at H
 exact absurd H (by simp)
 }
 }
 {
 rw [if_neg c6] at H
 exact absurd H (by simp)
 }
 }
 {
 rw [if_neg c5] at H
 have c5b0 : decide (x20_2 < (l0.length : Int)) = false := decide_eq_false c5
 clear c5
 obtain ⟨y206, hy206⟩ : ∃ y_ : List Int, y_ = (([0] : List Int)) := ⟨_, rfl⟩
 replace H : (i_TableOk.l1 k2 l0 y206 0) = some r := by first | (rw [hy206]; with_reducible exact H) | (have H2_ := (Option.bind_some _ _).symm.trans H; rw [hy206]; with_reducible exact H2_) | (have H2_ := (Option.bind_some _ _).symm.trans H; with_reducible exact H2_) | with_reducible exact H | (rw [hy206]; exact H) | exact H
 have Ny206 := aM hy206
 clear hy206
 have H' := aM H
 clear H
 go_wp2_with (first | ((with_reducible refine gate_dst (N := 79) rfl ?_); (try (refine gate_guard (by rfl) ?_; dsimp only)); refine Kd.R_lit (Kd.int .i64) _ 3 ?hg (N := 79) ?hd (xs := ([0] : List Int)) (inner := [.int .i64 0]) (ok := fun _ => True) (okp := fun _ => True) ?hr ?hp (fun _ hk => hk) trivial (Below.refl _ _) (Nat.le_refl _) (by simp) ?_; (case hd => rfl); (case hg => rfl); (case hr => first | (go_simp; done) | (go_simp; rfl)); (case hp => exact (Reps.one (show Kd.M (Kd.int .i64) _ _ _ 0 [.int .i64 0] from rfl) (Reps.none _ _))); intro v207 w31 ho32 hb hg_ hnew_; clear hg_ hnew_; (first | rw [← Ny206.out] at ho32 | (simp only [Int.reduceToNat] at ho32; rw [← Ny206.out] at ho32)); have HO208 := aM (Kd.R_lower ho32 (below_size (bX HB.out))); replace HB := aM (below_step (bX HB.out) hb); clear hb ho32))
 go_loopg [5, 6] k2 (fun kq v5 v6 w' => ∃ (x5_3 : List Int) (x6_3 : Int), v6 = .int .i64 x6_3 ∧ Aside0 (i_TableOk.l1 kq l0 x5_3 x6_3 = some r) ∧ Aside0 (kq ≤ k2) ∧ Aside0 (Kd.R (Kd.int .i64) 3 w' w.heap.size (fun _ => True) v5 x5_3) ∧ Aside0 (Below w.heap.size w w'))
 case atStart => exact ⟨(y206), (0), vX, H', ⟨Nat.le_refl _⟩, ⟨rX HO208.out⟩, ⟨bX HB.out⟩⟩
 case round =>
 clear H'
 try clear c5
 try clear c5b0
 try clear c6
 try clear c7
 try clear c19
 try clear c19b0
 try clear c21
 try clear c22
 try clear c25
 try clear c25b0
 try clear c25b1
 try clear hx203_0
 try clear hx203_1
 try clear hx204_0
 try clear hx204_1
 try clear p203
 try clear p204
 try clear q203
 try clear q204
 obtain ⟨x5_3, x6_3, rfl, HA, HK3, HO_5, HB⟩ := hrel
 cases gk with
 | zero => exact absurd HA.out (by simp [i_TableOk.l1])
 | succ k3 =>
 have H := HA.out
 clear HA
 simp only [i_TableOk.l1] at H
 by_cases c33 : x6_3 < (x5_3.length : Int)
 {
 rw [if_pos c33] at H
 have c33b0 : decide (x6_3 < (x5_3.length : Int)) = true := decide_eq_true c33
 clear c33
 by_cases c34 : 0 ≤ x6_3
 {
 rw [if_pos c34] at H
 have c34b0 : decide (0 ≤ x6_3) = true := decide_eq_true c34
 clear c34
 by_cases c35 : 0 ≤ (rd x5_3 x6_3)
 {
 rw [if_pos c35] at H
 have c35b0 : decide (0 ≤ (rd x5_3 x6_3)) = true := decide_eq_true c35
 clear c35
 by_cases c36 : (rd x5_3 x6_3) < (l0.length : Int)
 {
 rw [if_pos c36] at H
 have c36b0 : decide ((rd x5_3 x6_3) < (l0.length : Int)) = true := decide_eq_true c36
 clear c36
 replace H := oB H
 obtain ⟨t212, A370, H⟩ := H
 replace H : ((i_CellAt.f k3 l0 (wrap64 (((rd_T41 l0 (rd x5_3 x6_3)).f0) - 1)) ((rd_T41 l0 (rd x5_3 x6_3)).f1)).bind fun t213 => ((i_CellAt.f k3 l0 ((rd_T41 l0 (rd x5_3 x6_3)).f0) (wrap64 (((rd_T41 l0 (rd x5_3 x6_3)).f1) + 1))).bind fun t214 => ((i_CellAt.f k3 l0 ((rd_T41 l0 (rd x5_3 x6_3)).f0) (wrap64 (((rd_T41 l0 (rd x5_3 x6_3)).f1) - 1))).bind fun t215 => ((some (([t212, t213, t214, t215] : List Int) : List Int)).bind fun y216 => (i_TableOk.l2 k3 l0 x5_3 x6_3 y216 (y216.length : Int) 0))))) = some r := H
 have A37 := aM A370
 clear A370
 replace H := oB H
 obtain ⟨t213, A380, H⟩ := H
 replace H : ((i_CellAt.f k3 l0 ((rd_T41 l0 (rd x5_3 x6_3)).f0) (wrap64 (((rd_T41 l0 (rd x5_3 x6_3)).f1) + 1))).bind fun t214 => ((i_CellAt.f k3 l0 ((rd_T41 l0 (rd x5_3 x6_3)).f0) (wrap64 (((rd_T41 l0 (rd x5_3 x6_3)).f1) - 1))).bind fun t215 => ((some (([t212, t213, t214, t215] : List Int) : List Int)).bind fun y216 => (i_TableOk.l2 k3 l0 x5_3 x6_3 y216 (y216.length : Int) 0)))) = some r := H
 have A38 := aM A380
 clear A380
 replace H := oB H
 obtain ⟨t214, A390, H⟩ := H
 replace H : ((i_CellAt.f k3 l0 ((rd_T41 l0 (rd x5_3 x6_3)).f0) (wrap64 (((rd_T41 l0 (rd x5_3 x6_3)).f1) - 1))).bind fun t215 => ((some (([t212, t213, t214, t215] : List Int) : List Int)).bind fun y216 => (i_TableOk.l2 k3 l0 x5_3 x6_3 y216 (y216.length : Int) 0))) = some r := H
 have A39 := aM A390
 clear A390
 replace H := oB H
 obtain ⟨t215, A400, H⟩ := H
 replace H : ((some (([t212, t213, t214, t215] : List Int) : List Int)).bind fun y216 => (i_TableOk.l2 k3 l0 x5_3 x6_3 y216 (y216.length : Int) 0)) = some r := H
 have A40 := aM A400
 clear A400
 obtain ⟨y216, hy216⟩ : ∃ y_ : List Int, y_ = (([t212, t213, t214, t215] : List Int)) := ⟨_, rfl⟩
 replace H : (i_TableOk.l2 k3 l0 x5_3 x6_3 y216 (y216.length : Int) 0) = some r := by first | (rw [hy216]; with_reducible exact H) | (have H2_ := (Option.bind_some _ _).symm.trans H; rw [hy216]; with_reducible exact H2_) | (have H2_ := (Option.bind_some _ _).symm.trans H; with_reducible exact H2_) | with_reducible exact H | (rw [hy216]; exact H) | exact H
 have Ny216 := aM hy216
 clear hy216
 have H' := aM H
 clear H
 obtain ⟨Ao41, co41, eo41⟩ := Kd.R_slice HO_5.out
 subst eo41
 have p209 : 0 ≤ (x6_3 : Int) := dX
 have q209 : x6_3 < (x5_3.length : Int) := dX
 obtain ⟨ad209, e209, hx209_0⟩ := Kd.at_int (Kd.R_reads' HO_5.out).2.2 x6_3 p209 q209
 cases e209
 replace p209 := eq_true p209
 replace q209 := eq_true q209
 have p210 : 0 ≤ ((rd x5_3 x6_3) : Int) := dX
 have q210 : (rd x5_3 x6_3) < (l0.length : Int) := dX
 obtain ⟨ad210, e210, hx210_0, hx210_1⟩ := at_T41 HR0.out (rd x5_3 x6_3) p210 q210
 cases e210
 replace hx210_0 := (HB.out.cell (World.block_lt_of_cell? w _ hx210_0)).trans hx210_0
 replace hx210_1 := (HB.out.cell (World.block_lt_of_cell? w _ hx210_1)).trans hx210_1
 replace p210 := eq_true p210
 replace q210 := eq_true q210
 try go_wp2_with (first | ((with_reducible refine gate_dst (N := 7) rfl ?_); (try (refine gate_guard (by rfl) ?_; dsimp only)); refine bEv (cs := #[.int .i64 0, .int .i64 0]) (t := 41) ?_; intro gb211 hg w42 hbox hb; replace HO_5 := aM (Kd.R_below (rX HO_5.out) hb); have BK211 := aM (hbox); have GW211 := aM ((szX (below_size (bX HB.out)) hg : w.heap.size ≤ gb211)); have GE211 := aM ((szX (below_size (bX HB.out)) hg : w.heap.size ≤ gb211)); replace HB := aM (below_step (bX HB.out) hb); clear hb hbox hg; have hcz43_0 := cz20 BK211.out; have hcz43_1 := cz21 BK211.out; have hfz43_0 := blk_frozen BK211.out 0; have hfz43_1 := blk_frozen BK211.out 1))
 have n0_ : Aside0 (Kd.R (Kd.int .i64) 3 ((w42.setCell ⟨gb211, 0, none⟩ (.int .i64 ((rd_T41 l0 (rd x5_3 x6_3)).f0))).setCell ⟨gb211, 1, none⟩ (.int .i64 ((rd_T41 l0 (rd x5_3 x6_3)).f1))) w.heap.size (fun _ => True) (.slice (some ad209) x5_3.length co41) x5_3) := ⟨by (with_reducible repeat (first|apply rA|apply rN|apply rD)); exact Kd.R_mono (Kd.R_far (p := ⟨gb211, 1, none⟩) (Kd.R_far (p := ⟨gb211, 0, none⟩) (Kd.R_types HO_5.out BK211.out (by decide)) (fun _ hk => hk.2) (.int .i64 ((rd_T41 l0 (rd x5_3 x6_3)).f0))) (fun _ hk => hk.2) (.int .i64 ((rd_T41 l0 (rd x5_3 x6_3)).f1))) (fun _ hk => trivial)⟩
 have n1_ : Aside0 (((w42.setCell ⟨gb211, 0, none⟩ (.int .i64 ((rd_T41 l0 (rd x5_3 x6_3)).f0))).setCell ⟨gb211, 1, none⟩ (.int .i64 ((rd_T41 l0 (rd x5_3 x6_3)).f1))).heap[gb211]? = some (.cells #[.int .i64 ((rd_T41 l0 (rd x5_3 x6_3)).f0), .int .i64 ((rd_T41 l0 (rd x5_3 x6_3)).f1)] 41 (0, 0))) := ⟨by (with_reducible repeat (first|refine kN ?_ _|refine kD ?_|refine kA ?_ _)); refine blk_put (cs := #[.int .i64 ((rd_T41 l0 (rd x5_3 x6_3)).f0), .int .i64 0]) ?_ 1 _ rfl; (with_reducible repeat (first|refine kN ?_ _|refine kD ?_|refine kA ?_ _)); refine blk_put (cs := #[.int .i64 0, .int .i64 0]) ?_ 0 _ rfl; (with_reducible repeat (first|refine kN ?_ _|refine kD ?_|refine kA ?_ _)); exact BK211.out⟩
 have n2_ : Aside0 (Below w.heap.size w ((w42.setCell ⟨gb211, 0, none⟩ (.int .i64 ((rd_T41 l0 (rd x5_3 x6_3)).f0))).setCell ⟨gb211, 1, none⟩ (.int .i64 ((rd_T41 l0 (rd x5_3 x6_3)).f1)))) := ⟨bX1 HB.out GE211.out⟩
 (try clear HO_5)
 (try clear BK211)
 (try clear HB)
 generalize ((w42.setCell ⟨gb211, 0, none⟩ (.int .i64 ((rd_T41 l0 (rd x5_3 x6_3)).f0))).setCell ⟨gb211, 1, none⟩ (.int .i64 ((rd_T41 l0 (rd x5_3 x6_3)).f1))) = w44 at n0_ n1_ n2_ ⊢
 have HO_5 := n0_
 have BK211 := n1_
 have HB := n2_
 clear n0_ n1_ n2_
 replace HO_5 := aM (Kd.R_drew HO_5.out)
 replace BK211 := aM (blk_drew BK211.out)
 replace HB := aM (below_drew1 HB.out)
 refine start_ (n := 31) (S := fun w' => w'.cell? ⟨gb211, 0, none⟩ = some (.int .i64 ((rd_T41 l0 (rd x5_3 x6_3)).f0)) ∧ w'.cell? ⟨gb211, 1, none⟩ = some (.int .i64 ((rd_T41 l0 (rd x5_3 x6_3)).f1))) (ds := []) #[ff,ff,ff,ff,ff,ff,ff,ff,ff,ff,ff,ff,ff,ff,ff,ff,ff,ff,ff,ff,ff,ff,ff,ff,ff,ff,ff,ff,ff,ff,ff] (by kernel_rfl) rfl rfl ⟨cz20 BK211.out, cz21 BK211.out⟩ (fun hHeld => ?_); refine with_tabW i_TableOk.tab16 i_TableOk.bits16 (fun HT_ HW_ => ?_)
 generalize w44.drew = w45 at HO_5 BK211 HB hHeld ⊢
 refine pX 0 93 (fl 31 1) rfl rfl HT_.out ?_
 refine pX 1 94 (fl 31 3) rfl rfl HT_.out ?_
 refine pX 4 97 (fl 31 19) rfl rfl HT_.out ?_
 refine pX 7 100 (fl 31 147) rfl rfl HT_.out ?_
 refine pX 8 101 (fl 31 403) rfl rfl HT_.out ?_
 refine pX 11 104 (fl 31 2451) rfl rfl HT_.out ?_
 refine pX 14 107 (fl 31 18835) rfl rfl HT_.out ?_
 refine pX 15 108 (fl 31 51603) rfl rfl HT_.out ?_
 refine pX 17 110 (fl 31 182675) rfl rfl HT_.out ?_
 refine pX 21 114 (fl 31 2279827) rfl rfl HT_.out ?_
 refine pX 22 115 (fl 31 6474131) rfl rfl HT_.out ?_
 refine pX 24 117 (fl 31 23251347) rfl rfl HT_.out ?_
 refine pX 30 123 (fl 31 1096993171) rfl rfl HT_.out ?_
 refine tX2 2 95 (fl 31 1096993175) rfl rfl HT_.out HW_.out hHeld ?_
 refine pX 3 96 (fl 31 1096993183) rfl rfl HT_.out ?_
 refine tX2 5 98 (fl 31 1096993215) rfl rfl HT_.out HW_.out hHeld ?_
 refine tX2 9 102 (fl 31 1096993727) rfl rfl HT_.out HW_.out hHeld ?_
 refine pX 10 103 (fl 31 1096994751) rfl rfl HT_.out ?_
 refine tX2 12 105 (fl 31 1096998847) rfl rfl HT_.out HW_.out hHeld ?_
 refine tX2 16 109 (fl 31 1097064383) rfl rfl HT_.out HW_.out hHeld ?_
 refine tX2 18 111 (fl 31 1097326527) rfl rfl HT_.out HW_.out hHeld ?_
 refine pX 19 112 (fl 31 1097850815) rfl rfl HT_.out ?_
 refine tX2 23 116 (fl 31 1106239423) rfl rfl HT_.out HW_.out hHeld ?_
 refine tX2 25 118 (fl 31 1139793855) rfl rfl HT_.out HW_.out hHeld ?_
 refine pX 26 119 (fl 31 1206902719) rfl rfl HT_.out ?_
 refine one_ (i := 6) (N := some 99) #[tt,tt,tt,tt,tt,tt,tt,tt,tt,tt,tt,tt,tt,ff,tt,tt,tt,tt,tt,tt,ff,tt,tt,tt,tt,tt,tt,ff,ff,ff,tt] rfl rfl (one_of HT_.out (by kernel_rfl)) (by decide) (fun K hK => ?_)
 refine goes_ Try.func15 (by kernel_rfl) rfl #[.slice (some ad210) l0.length c0, .int .i64 (wrap64 (((rd_T41 l0 (rd x5_3 x6_3)).f0) + 1)), .int .i64 ((rd_T41 l0 (rd x5_3 x6_3)).f1)] (by rfl) rfl rfl aX ?_
 with_reducible refine (i_CellAt.calls k3 _ _ l0 (wrap64 (((rd_T41 l0 (rd x5_3 x6_3)).f0) + 1)) ((rd_T41 l0 (rd x5_3 x6_3)).f1) t212 _ ?side1 ?side2 A37.out).mono ?_
 (case side1 => exact cX (Kd.C_below HR0.out HB.out))
 (case side2 => exact HC0.out)
 rintro e w46 ⟨rfl, hb⟩
 refine ⟨_, rfl, ?_⟩
 replace HO_5 := aM (Kd.R_below (rX HO_5.out) hb)
 replace BK211 := aM (bbX BK211.out hb)
 replace HB := aM (below_step (bX1 HB.out GE211.out) hb)
 (try clear hb)
 (try clear hb2)
 (try clear hk)
 (try clear hi)
 refine hK.out _ _ ⟨cz20 BK211.out, cz21 BK211.out⟩ (fun hHeld => ?_)
 clear hK K
 refine norm_ (a' := ?_) ?_ ?_
 rotate_left
 {
 show Act.put _ (some 99) _ = _
 simp only [Act.put, zA, zB, zC, i64_w, i32_w]
 rfl
 }
 refine one_ (i := 13) (N := some 106) #[tt,tt,tt,tt,tt,tt,tt,tt,tt,tt,tt,tt,tt,tt,tt,tt,tt,tt,tt,tt,ff,tt,tt,tt,tt,tt,tt,ff,ff,ff,tt] rfl rfl (one_of HT_.out (by kernel_rfl)) (by decide) (fun K hK => ?_)
 refine goes_ Try.func15 (by kernel_rfl) rfl #[.slice (some ad210) l0.length c0, .int .i64 (wrap64 (((rd_T41 l0 (rd x5_3 x6_3)).f0) - 1)), .int .i64 ((rd_T41 l0 (rd x5_3 x6_3)).f1)] (by rfl) rfl rfl aX ?_
 with_reducible refine (i_CellAt.calls k3 _ _ l0 (wrap64 (((rd_T41 l0 (rd x5_3 x6_3)).f0) - 1)) ((rd_T41 l0 (rd x5_3 x6_3)).f1) t213 _ ?side1 ?side2 A38.out).mono ?_
 (case side1 => exact cX (Kd.C_below HR0.out HB.out))
 (case side2 => exact HC0.out)
 rintro e w47 ⟨rfl, hb⟩
 refine ⟨_, rfl, ?_⟩
 replace HO_5 := aM (Kd.R_below (rX HO_5.out) hb)
 replace BK211 := aM (bbX BK211.out hb)
 replace HB := aM (below_step (bX1 HB.out GE211.out) hb)
 (try clear hb)
 (try clear hb2)
 (try clear hk)
 (try clear hi)
 refine hK.out _ _ ⟨cz20 BK211.out, cz21 BK211.out⟩ (fun hHeld => ?_)
 clear hK K
 refine norm_ (a' := ?_) ?_ ?_
 rotate_left
 {
 show Act.put _ (some 106) _ = _
 simp only [Act.put, zA, zB, zC, i64_w, i32_w]
 rfl
 }
 refine one_ (i := 20) (N := some 113) #[tt,tt,tt,tt,tt,tt,tt,tt,tt,tt,tt,tt,tt,tt,tt,tt,tt,tt,tt,tt,tt,tt,tt,tt,tt,tt,tt,ff,ff,ff,tt] rfl rfl (one_of HT_.out (by kernel_rfl)) (by decide) (fun K hK => ?_)
 refine goes_ Try.func15 (by kernel_rfl) rfl #[.slice (some ad210) l0.length c0, .int .i64 ((rd_T41 l0 (rd x5_3 x6_3)).f0), .int .i64 (wrap64 (((rd_T41 l0 (rd x5_3 x6_3)).f1) + 1))] (by rfl) rfl rfl aX ?_
 with_reducible refine (i_CellAt.calls k3 _ _ l0 ((rd_T41 l0 (rd x5_3 x6_3)).f0) (wrap64 (((rd_T41 l0 (rd x5_3 x6_3)).f1) + 1)) t214 _ ?side1 ?side2 A39.out).mono ?_
 (case side1 => exact cX (Kd.C_below HR0.out HB.out))
 (case side2 => exact HC0.out)
 rintro e w48 ⟨rfl, hb⟩
 refine ⟨_, rfl, ?_⟩
 replace HO_5 := aM (Kd.R_below (rX HO_5.out) hb)
 replace BK211 := aM (bbX BK211.out hb)
 replace HB := aM (below_step (bX1 HB.out GE211.out) hb)
 (try clear hb)
 (try clear hb2)
 (try clear hk)
 (try clear hi)
 refine hK.out _ _ ⟨cz20 BK211.out, cz21 BK211.out⟩ (fun hHeld => ?_)
 clear hK K
 refine norm_ (a' := ?_) ?_ ?_
 rotate_left
 {
 show Act.put _ (some 113) _ = _
 simp only [Act.put, zA, zB, zC, i64_w, i32_w]
 rfl
 }
 refine one_ (i := 27) (N := some 120) #[tt,tt,tt,tt,tt,tt,tt,tt,tt,tt,tt,tt,tt,tt,tt,tt,tt,tt,tt,tt,tt,tt,tt,tt,tt,tt,tt,tt,ff,ff,tt] rfl rfl (one_of HT_.out (by kernel_rfl)) (by decide) (fun K hK => ?_)
 refine goes_ Try.func15 (by kernel_rfl) rfl #[.slice (some ad210) l0.length c0, .int .i64 ((rd_T41 l0 (rd x5_3 x6_3)).f0), .int .i64 (wrap64 (((rd_T41 l0 (rd x5_3 x6_3)).f1) - 1))] (by rfl) rfl rfl aX ?_
 with_reducible refine (i_CellAt.calls k3 _ _ l0 ((rd_T41 l0 (rd x5_3 x6_3)).f0) (wrap64 (((rd_T41 l0 (rd x5_3 x6_3)).f1) - 1)) t215 _ ?side1 ?side2 A40.out).mono ?_
 (case side1 => exact cX (Kd.C_below HR0.out HB.out))
 (case side2 => exact HC0.out)
 rintro e w49 ⟨rfl, hb⟩
 refine ⟨_, rfl, ?_⟩
 replace HO_5 := aM (Kd.R_below (rX HO_5.out) hb)
 replace BK211 := aM (bbX BK211.out hb)
 replace HB := aM (below_step (bX1 HB.out GE211.out) hb)
 (try clear hb)
 (try clear hb2)
 (try clear hk)
 (try clear hi)
 refine hK.out _ _ ⟨cz20 BK211.out, cz21 BK211.out⟩ (fun hHeld => ?_)
 clear hK K
 refine norm_ (a' := ?_) ?_ ?_
 rotate_left
 {
 show Act.put _ (some 120) _ = _
 simp only [Act.put, zA, zB, zC, i64_w, i32_w]
 rfl
 }
 refine one_ (i := 28) (N := some 121) #[tt,tt,tt,tt,tt,tt,tt,tt,tt,tt,tt,tt,tt,tt,tt,tt,tt,tt,tt,tt,tt,tt,tt,tt,tt,tt,tt,tt,tt,ff,tt] rfl rfl (one_of HT_.out (by kernel_rfl)) (by decide) (fun K hK => ?_)
 refine Kd.R_lit_step (Kd.int .i64) _ 3 ?hg (N := 121) ?hd (xs := ([t212, t213, t214, t215] : List Int)) (inner := [.int .i64 t212, .int .i64 t213, .int .i64 t214, .int .i64 t215]) (ok := fun _ => True) (okp := fun _ => True) ?hr ?hp (fun _ hk => hk) trivial (Below.refl _ _) (Nat.le_refl _) (by simp) ?_; (case hd => rfl); (case hg => rfl); (case hr => first | (go_simp; done) | (go_simp; rfl)); (case hp => exact (Reps.one (show Kd.M (Kd.int .i64) _ _ _ t212 [.int .i64 t212] from rfl) (Reps.one (show Kd.M (Kd.int .i64) _ _ _ t213 [.int .i64 t213] from rfl) (Reps.one (show Kd.M (Kd.int .i64) _ _ _ t214 [.int .i64 t214] from rfl) (Reps.one (show Kd.M (Kd.int .i64) _ _ _ t215 [.int .i64 t215] from rfl) (Reps.none _ _))))))
 intro v217 w50 ho51 hb hg_ hnew_
 clear hg_ hnew_
 (first | rw [← Ny216.out] at ho51 | (simp only [Int.reduceToNat] at ho51; rw [← Ny216.out] at ho51))
 have HO218 := aM (Kd.R_lower (Kd.R_new' ho51 (Kd.R_lt (rX HO_5.out))) (below_size (bX1 HB.out GE211.out)))
 replace HO_5 := aM (Kd.R_elder' (rX HO_5.out) (Kd.R_base ho51) hb)
 replace BK211 := aM (bbX BK211.out hb)
 replace HB := aM (below_step (bX1 HB.out GE211.out) hb)
 clear hb ho51
 obtain ⟨Ao52, co52, eo52⟩ := Kd.R_slice HO218.out
 (first | subst eo52 | (injection eo52 with f1_ f2_ f3_; have f4_ := f1_.symm; have f5_ := f3_.symm; clear f1_ f2_ f3_; subst f4_; subst f5_))
 refine hK.out _ _ ⟨cz20 BK211.out, cz21 BK211.out⟩ (fun hHeld => ?_)
 clear hK K
 refine norm_ (a' := ?_) ?_ ?_
 rotate_left
 {
 show Act.put _ (some 121) _ = _
 simp only [Act.put, zA, zB, zC, i64_w, i32_w]
 rfl
 }
 refine pX 29 122 (fl 31 2147483647) rfl rfl HT_.out ?_
 refine done_ (done_of HT_.out (by kernel_rfl)) ?_
 try go_wp2
 go_loopg [5, 123] k3 (fun kq v5 v123 w' => ∃ (x5_4 : List Int) (x123_4 : Int), v123 = .int .i64 x123_4 ∧ Aside0 (i_TableOk.l2 kq l0 x5_4 x6_3 y216 (y216.length : Int) x123_4 = some r) ∧ Aside0 (kq ≤ k3) ∧ Aside0 (Kd.R (Kd.int .i64) 3 w' w.heap.size (fun k_ => some k_ ≠ ((.slice Ao52 y216.length co52) : Value).ownBlock) v5 x5_4) ∧ Aside0 (Kd.R (Kd.int .i64) 3 w' w.heap.size (fun k_ => some k_ ≠ (v5 : Value).ownBlock) (.slice Ao52 y216.length co52) y216) ∧ Aside0 (w'.heap[gb211]? = some (.cells #[.int .i64 ((rd_T41 l0 (rd x5_3 x6_3)).f0), .int .i64 ((rd_T41 l0 (rd x5_3 x6_3)).f1)] 41 (0, 0))) ∧ Aside0 (Below w.heap.size w w'))
 case atStart => exact ⟨(x5_3), (0), vX, H', ⟨Nat.le_refl _⟩, ⟨rM HO_5.out (fun _ hk => hk.2)⟩, ⟨rM HO218.out (fun _ hk => hk.2)⟩, ⟨kX BK211.out⟩, ⟨bX1 HB.out GE211.out⟩⟩
 case round =>
 clear H'
 try clear c3
 try clear c5
 try clear c5b0
 try clear c6
 try clear c7
 try clear c15
 try clear c19
 try clear c19b0
 try clear c21
 try clear c22
 try clear c25
 try clear c25b0
 try clear c25b1
 try clear c33
 try clear c33b0
 try clear c34
 try clear c34b0
 try clear c35
 try clear c35b0
 try clear c36
 try clear c36b0
 try clear hcz43_0
 try clear hcz43_1
 try clear hfz43_0
 try clear hfz43_1
 try clear hx203_0
 try clear hx203_1
 try clear hx204_0
 try clear hx204_1
 try clear hx209_0
 try clear hx210_0
 try clear hx210_1
 try clear p203
 try clear p204
 try clear p209
 try clear p210
 try clear q203
 try clear q204
 try clear q209
 try clear q210
 obtain ⟨x5_4, x123_4, rfl, HA, HK4, HO_5, HO_121, BK211, HB⟩ := hrel
 cases gk with
 | zero => exact absurd HA.out (by simp [i_TableOk.l2])
 | succ k4 =>
 have H := HA.out
 clear HA
 simp only [i_TableOk.l2] at H
 by_cases c53 : x123_4 < (y216.length : Int)
 {
 rw [if_pos c53] at H
 have c53b0 : decide (x123_4 < (y216.length : Int)) = true := decide_eq_true c53
 clear c53
 by_cases c54 : 0 ≤ x123_4
 {
 rw [if_pos c54] at H
 have c54b0 : decide (0 ≤ x123_4) = true := decide_eq_true c54
 clear c54
 by_cases c55 : x123_4 < (y216.length : Int)
 {
 rw [if_pos c55] at H
 have c55b0 : decide (x123_4 < (y216.length : Int)) = true := decide_eq_true c55
 clear c55
 by_cases c56 : (rd y216 x123_4) ≥ 0
 {
 rw [if_pos c56] at H
 have c56b0 : decide (0 ≤ (rd y216 x123_4)) = true := decide_eq_true c56
 clear c56
 replace H := oB H
 obtain ⟨t220, A570, H⟩ := H
 replace H : (if t220 = true then (i_TableOk.l2 k4 l0 x5_4 x6_3 y216 (y216.length : Int) (wrap64 (x123_4 + 1))) else (if x5_4.length < 17592186044416 then (i_TableOk.l2 k4 l0 (x5_4 ++ [rd y216 x123_4]) x6_3 y216 (y216.length : Int) (wrap64 (x123_4 + 1))) else (none))) = some r := H
 have A57 := aM A570
 clear A570
 by_cases c58 : t220 = true
 {
 subst c58
 have H1 : (i_TableOk.l2 k4 l0 x5_4 x6_3 y216 (y216.length : Int) (wrap64 (x123_4 + 1))) = some r := by rw [if_pos rfl] at H; exact H
 clear H
 have H := H1
 clear H1
 have H' := aM H
 clear H
 have p219 : 0 ≤ (x123_4 : Int) := dX
 have q219 : x123_4 < (y216.length : Int) := dX
 obtain ⟨ad219, e219, hx219_0⟩ := Kd.at_int (Kd.R_reads' HO_121.out).2.2 x123_4 p219 q219
 cases e219
 replace p219 := eq_true p219
 replace q219 := eq_true q219
 obtain ⟨Ao59, co59, eo59⟩ := Kd.R_slice HO_5.out
 subst eo59
 go_wp2_with (first | (go_at_call 18; (with_reducible refine (slices_Contains_int_int.calls k4 _ _ x5_4 (rd y216 x123_4) true _ ?side1 ?side2 A57.out).mono ?_); (case side1 => exact cX (Kd.R_reads' HO_5.out).2.2); (case side2 => exact (Kd.R_reads' HO_5.out).2.1); rintro e w' ⟨rfl, ⟨nd, rfl⟩⟩))
 go_roundg k4
 case measure => have := HJ1.out; have := HK2.out; have := HK3.out; have := HK4.out; omega
 case rel => exact ⟨(x5_4), (wrap64 (x123_4 + 1)), vX, H', ⟨by have := HJ1.out; have := HK2.out; have := HK3.out; have := HK4.out; omega⟩, ⟨rX HO_5.out⟩, ⟨rX HO_121.out⟩, ⟨kX BK211.out⟩, ⟨bX1 HB.out GE211.out⟩⟩
 }
 {
 replace c58 := Bool.eq_false_iff.mpr c58
 subst c58
 have H1 : (if x5_4.length < 17592186044416 then (i_TableOk.l2 k4 l0 (x5_4 ++ [rd y216 x123_4]) x6_3 y216 (y216.length : Int) (wrap64 (x123_4 + 1))) else (none)) = some r := by rw [if_neg (show ¬ (false = true) by decide)] at H; exact H
 clear H
 have H := H1
 clear H1
 by_cases c60 : x5_4.length < 17592186044416
 {
 rw [if_pos c60] at H
 have LMc60 := aM c60
 clear c60
 obtain ⟨y221, hy221⟩ : ∃ y_ : List Int, y_ = (x5_4 ++ [rd y216 x123_4]) := ⟨_, rfl⟩
 replace H : (i_TableOk.l2 k4 l0 y221 x6_3 y216 (y216.length : Int) (wrap64 (x123_4 + 1))) = some r := by first | (rw [hy221]; with_reducible exact H) | (have H2_ := (Option.bind_some _ _).symm.trans H; rw [hy221]; with_reducible exact H2_) | (have H2_ := (Option.bind_some _ _).symm.trans H; with_reducible exact H2_) | with_reducible exact H | (rw [hy221]; exact H) | exact H
 have Ny221 := aM hy221
 clear hy221
 have H' := aM H
 clear H
 have p219 : 0 ≤ (x123_4 : Int) := dX
 have q219 : x123_4 < (y216.length : Int) := dX
 obtain ⟨ad219, e219, hx219_0⟩ := Kd.at_int (Kd.R_reads' HO_121.out).2.2 x123_4 p219 q219
 cases e219
 replace p219 := eq_true p219
 replace q219 := eq_true q219
 obtain ⟨Ao61, co61, eo61⟩ := Kd.R_slice HO_5.out
 subst eo61
 go_wp2_with (first | (go_at_call 18; (with_reducible refine (slices_Contains_int_int.calls k4 _ _ x5_4 (rd y216 x123_4) false _ ?side1 ?side2 A57.out).mono ?_); (case side1 => exact cX (Kd.R_reads' HO_5.out).2.2); (case side2 => exact (Kd.R_reads' HO_5.out).2.1); rintro e w' ⟨rfl, ⟨nd, rfl⟩⟩) | ((with_reducible refine gate_builtin (b := .append) (xs := #[.tmp 135, .tmp 137]) rfl ?_); (try (refine gate_guard (by rfl) ?_; dsimp only)); at_builtin; refine Kd.R_append (Kd.int .i64) (w0 := w) w.heap.size rfl (.tmp 135) (.tmp 137) 25 3 (.int .i64 0) 8 rfl Try.underlying25 info3 rfl (by decide) (by omega) (.slice Ao61 x5_4.length co61) x5_4 (rd y216 x123_4) [.int .i64 (rd y216 x123_4)] (fun k_ => some k_ ≠ (.slice (some ad219) y216.length co52 : Value).ownBlock) (fun _ => False) rfl rfl ?aP (fun _ hk => hk.elim) ?aF ?aO ?aB ?aS ?aL ?_; (case aP => exact rfl); (case aB => exact (bX1 HB.out GE211.out)); (case aF => exact (fun k_ hk => Kd.fresh' (Kd.R_lt (rX HO_121.out)) k_ hk)); (case aO => exact (rX HO_5.out)); (case aS => exact (below_size (bX1 HB.out GE211.out))); (case aL => have := LMc60.out; omega); intro v222 w62 ho hb hg hat; rw [← Ny221.out] at ho; replace HO_121 := aM (Kd.R_after (ok := (fun _ => True)) (rM HO_121.out (fun _ hk => ⟨trivial, hk⟩)) hg hat); replace BK211 := aM (bgX BK211.out hg (Kd.R_ne HO_5.out BK211.out (by decide))); replace HB := aM (hb); have HO223 := aM (ho); clear HO_5 ho hb hg hat))
 go_roundg k4
 case measure => have := HJ1.out; have := HK2.out; have := HK3.out; have := HK4.out; omega
 case rel => exact ⟨(y221), (wrap64 (x123_4 + 1)), vX, H', ⟨by have := HJ1.out; have := HK2.out; have := HK3.out; have := HK4.out; omega⟩, ⟨rX HO223.out⟩, ⟨rM HO_121.out (fun _ hk => hk.2)⟩, ⟨kX BK211.out⟩, ⟨bX1 HB.out GE211.out⟩⟩
 }
 {
 rw [if_neg c60] at H
 exact absurd H (by simp)
 }
 }
 }
 {
 rw [if_neg c56] at H
 have c56b0 : decide (0 ≤ (rd y216 x123_4)) = false := decide_eq_false c56
 clear c56
 have H' := aM H
 clear H
 have p219 : 0 ≤ (x123_4 : Int) := dX
 have q219 : x123_4 < (y216.length : Int) := dX
 obtain ⟨ad219, e219, hx219_0⟩ := Kd.at_int (Kd.R_reads' HO_121.out).2.2 x123_4 p219 q219
 cases e219
 replace p219 := eq_true p219
 replace q219 := eq_true q219
 go_wp2
 go_roundg k4
 case measure => have := HJ1.out; have := HK2.out; have := HK3.out; have := HK4.out; omega
 case rel => exact ⟨(x5_4), (wrap64 (x123_4 + 1)), vX, H', ⟨by have := HJ1.out; have := HK2.out; have := HK3.out; have := HK4.out; omega⟩, ⟨rX HO_5.out⟩, ⟨rX HO_121.out⟩, ⟨kX BK211.out⟩, ⟨bX1 HB.out GE211.out⟩⟩
 }
 }
 {
 rw [if_neg c55] at H
 exact absurd H (by simp)
 }
 }
 {
 rw [if_neg c54] at H
 exact absurd H (by simp)
 }
 }
 {
 rw [if_neg c53] at H
 have c53b0 : decide (x123_4 < (y216.length : Int)) = false := decide_eq_false c53
 clear c53
 have H' := aM H
 clear H
 go_wp2
 go_roundg k4
 case measure => have := HJ1.out; have := HK2.out; have := HK3.out; have := HK4.out; omega
 case rel => exact ⟨(x5_4), (wrap64 (x6_3 + 1)), vX, H', ⟨by have := HJ1.out; have := HK2.out; have := HK3.out; have := HK4.out; omega⟩, ⟨rM HO_5.out (fun _ hk => trivial)⟩, ⟨bX1 HB.out GE211.out⟩⟩
 }
 }
 {
 rw [if_neg c36] at H
 exact absurd H (by simp)
 }
 }
 {
 rw [if_neg c35] at H
 exact absurd H (by simp)
 }
 }
 {
 rw [if_neg c34] at H
 exact absurd H (by simp)
 }
 }
 {
 rw [if_neg c33] at H
 have c33b0 : decide (x6_3 < (x5_3.length : Int)) = false := decide_eq_false c33
 clear c33
 obtain rfl := Option.some.inj H
 obtain ⟨Ao63, co63, eo63⟩ := Kd.R_slice HO_5.out
 subst eo63
 go_wp2
 go_ret
 exact ⟨eX, bX HB.out⟩
 }
 }
 }

end Go.Proofs.Ytlbhjemkjkdndaa.S
