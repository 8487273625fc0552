-- PRINTED by print.py (a twelfth state) out of the translation. Not trusted: Lean checks it.
import Derived.Test.YtbolkipmehmncaaS0
import Derived.Test.YtbolkipmehmncaaS3
import Derived.Test.YtbolkipmehmncaaS4
import Derived.Test.YtbolkipmehmncaaS5
import Derived.Test.YtbolkipmehmncaaS6
namespace Go.Proofs.Ytbolkipmehmncaa.S
open Go.RowKit Go.Proofs.YtbolkipmehmncaaW.PrintWords Go.Proofs.YtbolkipmehmncaaW.PrintLast Go.Proofs.YtbolkipmehmncaaW.PrintMore
attribute [local go_sem] max2_int min2_int max_two min_two max_three min_three max_four min_four   -- for this text's walks alone
set_option linter.unusedVariables false
set_option linter.unusedSimpArgs false

/-! ### spec_MakeTable: function 32 -/
def spec_MakeTable.f (k : Nat) (l0 : List Int) : Option ((List (S69))) := (spec_l01New.f k l0).bind fun bt345 => ((spec_l15Draw.f k bt345.1 bt345.2.1 bt345.2.2 4).bind fun bt349 => (some bt349.1))
set_option maxHeartbeats 8000000 in
set_option maxRecDepth 100000 in
theorem spec_MakeTable.calls (k : Nat) (A0 : Option Addr) (c0 : Nat) (l0 : List Int) (r : List (S69)) (w : World) (hr0 : Kd.C (Kd.int .u8) w A0 l0.length l0) (hc0 : l0.length ≤ c0) (h : spec_MakeTable.f k l0 = some r) :
  Calls Try.prog 32 #[.slice A0 l0.length c0] w fun e w' => ∃ v0_ : Value, e = .returned (v0_) ∧ Kd.R k69 69 w' w.heap.size (fun _ => True) v0_ r ∧ Below w.heap.size w w' := by
 have HR0 := Aside0.mk hr0
 have HC0 := Aside0.mk hc0
 clear hr0 hc0
 have HB := Aside0.mk (Below.refl w.heap.size w)
 have H : ((spec_l01New.f k l0).bind fun bt345 => ((spec_l15Draw.f k bt345.1 bt345.2.1 bt345.2.2 4).bind fun bt349 => (some bt349.1))) = some r := h
 clear h
 replace H := Option.bind_eq_some_iff.mp H
 obtain ⟨⟨t345, t346, t347⟩, A20, H⟩ := H
 replace H : ((spec_l15Draw.f k t345 t346 t347 4).bind fun bt349 => (some bt349.1)) = some r := H
 have A2 := Aside0.mk A20
 clear A20
 replace H := Option.bind_eq_some_iff.mp H
 obtain ⟨⟨t349, t352, t353⟩, A30, H⟩ := H
 replace H : (some t349) = some r := H
 have A3 := Aside0.mk A30
 clear A30
 obtain rfl := Option.some.inj H
 go_enter Try.func32, Try.ntmps32
 go_wp2_with (first | ((with_reducible refine gate_callee (f := 68) rfl ?_); refine goesL_ (some 4) rfl rfl Try.func68 (by kernel_rfl) rfl #[.slice A0 l0.length c0] rfl (by (try simp only [zE,zF,zG]); first|done|rfl|(simp only [zH,zI]; rfl)) ?_; (with_reducible refine (spec_l01New.calls k _ _ l0 t345 t346 t347 w _ ?side1 ?side2 ?side3 A2.out).mono ?_); (case side1 => repeat (first | (with_reducible first | exact HB.out|apply bA|apply bN|apply bD) | exact HB.out)); (case side2 => exact HR0.out); (case side3 => exact HC0.out); rintro e w4 ⟨g348, rfl, hi, hb, hb2⟩; refine ⟨_, rfl, ?_⟩; have n0_ := Aside0.mk (hb); have n1_ := Aside0.mk (hi); clear HB; have HB := n0_; have HI348 := n1_; clear n0_ n1_; (try clear hb); (try clear hb2); (try clear hk); (try clear hi)) | ((with_reducible refine gate_callee (f := 67) rfl ?_); refine goesL_ (some 5) rfl rfl Try.func67 (by kernel_rfl) rfl #[.pointer (some ⟨g348, 0, none⟩), .int .i64 4] rfl (by (try simp only [zE,zF,zG]); first|done|rfl|(simp only [zH,zI]; rfl)) ?_; (with_reducible refine (spec_l15Draw.calls k g348 t345 t346 t347 4 t349 t352 t353 w _ ?side1 ?side2 A3.out).mono ?_); (case side1 => repeat (first | (with_reducible first | exact HI348.out | apply IsS103.alloc | apply IsS103.drewN | apply IsS103.drew | apply IsS103.set_1 | apply IsS103.set_2) | exact HI348.out)); (case side2 => repeat (first | (with_reducible first | exact HB.out|apply bA|apply bN|apply bD | refine below_set ?_ (IsS103.ge HI348.out)) | exact HB.out)); rintro e w5 ⟨v350, rfl, ho0, hi, hb, hk⟩; refine ⟨_, rfl, ?_⟩; have n0_ := Aside0.mk (Kd.R_lower ho0 (below_size (by repeat (first | (with_reducible first | exact HB.out|apply bA|apply bN|apply bD | refine below_set ?_ (IsS103.ge HI348.out)) | exact HB.out)))); have n1_ := Aside0.mk (hb); have n2_ := Aside0.mk (hi); clear HB; clear HI348; have HO351 := n0_; have HB := n1_; have HI348 := n2_; clear n0_ n1_ n2_; (try clear hb); (try clear hb2); (try clear hk); (try clear hi); (try clear ho0)))
 go_ret
 exact ⟨_, by first | rfl | (simp [errW_none, errW_some] <;> rfl) | (simp [*, errW_none, errW_some] <;> rfl), by (with_reducible repeat (first|apply rA|apply rN|apply rD)); exact HO351.out, by repeat (first | (with_reducible first | exact HB.out|apply bA|apply bN|apply bD | refine below_set ?_ (IsS103.ge HI348.out)) | exact HB.out)⟩

/-! ### spec_l08Gcd: function 70 -/
def spec_l08Gcd.l0 : Nat → Int → Int → Option (Int)
 | 0, _, _ => none
 | k + 1, x0, x1 => if x1 = 0 then (some x0) else (spec_l08Gcd.l0 k x1 (Int.tmod x0 x1))
def spec_l08Gcd.f (k : Nat) (a0 : Int) (a1 : Int) : Option (Int) := spec_l08Gcd.l0 k a0 a1
set_option maxHeartbeats 8000000 in
set_option maxRecDepth 100000 in
theorem spec_l08Gcd.calls (k : Nat) (a0 : Int) (a1 : Int) (r : Int) (w : World) (h : spec_l08Gcd.f k a0 a1 = some r) :
  Calls Try.prog 70 #[.int .i64 a0, .int .i64 a1] w fun e w' => e = .returned (.int .i64 r) ∧ Drawn0 w w' := by
 have H : (spec_l08Gcd.l0 k a0 a1) = some r := h
 clear h
 have H' := Aside0.mk H
 clear H
 go_enter Try.func70, Try.ntmps70
 go_wp2
 go_loopg [0, 1] k (fun kq v0 v1 w' => ∃ (x0_1 : Int) (x1_1 : Int), v0 = .int .i64 x0_1 ∧ v1 = .int .i64 x1_1 ∧ Aside0 (spec_l08Gcd.l0 kq x0_1 x1_1 = some r) ∧ Aside0 (kq ≤ k) ∧ Drawn0 w w')
 case atStart => exact ⟨(a0), (a1), (by first | rfl | (simp; done) | (simp [*]; done)), (by first | rfl | (simp; done) | (simp [*]; done)), H', ⟨Nat.le_refl _⟩, by repeat (first | exact Drawn0.refl _ | apply Drawn0.step)⟩
 case round =>
  clear H'
  try clear p2
  obtain ⟨x0_1, x1_1, rfl, rfl, HA, HK1, ⟨m1, rfl⟩⟩ := hrel
  cases gk with
  | zero => exact absurd HA.out (by simp [spec_l08Gcd.l0])
  | succ k1 =>
   have H := HA.out
   clear HA
   simp only [spec_l08Gcd.l0] at H
   by_cases c3 : x1_1 = 0
   ·rw [if_pos c3] at H
    have c3b0 : (x1_1 == 0) = true := beq_iff_eq.mpr c3
    have c3b1 : (x1_1 != 0) = false := bne_eq_false_iff_eq.mpr c3
    clear c3
    obtain rfl := Option.some.inj H
    go_wp2
    go_ret
    exact ⟨by first | rfl | (simp; done) | (simp [*]; done), by repeat (first | exact Drawn0.refl _ | apply Drawn0.step)⟩
   ·rw [if_neg c3] at H
    have c3b0 : (x1_1 == 0) = false := beq_eq_false_iff_ne.mpr c3
    have c3b1 : (x1_1 != 0) = true := bne_iff_ne.mpr c3
    have H' := Aside0.mk H
    clear H
    go_wp2
    go_roundg k1
    case measure => have := HK1.out; omega
    case rel => exact ⟨(x1_1), (Int.tmod x0_1 x1_1), (by first | rfl | (simp; done) | (simp [*]; done)), (by first | rfl | (simp; done) | (simp [*]; done)), H', ⟨by have := HK1.out; omega⟩, by repeat (first | exact Drawn0.refl _ | apply Drawn0.step)⟩

/-! ### spec_MakeSlope: function 33 -/
def spec_MakeSlope.f (k : Nat) (l0 : List Int) (a1 : Int) : Option (Int × Int) := (spec_l20New.f k l0 a1).bind fun bt354 => ((spec_l01Below.f bt354.1 bt354.2.1 bt354.2.2 7).bind fun bt358 => ((spec_l01Below.f bt354.1 bt358.2.1 bt358.2.2 6).bind fun bt361 => (if (wrap64 (bt358.1 + bt361.1)) = 0 then ((spec_l08Gcd.f k 1 bt361.1).bind fun t364 => (if t364 = 0 then (none) else (some (wrap64 ((1 : Int) / t364), wrap64 (Int.tdiv bt361.1 t364))))) else ((spec_l08Gcd.f k bt358.1 bt361.1).bind fun t365 => (if t365 = 0 then (none) else (some (wrap64 (Int.tdiv bt358.1 t365), wrap64 (Int.tdiv bt361.1 t365))))))))
set_option maxHeartbeats 8000000 in
set_option maxRecDepth 100000 in
theorem spec_MakeSlope.calls (k : Nat) (A0 : Option Addr) (c0 : Nat) (l0 : List Int) (a1 : Int) (r1 : Int) (r2 : Int) (w : World) (hr0 : Kd.C (Kd.int .u8) w A0 l0.length l0) (hc0 : l0.length ≤ c0) (h : spec_MakeSlope.f k l0 a1 = some (r1, r2)) :
  Calls Try.prog 33 #[.slice A0 l0.length c0, .int .i64 a1] w fun e w' => e = .returned (.tuple #[.int .i64 r1, .int .i64 r2]) ∧ Below w.heap.size w w' := by
 have HR0 := Aside0.mk hr0
 have HC0 := Aside0.mk hc0
 clear hr0 hc0
 have HB := Aside0.mk (Below.refl w.heap.size w)
 have H : ((spec_l20New.f k l0 a1).bind fun bt354 => ((spec_l01Below.f bt354.1 bt354.2.1 bt354.2.2 7).bind fun bt358 => ((spec_l01Below.f bt354.1 bt358.2.1 bt358.2.2 6).bind fun bt361 => (if (wrap64 (bt358.1 + bt361.1)) = 0 then ((spec_l08Gcd.f k 1 bt361.1).bind fun t364 => (if t364 = 0 then (none) else (some (wrap64 ((1 : Int) / t364), wrap64 (Int.tdiv bt361.1 t364))))) else ((spec_l08Gcd.f k bt358.1 bt361.1).bind fun t365 => (if t365 = 0 then (none) else (some (wrap64 (Int.tdiv bt358.1 t365), wrap64 (Int.tdiv bt361.1 t365))))))))) = some (r1, r2) := h
 clear h
 replace H := Option.bind_eq_some_iff.mp H
 obtain ⟨⟨t354, t355, t356⟩, A30, H⟩ := H
 replace H : ((spec_l01Below.f t354 t355 t356 7).bind fun bt358 => ((spec_l01Below.f t354 bt358.2.1 bt358.2.2 6).bind fun bt361 => (if (wrap64 (bt358.1 + bt361.1)) = 0 then ((spec_l08Gcd.f k 1 bt361.1).bind fun t364 => (if t364 = 0 then (none) else (some (wrap64 ((1 : Int) / t364), wrap64 (Int.tdiv bt361.1 t364))))) else ((spec_l08Gcd.f k bt358.1 bt361.1).bind fun t365 => (if t365 = 0 then (none) else (some (wrap64 (Int.tdiv bt358.1 t365), wrap64 (Int.tdiv bt361.1 t365)))))))) = some (r1, r2) := H
 have A3 := Aside0.mk A30
 clear A30
 replace H := Option.bind_eq_some_iff.mp H
 obtain ⟨⟨t358, t359, t360⟩, A40, H⟩ := H
 replace H : ((spec_l01Below.f t354 t359 t360 6).bind fun bt361 => (if (wrap64 (t358 + bt361.1)) = 0 then ((spec_l08Gcd.f k 1 bt361.1).bind fun t364 => (if t364 = 0 then (none) else (some (wrap64 ((1 : Int) / t364), wrap64 (Int.tdiv bt361.1 t364))))) else ((spec_l08Gcd.f k t358 bt361.1).bind fun t365 => (if t365 = 0 then (none) else (some (wrap64 (Int.tdiv t358 t365), wrap64 (Int.tdiv bt361.1 t365))))))) = some (r1, r2) := H
 have A4 := Aside0.mk A40
 clear A40
 replace H := Option.bind_eq_some_iff.mp H
 obtain ⟨⟨t361, t362, t363⟩, A50, H⟩ := H
 replace H : (if (wrap64 (t358 + t361)) = 0 then ((spec_l08Gcd.f k 1 t361).bind fun t364 => (if t364 = 0 then (none) else (some (wrap64 ((1 : Int) / t364), wrap64 (Int.tdiv t361 t364))))) else ((spec_l08Gcd.f k t358 t361).bind fun t365 => (if t365 = 0 then (none) else (some (wrap64 (Int.tdiv t358 t365), wrap64 (Int.tdiv t361 t365)))))) = some (r1, r2) := H
 have A5 := Aside0.mk A50
 clear A50
 by_cases c6 : (wrap64 (t358 + t361)) = 0
 ·rw [if_pos c6] at H
  have c6b0 : ((wrap64 (t358 + t361)) == 0) = true := beq_iff_eq.mpr c6
  have c6b1 : ((wrap64 (t358 + t361)) != 0) = false := bne_eq_false_iff_eq.mpr c6
  clear c6
  replace H := Option.bind_eq_some_iff.mp H
  obtain ⟨t364, A70, H⟩ := H
  replace H : (if t364 = 0 then (none) else (some (wrap64 ((1 : Int) / t364), wrap64 (Int.tdiv t361 t364)))) = some (r1, r2) := H
  have A7 := Aside0.mk A70
  clear A70
  by_cases c8 : t364 = 0
  ·rw [if_pos c8] at H
   exact absurd H (by simp)
  ·rw [if_neg c8] at H
   have c8b0 : (t364 == 0) = false := beq_eq_false_iff_ne.mpr c8
   have c8b1 : (t364 != 0) = true := bne_iff_ne.mpr c8
   simp only [Option.some.injEq, Prod.mk.injEq] at H
   obtain ⟨rfl, rfl⟩ := H
   go_enter Try.func33, Try.ntmps33
   go_wp2_with (first | (go_at_call 63; (with_reducible refine (spec_l20New.calls k _ _ l0 a1 t354 t355 t356 w _ ?side1 ?side2 ?side3 A3.out).mono ?_); (case side1 => repeat (first | (with_reducible first | exact HB.out|apply bA|apply bN|apply bD) | exact HB.out)); (case side2 => exact HR0.out); (case side3 => exact HC0.out); rintro e w9 ⟨g357, rfl, hi, hb, hb2⟩; have n0_ := Aside0.mk (hb); have n1_ := Aside0.mk (hi); clear HB; have HB := n0_; have HI357 := n1_; clear n0_ n1_; (try clear hb); (try clear hb2); (try clear hk); (try clear hi)) | (go_at_call 69; (with_reducible refine (spec_l01Below.calls g357 t354 t355 t356 7 t358 t359 t360 w _ ?side1 ?side2 A4.out).mono ?_); (case side1 => repeat (first | (with_reducible first | exact HI357.out | apply IsS103.alloc | apply IsS103.drewN | apply IsS103.drew | apply IsS103.set_1 | apply IsS103.set_2) | exact HI357.out)); (case side2 => repeat (first | (with_reducible first | exact HB.out|apply bA|apply bN|apply bD | refine below_set ?_ (IsS103.ge HI357.out)) | exact HB.out)); rintro e w10 ⟨rfl, hi, hb, hk⟩; have n0_ := Aside0.mk (hb); have n1_ := Aside0.mk (hi); clear HB; clear HI357; have HB := n0_; have HI357 := n1_; clear n0_ n1_; (try clear hb); (try clear hb2); (try clear hk); (try clear hi)) | (go_at_call 69; (with_reducible refine (spec_l01Below.calls g357 t354 t359 t360 6 t361 t362 t363 w _ ?side1 ?side2 A5.out).mono ?_); (case side1 => repeat (first | (with_reducible first | exact HI357.out | apply IsS103.alloc | apply IsS103.drewN | apply IsS103.drew | apply IsS103.set_1 | apply IsS103.set_2) | exact HI357.out)); (case side2 => repeat (first | (with_reducible first | exact HB.out|apply bA|apply bN|apply bD | refine below_set ?_ (IsS103.ge HI357.out)) | exact HB.out)); rintro e w11 ⟨rfl, hi, hb, hk⟩; have n0_ := Aside0.mk (hb); have n1_ := Aside0.mk (hi); clear HB; clear HI357; have HB := n0_; have HI357 := n1_; clear n0_ n1_; (try clear hb); (try clear hb2); (try clear hk); (try clear hi)) | (go_at_call 70; (with_reducible refine (spec_l08Gcd.calls k 1 t361 t364 _ A7.out).mono ?_); rintro e w' ⟨rfl, ⟨nd, rfl⟩⟩; (try first | exact ⟨rfl, _, World.drewN_drewN _ _ _⟩ | exact ⟨rfl, _, Eq.trans (World.drewN_drewN _ _ _) (congrArg (World.drewN _) (Nat.add_assoc _ _ _))⟩)))
   repeat (go_quiet (first | (go_at_call 63; (with_reducible refine (spec_l20New.calls k _ _ l0 a1 t354 t355 t356 w _ ?side1 ?side2 ?side3 A3.out).mono ?_); (case side1 => repeat (first | (with_reducible first | exact HB.out|apply bA|apply bN|apply bD) | exact HB.out)); (case side2 => exact HR0.out); (case side3 => exact HC0.out); rintro e w9 ⟨g357, rfl, hi, hb, hb2⟩; have n0_ := Aside0.mk (hb); have n1_ := Aside0.mk (hi); clear HB; have HB := n0_; have HI357 := n1_; clear n0_ n1_; (try clear hb); (try clear hb2); (try clear hk); (try clear hi)) | (go_at_call 69; (with_reducible refine (spec_l01Below.calls g357 t354 t355 t356 7 t358 t359 t360 w _ ?side1 ?side2 A4.out).mono ?_); (case side1 => repeat (first | (with_reducible first | exact HI357.out | apply IsS103.alloc | apply IsS103.drewN | apply IsS103.drew | apply IsS103.set_1 | apply IsS103.set_2) | exact HI357.out)); (case side2 => repeat (first | (with_reducible first | exact HB.out|apply bA|apply bN|apply bD | refine below_set ?_ (IsS103.ge HI357.out)) | exact HB.out)); rintro e w10 ⟨rfl, hi, hb, hk⟩; have n0_ := Aside0.mk (hb); have n1_ := Aside0.mk (hi); clear HB; clear HI357; have HB := n0_; have HI357 := n1_; clear n0_ n1_; (try clear hb); (try clear hb2); (try clear hk); (try clear hi)) | (go_at_call 69; (with_reducible refine (spec_l01Below.calls g357 t354 t359 t360 6 t361 t362 t363 w _ ?side1 ?side2 A5.out).mono ?_); (case side1 => repeat (first | (with_reducible first | exact HI357.out | apply IsS103.alloc | apply IsS103.drewN | apply IsS103.drew | apply IsS103.set_1 | apply IsS103.set_2) | exact HI357.out)); (case side2 => repeat (first | (with_reducible first | exact HB.out|apply bA|apply bN|apply bD | refine below_set ?_ (IsS103.ge HI357.out)) | exact HB.out)); rintro e w11 ⟨rfl, hi, hb, hk⟩; have n0_ := Aside0.mk (hb); have n1_ := Aside0.mk (hi); clear HB; clear HI357; have HB := n0_; have HI357 := n1_; clear n0_ n1_; (try clear hb); (try clear hb2); (try clear hk); (try clear hi)) | (go_at_call 70; (with_reducible refine (spec_l08Gcd.calls k 1 t361 t364 _ A7.out).mono ?_); rintro e w' ⟨rfl, ⟨nd, rfl⟩⟩; (try first | exact ⟨rfl, _, World.drewN_drewN _ _ _⟩ | exact ⟨rfl, _, Eq.trans (World.drewN_drewN _ _ _) (congrArg (World.drewN _) (Nat.add_assoc _ _ _))⟩))); try go_wp2_with (first | (go_at_call 63; (with_reducible refine (spec_l20New.calls k _ _ l0 a1 t354 t355 t356 w _ ?side1 ?side2 ?side3 A3.out).mono ?_); (case side1 => repeat (first | (with_reducible first | exact HB.out|apply bA|apply bN|apply bD) | exact HB.out)); (case side2 => exact HR0.out); (case side3 => exact HC0.out); rintro e w9 ⟨g357, rfl, hi, hb, hb2⟩; have n0_ := Aside0.mk (hb); have n1_ := Aside0.mk (hi); clear HB; have HB := n0_; have HI357 := n1_; clear n0_ n1_; (try clear hb); (try clear hb2); (try clear hk); (try clear hi)) | (go_at_call 69; (with_reducible refine (spec_l01Below.calls g357 t354 t355 t356 7 t358 t359 t360 w _ ?side1 ?side2 A4.out).mono ?_); (case side1 => repeat (first | (with_reducible first | exact HI357.out | apply IsS103.alloc | apply IsS103.drewN | apply IsS103.drew | apply IsS103.set_1 | apply IsS103.set_2) | exact HI357.out)); (case side2 => repeat (first | (with_reducible first | exact HB.out|apply bA|apply bN|apply bD | refine below_set ?_ (IsS103.ge HI357.out)) | exact HB.out)); rintro e w10 ⟨rfl, hi, hb, hk⟩; have n0_ := Aside0.mk (hb); have n1_ := Aside0.mk (hi); clear HB; clear HI357; have HB := n0_; have HI357 := n1_; clear n0_ n1_; (try clear hb); (try clear hb2); (try clear hk); (try clear hi)) | (go_at_call 69; (with_reducible refine (spec_l01Below.calls g357 t354 t359 t360 6 t361 t362 t363 w _ ?side1 ?side2 A5.out).mono ?_); (case side1 => repeat (first | (with_reducible first | exact HI357.out | apply IsS103.alloc | apply IsS103.drewN | apply IsS103.drew | apply IsS103.set_1 | apply IsS103.set_2) | exact HI357.out)); (case side2 => repeat (first | (with_reducible first | exact HB.out|apply bA|apply bN|apply bD | refine below_set ?_ (IsS103.ge HI357.out)) | exact HB.out)); rintro e w11 ⟨rfl, hi, hb, hk⟩; have n0_ := Aside0.mk (hb); have n1_ := Aside0.mk (hi); clear HB; clear HI357; have HB := n0_; have HI357 := n1_; clear n0_ n1_; (try clear hb); (try clear hb2); (try clear hk); (try clear hi)) | (go_at_call 70; (with_reducible refine (spec_l08Gcd.calls k 1 t361 t364 _ A7.out).mono ?_); rintro e w' ⟨rfl, ⟨nd, rfl⟩⟩; (try first | exact ⟨rfl, _, World.drewN_drewN _ _ _⟩ | exact ⟨rfl, _, Eq.trans (World.drewN_drewN _ _ _) (congrArg (World.drewN _) (Nat.add_assoc _ _ _))⟩))))
   go_ret2
   exact ⟨by first | rfl | (simp [errW_none, errW_some] <;> rfl) | (simp [*, errW_none, errW_some]; done) | (simp [*, errW_none, errW_some]; rw [Int.tdiv_eq_ediv_of_nonneg (by decide)]), by repeat (first | (with_reducible first | exact HB.out|apply bA|apply bN|apply bD | refine below_set ?_ (IsS103.ge HI357.out)) | exact HB.out)⟩
 ·rw [if_neg c6] at H
  have c6b0 : ((wrap64 (t358 + t361)) == 0) = false := beq_eq_false_iff_ne.mpr c6
  have c6b1 : ((wrap64 (t358 + t361)) != 0) = true := bne_iff_ne.mpr c6
  replace H := Option.bind_eq_some_iff.mp H
  obtain ⟨t365, A120, H⟩ := H
  replace H : (if t365 = 0 then (none) else (some (wrap64 (Int.tdiv t358 t365), wrap64 (Int.tdiv t361 t365)))) = some (r1, r2) := H
  have A12 := Aside0.mk A120
  clear A120
  by_cases c13 : t365 = 0
  ·rw [if_pos c13] at H
   exact absurd H (by simp)
  ·rw [if_neg c13] at H
   have c13b0 : (t365 == 0) = false := beq_eq_false_iff_ne.mpr c13
   have c13b1 : (t365 != 0) = true := bne_iff_ne.mpr c13
   simp only [Option.some.injEq, Prod.mk.injEq] at H
   obtain ⟨rfl, rfl⟩ := H
   go_enter Try.func33, Try.ntmps33
   go_wp2_with (first | (go_at_call 63; (with_reducible refine (spec_l20New.calls k _ _ l0 a1 t354 t355 t356 w _ ?side1 ?side2 ?side3 A3.out).mono ?_); (case side1 => repeat (first | (with_reducible first | exact HB.out|apply bA|apply bN|apply bD) | exact HB.out)); (case side2 => exact HR0.out); (case side3 => exact HC0.out); rintro e w14 ⟨g357, rfl, hi, hb, hb2⟩; have n0_ := Aside0.mk (hb); have n1_ := Aside0.mk (hi); clear HB; have HB := n0_; have HI357 := n1_; clear n0_ n1_; (try clear hb); (try clear hb2); (try clear hk); (try clear hi)) | (go_at_call 69; (with_reducible refine (spec_l01Below.calls g357 t354 t355 t356 7 t358 t359 t360 w _ ?side1 ?side2 A4.out).mono ?_); (case side1 => repeat (first | (with_reducible first | exact HI357.out | apply IsS103.alloc | apply IsS103.drewN | apply IsS103.drew | apply IsS103.set_1 | apply IsS103.set_2) | exact HI357.out)); (case side2 => repeat (first | (with_reducible first | exact HB.out|apply bA|apply bN|apply bD | refine below_set ?_ (IsS103.ge HI357.out)) | exact HB.out)); rintro e w15 ⟨rfl, hi, hb, hk⟩; have n0_ := Aside0.mk (hb); have n1_ := Aside0.mk (hi); clear HB; clear HI357; have HB := n0_; have HI357 := n1_; clear n0_ n1_; (try clear hb); (try clear hb2); (try clear hk); (try clear hi)) | (go_at_call 69; (with_reducible refine (spec_l01Below.calls g357 t354 t359 t360 6 t361 t362 t363 w _ ?side1 ?side2 A5.out).mono ?_); (case side1 => repeat (first | (with_reducible first | exact HI357.out | apply IsS103.alloc | apply IsS103.drewN | apply IsS103.drew | apply IsS103.set_1 | apply IsS103.set_2) | exact HI357.out)); (case side2 => repeat (first | (with_reducible first | exact HB.out|apply bA|apply bN|apply bD | refine below_set ?_ (IsS103.ge HI357.out)) | exact HB.out)); rintro e w16 ⟨rfl, hi, hb, hk⟩; have n0_ := Aside0.mk (hb); have n1_ := Aside0.mk (hi); clear HB; clear HI357; have HB := n0_; have HI357 := n1_; clear n0_ n1_; (try clear hb); (try clear hb2); (try clear hk); (try clear hi)) | (go_at_call 70; (with_reducible refine (spec_l08Gcd.calls k t358 t361 t365 _ A12.out).mono ?_); rintro e w' ⟨rfl, ⟨nd, rfl⟩⟩; (try first | exact ⟨rfl, _, World.drewN_drewN _ _ _⟩ | exact ⟨rfl, _, Eq.trans (World.drewN_drewN _ _ _) (congrArg (World.drewN _) (Nat.add_assoc _ _ _))⟩)))
   repeat (go_quiet (first | (go_at_call 63; (with_reducible refine (spec_l20New.calls k _ _ l0 a1 t354 t355 t356 w _ ?side1 ?side2 ?side3 A3.out).mono ?_); (case side1 => repeat (first | (with_reducible first | exact HB.out|apply bA|apply bN|apply bD) | exact HB.out)); (case side2 => exact HR0.out); (case side3 => exact HC0.out); rintro e w14 ⟨g357, rfl, hi, hb, hb2⟩; have n0_ := Aside0.mk (hb); have n1_ := Aside0.mk (hi); clear HB; have HB := n0_; have HI357 := n1_; clear n0_ n1_; (try clear hb); (try clear hb2); (try clear hk); (try clear hi)) | (go_at_call 69; (with_reducible refine (spec_l01Below.calls g357 t354 t355 t356 7 t358 t359 t360 w _ ?side1 ?side2 A4.out).mono ?_); (case side1 => repeat (first | (with_reducible first | exact HI357.out | apply IsS103.alloc | apply IsS103.drewN | apply IsS103.drew | apply IsS103.set_1 | apply IsS103.set_2) | exact HI357.out)); (case side2 => repeat (first | (with_reducible first | exact HB.out|apply bA|apply bN|apply bD | refine below_set ?_ (IsS103.ge HI357.out)) | exact HB.out)); rintro e w15 ⟨rfl, hi, hb, hk⟩; have n0_ := Aside0.mk (hb); have n1_ := Aside0.mk (hi); clear HB; clear HI357; have HB := n0_; have HI357 := n1_; clear n0_ n1_; (try clear hb); (try clear hb2); (try clear hk); (try clear hi)) | (go_at_call 69; (with_reducible refine (spec_l01Below.calls g357 t354 t359 t360 6 t361 t362 t363 w _ ?side1 ?side2 A5.out).mono ?_); (case side1 => repeat (first | (with_reducible first | exact HI357.out | apply IsS103.alloc | apply IsS103.drewN | apply IsS103.drew | apply IsS103.set_1 | apply IsS103.set_2) | exact HI357.out)); (case side2 => repeat (first | (with_reducible first | exact HB.out|apply bA|apply bN|apply bD | refine below_set ?_ (IsS103.ge HI357.out)) | exact HB.out)); rintro e w16 ⟨rfl, hi, hb, hk⟩; have n0_ := Aside0.mk (hb); have n1_ := Aside0.mk (hi); clear HB; clear HI357; have HB := n0_; have HI357 := n1_; clear n0_ n1_; (try clear hb); (try clear hb2); (try clear hk); (try clear hi)) | (go_at_call 70; (with_reducible refine (spec_l08Gcd.calls k t358 t361 t365 _ A12.out).mono ?_); rintro e w' ⟨rfl, ⟨nd, rfl⟩⟩; (try first | exact ⟨rfl, _, World.drewN_drewN _ _ _⟩ | exact ⟨rfl, _, Eq.trans (World.drewN_drewN _ _ _) (congrArg (World.drewN _) (Nat.add_assoc _ _ _))⟩))); try go_wp2_with (first | (go_at_call 63; (with_reducible refine (spec_l20New.calls k _ _ l0 a1 t354 t355 t356 w _ ?side1 ?side2 ?side3 A3.out).mono ?_); (case side1 => repeat (first | (with_reducible first | exact HB.out|apply bA|apply bN|apply bD) | exact HB.out)); (case side2 => exact HR0.out); (case side3 => exact HC0.out); rintro e w14 ⟨g357, rfl, hi, hb, hb2⟩; have n0_ := Aside0.mk (hb); have n1_ := Aside0.mk (hi); clear HB; have HB := n0_; have HI357 := n1_; clear n0_ n1_; (try clear hb); (try clear hb2); (try clear hk); (try clear hi)) | (go_at_call 69; (with_reducible refine (spec_l01Below.calls g357 t354 t355 t356 7 t358 t359 t360 w _ ?side1 ?side2 A4.out).mono ?_); (case side1 => repeat (first | (with_reducible first | exact HI357.out | apply IsS103.alloc | apply IsS103.drewN | apply IsS103.drew | apply IsS103.set_1 | apply IsS103.set_2) | exact HI357.out)); (case side2 => repeat (first | (with_reducible first | exact HB.out|apply bA|apply bN|apply bD | refine below_set ?_ (IsS103.ge HI357.out)) | exact HB.out)); rintro e w15 ⟨rfl, hi, hb, hk⟩; have n0_ := Aside0.mk (hb); have n1_ := Aside0.mk (hi); clear HB; clear HI357; have HB := n0_; have HI357 := n1_; clear n0_ n1_; (try clear hb); (try clear hb2); (try clear hk); (try clear hi)) | (go_at_call 69; (with_reducible refine (spec_l01Below.calls g357 t354 t359 t360 6 t361 t362 t363 w _ ?side1 ?side2 A5.out).mono ?_); (case side1 => repeat (first | (with_reducible first | exact HI357.out | apply IsS103.alloc | apply IsS103.drewN | apply IsS103.drew | apply IsS103.set_1 | apply IsS103.set_2) | exact HI357.out)); (case side2 => repeat (first | (with_reducible first | exact HB.out|apply bA|apply bN|apply bD | refine below_set ?_ (IsS103.ge HI357.out)) | exact HB.out)); rintro e w16 ⟨rfl, hi, hb, hk⟩; have n0_ := Aside0.mk (hb); have n1_ := Aside0.mk (hi); clear HB; clear HI357; have HB := n0_; have HI357 := n1_; clear n0_ n1_; (try clear hb); (try clear hb2); (try clear hk); (try clear hi)) | (go_at_call 70; (with_reducible refine (spec_l08Gcd.calls k t358 t361 t365 _ A12.out).mono ?_); rintro e w' ⟨rfl, ⟨nd, rfl⟩⟩; (try first | exact ⟨rfl, _, World.drewN_drewN _ _ _⟩ | exact ⟨rfl, _, Eq.trans (World.drewN_drewN _ _ _) (congrArg (World.drewN _) (Nat.add_assoc _ _ _))⟩))))
   go_ret2
   exact ⟨by first | rfl | (simp [errW_none, errW_some] <;> rfl) | (simp [*, errW_none, errW_some] <;> rfl), by repeat (first | (with_reducible first | exact HB.out|apply bA|apply bN|apply bD | refine below_set ?_ (IsS103.ge HI357.out)) | exact HB.out)⟩

/-! ### laws_FnBounces: function 8 -/
def laws_FnBounces.l0 : Nat → List (S69) → Int → Int → Int → ByteArray → Bool → Bool → Int → Int → Int → Int → List Int → List Int → Option (Bool)
 | 0, _, _, _, _, _, _, _, _, _, _, _, _, _ => none
 | k + 1, x3, x4, x5, x6, x7, x8, x10, x11, x12, x13, x14, x382000, x382001 => if x14 < (x7.size : Int) then (if 0 ≤ x14 then (if (bt x7 x14) = 72 then (laws_FnBounces.l0 k x3 x4 x5 x6 x7 x8 x10 x11 (wrap64 (x12 + 1)) x13 (wrap64 (x14 + 1)) x382000 x382001) else (if (bt x7 x14) = 86 then (laws_FnBounces.l0 k x3 x4 x5 x6 x7 x8 x10 x11 x12 (wrap64 (x13 + 1)) (wrap64 (x14 + 1)) x382000 x382001) else (if (bt x7 x14) = 46 then (laws_FnBounces.l0 k x3 x4 x5 x6 x7 x8 x10 x11 x12 x13 (wrap64 (x14 + 1)) x382000 x382001) else (some false)))) else (none)) else (if x8 = true then (if x10 = true then (if (Int.tmod x12 2) = 0 then (if (Int.tmod x13 2) = 0 then (if x11 = (wrap64 (x12 + x13)) then (if x11 > 0 then ((impl_PathText.f k x382000 x382001 (wrap64 (4 * x6)) x4 x5).bind fun t383 => (if (x7.size : Int) = (t383.size : Int) then (if (x3.length : Int) > 1 then (some true) else (some (x11 == (x7.size : Int)))) else (some false))) else (some false)) else (some false)) else (some false)) else (some false)) else (some false)) else (some false))
def laws_FnBounces.f (k : Nat) (l0 : List Int) : Option (Bool) := if (l0.length : Int) > 1048576 then (some true) else ((spec_MakeTable.f k l0).bind fun t366 => ((spec_MakeSlope.f k l0 40).bind fun bt369 => ((spec_MakeNum.f k l0 60).bind fun t371 => (if (t366.length : Int) = 0 then (none) else ((impl_BounceText.f k t366 (Int.tmod t371 (t366.length : Int)) bt369.1 bt369.2).bind fun bt372 => ((impl_UnfoldTable.f k t366).bind fun bt374 => ((impl_CountBounces.f k t366 (Int.tmod t371 (t366.length : Int)) bt369.1 bt369.2).bind fun t382 => (laws_FnBounces.l0 k t366 bt369.1 bt369.2 (Int.tmod t371 (t366.length : Int)) bt372.1 bt372.2 bt374.2.2 t382 0 0 0 bt374.1 bt374.2.1))))))))
set_option maxHeartbeats 8000000 in
set_option maxRecDepth 100000 in
theorem laws_FnBounces.calls (k : Nat) (A0 : Option Addr) (c0 : Nat) (l0 : List Int) (r : Bool) (w : World) (hr0 : Kd.C (Kd.int .u8) w A0 l0.length l0) (hc0 : l0.length ≤ c0) (hrt_ : r = true) (h : laws_FnBounces.f k l0 = some r) :
  Calls Try.prog 8 #[.slice A0 l0.length c0] w fun e w' => e = .returned (.bool r) ∧ Below w.heap.size w w' := by
 have hu55 := Try.underlying55
 have HR0 := Aside0.mk hr0
 have HC0 := Aside0.mk hc0
 clear hr0 hc0
 have HB := Aside0.mk (Below.refl w.heap.size w)
 have H : (if (l0.length : Int) > 1048576 then (some true) else ((spec_MakeTable.f k l0).bind fun t366 => ((spec_MakeSlope.f k l0 40).bind fun bt369 => ((spec_MakeNum.f k l0 60).bind fun t371 => (if (t366.length : Int) = 0 then (none) else ((impl_BounceText.f k t366 (Int.tmod t371 (t366.length : Int)) bt369.1 bt369.2).bind fun bt372 => ((impl_UnfoldTable.f k t366).bind fun bt374 => ((impl_CountBounces.f k t366 (Int.tmod t371 (t366.length : Int)) bt369.1 bt369.2).bind fun t382 => (laws_FnBounces.l0 k t366 bt369.1 bt369.2 (Int.tmod t371 (t366.length : Int)) bt372.1 bt372.2 bt374.2.2 t382 0 0 0 bt374.1 bt374.2.1))))))))) = some r := h
 clear h
 have HRT := Aside0.mk hrt_
 clear hrt_
 by_cases c2 : (l0.length : Int) > 1048576
 ·rw [if_pos c2] at H
  have c2b0 : decide (1048576 < (l0.length : Int)) = true := decide_eq_true c2
  have c2b1 : decide (1048576 < l0.length) = true := decide_eq_true (by omega)
  clear c2
  obtain rfl := Option.some.inj H
  go_enter Try.func8, Try.ntmps8
  go_wp2
  go_ret
  exact ⟨by first | rfl | (simp [errW_none, errW_some] <;> rfl) | (simp [*, errW_none, errW_some] <;> rfl), by repeat (first | (with_reducible first | exact HB.out|apply bA|apply bN|apply bD) | exact HB.out)⟩
 ·rw [if_neg c2] at H
  have c2b0 : decide (1048576 < (l0.length : Int)) = false := decide_eq_false c2
  have c2b1 : decide (1048576 < l0.length) = false := decide_eq_false (by omega)
  clear c2
  replace H := Option.bind_eq_some_iff.mp H
  obtain ⟨t366, A30, H⟩ := H
  replace H : ((spec_MakeSlope.f k l0 40).bind fun bt369 => ((spec_MakeNum.f k l0 60).bind fun t371 => (if (t366.length : Int) = 0 then (none) else ((impl_BounceText.f k t366 (Int.tmod t371 (t366.length : Int)) bt369.1 bt369.2).bind fun bt372 => ((impl_UnfoldTable.f k t366).bind fun bt374 => ((impl_CountBounces.f k t366 (Int.tmod t371 (t366.length : Int)) bt369.1 bt369.2).bind fun t382 => (laws_FnBounces.l0 k t366 bt369.1 bt369.2 (Int.tmod t371 (t366.length : Int)) bt372.1 bt372.2 bt374.2.2 t382 0 0 0 bt374.1 bt374.2.1))))))) = some r := H
  have A3 := Aside0.mk A30
  clear A30
  replace H := Option.bind_eq_some_iff.mp H
  obtain ⟨⟨t369, t370⟩, A40, H⟩ := H
  replace H : ((spec_MakeNum.f k l0 60).bind fun t371 => (if (t366.length : Int) = 0 then (none) else ((impl_BounceText.f k t366 (Int.tmod t371 (t366.length : Int)) t369 t370).bind fun bt372 => ((impl_UnfoldTable.f k t366).bind fun bt374 => ((impl_CountBounces.f k t366 (Int.tmod t371 (t366.length : Int)) t369 t370).bind fun t382 => (laws_FnBounces.l0 k t366 t369 t370 (Int.tmod t371 (t366.length : Int)) bt372.1 bt372.2 bt374.2.2 t382 0 0 0 bt374.1 bt374.2.1)))))) = some r := H
  have A4 := Aside0.mk A40
  clear A40
  replace H := Option.bind_eq_some_iff.mp H
  obtain ⟨t371, A50, H⟩ := H
  replace H : (if (t366.length : Int) = 0 then (none) else ((impl_BounceText.f k t366 (Int.tmod t371 (t366.length : Int)) t369 t370).bind fun bt372 => ((impl_UnfoldTable.f k t366).bind fun bt374 => ((impl_CountBounces.f k t366 (Int.tmod t371 (t366.length : Int)) t369 t370).bind fun t382 => (laws_FnBounces.l0 k t366 t369 t370 (Int.tmod t371 (t366.length : Int)) bt372.1 bt372.2 bt374.2.2 t382 0 0 0 bt374.1 bt374.2.1))))) = some r := H
  have A5 := Aside0.mk A50
  clear A50
  by_cases c6 : (t366.length : Int) = 0
  ·rw [if_pos c6] at H
   exact absurd H (by simp)
  ·rw [if_neg c6] at H
   have c6b0 : ((t366.length : Int) == 0) = false := beq_eq_false_iff_ne.mpr c6
   have c6b1 : ((t366.length : Int) != 0) = true := bne_iff_ne.mpr c6
   have c6b2 : ¬ (t366 = []) := fun h_ => c6 (by rw [h_]; rfl)
   replace H := Option.bind_eq_some_iff.mp H
   obtain ⟨⟨t372, t373⟩, A70, H⟩ := H
   replace H : ((impl_UnfoldTable.f k t366).bind fun bt374 => ((impl_CountBounces.f k t366 (Int.tmod t371 (t366.length : Int)) t369 t370).bind fun t382 => (laws_FnBounces.l0 k t366 t369 t370 (Int.tmod t371 (t366.length : Int)) t372 t373 bt374.2.2 t382 0 0 0 bt374.1 bt374.2.1))) = some r := H
   have A7 := Aside0.mk A70
   clear A70
   replace H := Option.bind_eq_some_iff.mp H
   obtain ⟨⟨t374, t377, t380⟩, A80, H⟩ := H
   replace H : ((impl_CountBounces.f k t366 (Int.tmod t371 (t366.length : Int)) t369 t370).bind fun t382 => (laws_FnBounces.l0 k t366 t369 t370 (Int.tmod t371 (t366.length : Int)) t372 t373 t380 t382 0 0 0 t374 t377)) = some r := H
   have A8 := Aside0.mk A80
   clear A80
   replace H := Option.bind_eq_some_iff.mp H
   obtain ⟨t382, A90, H⟩ := H
   replace H : (laws_FnBounces.l0 k t366 t369 t370 (Int.tmod t371 (t366.length : Int)) t372 t373 t380 t382 0 0 0 t374 t377) = some r := H
   have A9 := Aside0.mk A90
   clear A90
   have H' := Aside0.mk H
   clear H
   go_enter Try.func8, Try.ntmps8
   go_wp2_with (first | ((with_reducible refine gate_callee (f := 32) rfl ?_); refine goesL_ (some 19) rfl rfl Try.func32 (by kernel_rfl) rfl #[.slice A0 l0.length c0] rfl (by (try simp only [zE,zF,zG]); first|done|rfl|(simp only [zH,zI]; rfl)) ?_; (with_reducible refine (spec_MakeTable.calls k _ _ l0 t366 _ ?side1 ?side2 A3.out).mono ?_); (case side1 => repeat (first | exact HR0.out | (with_reducible refine Kd.C_alloc ?_ _) | (with_reducible refine Kd.C_drewN ?_ _) | (with_reducible refine Kd.C_drew ?_))); (case side2 => exact HC0.out); rintro e w10 ⟨v367, rfl, ho0, hb⟩; refine ⟨_, rfl, ?_⟩; have n0_ := Aside0.mk (Kd.R_lower ho0 (below_size (by repeat (first | (with_reducible first | exact HB.out|apply bA|apply bN|apply bD) | exact HB.out)))); have n1_ := Aside0.mk (below_step (by repeat (first | (with_reducible first | exact HB.out|apply bA|apply bN|apply bD) | exact HB.out)) hb); clear HB; have HO368 := n0_; have HB := n1_; clear n0_ n1_; (try clear hb); (try clear hb2); (try clear hk); (try clear hi); (try clear ho0)) | ((with_reducible refine gate_callee (f := 33) rfl ?_); refine goesL_ (some 22) rfl rfl Try.func33 (by kernel_rfl) rfl #[.slice A0 l0.length c0, .int .i64 40] rfl (by (try simp only [zE,zF,zG]); first|done|rfl|(simp only [zH,zI]; rfl)) ?_; (with_reducible refine (spec_MakeSlope.calls k _ _ l0 40 t369 t370 _ ?side1 ?side2 A4.out).mono ?_); (case side1 => repeat (first | exact (Kd.C_below HR0.out HB.out) | (with_reducible refine Kd.C_alloc ?_ _) | (with_reducible refine Kd.C_drewN ?_ _) | (with_reducible refine Kd.C_drew ?_))); (case side2 => exact HC0.out); rintro e w11 ⟨rfl, hb⟩; refine ⟨_, rfl, ?_⟩; have n0_ := Aside0.mk (Kd.R_below (by (with_reducible repeat (first|apply rA|apply rN|apply rD)); exact HO368.out) hb); have n1_ := Aside0.mk (below_step (by repeat (first | (with_reducible first | exact HB.out|apply bA|apply bN|apply bD) | exact HB.out)) hb); clear HO368; clear HB; have HO368 := n0_; have HB := n1_; clear n0_ n1_; (try clear hb); (try clear hb2); (try clear hk); (try clear hi)) | ((with_reducible refine gate_callee (f := 26) rfl ?_); refine goesL_ (some 26) rfl rfl Try.func26 (by kernel_rfl) rfl #[.slice A0 l0.length c0, .int .i64 60] rfl (by (try simp only [zE,zF,zG]); first|done|rfl|(simp only [zH,zI]; rfl)) ?_; (with_reducible refine (spec_MakeNum.calls k _ _ l0 60 t371 _ ?side1 ?side2 A5.out).mono ?_); (case side1 => repeat (first | exact (Kd.C_below HR0.out HB.out) | (with_reducible refine Kd.C_alloc ?_ _) | (with_reducible refine Kd.C_drewN ?_ _) | (with_reducible refine Kd.C_drew ?_))); (case side2 => exact HC0.out); rintro e w12 ⟨rfl, hb⟩; refine ⟨_, rfl, ?_⟩; have n0_ := Aside0.mk (Kd.R_below (by (with_reducible repeat (first|apply rA|apply rN|apply rD)); exact HO368.out) hb); have n1_ := Aside0.mk (below_step (by repeat (first | (with_reducible first | exact HB.out|apply bA|apply bN|apply bD) | exact HB.out)) hb); clear HO368; clear HB; have HO368 := n0_; have HB := n1_; clear n0_ n1_; (try clear hb); (try clear hb2); (try clear hk); (try clear hi); obtain ⟨Ao13, co13, eo13⟩ := Kd.R_slice HO368.out; subst eo13) | ((with_reducible refine gate_callee (f := 13) rfl ?_); refine goesL_ (some 35) rfl rfl Try.func13 (by kernel_rfl) rfl #[.slice Ao13 t366.length co13, .int .i64 (Int.tmod t371 (t366.length : Int)), .int .i64 t369, .int .i64 t370] rfl (by (try simp only [zE,zF,zG]); first|done|rfl|(simp only [zH,zI]; rfl)) ?_; (with_reducible refine (impl_BounceText.calls k _ _ t366 (Int.tmod t371 (t366.length : Int)) t369 t370 t372 t373 _ ?side1 ?side2 A7.out).mono ?_); (case side1 => repeat (first | exact (Kd.R_reads' HO368.out).2.2 | (with_reducible refine Kd.C_alloc ?_ _) | (with_reducible refine Kd.C_drewN ?_ _) | (with_reducible refine Kd.C_drew ?_))); (case side2 => exact (Kd.R_reads' HO368.out).2.1); rintro e w14 ⟨rfl, hb⟩; refine ⟨_, rfl, ?_⟩; have n0_ := Aside0.mk (Kd.R_below (by (with_reducible repeat (first|apply rA|apply rN|apply rD)); exact HO368.out) hb); have n1_ := Aside0.mk (below_step (by repeat (first | (with_reducible first | exact HB.out|apply bA|apply bN|apply bD) | exact HB.out)) hb); clear HO368; clear HB; have HO368 := n0_; have HB := n1_; clear n0_ n1_; (try clear hb); (try clear hb2); (try clear hk); (try clear hi)) | ((with_reducible refine gate_callee (f := 34) rfl ?_); refine goesL_ (some 40) rfl rfl Try.func34 (by kernel_rfl) rfl #[.slice Ao13 t366.length co13] rfl (by (try simp only [zE,zF,zG]); first|done|rfl|(simp only [zH,zI]; rfl)) ?_; (with_reducible refine (impl_UnfoldTable.calls k _ _ t366 t374 t377 t380 _ ?side1 ?side2 A8.out).mono ?_); (case side1 => repeat (first | exact (Kd.R_reads' HO368.out).2.2 | (with_reducible refine Kd.C_alloc ?_ _) | (with_reducible refine Kd.C_drewN ?_ _) | (with_reducible refine Kd.C_drew ?_))); (case side2 => exact (Kd.R_reads' HO368.out).2.1); rintro e w15 ⟨v375, v378, rfl, ho0, ho1, hb⟩; refine ⟨_, rfl, ?_⟩; have n0_ := Aside0.mk (Kd.R_below (by (with_reducible repeat (first|apply rA|apply rN|apply rD)); exact HO368.out) hb); have n1_ := Aside0.mk (Kd.R_lower ho0 (below_size (by repeat (first | (with_reducible first | exact HB.out|apply bA|apply bN|apply bD) | exact HB.out)))); have n2_ := Aside0.mk (Kd.R_lower ho1 (below_size (by repeat (first | (with_reducible first | exact HB.out|apply bA|apply bN|apply bD) | exact HB.out)))); have n3_ := Aside0.mk (below_step (by repeat (first | (with_reducible first | exact HB.out|apply bA|apply bN|apply bD) | exact HB.out)) hb); clear HO368; clear HB; have HO368 := n0_; have HO376 := n1_; have HO379 := n2_; have HB := n3_; clear n0_ n1_ n2_ n3_; (try clear hb); (try clear hb2); (try clear hk); (try clear hi); (try clear ho0); (try clear ho1)) | ((with_reducible refine gate_dst (N := 9) rfl ?_); (try (refine gate_guard (by rfl) ?_; dsimp only)); refine box_event ?hg (N := 9) ?hd (cs := #[.slice none 0 0, .slice none 0 0]) (t := 55) ?hr ?_; (case hd => rfl); (case hg => rfl); (case hr => first | (go_simp; done) | (go_simp; rfl)); intro gb381 hg w16 hbox hb; have n0_ := Aside0.mk (Kd.R_below (by (with_reducible repeat (first|apply rA|apply rN|apply rD)); exact HO368.out) hb); have n1_ := Aside0.mk (Kd.R_below (by (with_reducible repeat (first|apply rA|apply rN|apply rD)); exact HO376.out) hb); have n2_ := Aside0.mk (Kd.R_below (by (with_reducible repeat (first|apply rA|apply rN|apply rD)); exact HO379.out) hb); have n3_ := Aside0.mk (below_step (by repeat (first | (with_reducible first | exact HB.out|apply bA|apply bN|apply bD) | exact HB.out)) hb); have n4_ := Aside0.mk (hbox); have n5_ := Aside0.mk ((by rw [hg]; exact (below_size (by repeat (first | (with_reducible first | exact HB.out|apply bA|apply bN|apply bD) | exact HB.out))) : w.heap.size ≤ gb381)); have n6_ := Aside0.mk ((by rw [hg]; exact (below_size (by repeat (first | (with_reducible first | exact HB.out|apply bA|apply bN|apply bD) | exact HB.out))) : w.heap.size ≤ gb381)); clear HO368; clear HO376; clear HO379; clear HB; have HO368 := n0_; have HO376 := n1_; have HO379 := n2_; have HB := n3_; have BK381 := n4_; have GW381 := n5_; have GE381 := n6_; clear n0_ n1_ n2_ n3_ n4_ n5_ n6_; clear hb hbox hg; obtain ⟨Ao17, co17, eo17⟩ := Kd.R_slice HO376.out; subst eo17; have hcz18_0 : w16.cell? ⟨gb381, 0, none⟩ = some (.slice none 0 0) := (blk_cell BK381.out 0).trans rfl; have hcz18_1 : w16.cell? ⟨gb381, 1, none⟩ = some (.slice none 0 0) := (blk_cell BK381.out 1).trans rfl; have hfz18_0 := blk_frozen BK381.out 0; have hfz18_1 := blk_frozen BK381.out 1; obtain ⟨Ao19, co19, eo19⟩ := Kd.R_slice HO379.out; subst eo19) | ((with_reducible refine gate_callee (f := 16) rfl ?_); refine goesL_ (some 47) rfl rfl Try.func16 (by kernel_rfl) rfl #[.slice Ao13 t366.length co13, .int .i64 (Int.tmod t371 (t366.length : Int)), .int .i64 t369, .int .i64 t370] rfl (by (try simp only [zE,zF,zG]); first|done|rfl|(simp only [zH,zI]; rfl)) ?_; (with_reducible refine (impl_CountBounces.calls k _ _ t366 (Int.tmod t371 (t366.length : Int)) t369 t370 t382 _ ?side1 ?side2 A9.out).mono ?_); (case side1 => refine (Kd.R_reads' (e := 69) (base := w.heap.size) (ok := fun k_ => True) (n := t366.length) (c := co13) ?_).2.2; exact (by (with_reducible repeat (first|apply rA|apply rN|apply rD)); exact (Kd.R_mono (Kd.R_far (p := ⟨gb381, 1, none⟩) (Kd.R_far (p := ⟨gb381, 0, none⟩) (Kd.R_types HO368.out BK381.out (by decide)) (fun _ hk => hk.2) (.slice Ao17 t374.length co17)) (fun _ hk => hk.2) (.slice Ao19 t377.length co19)) (fun _ h_ => h_.1)))); (case side2 => exact (Kd.R_reads' HO368.out).2.1); rintro e w20 ⟨rfl, hb⟩; refine ⟨_, rfl, ?_⟩; have n0_ := Aside0.mk (Kd.R_below (by (with_reducible repeat (first|apply rA|apply rN|apply rD)); exact (Kd.R_mono (Kd.R_far (p := ⟨gb381, 1, none⟩) (Kd.R_far (p := ⟨gb381, 0, none⟩) (Kd.R_types HO368.out BK381.out (by decide)) (fun _ hk => hk.2) (.slice Ao17 t374.length co17)) (fun _ hk => hk.2) (.slice Ao19 t377.length co19)) (fun _ h_ => h_.1))) hb); have n1_ := Aside0.mk (Kd.R_below (by (with_reducible repeat (first|apply rA|apply rN|apply rD)); exact (Kd.R_mono (Kd.R_far (p := ⟨gb381, 1, none⟩) (Kd.R_far (p := ⟨gb381, 0, none⟩) (Kd.R_types HO376.out BK381.out (by decide)) (fun _ hk => hk.2) (.slice Ao17 t374.length co17)) (fun _ hk => hk.2) (.slice Ao19 t377.length co19)) (fun _ h_ => h_.1))) hb); have n2_ := Aside0.mk (Kd.R_below (by (with_reducible repeat (first|apply rA|apply rN|apply rD)); exact (Kd.R_mono (Kd.R_far (p := ⟨gb381, 1, none⟩) (Kd.R_far (p := ⟨gb381, 0, none⟩) (Kd.R_types HO379.out BK381.out (by decide)) (fun _ hk => hk.2) (.slice Ao17 t374.length co17)) (fun _ hk => hk.2) (.slice Ao19 t377.length co19)) (fun _ h_ => h_.1))) hb); have n3_ := Aside0.mk (blk_below (g := gb381) (o := .cells #[.slice Ao17 t374.length co17, .slice Ao19 t377.length co19] 55 (0, 0)) (by (with_reducible repeat (first|refine kN ?_ _|refine kD ?_|refine kA ?_ _)); refine blk_put (cs := #[.slice Ao17 t374.length co17, .slice none 0 0]) ?_ 1 _ rfl; (with_reducible repeat (first|refine kN ?_ _|refine kD ?_|refine kA ?_ _)); refine blk_put (cs := #[.slice none 0 0, .slice none 0 0]) ?_ 0 _ rfl; (with_reducible repeat (first|refine kN ?_ _|refine kD ?_|refine kA ?_ _)); exact BK381.out) hb); have n4_ := Aside0.mk (below_step (by repeat (first | (with_reducible first | exact HB.out|apply bA|apply bN|apply bD | refine below_set ?_ GE381.out) | exact HB.out)) hb); clear HO368; clear HO376; clear HO379; clear BK381; clear HB; have HO368 := n0_; have HO376 := n1_; have HO379 := n2_; have BK381 := n3_; have HB := n4_; clear n0_ n1_ n2_ n3_ n4_; (try clear hb); (try clear hb2); (try clear hk); (try clear hi)))
   go_loopg [12, 13, 14] k (fun kq v12 v13 v14 w' => ∃ (x12_1 : Int) (x13_1 : Int) (x14_1 : Int), v12 = .int .i64 x12_1 ∧ v13 = .int .i64 x13_1 ∧ v14 = .int .i64 x14_1 ∧ Aside0 (laws_FnBounces.l0 kq t366 t369 t370 (Int.tmod t371 (t366.length : Int)) t372 t373 t380 t382 x12_1 x13_1 x14_1 t374 t377 = some r) ∧ Aside0 (kq ≤ k) ∧ Aside0 (Kd.R k69 69 w' w.heap.size (fun _ => True) (.slice Ao13 t366.length co13) t366) ∧ Aside0 (Kd.R (Kd.int .i64) 3 w' w.heap.size (fun k_ => some k_ ≠ ((.slice Ao19 t377.length co19) : Value).ownBlock) (.slice Ao17 t374.length co17) t374) ∧ Aside0 (Kd.R (Kd.int .i64) 3 w' w.heap.size (fun k_ => some k_ ≠ ((.slice Ao17 t374.length co17) : Value).ownBlock) (.slice Ao19 t377.length co19) t377) ∧ Aside0 (w'.heap[gb381]? = some (.cells #[(.slice Ao17 t374.length co17), (.slice Ao19 t377.length co19)] 55 (0, 0))) ∧ Aside0 (Below w.heap.size w w'))
   case atStart => exact ⟨(0), (0), (0), (by first | rfl | (simp; done) | (simp [*]; done)), (by first | rfl | (simp; done) | (simp [*]; done)), (by first | rfl | (simp; done) | (simp [*]; done)), H', ⟨Nat.le_refl _⟩, ⟨by (with_reducible repeat (first|apply rA|apply rN|apply rD)); exact HO368.out⟩, ⟨by (with_reducible repeat (first|apply rA|apply rN|apply rD)); exact HO376.out⟩, ⟨by (with_reducible repeat (first|apply rA|apply rN|apply rD)); exact HO379.out⟩, ⟨by (with_reducible repeat (first|refine kN ?_ _|refine kD ?_|refine kA ?_ _)); exact BK381.out⟩, ⟨by repeat (first | (with_reducible first | exact HB.out|apply bA|apply bN|apply bD | refine below_set ?_ GE381.out) | exact HB.out)⟩⟩
   case round =>
    clear H'
    try clear c1
    try clear c2
    try clear c2b0
    try clear c2b1
    try clear p2
    try clear c3
    try clear c6
    try clear c6b0
    try clear c6b1
    try clear c6b2
    try clear c8
    try clear c13
    try clear c16
    try clear hcz18_0
    try clear hcz18_1
    try clear hfz18_0
    try clear hfz18_1
    obtain ⟨x12_1, x13_1, x14_1, rfl, rfl, rfl, HA, HK1, HO_3, HO_382000, HO_382001, BK381, HB⟩ := hrel
    cases gk with
    | zero => exact absurd HA.out (by simp [laws_FnBounces.l0])
    | succ k1 =>
     have H := HA.out
     clear HA
     simp only [laws_FnBounces.l0] at H
     by_cases c21 : x14_1 < (t372.size : Int)
     ·rw [if_pos c21] at H
      have c21b0 : decide (x14_1 < (t372.size : Int)) = true := decide_eq_true c21
      clear c21
      by_cases c22 : 0 ≤ x14_1
      ·rw [if_pos c22] at H
       have c22b0 : decide (0 ≤ x14_1) = true := decide_eq_true c22
       clear c22
       by_cases c24 : (bt t372 x14_1) = 72
       ·rw [if_pos c24] at H
        have c24b0 : ((bt t372 x14_1) == 72) = true := beq_iff_eq.mpr c24
        have c24b1 : ((bt t372 x14_1) != 72) = false := bne_eq_false_iff_eq.mpr c24
        clear c24
        have H' := Aside0.mk H
        clear H
        have p23 : 0 ≤ (x14_1 : Int) := of_decide_eq_true (by first | (with_reducible assumption) | assumption)
        have q23 : x14_1 < (t372.size : Int) := of_decide_eq_true (by first | (with_reducible assumption) | assumption)
        have hx23 := bt_at t372 x14_1
        replace p23 := eq_true p23
        replace q23 := eq_true q23
        go_wp2
        go_roundg k1
        case measure => have := HK1.out; omega
        case rel => exact ⟨(wrap64 (x12_1 + 1)), (x13_1), (wrap64 (x14_1 + 1)), (by first | rfl | (simp; done) | (simp [*]; done)), (by first | rfl | (simp; done) | (simp [*]; done)), (by first | rfl | (simp; done) | (simp [*]; done)), H', ⟨by have := HK1.out; omega⟩, ⟨by (with_reducible repeat (first|apply rA|apply rN|apply rD)); exact HO_3.out⟩, ⟨by (with_reducible repeat (first|apply rA|apply rN|apply rD)); exact HO_382000.out⟩, ⟨by (with_reducible repeat (first|apply rA|apply rN|apply rD)); exact HO_382001.out⟩, ⟨by (with_reducible repeat (first|refine kN ?_ _|refine kD ?_|refine kA ?_ _)); exact BK381.out⟩, ⟨by repeat (first | (with_reducible first | exact HB.out|apply bA|apply bN|apply bD | refine below_set ?_ GE381.out) | exact HB.out)⟩⟩
       ·rw [if_neg c24] at H
        have c24b0 : ((bt t372 x14_1) == 72) = false := beq_eq_false_iff_ne.mpr c24
        have c24b1 : ((bt t372 x14_1) != 72) = true := bne_iff_ne.mpr c24
        by_cases c25 : (bt t372 x14_1) = 86
        ·rw [if_pos c25] at H
         have c25b0 : ((bt t372 x14_1) == 86) = true := beq_iff_eq.mpr c25
         have c25b1 : ((bt t372 x14_1) != 86) = false := bne_eq_false_iff_eq.mpr c25
         clear c25
         have H' := Aside0.mk H
         clear H
         have p23 : 0 ≤ (x14_1 : Int) := of_decide_eq_true (by first | (with_reducible assumption) | assumption)
         have q23 : x14_1 < (t372.size : Int) := of_decide_eq_true (by first | (with_reducible assumption) | assumption)
         have hx23 := bt_at t372 x14_1
         replace p23 := eq_true p23
         replace q23 := eq_true q23
         go_wp2
         go_roundg k1
         case measure => have := HK1.out; omega
         case rel => exact ⟨(x12_1), (wrap64 (x13_1 + 1)), (wrap64 (x14_1 + 1)), (by first | rfl | (simp; done) | (simp [*]; done)), (by first | rfl | (simp; done) | (simp [*]; done)), (by first | rfl | (simp; done) | (simp [*]; done)), H', ⟨by have := HK1.out; omega⟩, ⟨by (with_reducible repeat (first|apply rA|apply rN|apply rD)); exact HO_3.out⟩, ⟨by (with_reducible repeat (first|apply rA|apply rN|apply rD)); exact HO_382000.out⟩, ⟨by (with_reducible repeat (first|apply rA|apply rN|apply rD)); exact HO_382001.out⟩, ⟨by (with_reducible repeat (first|refine kN ?_ _|refine kD ?_|refine kA ?_ _)); exact BK381.out⟩, ⟨by repeat (first | (with_reducible first | exact HB.out|apply bA|apply bN|apply bD | refine below_set ?_ GE381.out) | exact HB.out)⟩⟩
        ·rw [if_neg c25] at H
         have c25b0 : ((bt t372 x14_1) == 86) = false := beq_eq_false_iff_ne.mpr c25
         have c25b1 : ((bt t372 x14_1) != 86) = true := bne_iff_ne.mpr c25
         by_cases c26 : (bt t372 x14_1) = 46
         ·rw [if_pos c26] at H
          have c26b0 : ((bt t372 x14_1) == 46) = true := beq_iff_eq.mpr c26
          have c26b1 : ((bt t372 x14_1) != 46) = false := bne_eq_false_iff_eq.mpr c26
          clear c26
          have H' := Aside0.mk H
          clear H
          have p23 : 0 ≤ (x14_1 : Int) := of_decide_eq_true (by first | (with_reducible assumption) | assumption)
          have q23 : x14_1 < (t372.size : Int) := of_decide_eq_true (by first | (with_reducible assumption) | assumption)
          have hx23 := bt_at t372 x14_1
          replace p23 := eq_true p23
          replace q23 := eq_true q23
          go_wp2
          go_roundg k1
          case measure => have := HK1.out; omega
          case rel => exact ⟨(x12_1), (x13_1), (wrap64 (x14_1 + 1)), (by first | rfl | (simp; done) | (simp [*]; done)), (by first | rfl | (simp; done) | (simp [*]; done)), (by first | rfl | (simp; done) | (simp [*]; done)), H', ⟨by have := HK1.out; omega⟩, ⟨by (with_reducible repeat (first|apply rA|apply rN|apply rD)); exact HO_3.out⟩, ⟨by (with_reducible repeat (first|apply rA|apply rN|apply rD)); exact HO_382000.out⟩, ⟨by (with_reducible repeat (first|apply rA|apply rN|apply rD)); exact HO_382001.out⟩, ⟨by (with_reducible repeat (first|refine kN ?_ _|refine kD ?_|refine kA ?_ _)); exact BK381.out⟩, ⟨by repeat (first | (with_reducible first | exact HB.out|apply bA|apply bN|apply bD | refine below_set ?_ GE381.out) | exact HB.out)⟩⟩
         ·rw [if_neg c26] at H
          have c26b0 : ((bt t372 x14_1) == 46) = false := beq_eq_false_iff_ne.mpr c26
          have c26b1 : ((bt t372 x14_1) != 46) = true := bne_iff_ne.mpr c26
          exact absurd ((Option.some.inj H).trans HRT.out) (by decide)
      ·rw [if_neg c22] at H
       exact absurd H (by simp)
     ·rw [if_neg c21] at H
      have c21b0 : decide (x14_1 < (t372.size : Int)) = false := decide_eq_false c21
      clear c21
      by_cases c27 : t373 = true
      ·subst c27
       have H1 : (if t380 = true then (if (Int.tmod x12_1 2) = 0 then (if (Int.tmod x13_1 2) = 0 then (if t382 = (wrap64 (x12_1 + x13_1)) then (if t382 > 0 then ((impl_PathText.f k1 t374 t377 (wrap64 (4 * (Int.tmod t371 (t366.length : Int)))) t369 t370).bind fun t383 => (if (t372.size : Int) = (t383.size : Int) then (if (t366.length : Int) > 1 then (some true) else (some (t382 == (t372.size : Int)))) else (some false))) else (some false)) else (some false)) else (some false)) else (some false)) else (some false)) = some r := by rw [if_pos rfl] at H; exact H
       clear H
       have H := H1
       clear H1
       by_cases c28 : t380 = true
       ·subst c28
        have H1 : (if (Int.tmod x12_1 2) = 0 then (if (Int.tmod x13_1 2) = 0 then (if t382 = (wrap64 (x12_1 + x13_1)) then (if t382 > 0 then ((impl_PathText.f k1 t374 t377 (wrap64 (4 * (Int.tmod t371 (t366.length : Int)))) t369 t370).bind fun t383 => (if (t372.size : Int) = (t383.size : Int) then (if (t366.length : Int) > 1 then (some true) else (some (t382 == (t372.size : Int)))) else (some false))) else (some false)) else (some false)) else (some false)) else (some false)) = some r := by rw [if_pos rfl] at H; exact H
        clear H
        have H := H1
        clear H1
        by_cases c29 : (Int.tmod x12_1 2) = 0
        ·rw [if_pos c29] at H
         have c29b0 : ((Int.tmod x12_1 2) == 0) = true := beq_iff_eq.mpr c29
         have c29b1 : ((Int.tmod x12_1 2) != 0) = false := bne_eq_false_iff_eq.mpr c29
         clear c29
         by_cases c30 : (Int.tmod x13_1 2) = 0
         ·rw [if_pos c30] at H
          have c30b0 : ((Int.tmod x13_1 2) == 0) = true := beq_iff_eq.mpr c30
          have c30b1 : ((Int.tmod x13_1 2) != 0) = false := bne_eq_false_iff_eq.mpr c30
          clear c30
          by_cases c31 : t382 = (wrap64 (x12_1 + x13_1))
          ·rw [if_pos c31] at H
           have c31b0 : (t382 == (wrap64 (x12_1 + x13_1))) = true := beq_iff_eq.mpr c31
           have c31b1 : (t382 != (wrap64 (x12_1 + x13_1))) = false := bne_eq_false_iff_eq.mpr c31
           clear c31
           by_cases c32 : t382 > 0
           ·rw [if_pos c32] at H
            have c32b0 : decide (0 < t382) = true := decide_eq_true c32
            clear c32
            replace H := Option.bind_eq_some_iff.mp H
            obtain ⟨t383, A330, H⟩ := H
            replace H : (if (t372.size : Int) = (t383.size : Int) then (if (t366.length : Int) > 1 then (some true) else (some (t382 == (t372.size : Int)))) else (some false)) = some r := H
            have A33 := Aside0.mk A330
            clear A330
            by_cases c34 : (t372.size : Int) = (t383.size : Int)
            ·rw [if_pos c34] at H
             have c34b0 : ((t372.size : Int) == (t383.size : Int)) = true := beq_iff_eq.mpr c34
             have c34b1 : ((t372.size : Int) != (t383.size : Int)) = false := bne_eq_false_iff_eq.mpr c34
             have c34b2 : (t372.size == t383.size) = true := by first | simpa using c34 | (simp at c34 ⊢; omega)
             clear c34
             by_cases c35 : (t366.length : Int) > 1
             ·rw [if_pos c35] at H
              have c35b0 : decide (1 < (t366.length : Int)) = true := decide_eq_true c35
              have c35b1 : decide (1 < t366.length) = true := decide_eq_true (by omega)
              clear c35
              obtain rfl := Option.some.inj H
              have hcz36_0 : wr.cell? ⟨gb381, 0, none⟩ = some (.slice Ao17 t374.length co17) := (blk_cell BK381.out 0).trans rfl
              have hcz36_1 : wr.cell? ⟨gb381, 1, none⟩ = some (.slice Ao19 t377.length co19) := (blk_cell BK381.out 1).trans rfl
              have hfz36_0 := blk_frozen BK381.out 0
              have hfz36_1 := blk_frozen BK381.out 1
              go_wp2_with (first | (go_at_call 35; (with_reducible refine (impl_PathText.calls k1 _ _ t374 _ _ t377 (wrap64 (4 * (Int.tmod t371 (t366.length : Int)))) t369 t370 t383 _ ?side1 ?side2 ?side3 ?side4 A33.out).mono ?_); (case side1 => repeat (first | exact (Kd.R_reads' HO_382000.out).2.2 | (with_reducible refine Kd.C_alloc ?_ _) | (with_reducible refine Kd.C_drewN ?_ _) | (with_reducible refine Kd.C_drew ?_))); (case side2 => exact (Kd.R_reads' HO_382000.out).2.1); (case side3 => repeat (first | exact (Kd.R_reads' HO_382001.out).2.2 | (with_reducible refine Kd.C_alloc ?_ _) | (with_reducible refine Kd.C_drewN ?_ _) | (with_reducible refine Kd.C_drew ?_))); (case side4 => exact (Kd.R_reads' HO_382001.out).2.1); rintro e w37 ⟨rfl, hb⟩; have n0_ := Aside0.mk (Kd.R_below (by (with_reducible repeat (first|apply rA|apply rN|apply rD)); exact HO_3.out) hb); have n1_ := Aside0.mk (Kd.R_below (by (with_reducible repeat (first|apply rA|apply rN|apply rD)); exact HO_382000.out) hb); have n2_ := Aside0.mk (Kd.R_below (by (with_reducible repeat (first|apply rA|apply rN|apply rD)); exact HO_382001.out) hb); have n3_ := Aside0.mk (blk_below (g := gb381) (o := .cells #[.slice Ao17 t374.length co17, .slice Ao19 t377.length co19] 55 (0, 0)) (by (with_reducible repeat (first|refine kN ?_ _|refine kD ?_|refine kA ?_ _)); exact BK381.out) hb); have n4_ := Aside0.mk (below_step (by repeat (first | (with_reducible first | exact HB.out|apply bA|apply bN|apply bD | refine below_set ?_ GE381.out) | exact HB.out)) hb); clear HO_3; clear HO_382000; clear HO_382001; clear BK381; clear HB; have HO_3 := n0_; have HO_382000 := n1_; have HO_382001 := n2_; have BK381 := n3_; have HB := n4_; clear n0_ n1_ n2_ n3_ n4_; (try clear hb); (try clear hb2); (try clear hk); (try clear hi)))
              go_ret
              exact ⟨by first | rfl | (simp [errW_none, errW_some] <;> rfl) | (simp [*, errW_none, errW_some] <;> rfl), by repeat (first | (with_reducible first | exact HB.out|apply bA|apply bN|apply bD | refine below_set ?_ GE381.out) | exact HB.out)⟩
             ·rw [if_neg c35] at H
              have c35b0 : decide (1 < (t366.length : Int)) = false := decide_eq_false c35
              have c35b1 : decide (1 < t366.length) = false := decide_eq_false (by omega)
              clear c35
              obtain rfl := Option.some.inj H
              have hcz38_0 : wr.cell? ⟨gb381, 0, none⟩ = some (.slice Ao17 t374.length co17) := (blk_cell BK381.out 0).trans rfl
              have hcz38_1 : wr.cell? ⟨gb381, 1, none⟩ = some (.slice Ao19 t377.length co19) := (blk_cell BK381.out 1).trans rfl
              have hfz38_0 := blk_frozen BK381.out 0
              have hfz38_1 := blk_frozen BK381.out 1
              go_wp2_with (first | (go_at_call 35; (with_reducible refine (impl_PathText.calls k1 _ _ t374 _ _ t377 (wrap64 (4 * (Int.tmod t371 (t366.length : Int)))) t369 t370 t383 _ ?side1 ?side2 ?side3 ?side4 A33.out).mono ?_); (case side1 => repeat (first | exact (Kd.R_reads' HO_382000.out).2.2 | (with_reducible refine Kd.C_alloc ?_ _) | (with_reducible refine Kd.C_drewN ?_ _) | (with_reducible refine Kd.C_drew ?_))); (case side2 => exact (Kd.R_reads' HO_382000.out).2.1); (case side3 => repeat (first | exact (Kd.R_reads' HO_382001.out).2.2 | (with_reducible refine Kd.C_alloc ?_ _) | (with_reducible refine Kd.C_drewN ?_ _) | (with_reducible refine Kd.C_drew ?_))); (case side4 => exact (Kd.R_reads' HO_382001.out).2.1); rintro e w39 ⟨rfl, hb⟩; have n0_ := Aside0.mk (Kd.R_below (by (with_reducible repeat (first|apply rA|apply rN|apply rD)); exact HO_3.out) hb); have n1_ := Aside0.mk (Kd.R_below (by (with_reducible repeat (first|apply rA|apply rN|apply rD)); exact HO_382000.out) hb); have n2_ := Aside0.mk (Kd.R_below (by (with_reducible repeat (first|apply rA|apply rN|apply rD)); exact HO_382001.out) hb); have n3_ := Aside0.mk (blk_below (g := gb381) (o := .cells #[.slice Ao17 t374.length co17, .slice Ao19 t377.length co19] 55 (0, 0)) (by (with_reducible repeat (first|refine kN ?_ _|refine kD ?_|refine kA ?_ _)); exact BK381.out) hb); have n4_ := Aside0.mk (below_step (by repeat (first | (with_reducible first | exact HB.out|apply bA|apply bN|apply bD | refine below_set ?_ GE381.out) | exact HB.out)) hb); clear HO_3; clear HO_382000; clear HO_382001; clear BK381; clear HB; have HO_3 := n0_; have HO_382000 := n1_; have HO_382001 := n2_; have BK381 := n3_; have HB := n4_; clear n0_ n1_ n2_ n3_ n4_; (try clear hb); (try clear hb2); (try clear hk); (try clear hi)))
              go_ret
              exact ⟨by first | rfl | (simp [errW_none, errW_some] <;> rfl) | (simp [*, errW_none, errW_some] <;> rfl), by repeat (first | (with_reducible first | exact HB.out|apply bA|apply bN|apply bD | refine below_set ?_ GE381.out) | exact HB.out)⟩
            ·rw [if_neg c34] at H
             have c34b0 : ((t372.size : Int) == (t383.size : Int)) = false := beq_eq_false_iff_ne.mpr c34
             have c34b1 : ((t372.size : Int) != (t383.size : Int)) = true := bne_iff_ne.mpr c34
             have c34b2 : (t372.size == t383.size) = false := by first | simpa using c34 | (simp at c34 ⊢; omega)
             exact absurd ((Option.some.inj H).trans HRT.out) (by decide)
           ·rw [if_neg c32] at H
            have c32b0 : decide (0 < t382) = false := decide_eq_false c32
            clear c32
            exact absurd ((Option.some.inj H).trans HRT.out) (by decide)
          ·rw [if_neg c31] at H
           have c31b0 : (t382 == (wrap64 (x12_1 + x13_1))) = false := beq_eq_false_iff_ne.mpr c31
           have c31b1 : (t382 != (wrap64 (x12_1 + x13_1))) = true := bne_iff_ne.mpr c31
           exact absurd ((Option.some.inj H).trans HRT.out) (by decide)
         ·rw [if_neg c30] at H
          have c30b0 : ((Int.tmod x13_1 2) == 0) = false := beq_eq_false_iff_ne.mpr c30
          have c30b1 : ((Int.tmod x13_1 2) != 0) = true := bne_iff_ne.mpr c30
          exact absurd ((Option.some.inj H).trans HRT.out) (by decide)
        ·rw [if_neg c29] at H
         have c29b0 : ((Int.tmod x12_1 2) == 0) = false := beq_eq_false_iff_ne.mpr c29
         have c29b1 : ((Int.tmod x12_1 2) != 0) = true := bne_iff_ne.mpr c29
         exact absurd ((Option.some.inj H).trans HRT.out) (by decide)
       ·replace c28 := Bool.eq_false_iff.mpr c28
        subst c28
        have H1 : (some false) = some r := by rw [if_neg (show ¬ (false = true) by decide)] at H; exact H
        clear H
        have H := H1
        clear H1
        exact absurd ((Option.some.inj H).trans HRT.out) (by decide)
      ·replace c27 := Bool.eq_false_iff.mpr c27
       subst c27
       have H1 : (some false) = some r := by rw [if_neg (show ¬ (false = true) by decide)] at H; exact H
       clear H
       have H := H1
       clear H1
       exact absurd ((Option.some.inj H).trans HRT.out) (by decide)

end Go.Proofs.Ytbolkipmehmncaa.S
