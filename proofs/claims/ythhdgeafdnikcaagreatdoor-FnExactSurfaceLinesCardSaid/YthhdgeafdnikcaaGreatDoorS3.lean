-- PRINTED by print.py (a twelfth state) out of the translation. Not trusted: Lean checks it.
import Derived.Test.YthhdgeafdnikcaaGreatDoorS0
import Derived.Test.YthhdgeafdnikcaaGreatDoorS1
import Derived.Test.YthhdgeafdnikcaaGreatDoorS2
namespace Go.Proofs.YthhdgeafdnikcaaGreatDoor.S
open Go.RowKit Go.Proofs.YthhdgeafdnikcaaGreatDoorW.PrintWords Go.Proofs.YthhdgeafdnikcaaGreatDoorW.PrintLast Go.Proofs.YthhdgeafdnikcaaGreatDoorW.PrintMore
attribute [local go_sem] max2_int min2_int max_two min_two max_three min_three max_four min_four   -- for this text's walks alone
set_option linter.unusedVariables false
set_option linter.unusedSimpArgs false

/-! ### impl_NamesFrom: function 84 -/
mutual
def impl_NamesFrom.j0 : Nat → Int → Bool → List Int → List Int → Option (List Int)
 | 0, _, _, _, _ => none
 | k + 1, x1, x24, x234000, x234001 => if x24 = true then (some ([] : List Int)) else (if 0 ≤ (x234000.length : Int) then (if ((x234000.length : Int) : Int).toNat ≤ 35184372088832 then ((some (List.replicate ((x234000.length : Int) : Int).toNat 0 : List Int)).bind fun y235 => (impl_NamesFrom.l0 k x1 y235 (y235.length : Int) 0 x234000 x234001)) else (none)) else (none))
def impl_NamesFrom.l0 : Nat → Int → List Int → Int → Int → List Int → List Int → Option (List Int)
 | 0, _, _, _, _, _, _ => none
 | k + 1, x1, x5, x30, x31, x234000, x234001 => if x31 < x30 then (if 0 ≤ x31 then (if x31 < (x5.length : Int) then (impl_NamesFrom.l0 k x1 (x5.set (x31 : Int).toNat (-1)) x30 (wrap64 (x31 + 1)) x234000 x234001) else (none)) else (none)) else (if 0 ≤ x1 then (if x1 < (x5.length : Int) then (impl_NamesFrom.l1 k (x5.set (x1 : Int).toNat 0) (([x1] : List Int)) 0 x234000 x234001) else (none)) else (none))
def impl_NamesFrom.l1 : Nat → List Int → List Int → Int → List Int → List Int → Option (List Int)
 | 0, _, _, _, _, _ => none
 | k + 1, x5, x7, x8, x234000, x234001 => if x8 < (x7.length : Int) then (if 0 ≤ x8 then (if 0 ≤ (rd x7 x8) then (if (rd x7 x8) < (x234000.length : Int) then (if (rd x7 x8) < (x234001.length : Int) then ((some (([rd x234000 (rd x7 x8), rd x234001 (rd x7 x8)] : List Int) : List Int)).bind fun y247 => (impl_NamesFrom.l2 k x5 x7 x8 y247 (y247.length : Int) 0 x234000 x234001)) else (none)) else (none)) else (none)) else (none)) else (some x5)
def impl_NamesFrom.l2 : Nat → List Int → List Int → Int → List Int → Int → Int → List Int → List Int → Option (List Int)
 | 0, _, _, _, _, _, _, _, _ => none
 | k + 1, x5, x7, x8, x65, x66, x67, x234000, x234001 => if x67 < x66 then (if 0 ≤ x67 then (if x67 < (x65.length : Int) then (if 0 ≤ (rd x65 x67) then (if (rd x65 x67) < (x5.length : Int) then (if (rd x5 (rd x65 x67)) < 0 then (if x7.length < 17592186044416 then (impl_NamesFrom.l2 k (x5.set ((rd x65 x67) : Int).toNat (x7.length : Int)) (x7 ++ [rd x65 x67]) x8 x65 x66 (wrap64 (x67 + 1)) x234000 x234001) else (none)) else (impl_NamesFrom.l2 k x5 x7 x8 x65 x66 (wrap64 (x67 + 1)) x234000 x234001)) else (none)) else (none)) else (none)) else (none)) else (impl_NamesFrom.l1 k x5 x7 (wrap64 (x8 + 1)) x234000 x234001)
end
def impl_NamesFrom.f (k : Nat) (l0_0 : List Int) (l0_1 : List Int) (a1 : Int) : Option (List Int) := (impl_SurfaceOk.f k l0_0 l0_1).bind fun t234 => (if t234 = true then (if a1 < 0 then (impl_NamesFrom.j0 k a1 true l0_0 l0_1) else (impl_NamesFrom.j0 k a1 (decide (a1 ≥ (l0_0.length : Int))) l0_0 l0_1)) else (impl_NamesFrom.j0 k a1 true l0_0 l0_1))
def impl_NamesFrom.T14 : Bool × List (List Nat × List Nat) := (true, [([], []), ([0], [0]), ([], []), ([], []), ([2, 3], [2, 3]), ([4], [4]), ([1, 5], [1, 5]), ([6], [6]), ([], []), ([8], [8]), ([], []), ([], []), ([10, 11], [10, 11]), ([12], [12]), ([9, 13], [9, 13]), ([14], [14]), ([7, 15], [7, 15]), ([16], [16]), ([], [])])
def impl_NamesFrom.B14 : List Nat := [0, 1, 0, 0, 12, 28, 63, 127, 0, 256, 0, 0, 3072, 7168, 16128, 32512, 65535, 131071, 0]
theorem impl_NamesFrom.tab14 : rtab .any (opsOf Tryz.f84 14) = impl_NamesFrom.T14 := by kernel_rfl
theorem impl_NamesFrom.bits14 : waitsOk impl_NamesFrom.T14.2 impl_NamesFrom.B14 = true := by kernel_rfl
set_option maxHeartbeats 8000000 in
set_option maxRecDepth 100000 in
theorem impl_NamesFrom.calls (k : Nat) (A0_0 : Option Addr) (c0_0 : Nat) (l0_0 : List Int) (A0_1 : Option Addr) (c0_1 : Nat) (l0_1 : List Int) (a1 : Int) (r : List Int) (w : World) (hr0_0 : Kd.C (Kd.int .i64) w A0_0 l0_0.length l0_0) (hc0_0 : l0_0.length ≤ c0_0) (hr0_1 : Kd.C (Kd.int .i64) w A0_1 l0_1.length l0_1) (hc0_1 : l0_1.length ≤ c0_1) (h : impl_NamesFrom.f k l0_0 l0_1 a1 = some r) :
  Calls Tryz.prog 84 #[.agg #[.slice A0_0 l0_0.length c0_0, .slice A0_1 l0_1.length c0_1], .int .i64 a1] w fun e w' => ∃ v0_ : Value, e = .returned (v0_) ∧ Kd.R (Kd.int .i64) 3 w' w.heap.size (fun _ => True) v0_ r ∧ Below w.heap.size w w' := by
 have hu25 := Tryz.underlying25
 have HR0_0 := Aside0.mk hr0_0
 have HC0_0 := Aside0.mk hc0_0
 clear hr0_0 hc0_0
 have HR0_1 := Aside0.mk hr0_1
 have HC0_1 := Aside0.mk hc0_1
 clear hr0_1 hc0_1
 have HB := Aside0.mk (Below.refl w.heap.size w)
 have H : ((impl_SurfaceOk.f k l0_0 l0_1).bind fun t234 => (if t234 = true then (if a1 < 0 then (impl_NamesFrom.j0 k a1 true l0_0 l0_1) else (impl_NamesFrom.j0 k a1 (decide (a1 ≥ (l0_0.length : Int))) l0_0 l0_1)) else (impl_NamesFrom.j0 k a1 true l0_0 l0_1))) = some r := h
 clear h
 have HC3 := Aside0.mk H
 clear H
 go_enter Tryz.func84, Tryz.ntmps84
 go_upto_region 1 with (first | ((with_reducible refine gate_dst (N := 2) rfl ?_); (try (refine gate_guard (by rfl) ?_; dsimp only)); refine box_event ?hg (N := 2) ?hd (cs := #[.slice A0_0 l0_0.length c0_0, .slice A0_1 l0_1.length c0_1]) (t := 25) ?hr ?_; (case hd => rfl); (case hg => rfl); (case hr => first | (go_simp; done) | (go_simp; rfl)); intro gb233 hg w4 hbox hb; have n0_ := Aside0.mk (below_step (bX HB.out) hb); have n1_ := Aside0.mk (hbox); have n2_ := Aside0.mk ((szX (below_size (bX HB.out)) hg : w.heap.size ≤ gb233)); have n3_ := Aside0.mk ((szX (below_size (bX HB.out)) hg : w.heap.size ≤ gb233)); clear HB; have HB := n0_; have BK233 := n1_; have GW233 := n2_; have GE233 := n3_; clear n0_ n1_ n2_ n3_ hb hbox hg))
 (try simp only [Act.put, List.setIfInBounds_toArray, List.set_cons_zero, List.set_cons_succ])
 go_cut [24] (fun v24 wc => ∃ (kq : Nat) (x24_2 : Bool), v24 = .bool x24_2 ∧ Aside0 (impl_NamesFrom.j0 kq a1 x24_2 l0_0 l0_1 = some r) ∧ Aside0 (kq ≤ k) ∧ Aside0 (wc.heap[gb233]? = some (.cells #[(.slice A0_0 l0_0.length c0_0), (.slice A0_1 l0_1.length c0_1)] 25 (0, 0))) ∧ Aside0 (Below w.heap.size w wc))
 case first =>
  have H := HC3.out
  clear HC3
  replace H := Option.bind_eq_some_iff.mp H
  obtain ⟨t234, A50, H⟩ := H
  replace H : (if t234 = true then (if a1 < 0 then (impl_NamesFrom.j0 k a1 true l0_0 l0_1) else (impl_NamesFrom.j0 k a1 (decide (a1 ≥ (l0_0.length : Int))) l0_0 l0_1)) else (impl_NamesFrom.j0 k a1 true l0_0 l0_1)) = some r := H
  have A5 := Aside0.mk A50
  clear A50
  by_cases c6 : t234 = true
  {
  subst c6
  have H1 : (if a1 < 0 then (impl_NamesFrom.j0 k a1 true l0_0 l0_1) else (impl_NamesFrom.j0 k a1 (decide (a1 ≥ (l0_0.length : Int))) l0_0 l0_1)) = some r := by rw [if_pos rfl] at H; exact H
  clear H
  have H := H1
  clear H1
  by_cases c7 : a1 < 0
  {
  rw [if_pos c7] at H
  have c7b0 : decide (a1 < 0) = true := decide_eq_true c7
  clear c7
  (first | rw [c7b0] | (simp only [i64_w, i32_w]; rw [c7b0]) | skip)
  have H' := Aside0.mk H
  clear H
  have hcz8_0 := cz20 BK233.out
  have hcz8_1 := cz21 BK233.out
  have hfz8_0 := blk_frozen BK233.out 0
  have hfz8_1 := blk_frozen BK233.out 1
  go_wp2_with (first | ((with_reducible refine gate_callee (f := 31) rfl ?_); refine goesL_ (some 12) rfl rfl Tryz.func31 (by kernel_rfl) rfl #[.agg #[.slice A0_0 l0_0.length c0_0, .slice A0_1 l0_1.length c0_1]] rfl aX ?_; (with_reducible refine (impl_SurfaceOk.calls k _ _ l0_0 _ _ l0_1 true _ ?side1 ?side2 ?side3 ?side4 A5.out).mono ?_); (case side1 => exact cX (Kd.C_below HR0_0.out HB.out)); (case side2 => exact HC0_0.out); (case side3 => exact cX (Kd.C_below HR0_1.out HB.out)); (case side4 => exact HC0_1.out); rintro e w9 ⟨rfl, hb⟩; refine ⟨_, rfl, ?_⟩; have n0_ := Aside0.mk (bbX BK233.out hb); have n1_ := Aside0.mk (below_step (bX1 HB.out GE233.out) hb); clear BK233 HB; have BK233 := n0_; have HB := n1_; clear n0_ n1_; (try clear hb); (try clear hb2); (try clear hk); (try clear hi)))
  go_meet
  case rel => exact ⟨_, (true), vX, H', ⟨by first | omega | exact Nat.le_refl _⟩, ⟨kX BK233.out⟩, ⟨bX1 HB.out GE233.out⟩⟩
  }
  {
  rw [if_neg c7] at H
  have c7b0 : decide (a1 < 0) = false := decide_eq_false c7
  clear c7
  (first | rw [c7b0] | (simp only [i64_w, i32_w]; rw [c7b0]) | skip)
  have H' := Aside0.mk H
  clear H
  have hcz10_0 := cz20 BK233.out
  have hcz10_1 := cz21 BK233.out
  have hfz10_0 := blk_frozen BK233.out 0
  have hfz10_1 := blk_frozen BK233.out 1
  go_wp2_with (first | ((with_reducible refine gate_callee (f := 31) rfl ?_); refine goesL_ (some 12) rfl rfl Tryz.func31 (by kernel_rfl) rfl #[.agg #[.slice A0_0 l0_0.length c0_0, .slice A0_1 l0_1.length c0_1]] rfl aX ?_; (with_reducible refine (impl_SurfaceOk.calls k _ _ l0_0 _ _ l0_1 true _ ?side1 ?side2 ?side3 ?side4 A5.out).mono ?_); (case side1 => exact cX (Kd.C_below HR0_0.out HB.out)); (case side2 => exact HC0_0.out); (case side3 => exact cX (Kd.C_below HR0_1.out HB.out)); (case side4 => exact HC0_1.out); rintro e w11 ⟨rfl, hb⟩; refine ⟨_, rfl, ?_⟩; have n0_ := Aside0.mk (bbX BK233.out hb); have n1_ := Aside0.mk (below_step (bX1 HB.out GE233.out) hb); clear BK233 HB; have BK233 := n0_; have HB := n1_; clear n0_ n1_; (try clear hb); (try clear hb2); (try clear hk); (try clear hi); have hcz12_0 := cz20 BK233.out; have hcz12_1 := cz21 BK233.out; have hfz12_0 := blk_frozen BK233.out 0; have hfz12_1 := blk_frozen BK233.out 1))
  go_meet
  case rel => exact ⟨_, (decide (a1 ≥ (l0_0.length : Int))), vX, H', ⟨by first | omega | exact Nat.le_refl _⟩, ⟨kX BK233.out⟩, ⟨bX1 HB.out GE233.out⟩⟩
  }
  }
  {
  replace c6 := Bool.eq_false_iff.mpr c6
  subst c6
  have H1 : (impl_NamesFrom.j0 k a1 true l0_0 l0_1) = some r := by rw [if_neg (show ¬ (false = true) by decide)] at H; exact H
  clear H
  have H := H1
  clear H1
  have H' := Aside0.mk H
  clear H
  have hcz13_0 := cz20 BK233.out
  have hcz13_1 := cz21 BK233.out
  have hfz13_0 := blk_frozen BK233.out 0
  have hfz13_1 := blk_frozen BK233.out 1
  go_wp2_with (first | ((with_reducible refine gate_callee (f := 31) rfl ?_); refine goesL_ (some 12) rfl rfl Tryz.func31 (by kernel_rfl) rfl #[.agg #[.slice A0_0 l0_0.length c0_0, .slice A0_1 l0_1.length c0_1]] rfl aX ?_; (with_reducible refine (impl_SurfaceOk.calls k _ _ l0_0 _ _ l0_1 false _ ?side1 ?side2 ?side3 ?side4 A5.out).mono ?_); (case side1 => exact cX (Kd.C_below HR0_0.out HB.out)); (case side2 => exact HC0_0.out); (case side3 => exact cX (Kd.C_below HR0_1.out HB.out)); (case side4 => exact HC0_1.out); rintro e w14 ⟨rfl, hb⟩; refine ⟨_, rfl, ?_⟩; have n0_ := Aside0.mk (bbX BK233.out hb); have n1_ := Aside0.mk (below_step (bX1 HB.out GE233.out) hb); clear BK233 HB; have BK233 := n0_; have HB := n1_; clear n0_ n1_; (try clear hb); (try clear hb2); (try clear hk); (try clear hi)))
  go_meet
  case rel => exact ⟨_, (true), vX, H', ⟨by first | omega | exact Nat.le_refl _⟩, ⟨kX BK233.out⟩, ⟨bX1 HB.out GE233.out⟩⟩
  }
 case rest =>
 clear HC3
 try clear p2
 try clear c3
 try clear c6
 try clear c7
 try clear c7b0
 try clear c8
 try clear hcz10_0
 try clear hcz10_1
 try clear hcz12_0
 try clear hcz12_1
 try clear hcz13_0
 try clear hcz13_1
 try clear hcz8_0
 try clear hcz8_1
 try clear hfz10_0
 try clear hfz10_1
 try clear hfz12_0
 try clear hfz12_1
 try clear hfz13_0
 try clear hfz13_1
 try clear hfz8_0
 try clear hfz8_1
 obtain ⟨kq, x24_2, rfl, HA, HJ2, BK233, HB⟩ := hcut
 cases kq with
 | zero => exact absurd HA.out (by simp [impl_NamesFrom.j0])
 | succ kj2 =>
 have H := HA.out
 clear HA
 simp only [impl_NamesFrom.j0] at H
 by_cases c15 : x24_2 = true
 {
 subst c15
 have H1 : (some ([] : List Int)) = some r := by rw [if_pos rfl] at H; exact H
 clear H
 have H := H1
 clear H1
 obtain rfl := Option.some.inj H
 go_wp2
 go_ret
 exact ⟨_, eX, by first | exact Kd.R_nil _ _ _ _ _ | exact Kd.N_nil _ _ _ _ _ | exact Kd.V_nil _ _ _ _ _ | exact Kd.Q_nil _ _ _ _ _ | exact Kd.S_nil _ _ _ _ _, bX1 HB.out GE233.out⟩
 }
 {
 replace c15 := Bool.eq_false_iff.mpr c15
 subst c15
 have H1 : (if 0 ≤ (l0_0.length : Int) then (if ((l0_0.length : Int) : Int).toNat ≤ 35184372088832 then ((some (List.replicate ((l0_0.length : Int) : Int).toNat 0 : List Int)).bind fun y235 => (impl_NamesFrom.l0 kj2 a1 y235 (y235.length : Int) 0 l0_0 l0_1)) else (none)) else (none)) = some r := by rw [if_neg (show ¬ (false = true) by decide)] at H; exact H
 clear H
 have H := H1
 clear H1
 by_cases c16 : 0 ≤ (l0_0.length : Int)
 {
 rw [if_pos c16] at H
 have c16b0 := eq_true c16
 have c16b1 : decide (0 ≤ (l0_0.length : Int)) = true := decide_eq_true c16
 clear c16
 by_cases c17 : ((l0_0.length : Int) : Int).toNat ≤ 35184372088832
 {
 rw [if_pos c17] at H
 have c17b0 := eq_true c17
 have c17b1 : decide (((l0_0.length : Int) : Int).toNat ≤ 35184372088832) = true := decide_eq_true c17
 clear c17
 obtain ⟨y235, hy235⟩ : ∃ y_ : List Int, y_ = (List.replicate ((l0_0.length : Int) : Int).toNat 0) := ⟨_, rfl⟩
 replace H : (impl_NamesFrom.l0 kj2 a1 y235 (y235.length : Int) 0 l0_0 l0_1) = some r := by first | (rw [hy235]; with_reducible exact H) | (have H2_ := (Option.bind_some _ _).symm.trans H; rw [hy235]; with_reducible exact H2_) | (have H2_ := (Option.bind_some _ _).symm.trans H; with_reducible exact H2_) | with_reducible exact H | (rw [hy235]; exact H) | exact H
 have Ny235 := Aside0.mk hy235
 clear hy235
 have H' := Aside0.mk H
 clear H
 have hcz18_0 := cz20 BK233.out
 have hcz18_1 := cz21 BK233.out
 have hfz18_0 := blk_frozen BK233.out 0
 have hfz18_1 := blk_frozen BK233.out 1
 go_wp2_with (first | ((with_reducible refine gate_dst (N := 28) rfl ?_); (try (refine gate_guard (by rfl) ?_; dsimp only)); refine Kd.R_make (Kd.int .i64) _ 3 rfl (N := 28) rfl 23 _ _ rfl (l0_0.length : Int) rfl rfl Tryz.underlying23 (.int .i64 0) 8 info3 rfl (by decide) (by omega) 0 (ok := fun _ => True) (okp := fun _ => True) rfl (fun _ hk => hk) trivial (dX) (Nat.le_trans (Nat.mul_le_mul_right _ (dX : (l0_0.length : Int).toNat ≤ 35184372088832)) (by omega)) (Below.refl _ _) (Nat.le_refl _) ?_; intro v236 w19 ho20 hb hg_ hnew_; clear hg_ hnew_; (first | rw [← Ny235.out] at ho20 | (simp only [Int.reduceToNat] at ho20; rw [← Ny235.out] at ho20)); have n0_ := Aside0.mk (Kd.R_lower ho20 (below_size (bX1 HB.out GE233.out))); have n1_ := Aside0.mk (bbX BK233.out hb); have n2_ := Aside0.mk (below_step (bX1 HB.out GE233.out) hb); clear BK233 HB; have HO237 := n0_; have BK233 := n1_; have HB := n2_; clear n0_ n1_ n2_ hb ho20; obtain ⟨Ao21, co21, eo21⟩ := Kd.R_slice HO237.out; subst eo21))
 go_loopg [31] kj2 (fun kq v31 w' => ∃ (x5_2 : List Int) (x31_2 : Int), v31 = .int .i64 x31_2 ∧ Aside0 (impl_NamesFrom.l0 kq a1 x5_2 (y235.length : Int) x31_2 l0_0 l0_1 = some r) ∧ Aside0 (kq ≤ kj2) ∧ Aside0 (Kd.R (Kd.int .i64) 3 w' w.heap.size (fun _ => True) (.slice Ao21 y235.length co21) x5_2) ∧ Aside0 (w'.heap[gb233]? = some (.cells #[(.slice A0_0 l0_0.length c0_0), (.slice A0_1 l0_1.length c0_1)] 25 (0, 0))) ∧ Aside0 (Below w.heap.size w w'))
 case atStart => exact ⟨(y235), (0), vX, H', ⟨Nat.le_refl _⟩, ⟨rX HO237.out⟩, ⟨kX BK233.out⟩, ⟨bX1 HB.out GE233.out⟩⟩
 case round =>
 clear H'
 try clear c1
 try clear p2
 try clear c3
 try clear c6
 try clear c7
 try clear c7b0
 try clear c8
 try clear c15
 try clear c16
 try clear c16b0
 try clear c16b1
 try clear c17
 try clear c17b0
 try clear c17b1
 try clear hcz10_0
 try clear hcz10_1
 try clear hcz12_0
 try clear hcz12_1
 try clear hcz13_0
 try clear hcz13_1
 try clear hcz18_0
 try clear hcz18_1
 try clear hcz8_0
 try clear hcz8_1
 try clear hfz10_0
 try clear hfz10_1
 try clear hfz12_0
 try clear hfz12_1
 try clear hfz13_0
 try clear hfz13_1
 try clear hfz18_0
 try clear hfz18_1
 try clear hfz8_0
 try clear hfz8_1
 try clear p2
 obtain ⟨x5_2, x31_2, rfl, HA, HK2, HO_5, BK233, HB⟩ := hrel
 have hl5_2 := (Kd.R_reads' HO_5.out).1
 rw [hl5_2] at HO_5
 (try simp only [hl5_2])
 (try simp only [hl5_2] at BK233)
 cases gk with
 | zero => exact absurd HA.out (by simp [impl_NamesFrom.l0])
 | succ k2 =>
 have H := HA.out
 clear HA
 simp only [impl_NamesFrom.l0] at H
 by_cases c22 : x31_2 < (y235.length : Int)
 {
 rw [if_pos c22] at H
 have c22b0 : decide (x31_2 < (y235.length : Int)) = true := decide_eq_true c22
 clear c22
 by_cases c23 : 0 ≤ x31_2
 {
 rw [if_pos c23] at H
 have c23b0 : decide (0 ≤ x31_2) = true := decide_eq_true c23
 clear c23
 by_cases c24 : x31_2 < (x5_2.length : Int)
 {
 rw [if_pos c24] at H
 have c24b0 : decide (x31_2 < (x5_2.length : Int)) = true := decide_eq_true c24
 clear c24
 obtain ⟨y238, hy238⟩ : ∃ y_ : List Int, y_ = (x5_2.set (x31_2 : Int).toNat (-1)) := ⟨_, rfl⟩
 replace H : (impl_NamesFrom.l0 k2 a1 y238 (y235.length : Int) (wrap64 (x31_2 + 1)) l0_0 l0_1) = some r := by first | (rw [hy238]; with_reducible exact H) | (have H2_ := (Option.bind_some _ _).symm.trans H; rw [hy238]; with_reducible exact H2_) | (have H2_ := (Option.bind_some _ _).symm.trans H; with_reducible exact H2_) | with_reducible exact H | (rw [hy238]; exact H) | exact H
 have Ny238 := Aside0.mk hy238
 clear hy238
 have H' := Aside0.mk H
 clear H
 have p25 : 0 ≤ (x31_2 : Int) := dX
 have q25 : (x31_2 : Int) < ((x5_2.length : Int) : Int) := dX
 obtain ⟨go25, co25, eo25, gb25, gl25, cl25, HG25⟩ := Kd.R_form HO_5.out (by omega)
 (first | cases eo25 | (injection eo25 with ea_ en_ ec_; (first | subst ea_ | (injection ea_ with ea_; subst ea_)); subst ec_; clear en_))
 have GB25 := Aside0.mk gb25
 have GG25 := Aside0.mk HG25
 clear gb25 gl25 HG25
 obtain ⟨hx25_0, hf25_0⟩ := Kd.R_celln 0 HO_5.out (x31_2 : Int) p25 q25
 replace p25 := eq_true p25
 replace q25 := eq_true q25
 have HP26 := Kd.R_putg HO_5.out (x31_2 : Int) (-1)
 go_wp2_with (first | ((with_reducible refine gate_store (t := 3) (p := 36) rfl ?_); refine store_event (t := 3) (p := 36) (v := ?vo_w27) (w1 := (wr.setCell ⟨go25, (x31_2 : Int).toNat, none⟩ (.int .i64 (-1)))) ?hg ?ho ?hn ?hr ?_; (case ho => rfl); (case hg => rfl); (case hn => rfl); (case hr => first | (go_simp; done) | (go_simp; rfl)); intro w27 hw; have hg : wr.grownBy w27 (some go25) := (by rw [hw]; exact HP26.2); have hp_ : Kd.R (Kd.int .i64) 3 w27 w.heap.size (fun _ => True) (.slice (some ⟨go25, 0, none⟩) x5_2.length co21) y238 := (by rw [hw, Ny238.out]; exact HP26.1); clear HP26; have n0_ := Aside0.mk (hp_); have n1_ := Aside0.mk (bgX BK233.out hg (Kd.R_ne HO_5.out BK233.out (by decide))); have n2_ := Aside0.mk ((by rw [hw]; exact below_set (HB.out) GB25.out : Below w.heap.size w w27)); clear HO_5 BK233 HB; have HO_5 := n0_; have BK233 := n1_; have HB := n2_; clear n0_ n1_ n2_ hg hw hp_))
 (try simp only [← hl5_2])
 go_roundg k2
 case measure => have := HJ2.out; have := HK2.out; omega
 case rel => exact ⟨(y238), (wrap64 (x31_2 + 1)), vX, H', ⟨by have := HJ2.out; have := HK2.out; omega⟩, ⟨by (try simp only [hl5_2]); (with_reducible repeat (first|apply rA|apply rN|apply rD)); exact HO_5.out⟩, ⟨by (try simp only [hl5_2]); (with_reducible repeat (first|refine kN ?_ _|refine kD ?_|refine kA ?_ _)); exact BK233.out⟩, ⟨bX1 HB.out GE233.out⟩⟩
 }
 {
 rw [if_neg c24] at H
 exact absurd H (by simp)
 }
 }
 {
 rw [if_neg c23] at H
 exact absurd H (by simp)
 }
 }
 {
 rw [if_neg c22] at H
 have c22b0 : decide (x31_2 < (y235.length : Int)) = false := decide_eq_false c22
 (try rw [hl5_2] at c22b0)
 clear c22
 by_cases c28 : 0 ≤ a1
 {
 rw [if_pos c28] at H
 have c28b0 : decide (0 ≤ a1) = true := decide_eq_true c28
 clear c28
 by_cases c29 : a1 < (x5_2.length : Int)
 {
 rw [if_pos c29] at H
 have c29b0 : decide (a1 < (x5_2.length : Int)) = true := decide_eq_true c29
 clear c29
 obtain ⟨y239, hy239⟩ : ∃ y_ : List Int, y_ = (x5_2.set (a1 : Int).toNat 0) := ⟨_, rfl⟩
 replace H : (impl_NamesFrom.l1 k2 y239 (([a1] : List Int)) 0 l0_0 l0_1) = some r := by first | (rw [hy239]; with_reducible exact H) | (have H2_ := (Option.bind_some _ _).symm.trans H; rw [hy239]; with_reducible exact H2_) | (have H2_ := (Option.bind_some _ _).symm.trans H; with_reducible exact H2_) | with_reducible exact H | (rw [hy239]; exact H) | exact H
 have Ny239 := Aside0.mk hy239
 clear hy239
 obtain ⟨y240, hy240⟩ : ∃ y_ : List Int, y_ = (([a1] : List Int)) := ⟨_, rfl⟩
 replace H : (impl_NamesFrom.l1 k2 y239 y240 0 l0_0 l0_1) = some r := by first | (rw [hy240]; with_reducible exact H) | (have H2_ := (Option.bind_some _ _).symm.trans H; rw [hy240]; with_reducible exact H2_) | (have H2_ := (Option.bind_some _ _).symm.trans H; with_reducible exact H2_) | with_reducible exact H | (rw [hy240]; exact H) | exact H
 have Ny240 := Aside0.mk hy240
 clear hy240
 have H' := Aside0.mk H
 clear H
 have p30 : 0 ≤ (a1 : Int) := dX
 have q30 : (a1 : Int) < ((x5_2.length : Int) : Int) := dX
 obtain ⟨go30, co30, eo30, gb30, gl30, cl30, HG30⟩ := Kd.R_form HO_5.out (by omega)
 (first | cases eo30 | (injection eo30 with ea_ en_ ec_; (first | subst ea_ | (injection ea_ with ea_; subst ea_)); subst ec_; clear en_))
 have GB30 := Aside0.mk gb30
 have GG30 := Aside0.mk HG30
 clear gb30 gl30 HG30
 obtain ⟨hx30_0, hf30_0⟩ := Kd.R_celln 0 HO_5.out (a1 : Int) p30 q30
 replace p30 := eq_true p30
 replace q30 := eq_true q30
 have HP31 := Kd.R_putg HO_5.out (a1 : Int) 0
 go_wp2_with (first | ((with_reducible refine gate_store (t := 3) (p := 40) rfl ?_); refine store_event (t := 3) (p := 40) (v := ?vo_w32) (w1 := (wr.setCell ⟨go30, (a1 : Int).toNat, none⟩ (.int .i64 0))) ?hg ?ho ?hn ?hr ?_; (case ho => rfl); (case hg => rfl); (case hn => rfl); (case hr => first | (go_simp; done) | (go_simp; rfl)); intro w32 hw; have hg : wr.grownBy w32 (some go30) := (by rw [hw]; exact HP31.2); have hp_ : Kd.R (Kd.int .i64) 3 w32 w.heap.size (fun _ => True) (.slice (some ⟨go30, 0, none⟩) x5_2.length co21) y239 := (by rw [hw, Ny239.out]; exact HP31.1); clear HP31; have n0_ := Aside0.mk (hp_); have n1_ := Aside0.mk (bgX BK233.out hg (Kd.R_ne HO_5.out BK233.out (by decide))); have n2_ := Aside0.mk ((by rw [hw]; exact below_set (HB.out) GB30.out : Below w.heap.size w w32)); clear HO_5 BK233 HB; have HO_5 := n0_; have BK233 := n1_; have HB := n2_; clear n0_ n1_ n2_ hg hw hp_) | ((with_reducible refine gate_dst (N := 42) rfl ?_); (try (refine gate_guard (by rfl) ?_; dsimp only)); refine Kd.R_lit (Kd.int .i64) _ 3 ?hg (N := 42) ?hd (xs := ([a1] : List Int)) (inner := [.int .i64 a1]) (ok := fun _ => True) (okp := fun _ => True) ?hr ?hp (fun _ hk => hk) trivial (Below.refl _ _) (Nat.le_refl _) (by simp) ?_; (case hd => rfl); (case hg => rfl); (case hr => first | (go_simp; done) | (go_simp; rfl)); (case hp => exact (Reps.one (show Kd.M (Kd.int .i64) _ _ _ a1 [.int .i64 a1] from rfl) (Reps.none _ _))); intro v241 w33 ho34 hb hg_ hnew_; clear hg_ hnew_; (first | rw [← Ny240.out] at ho34 | (simp only [Int.reduceToNat] at ho34; rw [← Ny240.out] at ho34)); have n0_ := Aside0.mk (Kd.R_elder' (rX HO_5.out) (Kd.R_base ho34) hb); have n1_ := Aside0.mk (Kd.R_lower (Kd.R_new' ho34 (Kd.R_lt (rX HO_5.out))) (below_size (bX1 HB.out GE233.out))); have n2_ := Aside0.mk (bbX BK233.out hb); have n3_ := Aside0.mk (below_step (bX1 HB.out GE233.out) hb); clear HO_5 BK233 HB; have HO_5 := n0_; have HO242 := n1_; have BK233 := n2_; have HB := n3_; clear n0_ n1_ n2_ n3_ hb ho34))
 go_loopg [7, 8] k2 (fun kq v7 v8 w' => ∃ (x5_3 : List Int) (x7_3 : List Int) (x8_3 : Int), v8 = .int .i64 x8_3 ∧ Aside0 (impl_NamesFrom.l1 kq x5_3 x7_3 x8_3 l0_0 l0_1 = some r) ∧ Aside0 (kq ≤ k2) ∧ Aside0 (Kd.R (Kd.int .i64) 3 w' w.heap.size (fun k_ => some k_ ≠ (v7 : Value).ownBlock) (.slice (some ⟨go30, 0, none⟩) x5_2.length co21) x5_3) ∧ Aside0 (Kd.R (Kd.int .i64) 3 w' w.heap.size (fun k_ => some k_ ≠ ((.slice (some ⟨go30, 0, none⟩) x5_2.length co21) : Value).ownBlock) v7 x7_3) ∧ Aside0 (w'.heap[gb233]? = some (.cells #[(.slice A0_0 l0_0.length c0_0), (.slice A0_1 l0_1.length c0_1)] 25 (0, 0))) ∧ Aside0 (Below w.heap.size w w'))
 case atStart => exact ⟨(y239), (y240), (0), vX, H', ⟨Nat.le_refl _⟩, ⟨by (try simp only [hl5_2]); (with_reducible repeat (first|apply rA|apply rN|apply rD)); exact Kd.R_mono HO_5.out (fun _ hk => hk.2)⟩, ⟨by (try simp only [hl5_2]); (with_reducible repeat (first|apply rA|apply rN|apply rD)); exact Kd.R_mono HO242.out (fun _ hk => hk.2)⟩, ⟨by (try simp only [hl5_2]); (with_reducible repeat (first|refine kN ?_ _|refine kD ?_|refine kA ?_ _)); exact BK233.out⟩, ⟨bX1 HB.out GE233.out⟩⟩
 case round =>
 clear H'
 try clear c1
 try clear c2
 try clear p2
 try clear q2
 try clear hx2
 try clear hf2
 try clear c3
 try clear p3
 try clear q3
 try clear hx3
 try clear hf3
 try clear c6
 try clear p6
 try clear c7
 try clear c7b0
 try clear c8
 try clear c15
 try clear c16
 try clear c16b0
 try clear c16b1
 try clear c17
 try clear c17b0
 try clear c17b1
 try clear c22
 try clear c22b0
 try clear c23
 try clear c23b0
 try clear c24
 try clear c24b0
 try clear p25
 try clear q25
 try clear hx25
 try clear hf25
 try clear c28
 try clear c28b0
 try clear c29
 try clear c29b0
 try clear p30
 try clear q30
 try clear hx30
 try clear hf30
 try clear c31
 try clear hcz10_0
 try clear hcz10_1
 try clear hcz12_0
 try clear hcz12_1
 try clear hcz13_0
 try clear hcz13_1
 try clear hcz18_0
 try clear hcz18_1
 try clear hcz8_0
 try clear hcz8_1
 try clear hfz10_0
 try clear hfz10_1
 try clear hfz12_0
 try clear hfz12_1
 try clear hfz13_0
 try clear hfz13_1
 try clear hfz18_0
 try clear hfz18_1
 try clear hfz8_0
 try clear hfz8_1
 try clear hx25_0
 try clear hx30_0
 try clear p2
 try clear p25
 try clear p30
 try clear q25
 try clear q30
 obtain ⟨x5_3, x7_3, x8_3, rfl, HA, HK3, HO_5, HO_7, BK233, HB⟩ := hrel
 have hl5_3 := (Kd.R_reads' HO_5.out).1
 rw [hl5_3] at HO_5
 (try simp only [hl5_3])
 (try simp only [hl5_3] at BK233)
 (try simp only [hl5_3] at HO_7)
 cases gk with
 | zero => exact absurd HA.out (by simp [impl_NamesFrom.l1])
 | succ k3 =>
 have H := HA.out
 clear HA
 simp only [impl_NamesFrom.l1] at H
 by_cases c35 : x8_3 < (x7_3.length : Int)
 {
 rw [if_pos c35] at H
 have c35b0 : decide (x8_3 < (x7_3.length : Int)) = true := decide_eq_true c35
 clear c35
 by_cases c36 : 0 ≤ x8_3
 {
 rw [if_pos c36] at H
 have c36b0 : decide (0 ≤ x8_3) = true := decide_eq_true c36
 clear c36
 by_cases c37 : 0 ≤ (rd x7_3 x8_3)
 {
 rw [if_pos c37] at H
 have c37b0 : decide (0 ≤ (rd x7_3 x8_3)) = true := decide_eq_true c37
 clear c37
 by_cases c38 : (rd x7_3 x8_3) < (l0_0.length : Int)
 {
 rw [if_pos c38] at H
 have c38b0 : decide ((rd x7_3 x8_3) < (l0_0.length : Int)) = true := decide_eq_true c38
 clear c38
 by_cases c39 : (rd x7_3 x8_3) < (l0_1.length : Int)
 {
 rw [if_pos c39] at H
 have c39b0 : decide ((rd x7_3 x8_3) < (l0_1.length : Int)) = true := decide_eq_true c39
 clear c39
 obtain ⟨y247, hy247⟩ : ∃ y_ : List Int, y_ = (([rd l0_0 (rd x7_3 x8_3), rd l0_1 (rd x7_3 x8_3)] : List Int)) := ⟨_, rfl⟩
 replace H : (impl_NamesFrom.l2 k3 x5_3 x7_3 x8_3 y247 (y247.length : Int) 0 l0_0 l0_1) = some r := by first | (rw [hy247]; with_reducible exact H) | (have H2_ := (Option.bind_some _ _).symm.trans H; rw [hy247]; with_reducible exact H2_) | (have H2_ := (Option.bind_some _ _).symm.trans H; with_reducible exact H2_) | with_reducible exact H | (rw [hy247]; exact H) | exact H
 have Ny247 := Aside0.mk hy247
 clear hy247
 have H' := Aside0.mk H
 clear H
 obtain ⟨Ao40, co40, eo40⟩ := Kd.R_slice HO_7.out
 subst eo40
 try go_wp2
 have n0_ := Aside0.mk (Kd.R_drew HO_5.out)
 have n1_ := Aside0.mk (Kd.R_drew HO_7.out)
 have n2_ := Aside0.mk (blk_drew BK233.out)
 have n3_ := Aside0.mk (below_drew1 HB.out)
 clear HO_5 HO_7 BK233 HB
 have HO_5 := n0_
 have HO_7 := n1_
 have BK233 := n2_
 have HB := n3_
 clear n0_ n1_ n2_ n3_
 have p243 : 0 ≤ (x8_3 : Int) := dX
 have q243 : x8_3 < (x7_3.length : Int) := dX
 obtain ⟨ad243, e243, hx243_0⟩ := Kd.at_int (Kd.R_reads' HO_7.out).2.2 x8_3 p243 q243
 cases e243
 replace p243 := eq_true p243
 replace q243 := eq_true q243
 have p244 : 0 ≤ ((rd x7_3 x8_3) : Int) := dX
 have q244 : (rd x7_3 x8_3) < (l0_0.length : Int) := dX
 obtain ⟨ad244, e244, hx244_0⟩ := Kd.at_int HR0_0.out (rd x7_3 x8_3) p244 q244
 have hw244_0 := hx244_0
 cases e244
 replace hx244_0 := (HB.out.cell (World.block_lt_of_cell? w _ hx244_0)).trans hx244_0
 replace p244 := eq_true p244
 replace q244 := eq_true q244
 have p245 : 0 ≤ (x8_3 : Int) := dX
 have q245 : x8_3 < (x7_3.length : Int) := dX
 obtain ⟨ad245, e245, hx245_0⟩ := Kd.at_int (Kd.R_reads' HO_7.out).2.2 x8_3 p245 q245
 obtain rfl : ad243 = ad245 := (by injection e245)
 replace p245 := eq_true p245
 replace q245 := eq_true q245
 have p246 : 0 ≤ ((rd x7_3 x8_3) : Int) := dX
 have q246 : (rd x7_3 x8_3) < (l0_1.length : Int) := dX
 obtain ⟨ad246, e246, hx246_0⟩ := Kd.at_int HR0_1.out (rd x7_3 x8_3) p246 q246
 have hw246_0 := hx246_0
 cases e246
 replace hx246_0 := (HB.out.cell (World.block_lt_of_cell? w _ hx246_0)).trans hx246_0
 replace p246 := eq_true p246
 replace q246 := eq_true q246
 refine start_ (n := 19) (S := fun w' => w'.cell? ⟨gb233, 0, none⟩ = some (.slice (some ad244) l0_0.length c0_0) ∧ w'.cell? ⟨gb233, 1, none⟩ = some (.slice (some ad246) l0_1.length c0_1) ∧ w'.cell? (ad243.add (x8_3).toNat) = some (.int .i64 (rd x7_3 x8_3)) ∧ w'.cell? (ad244.add ((rd x7_3 x8_3)).toNat) = some (.int .i64 (rd l0_0 (rd x7_3 x8_3))) ∧ w'.cell? (ad243.add (x8_3).toNat) = some (.int .i64 (rd x7_3 x8_3)) ∧ w'.cell? (ad246.add ((rd x7_3 x8_3)).toNat) = some (.int .i64 (rd l0_1 (rd x7_3 x8_3)))) (ds := []) #[ff,ff,ff,ff,ff,ff,ff,ff,ff,ff,ff,ff,ff,ff,ff,ff,ff,ff,ff] (by kernel_rfl) rfl rfl ⟨cz20 BK233.out, cz21 BK233.out, hx243_0, ((HB.out.cell (World.block_lt_of_cell? w _ hw244_0)).trans hw244_0), hx245_0, ((HB.out.cell (World.block_lt_of_cell? w _ hw246_0)).trans hw246_0)⟩ (fun hHeld => ?_); refine with_tabW impl_NamesFrom.tab14 impl_NamesFrom.bits14 (fun HT_ HW_ => ?_)
 generalize wr.drew = w41 at HO_5 HO_7 BK233 HB hx243_0 hx244_0 hx245_0 hx246_0 hHeld ⊢
 refine pX 0 49 (fl 19 1) rfl rfl HT_.out ?_
 refine pX 2 51 (fl 19 5) rfl rfl HT_.out ?_
 refine pX 3 52 (fl 19 13) rfl rfl HT_.out ?_
 refine pX 4 53 (fl 19 29) rfl rfl HT_.out ?_
 refine pX 8 57 (fl 19 285) rfl rfl HT_.out ?_
 refine pX 10 59 (fl 19 1309) rfl rfl HT_.out ?_
 refine pX 11 60 (fl 19 3357) rfl rfl HT_.out ?_
 refine pX 12 61 (fl 19 7453) rfl rfl HT_.out ?_
 refine pX 18 67 (fl 19 269597) rfl rfl HT_.out ?_
 refine tX6 1 50 (fl 19 269599) rfl rfl HT_.out HW_.out hHeld ?_
 refine tX6 5 54 (fl 19 269631) rfl rfl HT_.out HW_.out hHeld ?_
 refine pX 6 55 (fl 19 269695) rfl rfl HT_.out ?_
 refine tX6 7 56 (fl 19 269823) rfl rfl HT_.out HW_.out hHeld ?_
 refine tX6 9 58 (fl 19 270335) rfl rfl HT_.out HW_.out hHeld ?_
 refine tX6 13 62 (fl 19 278527) rfl rfl HT_.out HW_.out hHeld ?_
 refine pX 14 63 (fl 19 294911) rfl rfl HT_.out ?_
 refine tX6 15 64 (fl 19 327679) rfl rfl HT_.out HW_.out hHeld ?_
 refine one_ (i := 16) (N := some 65) #[tt,tt,tt,tt,tt,tt,tt,tt,tt,tt,tt,tt,tt,tt,tt,tt,tt,ff,tt] rfl rfl (one_of HT_.out (by kernel_rfl)) (by decide) (fun K hK => ?_)
 refine Kd.R_lit_step (Kd.int .i64) _ 3 ?hg (N := 65) ?hd (xs := ([rd l0_0 (rd x7_3 x8_3), rd l0_1 (rd x7_3 x8_3)] : List Int)) (inner := [.int .i64 (rd l0_0 (rd x7_3 x8_3)), .int .i64 (rd l0_1 (rd x7_3 x8_3))]) (ok := fun _ => True) (okp := fun _ => True) ?hr ?hp (fun _ hk => hk) trivial (Below.refl _ _) (Nat.le_refl _) (by simp) ?_; (case hd => rfl); (case hg => rfl); (case hr => first | (go_simp; done) | (go_simp; rfl)); (case hp => exact (Reps.one (show Kd.M (Kd.int .i64) _ _ _ (rd l0_0 (rd x7_3 x8_3)) [.int .i64 (rd l0_0 (rd x7_3 x8_3))] from rfl) (Reps.one (show Kd.M (Kd.int .i64) _ _ _ (rd l0_1 (rd x7_3 x8_3)) [.int .i64 (rd l0_1 (rd x7_3 x8_3))] from rfl) (Reps.none _ _))))
 intro v248 w42 ho43 hb hg_ hnew_
 have HS2_ := (hb.cell (World.block_lt_of_cell? _ _ (hHeld.2.2.1))).trans (hHeld.2.2.1)
 have HS4_ := (hb.cell (World.block_lt_of_cell? _ _ (hHeld.2.2.2.2.1))).trans (hHeld.2.2.2.2.1)
 clear hg_ hnew_
 (first | rw [← Ny247.out] at ho43 | (simp only [Int.reduceToNat] at ho43; rw [← Ny247.out] at ho43))
 have n0_ := Aside0.mk (Kd.R_elder' (rX HO_5.out) (Kd.R_base ho43) hb)
 have n1_ := Aside0.mk (Kd.R_elder' (rX HO_7.out) (Kd.R_base ho43) hb)
 have n2_ := Aside0.mk (Kd.R_lower (Kd.R_new' (Kd.R_new' ho43 (Kd.R_lt (rX HO_5.out))) (Kd.R_lt (rX HO_7.out))) (below_size (bX1 HB.out GE233.out)))
 have n3_ := Aside0.mk (bbX BK233.out hb)
 have n4_ := Aside0.mk (below_step (bX1 HB.out GE233.out) hb)
 clear HO_5 HO_7 BK233 HB
 have HO_5 := n0_
 have HO_7 := n1_
 have HO249 := n2_
 have BK233 := n3_
 have HB := n4_
 clear n0_ n1_ n2_ n3_ n4_ hb ho43
 obtain ⟨Ao44, co44, eo44⟩ := Kd.R_slice HO249.out
 (first | subst eo44 | (injection eo44 with f1_ f2_ f3_; have f4_ := f1_.symm; have f5_ := f3_.symm; clear f1_ f2_ f3_; subst f4_; subst f5_))
 refine hK.out _ _ ⟨cz20 BK233.out, cz21 BK233.out, HS2_, ((HB.out.cell (World.block_lt_of_cell? w _ hw244_0)).trans hw244_0), HS4_, ((HB.out.cell (World.block_lt_of_cell? w _ hw246_0)).trans hw246_0)⟩ (fun hHeld => ?_)
 clear hK K
 refine norm_ (a' := ?_) ?_ ?_
 rotate_left
 {
 show Act.put _ (some 65) _ = _
 simp only [Act.put, zA, zB, zC, i64_w, i32_w]
 rfl
 }
 refine pX 17 66 (fl 19 524287) rfl rfl HT_.out ?_
 refine done_ (done_of HT_.out (by kernel_rfl)) ?_
 try go_wp2
 go_loopg [7, 67] k3 (fun kq v7 v67 w' => ∃ (x5_4 : List Int) (x7_4 : List Int) (x67_4 : Int), v67 = .int .i64 x67_4 ∧ Aside0 (impl_NamesFrom.l2 kq x5_4 x7_4 x8_3 y247 (y247.length : Int) x67_4 l0_0 l0_1 = some r) ∧ Aside0 (kq ≤ k3) ∧ Aside0 (Kd.R (Kd.int .i64) 3 w' w.heap.size (fun k_ => some k_ ≠ (v7 : Value).ownBlock ∧ some k_ ≠ ((.slice Ao44 y247.length co44) : Value).ownBlock) (.slice (some ⟨go30, 0, none⟩) x5_3.length co21) x5_4) ∧ Aside0 (Kd.R (Kd.int .i64) 3 w' w.heap.size (fun k_ => some k_ ≠ ((.slice (some ⟨go30, 0, none⟩) x5_3.length co21) : Value).ownBlock ∧ some k_ ≠ ((.slice Ao44 y247.length co44) : Value).ownBlock) v7 x7_4) ∧ Aside0 (Kd.R (Kd.int .i64) 3 w' w.heap.size (fun k_ => some k_ ≠ ((.slice (some ⟨go30, 0, none⟩) x5_3.length co21) : Value).ownBlock ∧ some k_ ≠ (v7 : Value).ownBlock) (.slice Ao44 y247.length co44) y247) ∧ Aside0 (w'.heap[gb233]? = some (.cells #[(.slice (some ad244) l0_0.length c0_0), (.slice (some ad246) l0_1.length c0_1)] 25 (0, 0))) ∧ Aside0 (Below w.heap.size w w'))
 case atStart => exact ⟨(x5_3), (x7_3), (0), vX, H', ⟨Nat.le_refl _⟩, ⟨by (try simp only [hl5_2]); (try simp only [hl5_3]); (with_reducible repeat (first|apply rA|apply rN|apply rD)); exact HO_5.out⟩, ⟨by (try simp only [hl5_2]); (try simp only [hl5_3]); (with_reducible repeat (first|apply rA|apply rN|apply rD)); exact HO_7.out⟩, ⟨by (try simp only [hl5_2]); (try simp only [hl5_3]); (with_reducible repeat (first|apply rA|apply rN|apply rD)); exact Kd.R_mono HO249.out (fun _ hk => ⟨hk.1.2, hk.2⟩)⟩, ⟨by (try simp only [hl5_2]); (try simp only [hl5_3]); (with_reducible repeat (first|refine kN ?_ _|refine kD ?_|refine kA ?_ _)); exact BK233.out⟩, ⟨bX1 HB.out GE233.out⟩⟩
 case round =>
 clear H'
 try clear c1
 try clear c2
 try clear p2
 try clear q2
 try clear hx2
 try clear hf2
 try clear c3
 try clear p3
 try clear q3
 try clear hx3
 try clear hf3
 try clear c6
 try clear p6
 try clear c7
 try clear c7b0
 try clear c8
 try clear c15
 try clear c16
 try clear c16b0
 try clear c16b1
 try clear c17
 try clear c17b0
 try clear c17b1
 try clear c22
 try clear c22b0
 try clear c23
 try clear c23b0
 try clear c24
 try clear c24b0
 try clear p24
 try clear q24
 try clear hx24
 try clear p25
 try clear q25
 try clear hx25
 try clear hf25
 try clear c28
 try clear c28b0
 try clear c29
 try clear c29b0
 try clear p30
 try clear q30
 try clear hx30
 try clear hf30
 try clear c31
 try clear c35
 try clear c35b0
 try clear c36
 try clear c36b0
 try clear c37
 try clear c37b0
 try clear c38
 try clear c38b0
 try clear c39
 try clear c39b0
 try clear hcz10_0
 try clear hcz10_1
 try clear hcz12_0
 try clear hcz12_1
 try clear hcz13_0
 try clear hcz13_1
 try clear hcz18_0
 try clear hcz18_1
 try clear hcz8_0
 try clear hcz8_1
 try clear hfz10_0
 try clear hfz10_1
 try clear hfz12_0
 try clear hfz12_1
 try clear hfz13_0
 try clear hfz13_1
 try clear hfz18_0
 try clear hfz18_1
 try clear hfz8_0
 try clear hfz8_1
 try clear hx243_0
 try clear hx244_0
 try clear hx245_0
 try clear hx246_0
 try clear hx25_0
 try clear hx30_0
 try clear p2
 try clear p243
 try clear p244
 try clear p245
 try clear p246
 try clear p25
 try clear p3
 try clear p30
 try clear p6
 try clear q2
 try clear q243
 try clear q244
 try clear q245
 try clear q246
 try clear q25
 try clear q3
 try clear q30
 obtain ⟨x5_4, x7_4, x67_4, rfl, HA, HK4, HO_5, HO_7, HO_65, BK233, HB⟩ := hrel
 have hl5_4 := (Kd.R_reads' HO_5.out).1
 rw [hl5_4] at HO_5
 (try simp only [hl5_4])
 (try simp only [hl5_4] at BK233)
 (try simp only [hl5_4] at HO_7)
 (try simp only [hl5_4] at HO_65)
 cases gk with
 | zero => exact absurd HA.out (by simp [impl_NamesFrom.l2])
 | succ k4 =>
 have H := HA.out
 clear HA
 simp only [impl_NamesFrom.l2] at H
 by_cases c45 : x67_4 < (y247.length : Int)
 {
 rw [if_pos c45] at H
 have c45b0 : decide (x67_4 < (y247.length : Int)) = true := decide_eq_true c45
 clear c45
 by_cases c46 : 0 ≤ x67_4
 {
 rw [if_pos c46] at H
 have c46b0 : decide (0 ≤ x67_4) = true := decide_eq_true c46
 clear c46
 by_cases c47 : x67_4 < (y247.length : Int)
 {
 rw [if_pos c47] at H
 have c47b0 : decide (x67_4 < (y247.length : Int)) = true := decide_eq_true c47
 clear c47
 by_cases c48 : 0 ≤ (rd y247 x67_4)
 {
 rw [if_pos c48] at H
 have c48b0 : decide (0 ≤ (rd y247 x67_4)) = true := decide_eq_true c48
 clear c48
 by_cases c49 : (rd y247 x67_4) < (x5_4.length : Int)
 {
 rw [if_pos c49] at H
 have c49b0 : decide ((rd y247 x67_4) < (x5_4.length : Int)) = true := decide_eq_true c49
 clear c49
 by_cases c50 : (rd x5_4 (rd y247 x67_4)) < 0
 {
 rw [if_pos c50] at H
 have c50b0 : decide ((rd x5_4 (rd y247 x67_4)) < 0) = true := decide_eq_true c50
 clear c50
 obtain ⟨y252, hy252⟩ : ∃ y_ : List Int, y_ = (x5_4.set ((rd y247 x67_4) : Int).toNat (x7_4.length : Int)) := ⟨_, rfl⟩
 replace H : (if x7_4.length < 17592186044416 then (impl_NamesFrom.l2 k4 y252 (x7_4 ++ [rd y247 x67_4]) x8_3 y247 (y247.length : Int) (wrap64 (x67_4 + 1)) l0_0 l0_1) else (none)) = some r := by first | (rw [hy252]; with_reducible exact H) | (have H2_ := (Option.bind_some _ _).symm.trans H; rw [hy252]; with_reducible exact H2_) | (have H2_ := (Option.bind_some _ _).symm.trans H; with_reducible exact H2_) | with_reducible exact H | (rw [hy252]; exact H) | exact H
 have Ny252 := Aside0.mk hy252
 clear hy252
 by_cases c52 : x7_4.length < 17592186044416
 {
 rw [if_pos c52] at H
 have LMc52 := Aside0.mk c52
 clear c52
 obtain ⟨y253, hy253⟩ : ∃ y_ : List Int, y_ = (x7_4 ++ [rd y247 x67_4]) := ⟨_, rfl⟩
 replace H : (impl_NamesFrom.l2 k4 y252 y253 x8_3 y247 (y247.length : Int) (wrap64 (x67_4 + 1)) l0_0 l0_1) = some r := by first | (rw [hy253]; with_reducible exact H) | (have H2_ := (Option.bind_some _ _).symm.trans H; rw [hy253]; with_reducible exact H2_) | (have H2_ := (Option.bind_some _ _).symm.trans H; with_reducible exact H2_) | with_reducible exact H | (rw [hy253]; exact H) | exact H
 have Ny253 := Aside0.mk hy253
 clear hy253
 have H' := Aside0.mk H
 clear H
 have p250 : 0 ≤ (x67_4 : Int) := dX
 have q250 : x67_4 < (y247.length : Int) := dX
 obtain ⟨ad250, e250, hx250_0⟩ := Kd.at_int (Kd.R_reads' HO_65.out).2.2 x67_4 p250 q250
 cases e250
 replace p250 := eq_true p250
 replace q250 := eq_true q250
 have p251 : 0 ≤ ((rd y247 x67_4) : Int) := dX
 have q251 : (rd y247 x67_4) < (x5_4.length : Int) := dX
 obtain ⟨ad251, e251, hx251_0⟩ := Kd.at_int (Kd.R_reads' HO_5.out).2.2 (rd y247 x67_4) p251 q251
 obtain rfl : (⟨go30, 0, none⟩ : Addr) = ad251 := (by injection e251)
 (first | simp only [add_plain] at hx251_0 | simp only [add_at] at hx251_0 | simp only [Addr.add, Nat.zero_add] at hx251_0 | skip)
 replace p251 := eq_true p251
 replace q251 := eq_true q251
 obtain ⟨Ao53, co53, eo53⟩ := Kd.R_slice HO_7.out
 subst eo53
 have p51 : 0 ≤ ((rd y247 x67_4) : Int) := dX
 have q51 : ((rd y247 x67_4) : Int) < ((x5_4.length : Int) : Int) := dX
 obtain ⟨hx51_0, hf51_0⟩ := Kd.R_celln 0 HO_5.out ((rd y247 x67_4) : Int) p51 q51
 replace p51 := eq_true p51
 replace q51 := eq_true q51
 have HP54 := Kd.R_putg HO_5.out ((rd y247 x67_4) : Int) (x7_4.length : Int)
 go_wp2_with (first | ((with_reducible refine gate_store (t := 3) (p := 80) rfl ?_); refine store_event (t := 3) (p := 80) (v := ?vo_w55) (w1 := (wr.setCell ⟨go30, ((rd y247 x67_4) : Int).toNat, none⟩ (.int .i64 (x7_4.length : Int)))) ?hg ?ho ?hn ?hr ?_; (case ho => rfl); (case hg => rfl); (case hn => rfl); (case hr => first | (go_simp; done) | (go_simp; rfl)); intro w55 hw; have hg : wr.grownBy w55 (some go30) := (by rw [hw]; exact HP54.2); have hp_ : Kd.R (Kd.int .i64) 3 w55 w.heap.size (fun k_ => some k_ ≠ (.slice Ao53 x7_4.length co53 : Value).ownBlock ∧ some k_ ≠ (.slice (some ad250) y247.length co44 : Value).ownBlock) (.slice (some ⟨go30, 0, none⟩) x5_4.length co21) y252 := (by rw [hw, Ny252.out]; exact HP54.1); clear HP54; have n0_ := Aside0.mk (hp_); have n1_ := Aside0.mk (Kd.R_after (v := (.slice (some ⟨go30, 0, none⟩) x5_4.length co21)) (v1 := (.slice (some ⟨go30, 0, none⟩) x5_4.length co21)) (ok := (fun k_ => some k_ ≠ (.slice (some ad250) y247.length co44 : Value).ownBlock)) (rM HO_7.out (fun _ hk => ⟨hk.2, hk.1⟩)) hg (.inl rfl)); have n2_ := Aside0.mk (Kd.R_after (v := (.slice (some ⟨go30, 0, none⟩) x5_4.length co21)) (v1 := (.slice (some ⟨go30, 0, none⟩) x5_4.length co21)) (ok := (fun k_ => some k_ ≠ (.slice Ao53 x7_4.length co53 : Value).ownBlock)) (rM HO_65.out (fun _ hk => ⟨hk.2, hk.1⟩)) hg (.inl rfl)); have n3_ := Aside0.mk (bgX BK233.out hg (Kd.R_ne HO_5.out BK233.out (by decide))); have n4_ := Aside0.mk ((by rw [hw]; exact below_set (HB.out) GB30.out : Below w.heap.size w w55)); clear HO_5 HO_7 HO_65 BK233 HB; have HO_5 := n0_; have HO_7 := n1_; have HO_65 := n2_; have BK233 := n3_; have HB := n4_; clear n0_ n1_ n2_ n3_ n4_ hg hw hp_) | ((with_reducible refine gate_builtin (b := .append) (xs := #[.tmp 81, .tmp 83]) rfl ?_); (try (refine gate_guard (by rfl) ?_; dsimp only)); at_builtin; refine Kd.R_append (Kd.int .i64) (w0 := w) w.heap.size rfl (.tmp 81) (.tmp 83) 23 3 (.int .i64 0) 8 rfl Tryz.underlying23 info3 rfl (by decide) (by omega) (.slice Ao53 x7_4.length co53) x7_4 (rd y247 x67_4) [.int .i64 (rd y247 x67_4)] (fun k_ => some k_ ≠ (.slice (some ⟨go30, 0, none⟩) x5_4.length co21 : Value).ownBlock ∧ some k_ ≠ (.slice (some ad250) y247.length co44 : Value).ownBlock) (fun _ => False) rfl rfl ?aP (fun _ hk => hk.elim) ?aF ?aO ?aB ?aS ?aL ?_; (case aP => exact rfl); (case aB => exact (bX1 HB.out GE233.out)); (case aF => exact (fun k_ hk => ⟨Kd.fresh' (Kd.R_lt (rX HO_5.out)) k_ hk, Kd.fresh' (Kd.R_lt (rX HO_65.out)) k_ hk⟩)); (case aO => exact (rM HO_7.out (fun _ hk => ⟨hk.2, hk.1⟩))); (case aS => exact (below_size (bX1 HB.out GE233.out))); (case aL => have := LMc52.out; omega); intro v254 w56 ho hb hg hat; rw [← Ny253.out] at ho; have n0_ := Aside0.mk (Kd.R_after (ok := (fun k_ => some k_ ≠ (.slice (some ad250) y247.length co44 : Value).ownBlock)) (rM HO_5.out (fun _ hk => ⟨hk.2, hk.1⟩)) hg hat); have n1_ := Aside0.mk (Kd.R_after (ok := (fun k_ => some k_ ≠ (.slice (some ⟨go30, 0, none⟩) x5_4.length co21 : Value).ownBlock)) (rM HO_65.out (fun _ hk => ⟨hk.2, hk.1⟩)) hg hat); have n2_ := Aside0.mk (bgX BK233.out hg (Kd.R_ne HO_7.out BK233.out (by decide))); have n3_ := Aside0.mk (hb); have n4_ := Aside0.mk (ho); clear HO_5 HO_65 BK233 HB HO_7; have HO_5 := n0_; have HO_65 := n1_; have BK233 := n2_; have HB := n3_; have HO255 := n4_; clear n0_ n1_ n2_ n3_ n4_ ho hb hg hat))
 (try simp only [← hl5_4])
 go_roundg k4
 case measure => have := HJ2.out; have := HK2.out; have := HK3.out; have := HK4.out; omega
 case rel => exact ⟨(y252), (y253), (wrap64 (x67_4 + 1)), vX, H', ⟨by have := HJ2.out; have := HK2.out; have := HK3.out; have := HK4.out; omega⟩, ⟨by (try simp only [hl5_2]); (try simp only [hl5_3]); (try simp only [hl5_4]); (with_reducible repeat (first|apply rA|apply rN|apply rD)); exact Kd.R_mono HO_5.out (fun _ hk => ⟨hk.2, hk.1⟩)⟩, ⟨by (try simp only [hl5_2]); (try simp only [hl5_3]); (try simp only [hl5_4]); (with_reducible repeat (first|apply rA|apply rN|apply rD)); exact HO255.out⟩, ⟨by (try simp only [hl5_2]); (try simp only [hl5_3]); (try simp only [hl5_4]); (with_reducible repeat (first|apply rA|apply rN|apply rD)); exact HO_65.out⟩, ⟨by (try simp only [hl5_2]); (try simp only [hl5_3]); (try simp only [hl5_4]); (with_reducible repeat (first|refine kN ?_ _|refine kD ?_|refine kA ?_ _)); exact BK233.out⟩, ⟨bX1 HB.out GE233.out⟩⟩
 }
 {
 rw [if_neg c52] at H
 exact absurd H (by simp)
 }
 }
 {
 rw [if_neg c50] at H
 have c50b0 : decide ((rd x5_4 (rd y247 x67_4)) < 0) = false := decide_eq_false c50
 clear c50
 have H' := Aside0.mk H
 clear H
 have p250 : 0 ≤ (x67_4 : Int) := dX
 have q250 : x67_4 < (y247.length : Int) := dX
 obtain ⟨ad250, e250, hx250_0⟩ := Kd.at_int (Kd.R_reads' HO_65.out).2.2 x67_4 p250 q250
 cases e250
 replace p250 := eq_true p250
 replace q250 := eq_true q250
 have p251 : 0 ≤ ((rd y247 x67_4) : Int) := dX
 have q251 : (rd y247 x67_4) < (x5_4.length : Int) := dX
 obtain ⟨ad251, e251, hx251_0⟩ := Kd.at_int (Kd.R_reads' HO_5.out).2.2 (rd y247 x67_4) p251 q251
 obtain rfl : (⟨go30, 0, none⟩ : Addr) = ad251 := (by injection e251)
 (first | simp only [add_plain] at hx251_0 | simp only [add_at] at hx251_0 | simp only [Addr.add, Nat.zero_add] at hx251_0 | skip)
 replace p251 := eq_true p251
 replace q251 := eq_true q251
 go_wp2
 (try simp only [← hl5_4])
 go_roundg k4
 case measure => have := HJ2.out; have := HK2.out; have := HK3.out; have := HK4.out; omega
 case rel => exact ⟨(x5_4), (x7_4), (wrap64 (x67_4 + 1)), vX, H', ⟨by have := HJ2.out; have := HK2.out; have := HK3.out; have := HK4.out; omega⟩, ⟨by (try simp only [hl5_2]); (try simp only [hl5_3]); (try simp only [hl5_4]); (with_reducible repeat (first|apply rA|apply rN|apply rD)); exact HO_5.out⟩, ⟨by (try simp only [hl5_2]); (try simp only [hl5_3]); (try simp only [hl5_4]); (with_reducible repeat (first|apply rA|apply rN|apply rD)); exact HO_7.out⟩, ⟨by (try simp only [hl5_2]); (try simp only [hl5_3]); (try simp only [hl5_4]); (with_reducible repeat (first|apply rA|apply rN|apply rD)); exact HO_65.out⟩, ⟨by (try simp only [hl5_2]); (try simp only [hl5_3]); (try simp only [hl5_4]); (with_reducible repeat (first|refine kN ?_ _|refine kD ?_|refine kA ?_ _)); exact BK233.out⟩, ⟨bX1 HB.out GE233.out⟩⟩
 }
 }
 {
 rw [if_neg c49] at H
 exact absurd H (by simp)
 }
 }
 {
 rw [if_neg c48] at H
 exact absurd H (by simp)
 }
 }
 {
 rw [if_neg c47] at H
 exact absurd H (by simp)
 }
 }
 {
 rw [if_neg c46] at H
 exact absurd H (by simp)
 }
 }
 {
 rw [if_neg c45] at H
 have c45b0 : decide (x67_4 < (y247.length : Int)) = false := decide_eq_false c45
 clear c45
 have H' := Aside0.mk H
 clear H
 go_wp2
 (try simp only [← hl5_3, ← hl5_4])
 go_roundg k4
 case measure => have := HJ2.out; have := HK2.out; have := HK3.out; have := HK4.out; omega
 case rel => exact ⟨(x5_4), (x7_4), (wrap64 (x8_3 + 1)), vX, H', ⟨by have := HJ2.out; have := HK2.out; have := HK3.out; have := HK4.out; omega⟩, ⟨by (try simp only [hl5_2]); (try simp only [hl5_3]); (try simp only [hl5_4]); (with_reducible repeat (first|apply rA|apply rN|apply rD)); exact Kd.R_mono HO_5.out (fun _ hk => hk.1)⟩, ⟨by (try simp only [hl5_2]); (try simp only [hl5_3]); (try simp only [hl5_4]); (with_reducible repeat (first|apply rA|apply rN|apply rD)); exact Kd.R_mono HO_7.out (fun _ hk => hk.1)⟩, ⟨by (try simp only [hl5_2]); (try simp only [hl5_3]); (try simp only [hl5_4]); (with_reducible repeat (first|refine kN ?_ _|refine kD ?_|refine kA ?_ _)); exact BK233.out⟩, ⟨bX1 HB.out GE233.out⟩⟩
 }
 }
 {
 rw [if_neg c39] at H
 exact absurd H (by simp)
 }
 }
 {
 rw [if_neg c38] at H
 exact absurd H (by simp)
 }
 }
 {
 rw [if_neg c37] at H
 exact absurd H (by simp)
 }
 }
 {
 rw [if_neg c36] at H
 exact absurd H (by simp)
 }
 }
 {
 rw [if_neg c35] at H
 have c35b0 : decide (x8_3 < (x7_3.length : Int)) = false := decide_eq_false c35
 clear c35
 obtain rfl := Option.some.inj H
 obtain ⟨Ao57, co57, eo57⟩ := Kd.R_slice HO_7.out
 subst eo57
 go_wp2
 go_ret
 exact ⟨_, eX, by (with_reducible repeat (first|apply rA|apply rN|apply rD)); exact Kd.R_mono HO_5.out (fun _ hk => trivial), bX1 HB.out GE233.out⟩
 }
 }
 {
 rw [if_neg c29] at H
 exact absurd H (by simp)
 }
 }
 {
 rw [if_neg c28] at H
 exact absurd H (by simp)
 }
 }
 }
 {
 rw [if_neg c17] at H
 exact absurd H (by simp)
 }
 }
 {
 rw [if_neg c16] at H
 exact absurd H (by simp)
 }
 }

/-! ### impl_namedFrom: function 45 -/
def impl_namedFrom.l0 : Nat → List (S25) → Int → List Int → List Int → Option ((List (S25)))
 | 0, _, _, _, _ => none
 | k + 1, x3, x4, x257000, x257001 => (impl_CountSquares.f k x257000 x257001).bind fun t260 => (if x4 < t260 then ((impl_NamesFrom.f k x257000 x257001 x4).bind fun t261 => ((impl_RenameSurface.f k x257000 x257001 t261).bind fun bt264 => (if x3.length < 2932031007402 then (impl_namedFrom.l0 k (x3 ++ [(⟨bt264.1, bt264.2.1⟩ : S25)]) (wrap64 (x4 + 1)) x257000 x257001) else (none)))) else (some x3))
def impl_namedFrom.f (k : Nat) (l0_0 : List Int) (l0_1 : List Int) : Option ((List (S25))) := impl_namedFrom.l0 k (([] : List (S25))) 0 l0_0 l0_1
def impl_namedFrom.T5 : Bool × List (List Nat × List Nat) := (true, [([], []), ([], []), ([], []), ([1, 2], [1, 2]), ([0, 3, 3], [0, 3]), ([4], [4]), ([5], [5]), ([5], [5]), ([], []), ([8, 6, 4, 0, 1, 2, 3, 4, 5, 6, 8], [6, 8]), ([7, 9, 0, 1, 2, 3, 4, 5, 6, 7, 8, 9], [7])])
def impl_namedFrom.B5 : List Nat := [0, 0, 0, 6, 15, 31, 63, 63, 0, 383, 1023]
theorem impl_namedFrom.tab5 : rtab .any (opsOf Tryz.f45 5) = impl_namedFrom.T5 := by kernel_rfl
theorem impl_namedFrom.bits5 : waitsOk impl_namedFrom.T5.2 impl_namedFrom.B5 = true := by kernel_rfl
set_option maxHeartbeats 8000000 in
set_option maxRecDepth 100000 in
theorem impl_namedFrom.calls (k : Nat) (A0_0 : Option Addr) (c0_0 : Nat) (l0_0 : List Int) (A0_1 : Option Addr) (c0_1 : Nat) (l0_1 : List Int) (r : List (S25)) (w : World) (hr0_0 : Kd.C (Kd.int .i64) w A0_0 l0_0.length l0_0) (hc0_0 : l0_0.length ≤ c0_0) (hr0_1 : Kd.C (Kd.int .i64) w A0_1 l0_1.length l0_1) (hc0_1 : l0_1.length ≤ c0_1) (h : impl_namedFrom.f k l0_0 l0_1 = some r) :
  Calls Tryz.prog 45 #[.agg #[.slice A0_0 l0_0.length c0_0, .slice A0_1 l0_1.length c0_1]] w fun e w' => ∃ v0_ : Value, e = .returned (v0_) ∧ Kd.S k25 25 w' w.heap.size (fun _ => True) v0_ r ∧ Below w.heap.size w w' := by
 have hu25 := Tryz.underlying25
 have HR0_0 := Aside0.mk hr0_0
 have HC0_0 := Aside0.mk hc0_0
 clear hr0_0 hc0_0
 have HR0_1 := Aside0.mk hr0_1
 have HC0_1 := Aside0.mk hc0_1
 clear hr0_1 hc0_1
 have HB := Aside0.mk (Below.refl w.heap.size w)
 have H : (impl_namedFrom.l0 k (([] : List (S25))) 0 l0_0 l0_1) = some r := h
 clear h
 obtain ⟨y257, hy257⟩ : ∃ y_ : List (S25), y_ = (([] : List (S25))) := ⟨_, rfl⟩
 replace H : (impl_namedFrom.l0 k y257 0 l0_0 l0_1) = some r := by first | (rw [hy257]; with_reducible exact H) | (have H2_ := (Option.bind_some _ _).symm.trans H; rw [hy257]; with_reducible exact H2_) | (have H2_ := (Option.bind_some _ _).symm.trans H; with_reducible exact H2_) | with_reducible exact H | (rw [hy257]; exact H) | exact H
 have Ny257 := Aside0.mk hy257
 clear hy257
 have H' := Aside0.mk H
 clear H
 go_enter Tryz.func45, Tryz.ntmps45
 go_wp2_with (first | ((with_reducible refine gate_dst (N := 1) rfl ?_); refine box_event ?hg (N := 1) ?hd (cs := #[.slice A0_0 l0_0.length c0_0, .slice A0_1 l0_1.length c0_1]) (t := 25) ?hr ?_; (case hd => rfl); (case hg => rfl); (case hr => first | (go_simp; done) | (go_simp; rfl)); intro gb256 hg w2 hbox hb; have n0_ := Aside0.mk (below_step (bX HB.out) hb); have n1_ := Aside0.mk (hbox); have n2_ := Aside0.mk ((szX (below_size (bX HB.out)) hg : w.heap.size ≤ gb256)); have n3_ := Aside0.mk ((szX (below_size (bX HB.out)) hg : w.heap.size ≤ gb256)); clear HB; have HB := n0_; have BK256 := n1_; have GW256 := n2_; have GE256 := n3_; clear n0_ n1_ n2_ n3_ hb hbox hg) | ((with_reducible refine gate_dst (N := 7) rfl ?_); refine Kd.S_lit k25 _ 25 ?hg (N := 7) ?hd (xs := ([] : List (S25))) (inner := []) (ok := fun _ => True) (okp := fun _ => True) ?hr ?hp (fun _ hk => hk) trivial (Below.refl _ _) (Nat.le_refl _) (by simp) ?_; (case hd => rfl); (case hg => rfl); (case hr => first | (go_simp; done) | (go_simp; rfl)); (case hp => exact (Reps.none _ _)); intro v258 w3 ho4 hb hg_ hnew_; clear hg_ hnew_; (first | rw [← Ny257.out] at ho4 | (simp only [Int.reduceToNat] at ho4; rw [← Ny257.out] at ho4)); have n0_ := Aside0.mk (Kd.S_lower (Kd.S_newB ho4 (g := gb256) (o := .cells #[.slice A0_0 l0_0.length c0_0, .slice A0_1 l0_1.length c0_1] 25 (0, 0)) (kX BK256.out)) (below_size (bX1 HB.out GE256.out))); have n1_ := Aside0.mk (bbX BK256.out hb); have n2_ := Aside0.mk (below_step (bX1 HB.out GE256.out) hb); clear BK256 HB; have HO259 := n0_; have BK256 := n1_; have HB := n2_; clear n0_ n1_ n2_ hb ho4))
 go_loopg [3, 4] k (fun kq v3 v4 w' => ∃ (x3_1 : List (S25)) (x4_1 : Int), v4 = .int .i64 x4_1 ∧ Aside0 (impl_namedFrom.l0 kq x3_1 x4_1 l0_0 l0_1 = some r) ∧ Aside0 (kq ≤ k) ∧ Aside0 (Kd.S k25 25 w' w.heap.size (fun k_ => k_ ≠ gb256) v3 x3_1) ∧ Aside0 (w'.heap[gb256]? = some (.cells #[(.slice A0_0 l0_0.length c0_0), (.slice A0_1 l0_1.length c0_1)] 25 (0, 0))) ∧ Aside0 (Below w.heap.size w w'))
 case atStart => exact ⟨(y257), (0), vX, H', ⟨Nat.le_refl _⟩, ⟨by (with_reducible repeat (first | apply Kd.S_alloc | apply Kd.S_drewN | apply Kd.S_drew)); exact Kd.S_mono HO259.out (fun _ hk => hk.2)⟩, ⟨kX BK256.out⟩, ⟨bX1 HB.out GE256.out⟩⟩
 case round =>
 clear H'
 try clear p2
 try clear c4
 obtain ⟨x3_1, x4_1, rfl, HA, HK1, HO_3, BK256, HB⟩ := hrel
 cases gk with
 | zero => exact absurd HA.out (by simp [impl_namedFrom.l0])
 | succ k1 =>
 have H := HA.out
 clear HA
 simp only [impl_namedFrom.l0] at H
 replace H := Option.bind_eq_some_iff.mp H
 obtain ⟨t260, A50, H⟩ := H
 replace H : (if x4_1 < t260 then ((impl_NamesFrom.f k1 l0_0 l0_1 x4_1).bind fun t261 => ((impl_RenameSurface.f k1 l0_0 l0_1 t261).bind fun bt264 => (if x3_1.length < 2932031007402 then (impl_namedFrom.l0 k1 (x3_1 ++ [(⟨bt264.1, bt264.2.1⟩ : S25)]) (wrap64 (x4_1 + 1)) l0_0 l0_1) else (none)))) else (some x3_1)) = some r := H
 have A5 := Aside0.mk A50
 clear A50
 by_cases c6 : x4_1 < t260
 {
 rw [if_pos c6] at H
 have c6b0 : decide (x4_1 < t260) = true := decide_eq_true c6
 clear c6
 replace H := Option.bind_eq_some_iff.mp H
 obtain ⟨t261, A70, H⟩ := H
 replace H : ((impl_RenameSurface.f k1 l0_0 l0_1 t261).bind fun bt264 => (if x3_1.length < 2932031007402 then (impl_namedFrom.l0 k1 (x3_1 ++ [(⟨bt264.1, bt264.2.1⟩ : S25)]) (wrap64 (x4_1 + 1)) l0_0 l0_1) else (none))) = some r := H
 have A7 := Aside0.mk A70
 clear A70
 replace H := Option.bind_eq_some_iff.mp H
 obtain ⟨⟨t264, t267, t270⟩, A80, H⟩ := H
 replace H : (if x3_1.length < 2932031007402 then (impl_namedFrom.l0 k1 (x3_1 ++ [(⟨t264, t267⟩ : S25)]) (wrap64 (x4_1 + 1)) l0_0 l0_1) else (none)) = some r := H
 have A8 := Aside0.mk A80
 clear A80
 by_cases c9 : x3_1.length < 2932031007402
 {
 rw [if_pos c9] at H
 have LMc9 := Aside0.mk c9
 clear c9
 obtain ⟨y272, hy272⟩ : ∃ y_ : List (S25), y_ = (x3_1 ++ [(⟨t264, t267⟩ : S25)]) := ⟨_, rfl⟩
 replace H : (impl_namedFrom.l0 k1 y272 (wrap64 (x4_1 + 1)) l0_0 l0_1) = some r := by first | (rw [hy272]; with_reducible exact H) | (have H2_ := (Option.bind_some _ _).symm.trans H; rw [hy272]; with_reducible exact H2_) | (have H2_ := (Option.bind_some _ _).symm.trans H; with_reducible exact H2_) | with_reducible exact H | (rw [hy272]; exact H) | exact H
 have Ny272 := Aside0.mk hy272
 clear hy272
 have H' := Aside0.mk H
 clear H
 have hcz10_0 := cz20 BK256.out
 have hcz10_1 := cz21 BK256.out
 have hfz10_0 := blk_frozen BK256.out 0
 have hfz10_1 := blk_frozen BK256.out 1
 try go_wp2_with (first | ((with_reducible refine gate_callee (f := 32) rfl ?_); refine goesL_ (some 10) rfl rfl Tryz.func32 (by kernel_rfl) rfl #[.agg #[.slice A0_0 l0_0.length c0_0, .slice A0_1 l0_1.length c0_1]] rfl aX ?_; (with_reducible refine (impl_CountSquares.calls k1 _ _ l0_0 _ _ l0_1 t260 _ ?side1 ?side2 ?side3 ?side4 A5.out).mono ?_); (case side1 => exact cX (Kd.C_below HR0_0.out HB.out)); (case side2 => exact HC0_0.out); (case side3 => exact cX (Kd.C_below HR0_1.out HB.out)); (case side4 => exact HC0_1.out); rintro e w11 ⟨rfl, hb⟩; refine ⟨_, rfl, ?_⟩; have n0_ := Aside0.mk (Kd.S_below (by (with_reducible repeat (first | apply Kd.S_alloc | apply Kd.S_drewN | apply Kd.S_drew)); exact HO_3.out) hb); have n1_ := Aside0.mk (bbX BK256.out hb); have n2_ := Aside0.mk (below_step (bX1 HB.out GE256.out) hb); clear HO_3 BK256 HB; have HO_3 := n0_; have BK256 := n1_; have HB := n2_; clear n0_ n1_ n2_; (try clear hb); (try clear hb2); (try clear hk); (try clear hi)))
 have n0_ := Aside0.mk (Kd.S_drew HO_3.out)
 have n1_ := Aside0.mk (blk_drew BK256.out)
 have n2_ := Aside0.mk (below_drew1 HB.out)
 clear HO_3 BK256 HB
 have HO_3 := n0_
 have BK256 := n1_
 have HB := n2_
 clear n0_ n1_ n2_
 refine start_ (n := 11) (S := fun w' => w'.cell? ⟨gb256, 0, none⟩ = some (.slice A0_0 l0_0.length c0_0) ∧ w'.cell? ⟨gb256, 1, none⟩ = some (.slice A0_1 l0_1.length c0_1)) (ds := []) #[ff,ff,ff,ff,ff,ff,ff,ff,ff,ff,ff] (by kernel_rfl) rfl rfl ⟨cz20 BK256.out, cz21 BK256.out⟩ (fun hHeld => ?_); refine with_tabW impl_namedFrom.tab5 impl_namedFrom.bits5 (fun HT_ HW_ => ?_)
 generalize w11.drew = w12 at HO_3 BK256 HB hHeld ⊢
 refine pX 2 17 (fl 11 4) rfl rfl HT_.out ?_
 refine tX2 0 15 (fl 11 5) rfl rfl HT_.out HW_.out hHeld ?_
 refine tX2 1 16 (fl 11 7) rfl rfl HT_.out HW_.out hHeld ?_
 refine join_ (σ := Value × Value × Value × Nat) 2 #[tt,tt,tt,tt,tt,tt,tt,tt,tt,ff,ff] (fun s_ => [(18, s_.1), (19, .tuple #[.agg #[s_.2.1, s_.2.2.1], .bool t270]), (5, .pointer (some ⟨s_.2.2.2, 0, none⟩)), (14, .tuple #[.agg #[s_.2.1, s_.2.2.1], .bool t270]), (20, .agg #[s_.2.1, s_.2.2.1]), (21, .bool t270)]) (fun s_ w' => (w'.cell? ⟨gb256, 0, none⟩ = some (.slice A0_0 l0_0.length c0_0) ∧ w'.cell? ⟨gb256, 1, none⟩ = some (.slice A0_1 l0_1.length c0_1)) ∧ (Kd.R (Kd.int .i64) 3 w' w.heap.size (fun k_ => some k_ ≠ (s_.2.1 : Value).ownBlock ∧ some k_ ≠ (s_.2.2.1 : Value).ownBlock) s_.1 t261) ∧ (Kd.R (Kd.int .i64) 3 w' w.heap.size (fun k_ => some k_ ≠ (s_.1 : Value).ownBlock ∧ some k_ ≠ (s_.2.2.1 : Value).ownBlock) s_.2.1 t264) ∧ (Kd.R (Kd.int .i64) 3 w' w.heap.size (fun k_ => some k_ ≠ (s_.1 : Value).ownBlock ∧ some k_ ≠ (s_.2.1 : Value).ownBlock) s_.2.2.1 t267) ∧ (Kd.S k25 25 w' w.heap.size (fun k_ => some k_ ≠ (s_.1 : Value).ownBlock ∧ some k_ ≠ (s_.2.1 : Value).ownBlock ∧ some k_ ≠ (s_.2.2.1 : Value).ownBlock ∧ k_ ≠ gb256 ∧ k_ ≠ s_.2.2.2) u3 x3_1) ∧ (w'.heap[gb256]? = some (.cells #[.slice A0_0 l0_0.length c0_0, .slice A0_1 l0_1.length c0_1] 25 (0, 0))) ∧ (w'.heap[s_.2.2.2]? = some (.cells #[.slice none 0 0, .slice none 0 0] 25 (0, 0))) ∧ (w.heap.size ≤ s_.2.2.2) ∧ (w.heap.size ≤ s_.2.2.2) ∧ (gb256 ≠ s_.2.2.2) ∧ (s_.2.2.2 ≠ gb256) ∧ (Below w.heap.size w w')) ?_ ?_
 rotate_left
 {
 intro hCont
 refine two_ (i := 3) (j := 8) (Ni := some 18) (Nj := some 5) #[tt,tt,tt,tt,ff,ff,ff,ff,ff,ff,ff] #[tt,tt,tt,ff,ff,ff,ff,ff,tt,ff,ff] rfl rfl rfl rfl (two_of HT_.out (by kernel_rfl)) (by decide) (by decide) (fun K hK => ?_) (fun K hK => ?_)
 {
 skip
 refine goes_ Tryz.func84 (by kernel_rfl) rfl #[.agg #[.slice A0_0 l0_0.length c0_0, .slice A0_1 l0_1.length c0_1], .int .i64 x4_1] (by rfl) rfl rfl aX ?_
 with_reducible refine (impl_NamesFrom.calls k1 _ _ l0_0 _ _ l0_1 x4_1 t261 _ ?side1 ?side2 ?side3 ?side4 A7.out).mono ?_
 (case side1 => exact cX (Kd.C_below HR0_0.out HB.out))
 (case side2 => exact HC0_0.out)
 (case side3 => exact cX (Kd.C_below HR0_1.out HB.out))
 (case side4 => exact HC0_1.out)
 rintro e w13 ⟨v262, rfl, ho0, hb⟩
 refine ⟨_, rfl, ?_⟩
 have n0_ := Aside0.mk (Kd.S_elder' (by (with_reducible repeat (first | apply Kd.S_alloc | apply Kd.S_drewN | apply Kd.S_drew)); exact HO_3.out) (Kd.R_base ho0) hb)
 have n1_ := Aside0.mk (Kd.R_lower ho0 (below_size (bX1 HB.out GE256.out)))
 have n2_ := Aside0.mk (bbX BK256.out hb)
 have n3_ := Aside0.mk (below_step (bX1 HB.out GE256.out) hb)
 clear HO_3 BK256 HB
 have HO_3 := n0_
 have HO263 := n1_
 have BK256 := n2_
 have HB := n3_
 clear n0_ n1_ n2_ n3_
 (try clear hb)
 (try clear hb2)
 (try clear hk)
 (try clear hi)
 (try clear ho0)
 obtain ⟨Ao14, co14, eo14⟩ := Kd.R_slice HO263.out
 (first | subst eo14 | (injection eo14 with f1_ f2_ f3_; have f4_ := f1_.symm; have f5_ := f3_.symm; clear f1_ f2_ f3_; subst f4_; subst f5_))
 refine hK.out _ _ ⟨cz20 BK256.out, cz21 BK256.out⟩ (fun hHeld => ?_)
 clear hK K
 refine norm_ (a' := ?_) ?_ ?_
 rotate_left
 {
 show Act.put _ (some 18) _ = _
 simp only [Act.put, zA, zB, zC, i64_w, i32_w]
 rfl
 }
 refine two_ (i := 4) (j := 8) (Ni := some 19) (Nj := some 5) #[tt,tt,tt,tt,tt,ff,ff,ff,ff,ff,ff] #[tt,tt,tt,tt,ff,ff,ff,ff,tt,ff,ff] rfl rfl rfl rfl (two_of HT_.out (by kernel_rfl)) (by decide) (by decide) (fun K hK => ?_) (fun K hK => ?_)
 {
 skip
 refine goes_ Tryz.func83 (by kernel_rfl) rfl #[.agg #[.slice A0_0 l0_0.length c0_0, .slice A0_1 l0_1.length c0_1], .slice Ao14 t261.length co14] (by rfl) rfl rfl aX ?_
 with_reducible refine (impl_RenameSurface.calls k1 _ _ l0_0 _ _ l0_1 _ _ t261 t264 t267 t270 _ ?side1 ?side2 ?side3 ?side4 ?side5 ?side6 A8.out).mono ?_
 (case side1 => exact cX (Kd.C_below HR0_0.out HB.out))
 (case side2 => exact HC0_0.out)
 (case side3 => exact cX (Kd.C_below HR0_1.out HB.out))
 (case side4 => exact HC0_1.out)
 (case side5 => exact cX (Kd.R_reads' HO263.out).2.2)
 (case side6 => exact (Kd.R_reads' HO263.out).2.1)
 rintro e w15 ⟨v265, v268, rfl, ho0, ho1, hb⟩
 refine ⟨_, rfl, ?_⟩
 have n0_ := Aside0.mk (Kd.S_mono (Kd.S_told (Kd.S_told (Kd.S_old (by (with_reducible repeat (first | apply Kd.S_alloc | apply Kd.S_drewN | apply Kd.S_drew)); exact HO_3.out) hb) (Kd.R_base ho0)) (Kd.R_base ho1)) (fun _ h_ => h_.1))
 have n1_ := Aside0.mk (Kd.R_mono (Kd.R_told (Kd.R_told (Kd.R_old (rX HO263.out) hb) (Kd.R_base ho0)) (Kd.R_base ho1)) (fun _ h_ => h_.1))
 have n2_ := Aside0.mk (Kd.R_lower (Kd.R_new' ho0 (Kd.R_lt (rX HO263.out))) (below_size (bX1 HB.out GE256.out)))
 have n3_ := Aside0.mk (Kd.R_lower (Kd.R_new' ho1 (Kd.R_lt (rX HO263.out))) (below_size (bX1 HB.out GE256.out)))
 have n4_ := Aside0.mk (bbX BK256.out hb)
 have n5_ := Aside0.mk (below_step (bX1 HB.out GE256.out) hb)
 clear HO_3 HO263 BK256 HB
 have HO_3 := n0_
 have HO263 := n1_
 have HO266 := n2_
 have HO269 := n3_
 have BK256 := n4_
 have HB := n5_
 clear n0_ n1_ n2_ n3_ n4_ n5_
 (try clear hb)
 (try clear hb2)
 (try clear hk)
 (try clear hi)
 (try clear ho0)
 (try clear ho1)
 refine hK.out _ _ ⟨cz20 BK256.out, cz21 BK256.out⟩ (fun hHeld => ?_)
 clear hK K
 refine norm_ (a' := ?_) ?_ ?_
 rotate_left
 {
 show Act.put _ (some 19) _ = _
 simp only [Act.put, zA, zB, zC, i64_w, i32_w]
 rfl
 }
 refine pX 5 14 (fl 11 63) rfl rfl HT_.out ?_
 refine pX 6 20 (fl 11 127) rfl rfl HT_.out ?_
 refine pX 7 21 (fl 11 255) rfl rfl HT_.out ?_
 refine one_ (i := 8) (N := some 5) #[tt,tt,tt,tt,tt,tt,tt,tt,tt,ff,ff] rfl rfl (one_of HT_.out (by kernel_rfl)) (by decide) (fun K hK => ?_)
 refine box_step ?hg (N := 5) ?hd (cs := #[.slice none 0 0, .slice none 0 0]) (t := 25) ?hr ?_; (case hd => rfl); (case hg => rfl); (case hr => first | (go_simp; done) | (go_simp; rfl))
 intro gb271 hg w16 hbox hb
 have n0_ := Aside0.mk (Kd.S_below (Kd.S_elderB (by (with_reducible repeat (first | apply Kd.S_alloc | apply Kd.S_drewN | apply Kd.S_drew)); exact HO_3.out) gb271 (Nat.le_of_eq hg.symm)) hb)
 have n1_ := Aside0.mk (Kd.R_below (rX HO263.out) hb)
 have n2_ := Aside0.mk (Kd.R_below (rX HO266.out) hb)
 have n3_ := Aside0.mk (Kd.R_below (rX HO269.out) hb)
 have n4_ := Aside0.mk (bbX BK256.out hb)
 have n5_ := Aside0.mk (below_step (bX1 HB.out GE256.out) hb)
 have n6_ := Aside0.mk (hbox)
 have n7_ := Aside0.mk ((szX (below_size (bX1 HB.out GE256.out)) hg : w.heap.size ≤ gb271))
 have n8_ := Aside0.mk ((szX (below_size (bX1 HB.out GE256.out)) hg : w.heap.size ≤ gb271))
 have n9_ := Aside0.mk (neX BK256.out hg)
 have n10_ := Aside0.mk (nfX BK256.out hg)
 clear HO_3 HO263 HO266 HO269 BK256 HB
 have HO_3 := n0_
 have HO263 := n1_
 have HO266 := n2_
 have HO269 := n3_
 have BK256 := n4_
 have HB := n5_
 have BK271 := n6_
 have GW271 := n7_
 have GE271 := n8_
 have NB256_271 := n9_
 have NB271_256 := n10_
 clear n0_ n1_ n2_ n3_ n4_ n5_ n6_ n7_ n8_ n9_ n10_ hb hbox hg
 refine hK.out _ _ ⟨cz20 BK256.out, cz21 BK256.out⟩ (fun hHeld => ?_)
 clear hK K
 refine norm_ (a' := ?_) ?_ ?_
 rotate_left
 {
 show Act.put _ (some 5) _ = _
 simp only [Act.put, zA, zB, zC, i64_w, i32_w]
 rfl
 }
 exact norm_ (by simp only [putAll, Act.put, List.setIfInBounds_toArray, List.set_cons_zero, List.set_cons_succ]) (hCont (.slice Ao14 t261.length co14, v265, v268, gb271) _ ⟨hHeld, (rM HO263.out (fun _ hk => ⟨hk.1.2, hk.2⟩)), (rM HO266.out (fun _ hk => ⟨hk.2, hk.1⟩)), (rM HO269.out (fun _ hk => ⟨hk.2, hk.1⟩)), (by (with_reducible repeat (first | apply Kd.S_alloc | apply Kd.S_drewN | apply Kd.S_drew)); exact Kd.S_mono HO_3.out (fun _ hk => ⟨hk.1.1.1.2, ⟨hk.1.1.2, ⟨hk.1.2, ⟨hk.1.1.1.1, hk.2⟩⟩⟩⟩)), (kX BK256.out), (kX BK271.out), GW271.out, GE271.out, NB256_271.out, NB271_256.out, (bX2 HB.out GE256.out GE271.out)⟩)
 }
 {
 skip
 refine box_step ?hg (N := 5) ?hd (cs := #[.slice none 0 0, .slice none 0 0]) (t := 25) ?hr ?_; (case hd => rfl); (case hg => rfl); (case hr => first | (go_simp; done) | (go_simp; rfl))
 intro gb271 hg w14 hbox hb
 have n0_ := Aside0.mk (Kd.S_below (Kd.S_elderB (by (with_reducible repeat (first | apply Kd.S_alloc | apply Kd.S_drewN | apply Kd.S_drew)); exact HO_3.out) gb271 (Nat.le_of_eq hg.symm)) hb)
 have n1_ := Aside0.mk (Kd.R_below (rX HO263.out) hb)
 have n2_ := Aside0.mk (bbX BK256.out hb)
 have n3_ := Aside0.mk (below_step (bX1 HB.out GE256.out) hb)
 have n4_ := Aside0.mk (hbox)
 have n5_ := Aside0.mk ((szX (below_size (bX1 HB.out GE256.out)) hg : w.heap.size ≤ gb271))
 have n6_ := Aside0.mk ((szX (below_size (bX1 HB.out GE256.out)) hg : w.heap.size ≤ gb271))
 have n7_ := Aside0.mk (neX BK256.out hg)
 have n8_ := Aside0.mk (nfX BK256.out hg)
 clear HO_3 HO263 BK256 HB
 have HO_3 := n0_
 have HO263 := n1_
 have BK256 := n2_
 have HB := n3_
 have BK271 := n4_
 have GW271 := n5_
 have GE271 := n6_
 have NB256_271 := n7_
 have NB271_256 := n8_
 clear n0_ n1_ n2_ n3_ n4_ n5_ n6_ n7_ n8_ hb hbox hg
 obtain ⟨Ao15, co15, eo15⟩ := Kd.R_slice HO263.out
 (first | subst eo15 | (injection eo15 with f1_ f2_ f3_; have f4_ := f1_.symm; have f5_ := f3_.symm; clear f1_ f2_ f3_; subst f4_; subst f5_))
 refine hK.out _ _ ⟨cz20 BK256.out, cz21 BK256.out⟩ (fun hHeld => ?_)
 clear hK K
 refine norm_ (a' := ?_) ?_ ?_
 rotate_left
 {
 show Act.put _ (some 5) _ = _
 simp only [Act.put, zA, zB, zC, i64_w, i32_w]
 rfl
 }
 refine one_ (i := 4) (N := some 19) #[tt,tt,tt,tt,tt,ff,ff,ff,tt,ff,ff] rfl rfl (one_of HT_.out (by kernel_rfl)) (by decide) (fun K hK => ?_)
 refine goes_ Tryz.func83 (by kernel_rfl) rfl #[.agg #[.slice A0_0 l0_0.length c0_0, .slice A0_1 l0_1.length c0_1], .slice Ao15 t261.length co15] (by rfl) rfl rfl aX ?_
 with_reducible refine (impl_RenameSurface.calls k1 _ _ l0_0 _ _ l0_1 _ _ t261 t264 t267 t270 _ ?side1 ?side2 ?side3 ?side4 ?side5 ?side6 A8.out).mono ?_
 (case side1 => exact cX (Kd.C_below HR0_0.out HB.out))
 (case side2 => exact HC0_0.out)
 (case side3 => exact cX (Kd.C_below HR0_1.out HB.out))
 (case side4 => exact HC0_1.out)
 (case side5 => exact cX (Kd.R_reads' HO263.out).2.2)
 (case side6 => exact (Kd.R_reads' HO263.out).2.1)
 rintro e w16 ⟨v265, v268, rfl, ho0, ho1, hb⟩
 refine ⟨_, rfl, ?_⟩
 have n0_ := Aside0.mk (Kd.S_mono (Kd.S_told (Kd.S_told (Kd.S_old (by (with_reducible repeat (first | apply Kd.S_alloc | apply Kd.S_drewN | apply Kd.S_drew)); exact HO_3.out) hb) (Kd.R_base ho0)) (Kd.R_base ho1)) (fun _ h_ => h_.1))
 have n1_ := Aside0.mk (Kd.R_mono (Kd.R_told (Kd.R_told (Kd.R_old (rX HO263.out) hb) (Kd.R_base ho0)) (Kd.R_base ho1)) (fun _ h_ => h_.1))
 have n2_ := Aside0.mk (Kd.R_lower (Kd.R_new' ho0 (Kd.R_lt (rX HO263.out))) (below_size (bX2 HB.out GE256.out GE271.out)))
 have n3_ := Aside0.mk (Kd.R_lower (Kd.R_new' ho1 (Kd.R_lt (rX HO263.out))) (below_size (bX2 HB.out GE256.out GE271.out)))
 have n4_ := Aside0.mk (bbX BK256.out hb)
 have n5_ := Aside0.mk (bbX BK271.out hb)
 have n6_ := Aside0.mk (below_step (bX2 HB.out GE256.out GE271.out) hb)
 clear HO_3 HO263 BK256 BK271 HB
 have HO_3 := n0_
 have HO263 := n1_
 have HO266 := n2_
 have HO269 := n3_
 have BK256 := n4_
 have BK271 := n5_
 have HB := n6_
 clear n0_ n1_ n2_ n3_ n4_ n5_ n6_
 (try clear hb)
 (try clear hb2)
 (try clear hk)
 (try clear hi)
 (try clear ho0)
 (try clear ho1)
 refine hK.out _ _ ⟨cz20 BK256.out, cz21 BK256.out⟩ (fun hHeld => ?_)
 clear hK K
 refine norm_ (a' := ?_) ?_ ?_
 rotate_left
 {
 show Act.put _ (some 19) _ = _
 simp only [Act.put, zA, zB, zC, i64_w, i32_w]
 rfl
 }
 refine pX 5 14 (fl 11 319) rfl rfl HT_.out ?_
 refine pX 6 20 (fl 11 383) rfl rfl HT_.out ?_
 refine pX 7 21 (fl 11 511) rfl rfl HT_.out ?_
 exact norm_ (by simp only [putAll, Act.put, List.setIfInBounds_toArray, List.set_cons_zero, List.set_cons_succ]) (hCont (.slice Ao15 t261.length co15, v265, v268, gb271) _ ⟨hHeld, (rM HO263.out (fun _ hk => ⟨hk.1.2, hk.2⟩)), (rM HO266.out (fun _ hk => ⟨hk.2, hk.1⟩)), (rM HO269.out (fun _ hk => ⟨hk.2, hk.1⟩)), (by (with_reducible repeat (first | apply Kd.S_alloc | apply Kd.S_drewN | apply Kd.S_drew)); exact Kd.S_mono HO_3.out (fun _ hk => ⟨hk.1.1.1.2, ⟨hk.1.2, ⟨hk.2, ⟨hk.1.1.1.1, hk.1.1.2⟩⟩⟩⟩)), (kX BK256.out), (kX BK271.out), GW271.out, GE271.out, NB256_271.out, NB271_256.out, (bX2 HB.out GE256.out GE271.out)⟩)
 }
 }
 {
 skip
 refine box_step ?hg (N := 5) ?hd (cs := #[.slice none 0 0, .slice none 0 0]) (t := 25) ?hr ?_; (case hd => rfl); (case hg => rfl); (case hr => first | (go_simp; done) | (go_simp; rfl))
 intro gb271 hg w13 hbox hb
 have n0_ := Aside0.mk (Kd.S_below (Kd.S_elderB (by (with_reducible repeat (first | apply Kd.S_alloc | apply Kd.S_drewN | apply Kd.S_drew)); exact HO_3.out) gb271 (Nat.le_of_eq hg.symm)) hb)
 have n1_ := Aside0.mk (bbX BK256.out hb)
 have n2_ := Aside0.mk (below_step (bX1 HB.out GE256.out) hb)
 have n3_ := Aside0.mk (hbox)
 have n4_ := Aside0.mk ((szX (below_size (bX1 HB.out GE256.out)) hg : w.heap.size ≤ gb271))
 have n5_ := Aside0.mk ((szX (below_size (bX1 HB.out GE256.out)) hg : w.heap.size ≤ gb271))
 have n6_ := Aside0.mk (neX BK256.out hg)
 have n7_ := Aside0.mk (nfX BK256.out hg)
 clear HO_3 BK256 HB
 have HO_3 := n0_
 have BK256 := n1_
 have HB := n2_
 have BK271 := n3_
 have GW271 := n4_
 have GE271 := n5_
 have NB256_271 := n6_
 have NB271_256 := n7_
 clear n0_ n1_ n2_ n3_ n4_ n5_ n6_ n7_ hb hbox hg
 refine hK.out _ _ ⟨cz20 BK256.out, cz21 BK256.out⟩ (fun hHeld => ?_)
 clear hK K
 refine norm_ (a' := ?_) ?_ ?_
 rotate_left
 {
 show Act.put _ (some 5) _ = _
 simp only [Act.put, zA, zB, zC, i64_w, i32_w]
 rfl
 }
 refine one_ (i := 3) (N := some 18) #[tt,tt,tt,tt,ff,ff,ff,ff,tt,ff,ff] rfl rfl (one_of HT_.out (by kernel_rfl)) (by decide) (fun K hK => ?_)
 refine goes_ Tryz.func84 (by kernel_rfl) rfl #[.agg #[.slice A0_0 l0_0.length c0_0, .slice A0_1 l0_1.length c0_1], .int .i64 x4_1] (by rfl) rfl rfl aX ?_
 with_reducible refine (impl_NamesFrom.calls k1 _ _ l0_0 _ _ l0_1 x4_1 t261 _ ?side1 ?side2 ?side3 ?side4 A7.out).mono ?_
 (case side1 => exact cX (Kd.C_below HR0_0.out HB.out))
 (case side2 => exact HC0_0.out)
 (case side3 => exact cX (Kd.C_below HR0_1.out HB.out))
 (case side4 => exact HC0_1.out)
 rintro e w14 ⟨v262, rfl, ho0, hb⟩
 refine ⟨_, rfl, ?_⟩
 have n0_ := Aside0.mk (Kd.S_elder' (by (with_reducible repeat (first | apply Kd.S_alloc | apply Kd.S_drewN | apply Kd.S_drew)); exact HO_3.out) (Kd.R_base ho0) hb)
 have n1_ := Aside0.mk (Kd.R_lower ho0 (below_size (bX2 HB.out GE256.out GE271.out)))
 have n2_ := Aside0.mk (bbX BK256.out hb)
 have n3_ := Aside0.mk (bbX BK271.out hb)
 have n4_ := Aside0.mk (below_step (bX2 HB.out GE256.out GE271.out) hb)
 clear HO_3 BK256 BK271 HB
 have HO_3 := n0_
 have HO263 := n1_
 have BK256 := n2_
 have BK271 := n3_
 have HB := n4_
 clear n0_ n1_ n2_ n3_ n4_
 (try clear hb)
 (try clear hb2)
 (try clear hk)
 (try clear hi)
 (try clear ho0)
 obtain ⟨Ao15, co15, eo15⟩ := Kd.R_slice HO263.out
 (first | subst eo15 | (injection eo15 with f1_ f2_ f3_; have f4_ := f1_.symm; have f5_ := f3_.symm; clear f1_ f2_ f3_; subst f4_; subst f5_))
 refine hK.out _ _ ⟨cz20 BK256.out, cz21 BK256.out⟩ (fun hHeld => ?_)
 clear hK K
 refine norm_ (a' := ?_) ?_ ?_
 rotate_left
 {
 show Act.put _ (some 18) _ = _
 simp only [Act.put, zA, zB, zC, i64_w, i32_w]
 rfl
 }
 refine one_ (i := 4) (N := some 19) #[tt,tt,tt,tt,tt,ff,ff,ff,tt,ff,ff] rfl rfl (one_of HT_.out (by kernel_rfl)) (by decide) (fun K hK => ?_)
 refine goes_ Tryz.func83 (by kernel_rfl) rfl #[.agg #[.slice A0_0 l0_0.length c0_0, .slice A0_1 l0_1.length c0_1], .slice Ao15 t261.length co15] (by rfl) rfl rfl aX ?_
 with_reducible refine (impl_RenameSurface.calls k1 _ _ l0_0 _ _ l0_1 _ _ t261 t264 t267 t270 _ ?side1 ?side2 ?side3 ?side4 ?side5 ?side6 A8.out).mono ?_
 (case side1 => exact cX (Kd.C_below HR0_0.out HB.out))
 (case side2 => exact HC0_0.out)
 (case side3 => exact cX (Kd.C_below HR0_1.out HB.out))
 (case side4 => exact HC0_1.out)
 (case side5 => exact cX (Kd.R_reads' HO263.out).2.2)
 (case side6 => exact (Kd.R_reads' HO263.out).2.1)
 rintro e w16 ⟨v265, v268, rfl, ho0, ho1, hb⟩
 refine ⟨_, rfl, ?_⟩
 have n0_ := Aside0.mk (Kd.S_mono (Kd.S_told (Kd.S_told (Kd.S_old (by (with_reducible repeat (first | apply Kd.S_alloc | apply Kd.S_drewN | apply Kd.S_drew)); exact HO_3.out) hb) (Kd.R_base ho0)) (Kd.R_base ho1)) (fun _ h_ => h_.1))
 have n1_ := Aside0.mk (Kd.R_mono (Kd.R_told (Kd.R_told (Kd.R_old (rX HO263.out) hb) (Kd.R_base ho0)) (Kd.R_base ho1)) (fun _ h_ => h_.1))
 have n2_ := Aside0.mk (Kd.R_lower (Kd.R_new' ho0 (Kd.R_lt (rX HO263.out))) (below_size (bX2 HB.out GE256.out GE271.out)))
 have n3_ := Aside0.mk (Kd.R_lower (Kd.R_new' ho1 (Kd.R_lt (rX HO263.out))) (below_size (bX2 HB.out GE256.out GE271.out)))
 have n4_ := Aside0.mk (bbX BK256.out hb)
 have n5_ := Aside0.mk (bbX BK271.out hb)
 have n6_ := Aside0.mk (below_step (bX2 HB.out GE256.out GE271.out) hb)
 clear HO_3 HO263 BK256 BK271 HB
 have HO_3 := n0_
 have HO263 := n1_
 have HO266 := n2_
 have HO269 := n3_
 have BK256 := n4_
 have BK271 := n5_
 have HB := n6_
 clear n0_ n1_ n2_ n3_ n4_ n5_ n6_
 (try clear hb)
 (try clear hb2)
 (try clear hk)
 (try clear hi)
 (try clear ho0)
 (try clear ho1)
 refine hK.out _ _ ⟨cz20 BK256.out, cz21 BK256.out⟩ (fun hHeld => ?_)
 clear hK K
 refine norm_ (a' := ?_) ?_ ?_
 rotate_left
 {
 show Act.put _ (some 19) _ = _
 simp only [Act.put, zA, zB, zC, i64_w, i32_w]
 rfl
 }
 refine pX 5 14 (fl 11 319) rfl rfl HT_.out ?_
 refine pX 6 20 (fl 11 383) rfl rfl HT_.out ?_
 refine pX 7 21 (fl 11 511) rfl rfl HT_.out ?_
 exact norm_ (by simp only [putAll, Act.put, List.setIfInBounds_toArray, List.set_cons_zero, List.set_cons_succ]) (hCont (.slice Ao15 t261.length co15, v265, v268, gb271) _ ⟨hHeld, (rM HO263.out (fun _ hk => ⟨hk.1.2, hk.2⟩)), (rM HO266.out (fun _ hk => ⟨hk.2, hk.1⟩)), (rM HO269.out (fun _ hk => ⟨hk.2, hk.1⟩)), (by (with_reducible repeat (first | apply Kd.S_alloc | apply Kd.S_drewN | apply Kd.S_drew)); exact Kd.S_mono HO_3.out (fun _ hk => ⟨hk.1.1.2, ⟨hk.1.2, ⟨hk.2, ⟨hk.1.1.1.1, hk.1.1.1.2⟩⟩⟩⟩)), (kX BK256.out), (kX BK271.out), GW271.out, GE271.out, NB256_271.out, NB271_256.out, (bX2 HB.out GE256.out GE271.out)⟩)
 }
 }
 rintro ⟨v262, v265, v268, gb271⟩ w17 ⟨hS_, h0_, h1_, h2_, h3_, h4_, h5_, h6_, h7_, h8_, h9_, h10_⟩
 have n0_ : Aside0 (Kd.R (Kd.int .i64) 3 w17 w.heap.size (fun k_ => some k_ ≠ (v265 : Value).ownBlock ∧ some k_ ≠ (v268 : Value).ownBlock) v262 t261) := ⟨h0_⟩
 have n1_ : Aside0 (Kd.R (Kd.int .i64) 3 w17 w.heap.size (fun k_ => some k_ ≠ (v262 : Value).ownBlock ∧ some k_ ≠ (v268 : Value).ownBlock) v265 t264) := ⟨h1_⟩
 have n2_ : Aside0 (Kd.R (Kd.int .i64) 3 w17 w.heap.size (fun k_ => some k_ ≠ (v262 : Value).ownBlock ∧ some k_ ≠ (v265 : Value).ownBlock) v268 t267) := ⟨h2_⟩
 have n3_ : Aside0 (Kd.S k25 25 w17 w.heap.size (fun k_ => some k_ ≠ (v262 : Value).ownBlock ∧ some k_ ≠ (v265 : Value).ownBlock ∧ some k_ ≠ (v268 : Value).ownBlock ∧ k_ ≠ gb256 ∧ k_ ≠ gb271) u3 x3_1) := ⟨h3_⟩
 have n4_ : Aside0 (w17.heap[gb256]? = some (.cells #[.slice A0_0 l0_0.length c0_0, .slice A0_1 l0_1.length c0_1] 25 (0, 0))) := ⟨h4_⟩
 have n5_ : Aside0 (w17.heap[gb271]? = some (.cells #[.slice none 0 0, .slice none 0 0] 25 (0, 0))) := ⟨h5_⟩
 have n6_ : Aside0 (w.heap.size ≤ gb271) := ⟨h6_⟩
 have n7_ : Aside0 (w.heap.size ≤ gb271) := ⟨h7_⟩
 have n8_ : Aside0 (gb256 ≠ gb271) := ⟨h8_⟩
 have n9_ : Aside0 (gb271 ≠ gb256) := ⟨h9_⟩
 have n10_ : Aside0 (Below w.heap.size w w17) := ⟨h10_⟩
 clear HO_3 BK256 HB h0_ h1_ h2_ h3_ h4_ h5_ h6_ h7_ h8_ h9_ h10_
 have HO263 := n0_
 have HO266 := n1_
 have HO269 := n2_
 have HO_3 := n3_
 have BK256 := n4_
 have BK271 := n5_
 have GW271 := n6_
 have GE271 := n7_
 have NB256_271 := n8_
 have NB271_256 := n9_
 have HB := n10_
 clear n0_ n1_ n2_ n3_ n4_ n5_ n6_ n7_ n8_ n9_ n10_
 have hHeld : w17.cell? ⟨gb256, 0, none⟩ = some (.slice A0_0 l0_0.length c0_0) ∧ w17.cell? ⟨gb256, 1, none⟩ = some (.slice A0_1 l0_1.length c0_1) := hS_
 obtain ⟨Ao18, co18, eo18⟩ := Kd.R_slice HO266.out
 (first | subst eo18 | (injection eo18 with f1_ f2_ f3_; have f4_ := f1_.symm; have f5_ := f3_.symm; clear f1_ f2_ f3_; subst f4_; subst f5_))
 obtain ⟨Ao20, co20, eo20⟩ := Kd.R_slice HO269.out
 (first | subst eo20 | (injection eo20 with f1_ f2_ f3_; have f4_ := f1_.symm; have f5_ := f3_.symm; clear f1_ f2_ f3_; subst f4_; subst f5_))
 refine norm_ (a' := ?_) ?_ ?_
 rotate_left
 {
 simp only [putAll, Act.put, List.setIfInBounds_toArray, List.set_cons_zero, List.set_cons_succ]
 rfl
 }
 refine one_ (i := 9) (N := none) #[tt,tt,tt,tt,tt,tt,tt,tt,tt,tt,ff] rfl rfl (one_of HT_.out (by kernel_rfl)) (by decide) (fun K hK => ?_)
 have hs19 : w17.cell? ⟨gb271, 0, none⟩ = some (.slice none 0 0) := cz20 BK271.out
 have hfs19 := blk_frozen BK271.out 0
 have hns19_0 := NB256_271.out
 have hms19_0 := NB271_256.out
 have hs21 : w17.cell? ⟨gb271, 1, none⟩ = some (.slice none 0 0) := cz21 BK271.out
 have hfs21 := blk_frozen BK271.out 1
 have hns21_0 := NB256_271.out
 have hms21_0 := NB271_256.out
 refine skip_ (w1 := ?_) (by rfl) rfl ?_ ?_
 rotate_left
 {
 go_simp
 rfl
 }
 refine hK.out _ _ ⟨((cell_far (p := ⟨gb271, _, none⟩) NB256_271.out _).trans (((cell_far (p := ⟨gb271, _, none⟩) NB256_271.out _).trans (hHeld.1)))), ((cell_far (p := ⟨gb271, _, none⟩) NB256_271.out _).trans (((cell_far (p := ⟨gb271, _, none⟩) NB256_271.out _).trans (hHeld.2))))⟩ (fun hHeld => ?_)
 clear hK K
 refine pX 10 6 (fl 11 2047) rfl rfl HT_.out ?_
 refine done_ (done_of HT_.out (by kernel_rfl)) ?_
 have n0_ : Aside0 (Kd.S k25 25 ((w17.setCell ⟨gb271, 0, none⟩ (.slice Ao18 t264.length co18)).setCell ⟨gb271, 1, none⟩ (.slice Ao20 t267.length co20)) w.heap.size (fun k_ => some k_ ≠ (v262 : Value).ownBlock ∧ some k_ ≠ (.slice Ao18 t264.length co18 : Value).ownBlock ∧ some k_ ≠ (.slice Ao20 t267.length co20 : Value).ownBlock ∧ k_ ≠ gb256 ∧ k_ ≠ gb271) u3 x3_1) := ⟨by (with_reducible repeat (first | apply Kd.S_alloc | apply Kd.S_drewN | apply Kd.S_drew)); exact Kd.S_mono (Kd.S_far (p := ⟨gb271, 1, none⟩) (Kd.S_far (p := ⟨gb271, 0, none⟩) (Kd.S_mono HO_3.out (fun k_ hk => (⟨hk, hk.2.2.2.2⟩ : _ ∧ k_ ≠ gb271))) (fun _ hk => hk.2) (.slice Ao18 t264.length co18)) (fun _ hk => hk.2) (.slice Ao20 t267.length co20)) (fun _ hk => ⟨hk.1.1, ⟨hk.1.2.1, ⟨hk.1.2.2.1, ⟨hk.1.2.2.2.1, hk.1.2.2.2.2⟩⟩⟩⟩)⟩
 have n1_ : Aside0 (Kd.R (Kd.int .i64) 3 ((w17.setCell ⟨gb271, 0, none⟩ (.slice Ao18 t264.length co18)).setCell ⟨gb271, 1, none⟩ (.slice Ao20 t267.length co20)) w.heap.size (fun k_ => some k_ ≠ (.slice Ao18 t264.length co18 : Value).ownBlock ∧ some k_ ≠ (.slice Ao20 t267.length co20 : Value).ownBlock) v262 t261) := ⟨by (with_reducible repeat (first|apply rA|apply rN|apply rD)); exact Kd.R_mono (Kd.R_far (p := ⟨gb271, 1, none⟩) (Kd.R_far (p := ⟨gb271, 0, none⟩) (Kd.R_types HO263.out BK271.out (by decide)) (fun _ hk => hk.2) (.slice Ao18 t264.length co18)) (fun _ hk => hk.2) (.slice Ao20 t267.length co20)) (fun _ hk => ⟨hk.1.1, hk.1.2⟩)⟩
 have n2_ : Aside0 (Kd.R (Kd.int .i64) 3 ((w17.setCell ⟨gb271, 0, none⟩ (.slice Ao18 t264.length co18)).setCell ⟨gb271, 1, none⟩ (.slice Ao20 t267.length co20)) w.heap.size (fun k_ => some k_ ≠ (v262 : Value).ownBlock ∧ some k_ ≠ (.slice Ao20 t267.length co20 : Value).ownBlock) (.slice Ao18 t264.length co18) t264) := ⟨by (with_reducible repeat (first|apply rA|apply rN|apply rD)); exact Kd.R_mono (Kd.R_far (p := ⟨gb271, 1, none⟩) (Kd.R_far (p := ⟨gb271, 0, none⟩) (Kd.R_types HO266.out BK271.out (by decide)) (fun _ hk => hk.2) (.slice Ao18 t264.length co18)) (fun _ hk => hk.2) (.slice Ao20 t267.length co20)) (fun _ hk => ⟨hk.1.1, hk.1.2⟩)⟩
 have n3_ : Aside0 (Kd.R (Kd.int .i64) 3 ((w17.setCell ⟨gb271, 0, none⟩ (.slice Ao18 t264.length co18)).setCell ⟨gb271, 1, none⟩ (.slice Ao20 t267.length co20)) w.heap.size (fun k_ => some k_ ≠ (v262 : Value).ownBlock ∧ some k_ ≠ (.slice Ao18 t264.length co18 : Value).ownBlock) (.slice Ao20 t267.length co20) t267) := ⟨by (with_reducible repeat (first|apply rA|apply rN|apply rD)); exact Kd.R_mono (Kd.R_far (p := ⟨gb271, 1, none⟩) (Kd.R_far (p := ⟨gb271, 0, none⟩) (Kd.R_types HO269.out BK271.out (by decide)) (fun _ hk => hk.2) (.slice Ao18 t264.length co18)) (fun _ hk => hk.2) (.slice Ao20 t267.length co20)) (fun _ hk => ⟨hk.1.1, hk.1.2⟩)⟩
 have n4_ : Aside0 (((w17.setCell ⟨gb271, 0, none⟩ (.slice Ao18 t264.length co18)).setCell ⟨gb271, 1, none⟩ (.slice Ao20 t267.length co20)).heap[gb256]? = some (.cells #[.slice A0_0 l0_0.length c0_0, .slice A0_1 l0_1.length c0_1] 25 (0, 0))) := ⟨by (with_reducible repeat (first|refine kN ?_ _|refine kD ?_|refine kA ?_ _)); refine blk_far ?_ NB256_271.out _; (with_reducible repeat (first|refine kN ?_ _|refine kD ?_|refine kA ?_ _)); refine blk_far ?_ NB256_271.out _; (with_reducible repeat (first|refine kN ?_ _|refine kD ?_|refine kA ?_ _)); exact BK256.out⟩
 have n5_ : Aside0 (((w17.setCell ⟨gb271, 0, none⟩ (.slice Ao18 t264.length co18)).setCell ⟨gb271, 1, none⟩ (.slice Ao20 t267.length co20)).heap[gb271]? = some (.cells #[.slice Ao18 t264.length co18, .slice Ao20 t267.length co20] 25 (0, 0))) := ⟨by (with_reducible repeat (first|refine kN ?_ _|refine kD ?_|refine kA ?_ _)); refine blk_put (cs := #[.slice Ao18 t264.length co18, .slice none 0 0]) ?_ 1 _ rfl; (with_reducible repeat (first|refine kN ?_ _|refine kD ?_|refine kA ?_ _)); refine blk_put (cs := #[.slice none 0 0, .slice none 0 0]) ?_ 0 _ rfl; (with_reducible repeat (first|refine kN ?_ _|refine kD ?_|refine kA ?_ _)); exact BK271.out⟩
 have n6_ : Aside0 (Below w.heap.size w ((w17.setCell ⟨gb271, 0, none⟩ (.slice Ao18 t264.length co18)).setCell ⟨gb271, 1, none⟩ (.slice Ao20 t267.length co20))) := ⟨bX2 HB.out GE256.out GE271.out⟩
 (try clear HO_3)
 (try clear HO263)
 (try clear HO266)
 (try clear HO269)
 (try clear BK256)
 (try clear BK271)
 (try clear HB)
 generalize ((w17.setCell ⟨gb271, 0, none⟩ (.slice Ao18 t264.length co18)).setCell ⟨gb271, 1, none⟩ (.slice Ao20 t267.length co20)) = w22 at n0_ n1_ n2_ n3_ n4_ n5_ n6_ ⊢
 have HO_3 := n0_
 have HO263 := n1_
 have HO266 := n2_
 have HO269 := n3_
 have BK256 := n4_
 have BK271 := n5_
 have HB := n6_
 clear n0_ n1_ n2_ n3_ n4_ n5_ n6_
 have hnb23 := NB271_256.out
 have hnc23 := NB256_271.out
 have hcz24_0 := cz20 BK271.out
 have hcz24_1 := cz21 BK271.out
 have hfz24_0 := blk_frozen BK271.out 0
 have hfz24_1 := blk_frozen BK271.out 1
 try go_wp2_with (first | ((with_reducible refine gate_builtin (b := .append) (xs := #[.tmp 22, .tmp 24]) rfl ?_); at_builtin; refine Kd.S_append k25 (w0 := w) w.heap.size rfl (.tmp 22) (.tmp 24) 66 25 (.agg #[(.slice none 0 0), (.slice none 0 0)]) 48 rfl Tryz.underlying66 info25 rfl (by decide) (by omega) u3 x3_1 (⟨t264, t267⟩ : S25) [.slice Ao18 t264.length co18, .slice Ao20 t267.length co20] (fun k_ => some k_ ≠ (v262 : Value).ownBlock ∧ k_ ≠ gb256 ∧ k_ ≠ gb271) (fun k_ => some k_ = (.slice Ao18 t264.length co18 : Value).ownBlock ∨ some k_ = (.slice Ao20 t267.length co20 : Value).ownBlock) rfl rfl ?aP (fun k_ hk_ => hk_.elim (fun h_ => ((Kd.R_mono (ok' := fun k_ => ((fun k_ => some k_ ≠ (v262 : Value).ownBlock ∧ k_ ≠ gb256 ∧ k_ ≠ gb271)) k_ ∧ some k_ ≠ (u3 : Value).ownBlock) (Kd.R_types (Kd.R_types (Kd.R_apart' (HO266.out) (Kd.S_typed HO_3.out) (by decide)) BK256.out (by decide)) BK271.out (by decide)) (fun k_ hk => ⟨⟨hk.1.1.1.1, ⟨hk.1.2, hk.2⟩⟩, hk.1.1.2⟩))).1 k_ h_.symm) (fun h_ => ((Kd.R_mono (ok' := fun k_ => ((fun k_ => some k_ ≠ (v262 : Value).ownBlock ∧ k_ ≠ gb256 ∧ k_ ≠ gb271)) k_ ∧ some k_ ≠ (u3 : Value).ownBlock) (Kd.R_types (Kd.R_types (Kd.R_apart' (HO269.out) (Kd.S_typed HO_3.out) (by decide)) BK256.out (by decide)) BK271.out (by decide)) (fun k_ hk => ⟨⟨hk.1.1.1.1, ⟨hk.1.2, hk.2⟩⟩, hk.1.1.2⟩))).1 k_ h_.symm)) ?aF ?aO ?aB ?aS ?aL ?_; (case aP => exact k25_mkM _ _ _ (⟨t264, t267⟩ : S25) (Kd.R_mono (Kd.R_tight rfl (Kd.R_mono (ok' := fun k_ => ((fun k_ => some k_ ≠ (v262 : Value).ownBlock ∧ k_ ≠ gb256 ∧ k_ ≠ gb271)) k_ ∧ some k_ ≠ (u3 : Value).ownBlock) (Kd.R_types (Kd.R_types (Kd.R_apart' (HO266.out) (Kd.S_typed HO_3.out) (by decide)) BK256.out (by decide)) BK271.out (by decide)) (fun k_ hk => ⟨⟨hk.1.1.1.1, ⟨hk.1.2, hk.2⟩⟩, hk.1.1.2⟩))) (fun _ h_ => Or.inl h_)) (Kd.R_mono (Kd.R_tight rfl (Kd.R_mono (ok' := fun k_ => ((fun k_ => some k_ ≠ (v262 : Value).ownBlock ∧ k_ ≠ gb256 ∧ k_ ≠ gb271)) k_ ∧ some k_ ≠ (u3 : Value).ownBlock) (Kd.R_types (Kd.R_types (Kd.R_apart' (HO269.out) (Kd.S_typed HO_3.out) (by decide)) BK256.out (by decide)) BK271.out (by decide)) (fun k_ hk => ⟨⟨hk.1.1.1.1, ⟨hk.1.2, hk.2⟩⟩, hk.1.1.2⟩))) (fun _ h_ => Or.inr (h_)))); (case aB => exact (bX2 HB.out GE256.out GE271.out)); (case aF => exact (fun k_ hk => ⟨Kd.fresh' (Kd.R_lt (rX HO263.out)) k_ hk, Kd.freshB (g := gb256) (o := .cells #[.slice A0_0 l0_0.length c0_0, .slice A0_1 l0_1.length c0_1] 25 (0, 0)) (kX BK256.out) k_ hk, Kd.freshB (g := gb271) (o := .cells #[.slice Ao18 t264.length co18, .slice Ao20 t267.length co20] 25 (0, 0)) (kX BK271.out) k_ hk⟩)); (case aO => exact (by (with_reducible repeat (first | apply Kd.S_alloc | apply Kd.S_drewN | apply Kd.S_drew)); exact Kd.S_mono HO_3.out (fun k_ hk => ⟨⟨hk.1, ⟨hk.2.2.2.1, hk.2.2.2.2⟩⟩, fun e_ => e_.elim (fun h_ => hk.2.1 h_) (fun h_ => hk.2.2.1 h_)⟩))); (case aS => exact (below_size (bX2 HB.out GE256.out GE271.out))); (case aL => have := LMc9.out; omega); intro v273 w25 ho hb hg hat; rw [← Ny272.out] at ho; have n0_ := Aside0.mk (bgX BK256.out hg (Kd.S_away HO_3.out (fun _ hk => hk.2.2.2.1))); have n1_ := Aside0.mk (Kd.R_over' (rX HO263.out) (Kd.S_typed (by (with_reducible repeat (first | apply Kd.S_alloc | apply Kd.S_drewN | apply Kd.S_drew)); exact HO_3.out)) (by decide) hg); have n2_ := Aside0.mk (bgX BK271.out hg (Kd.S_away HO_3.out (fun _ hk => hk.2.2.2.2))); have n3_ := Aside0.mk (hb); have n4_ := Aside0.mk (ho); clear BK256 HO263 BK271 HB HO_3 HO266 HO269; have BK256 := n0_; have HO263 := n1_; have BK271 := n2_; have HB := n3_; have HO274 := n4_; clear n0_ n1_ n2_ n3_ n4_ ho hb hg hat))
 go_roundg k1
 case measure => have := HK1.out; omega
 case rel => exact ⟨(y272), (wrap64 (x4_1 + 1)), vX, H', ⟨by have := HK1.out; omega⟩, ⟨by (with_reducible repeat (first | apply Kd.S_alloc | apply Kd.S_drewN | apply Kd.S_drew)); exact Kd.S_mono HO274.out (fun _ hk => hk.2.1)⟩, ⟨kX BK256.out⟩, ⟨bX2 HB.out GE256.out GE271.out⟩⟩
 }
 {
 rw [if_neg c9] at H
 exact absurd H (by simp)
 }
 }
 {
 rw [if_neg c6] at H
 have c6b0 : decide (x4_1 < t260) = false := decide_eq_false c6
 clear c6
 obtain rfl := Option.some.inj H
 have hcz26_0 := cz20 BK256.out
 have hcz26_1 := cz21 BK256.out
 have hfz26_0 := blk_frozen BK256.out 0
 have hfz26_1 := blk_frozen BK256.out 1
 go_wp2_with (first | ((with_reducible refine gate_callee (f := 32) rfl ?_); refine goesL_ (some 10) rfl rfl Tryz.func32 (by kernel_rfl) rfl #[.agg #[.slice A0_0 l0_0.length c0_0, .slice A0_1 l0_1.length c0_1]] rfl aX ?_; (with_reducible refine (impl_CountSquares.calls k1 _ _ l0_0 _ _ l0_1 t260 _ ?side1 ?side2 ?side3 ?side4 A5.out).mono ?_); (case side1 => exact cX (Kd.C_below HR0_0.out HB.out)); (case side2 => exact HC0_0.out); (case side3 => exact cX (Kd.C_below HR0_1.out HB.out)); (case side4 => exact HC0_1.out); rintro e w27 ⟨rfl, hb⟩; refine ⟨_, rfl, ?_⟩; have n0_ := Aside0.mk (Kd.S_below (by (with_reducible repeat (first | apply Kd.S_alloc | apply Kd.S_drewN | apply Kd.S_drew)); exact HO_3.out) hb); have n1_ := Aside0.mk (bbX BK256.out hb); have n2_ := Aside0.mk (below_step (bX1 HB.out GE256.out) hb); clear HO_3 BK256 HB; have HO_3 := n0_; have BK256 := n1_; have HB := n2_; clear n0_ n1_ n2_; (try clear hb); (try clear hb2); (try clear hk); (try clear hi)))
 go_ret
 exact ⟨_, eX, by (with_reducible repeat (first | apply Kd.S_alloc | apply Kd.S_drewN | apply Kd.S_drew)); exact Kd.S_mono HO_3.out (fun _ hk => trivial), bX1 HB.out GE256.out⟩
 }

/-! ### cmp_isNaN_int: function 159 -/
def cmp_isNaN_int.f (a0 : Int) : Option (Bool) := some (a0 != a0)
set_option maxHeartbeats 8000000 in
set_option maxRecDepth 100000 in
theorem cmp_isNaN_int.calls (a0 : Int) (r : Bool) (w : World) (h : cmp_isNaN_int.f a0 = some r) :
  Calls Tryz.prog 159 #[.int .i64 a0] w fun e w' => e = .returned (.bool r) ∧ Drawn0 w w' := by
 have H : (some (a0 != a0)) = some r := h
 clear h
 obtain rfl := Option.some.inj H
 go_enter Tryz.func159, Tryz.ntmps159
 go_wp2
 go_ret
 exact ⟨by first | rfl | (simp; done) | (simp [*]; done), by repeat (first | exact Drawn0.refl _ | apply Drawn0.step)⟩

/-! ### cmp_Compare_int: function 142 -/
def cmp_Compare_int.f (a0 : Int) (a1 : Int) : Option (Int) := (cmp_isNaN_int.f a0).bind fun t275 => ((cmp_isNaN_int.f a1).bind fun t276 => (if t275 = true then (if t276 = true then (some 0) else (some (-1))) else (if t276 = true then (some 1) else (if a0 < a1 then (some (-1)) else (if a0 > a1 then (some 1) else (some 0))))))
set_option maxHeartbeats 8000000 in
set_option maxRecDepth 100000 in
theorem cmp_Compare_int.calls (a0 : Int) (a1 : Int) (r : Int) (w : World) (h : cmp_Compare_int.f a0 a1 = some r) :
  Calls Tryz.prog 142 #[.int .i64 a0, .int .i64 a1] w fun e w' => e = .returned (.int .i64 r) ∧ Drawn0 w w' := by
 have H : ((cmp_isNaN_int.f a0).bind fun t275 => ((cmp_isNaN_int.f a1).bind fun t276 => (if t275 = true then (if t276 = true then (some 0) else (some (-1))) else (if t276 = true then (some 1) else (if a0 < a1 then (some (-1)) else (if a0 > a1 then (some 1) else (some 0))))))) = some r := h
 clear h
 replace H := Option.bind_eq_some_iff.mp H
 obtain ⟨t275, A30, H⟩ := H
 replace H : ((cmp_isNaN_int.f a1).bind fun t276 => (if t275 = true then (if t276 = true then (some 0) else (some (-1))) else (if t276 = true then (some 1) else (if a0 < a1 then (some (-1)) else (if a0 > a1 then (some 1) else (some 0)))))) = some r := H
 have A3 := Aside0.mk A30
 clear A30
 replace H := Option.bind_eq_some_iff.mp H
 obtain ⟨t276, A40, H⟩ := H
 replace H : (if t275 = true then (if t276 = true then (some 0) else (some (-1))) else (if t276 = true then (some 1) else (if a0 < a1 then (some (-1)) else (if a0 > a1 then (some 1) else (some 0))))) = some r := H
 have A4 := Aside0.mk A40
 clear A40
 by_cases c5 : t275 = true
 {
 subst c5
 have H1 : (if t276 = true then (some 0) else (some (-1))) = some r := by rw [if_pos rfl] at H; exact H
 clear H
 have H := H1
 clear H1
 by_cases c6 : t276 = true
 {
 subst c6
 have H1 : (some 0) = some r := by rw [if_pos rfl] at H; exact H
 clear H
 have H := H1
 clear H1
 obtain rfl := Option.some.inj H
 go_enter Tryz.func142, Tryz.ntmps142
 go_wp2_with (first | ((with_reducible refine gate_callee (f := 159) rfl ?_); refine goesL_ (some 8) rfl rfl Tryz.func159 (by kernel_rfl) rfl #[.int .i64 a0] rfl aX ?_; (with_reducible refine (cmp_isNaN_int.calls a0 true _ A3.out).mono ?_); rintro e w' ⟨rfl, ⟨nd, rfl⟩⟩; refine ⟨_, rfl, ?_⟩) | ((with_reducible refine gate_callee (f := 159) rfl ?_); refine goesL_ (some 10) rfl rfl Tryz.func159 (by kernel_rfl) rfl #[.int .i64 a1] rfl aX ?_; (with_reducible refine (cmp_isNaN_int.calls a1 true _ A4.out).mono ?_); rintro e w' ⟨rfl, ⟨nd, rfl⟩⟩; refine ⟨_, rfl, ?_⟩))
 go_ret
 exact ⟨by first | rfl | (simp; done) | (simp [*]; done), by repeat (first | exact Drawn0.refl _ | apply Drawn0.step)⟩
 }
 {
 replace c6 := Bool.eq_false_iff.mpr c6
 subst c6
 have H1 : (some (-1)) = some r := by rw [if_neg (show ¬ (false = true) by decide)] at H; exact H
 clear H
 have H := H1
 clear H1
 obtain rfl := Option.some.inj H
 go_enter Tryz.func142, Tryz.ntmps142
 go_wp2_with (first | ((with_reducible refine gate_callee (f := 159) rfl ?_); refine goesL_ (some 8) rfl rfl Tryz.func159 (by kernel_rfl) rfl #[.int .i64 a0] rfl aX ?_; (with_reducible refine (cmp_isNaN_int.calls a0 true _ A3.out).mono ?_); rintro e w' ⟨rfl, ⟨nd, rfl⟩⟩; refine ⟨_, rfl, ?_⟩) | ((with_reducible refine gate_callee (f := 159) rfl ?_); refine goesL_ (some 10) rfl rfl Tryz.func159 (by kernel_rfl) rfl #[.int .i64 a1] rfl aX ?_; (with_reducible refine (cmp_isNaN_int.calls a1 false _ A4.out).mono ?_); rintro e w' ⟨rfl, ⟨nd, rfl⟩⟩; refine ⟨_, rfl, ?_⟩))
 go_ret
 exact ⟨by first | rfl | (simp; done) | (simp [*]; done), by repeat (first | exact Drawn0.refl _ | apply Drawn0.step)⟩
 }
 }
 {
 replace c5 := Bool.eq_false_iff.mpr c5
 subst c5
 have H1 : (if t276 = true then (some 1) else (if a0 < a1 then (some (-1)) else (if a0 > a1 then (some 1) else (some 0)))) = some r := by rw [if_neg (show ¬ (false = true) by decide)] at H; exact H
 clear H
 have H := H1
 clear H1
 by_cases c7 : t276 = true
 {
 subst c7
 have H1 : (some 1) = some r := by rw [if_pos rfl] at H; exact H
 clear H
 have H := H1
 clear H1
 obtain rfl := Option.some.inj H
 go_enter Tryz.func142, Tryz.ntmps142
 go_wp2_with (first | ((with_reducible refine gate_callee (f := 159) rfl ?_); refine goesL_ (some 8) rfl rfl Tryz.func159 (by kernel_rfl) rfl #[.int .i64 a0] rfl aX ?_; (with_reducible refine (cmp_isNaN_int.calls a0 false _ A3.out).mono ?_); rintro e w' ⟨rfl, ⟨nd, rfl⟩⟩; refine ⟨_, rfl, ?_⟩) | ((with_reducible refine gate_callee (f := 159) rfl ?_); refine goesL_ (some 10) rfl rfl Tryz.func159 (by kernel_rfl) rfl #[.int .i64 a1] rfl aX ?_; (with_reducible refine (cmp_isNaN_int.calls a1 true _ A4.out).mono ?_); rintro e w' ⟨rfl, ⟨nd, rfl⟩⟩; refine ⟨_, rfl, ?_⟩))
 go_ret
 exact ⟨by first | rfl | (simp; done) | (simp [*]; done), by repeat (first | exact Drawn0.refl _ | apply Drawn0.step)⟩
 }
 {
 replace c7 := Bool.eq_false_iff.mpr c7
 subst c7
 have H1 : (if a0 < a1 then (some (-1)) else (if a0 > a1 then (some 1) else (some 0))) = some r := by rw [if_neg (show ¬ (false = true) by decide)] at H; exact H
 clear H
 have H := H1
 clear H1
 by_cases c8 : a0 < a1
 {
 rw [if_pos c8] at H
 have c8b0 : decide (a0 < a1) = true := decide_eq_true c8
 clear c8
 obtain rfl := Option.some.inj H
 go_enter Tryz.func142, Tryz.ntmps142
 go_wp2_with (first | ((with_reducible refine gate_callee (f := 159) rfl ?_); refine goesL_ (some 8) rfl rfl Tryz.func159 (by kernel_rfl) rfl #[.int .i64 a0] rfl aX ?_; (with_reducible refine (cmp_isNaN_int.calls a0 false _ A3.out).mono ?_); rintro e w' ⟨rfl, ⟨nd, rfl⟩⟩; refine ⟨_, rfl, ?_⟩) | ((with_reducible refine gate_callee (f := 159) rfl ?_); refine goesL_ (some 10) rfl rfl Tryz.func159 (by kernel_rfl) rfl #[.int .i64 a1] rfl aX ?_; (with_reducible refine (cmp_isNaN_int.calls a1 false _ A4.out).mono ?_); rintro e w' ⟨rfl, ⟨nd, rfl⟩⟩; refine ⟨_, rfl, ?_⟩))
 go_ret
 exact ⟨by first | rfl | (simp; done) | (simp [*]; done), by repeat (first | exact Drawn0.refl _ | apply Drawn0.step)⟩
 }
 {
 rw [if_neg c8] at H
 have c8b0 : decide (a0 < a1) = false := decide_eq_false c8
 clear c8
 by_cases c9 : a0 > a1
 {
 rw [if_pos c9] at H
 have c9b0 : decide (a1 < a0) = true := decide_eq_true c9
 clear c9
 obtain rfl := Option.some.inj H
 go_enter Tryz.func142, Tryz.ntmps142
 go_wp2_with (first | ((with_reducible refine gate_callee (f := 159) rfl ?_); refine goesL_ (some 8) rfl rfl Tryz.func159 (by kernel_rfl) rfl #[.int .i64 a0] rfl aX ?_; (with_reducible refine (cmp_isNaN_int.calls a0 false _ A3.out).mono ?_); rintro e w' ⟨rfl, ⟨nd, rfl⟩⟩; refine ⟨_, rfl, ?_⟩) | ((with_reducible refine gate_callee (f := 159) rfl ?_); refine goesL_ (some 10) rfl rfl Tryz.func159 (by kernel_rfl) rfl #[.int .i64 a1] rfl aX ?_; (with_reducible refine (cmp_isNaN_int.calls a1 false _ A4.out).mono ?_); rintro e w' ⟨rfl, ⟨nd, rfl⟩⟩; refine ⟨_, rfl, ?_⟩))
 go_ret
 exact ⟨by first | rfl | (simp; done) | (simp [*]; done), by repeat (first | exact Drawn0.refl _ | apply Drawn0.step)⟩
 }
 {
 rw [if_neg c9] at H
 have c9b0 : decide (a1 < a0) = false := decide_eq_false c9
 clear c9
 obtain rfl := Option.some.inj H
 go_enter Tryz.func142, Tryz.ntmps142
 go_wp2_with (first | ((with_reducible refine gate_callee (f := 159) rfl ?_); refine goesL_ (some 8) rfl rfl Tryz.func159 (by kernel_rfl) rfl #[.int .i64 a0] rfl aX ?_; (with_reducible refine (cmp_isNaN_int.calls a0 false _ A3.out).mono ?_); rintro e w' ⟨rfl, ⟨nd, rfl⟩⟩; refine ⟨_, rfl, ?_⟩) | ((with_reducible refine gate_callee (f := 159) rfl ?_); refine goesL_ (some 10) rfl rfl Tryz.func159 (by kernel_rfl) rfl #[.int .i64 a1] rfl aX ?_; (with_reducible refine (cmp_isNaN_int.calls a1 false _ A4.out).mono ?_); rintro e w' ⟨rfl, ⟨nd, rfl⟩⟩; refine ⟨_, rfl, ?_⟩))
 go_ret
 exact ⟨by first | rfl | (simp; done) | (simp [*]; done), by repeat (first | exact Drawn0.refl _ | apply Drawn0.step)⟩
 }
 }
 }
 }

/-! ### slices_Compare_int_int: function 114 -/
def slices_Compare_int_int.l0 : Nat → List Int → List Int → List Int → Int → Int → Option (Int)
 | 0, _, _, _, _, _ => none
 | k + 1, x0, x1, x9, x10, x11 => if x11 < x10 then (if 0 ≤ x11 then (if x11 < (x9.length : Int) then (if x11 ≥ (x1.length : Int) then (some 1) else (if x11 < (x1.length : Int) then ((cmp_Compare_int.f (rd x9 x11) (rd x1 x11)).bind fun t279 => (if t279 = 0 then (slices_Compare_int_int.l0 k x0 x1 x9 x10 (wrap64 (x11 + 1))) else (some t279))) else (none))) else (none)) else (none)) else (if (x0.length : Int) < (x1.length : Int) then (some (-1)) else (some 0))
def slices_Compare_int_int.f (k : Nat) (l0 : List Int) (l1 : List Int) : Option (Int) := slices_Compare_int_int.l0 k l0 l1 l0 (l0.length : Int) 0
set_option maxHeartbeats 8000000 in
set_option maxRecDepth 100000 in
theorem slices_Compare_int_int.calls (k : Nat) (A0 : Option Addr) (c0 : Nat) (l0 : List Int) (A1 : Option Addr) (c1 : Nat) (l1 : List Int) (r : Int) (w : World) (hr0 : Kd.C (Kd.int .i64) w A0 l0.length l0) (hc0 : l0.length ≤ c0) (hr1 : Kd.C (Kd.int .i64) w A1 l1.length l1) (hc1 : l1.length ≤ c1) (h : slices_Compare_int_int.f k l0 l1 = some r) :
  Calls Tryz.prog 114 #[.slice A0 l0.length c0, .slice A1 l1.length c1] w fun e w' => e = .returned (.int .i64 r) ∧ Drawn0 w w' := by
 have HR0 := Aside0.mk hr0
 have HC0 := Aside0.mk hc0
 clear hr0 hc0
 have HR1 := Aside0.mk hr1
 have HC1 := Aside0.mk hc1
 clear hr1 hc1
 have H : (slices_Compare_int_int.l0 k l0 l1 l0 (l0.length : Int) 0) = some r := h
 clear h
 have H' := Aside0.mk H
 clear H
 go_enter Tryz.func114, Tryz.ntmps114
 go_wp2
 go_loopg [11] k (fun kq v11 w' => ∃ (x11_1 : Int), v11 = .int .i64 x11_1 ∧ Aside0 (slices_Compare_int_int.l0 kq l0 l1 l0 (l0.length : Int) x11_1 = some r) ∧ Aside0 (kq ≤ k) ∧ Drawn0 w w')
 case atStart => exact ⟨(0), vX, H', ⟨Nat.le_refl _⟩, by repeat (first | exact Drawn0.refl _ | apply Drawn0.step)⟩
 case round =>
 clear H'
 try clear c1
 try clear p2
 obtain ⟨x11_1, rfl, HA, HK1, ⟨m1, rfl⟩⟩ := hrel
 cases gk with
 | zero => exact absurd HA.out (by simp [slices_Compare_int_int.l0])
 | succ k1 =>
 have H := HA.out
 clear HA
 simp only [slices_Compare_int_int.l0] at H
 by_cases c3 : x11_1 < (l0.length : Int)
 {
 rw [if_pos c3] at H
 have c3b0 : decide (x11_1 < (l0.length : Int)) = true := decide_eq_true c3
 clear c3
 by_cases c4 : 0 ≤ x11_1
 {
 rw [if_pos c4] at H
 have c4b0 : decide (0 ≤ x11_1) = true := decide_eq_true c4
 clear c4
 by_cases c5 : x11_1 < (l0.length : Int)
 {
 rw [if_pos c5] at H
 have c5b0 : decide (x11_1 < (l0.length : Int)) = true := decide_eq_true c5
 clear c5
 by_cases c6 : x11_1 ≥ (l1.length : Int)
 {
 rw [if_pos c6] at H
 have c6b0 : decide ((l1.length : Int) ≤ x11_1) = true := decide_eq_true c6
 clear c6
 obtain rfl := Option.some.inj H
 have p277 : 0 ≤ (x11_1 : Int) := dX
 have q277 : x11_1 < (l0.length : Int) := dX
 obtain ⟨ad277, e277, hx277_0⟩ := Kd.at_int HR0.out x11_1 p277 q277
 cases e277
 replace p277 := eq_true p277
 replace q277 := eq_true q277
 go_wp2
 go_ret
 exact ⟨by first | rfl | (simp; done) | (simp [*]; done), by repeat (first | exact Drawn0.refl _ | apply Drawn0.step)⟩
 }
 {
 rw [if_neg c6] at H
 have c6b0 : decide ((l1.length : Int) ≤ x11_1) = false := decide_eq_false c6
 clear c6
 by_cases c7 : x11_1 < (l1.length : Int)
 {
 rw [if_pos c7] at H
 have c7b0 : decide (x11_1 < (l1.length : Int)) = true := decide_eq_true c7
 clear c7
 replace H := Option.bind_eq_some_iff.mp H
 obtain ⟨t279, A80, H⟩ := H
 replace H : (if t279 = 0 then (slices_Compare_int_int.l0 k1 l0 l1 l0 (l0.length : Int) (wrap64 (x11_1 + 1))) else (some t279)) = some r := H
 have A8 := Aside0.mk A80
 clear A80
 by_cases c9 : t279 = 0
 {
 rw [if_pos c9] at H
 have c9b0 : (t279 == 0) = true := beq_iff_eq.mpr c9
 have c9b1 : (t279 != 0) = false := bne_eq_false_iff_eq.mpr c9
 clear c9
 have H' := Aside0.mk H
 clear H
 have p277 : 0 ≤ (x11_1 : Int) := dX
 have q277 : x11_1 < (l0.length : Int) := dX
 obtain ⟨ad277, e277, hx277_0⟩ := Kd.at_int HR0.out x11_1 p277 q277
 cases e277
 replace p277 := eq_true p277
 replace q277 := eq_true q277
 have p278 : 0 ≤ (x11_1 : Int) := dX
 have q278 : x11_1 < (l1.length : Int) := dX
 obtain ⟨ad278, e278, hx278_0⟩ := Kd.at_int HR1.out x11_1 p278 q278
 cases e278
 replace p278 := eq_true p278
 replace q278 := eq_true q278
 go_wp2_with (first | ((with_reducible refine gate_callee (f := 142) rfl ?_); refine goesL_ (some 26) rfl rfl Tryz.func142 (by kernel_rfl) rfl #[.int .i64 (rd l0 x11_1), .int .i64 (rd l1 x11_1)] rfl aX ?_; (with_reducible refine (cmp_Compare_int.calls (rd l0 x11_1) (rd l1 x11_1) t279 _ A8.out).mono ?_); rintro e w' ⟨rfl, ⟨nd, rfl⟩⟩; refine ⟨_, rfl, ?_⟩))
 go_roundg k1
 case measure => have := HK1.out; omega
 case rel => exact ⟨(wrap64 (x11_1 + 1)), vX, H', ⟨by have := HK1.out; omega⟩, by repeat (first | exact Drawn0.refl _ | apply Drawn0.step)⟩
 }
 {
 rw [if_neg c9] at H
 have c9b0 : (t279 == 0) = false := beq_eq_false_iff_ne.mpr c9
 have c9b1 : (t279 != 0) = true := bne_iff_ne.mpr c9
 obtain rfl := Option.some.inj H
 have p277 : 0 ≤ (x11_1 : Int) := dX
 have q277 : x11_1 < (l0.length : Int) := dX
 obtain ⟨ad277, e277, hx277_0⟩ := Kd.at_int HR0.out x11_1 p277 q277
 cases e277
 replace p277 := eq_true p277
 replace q277 := eq_true q277
 have p278 : 0 ≤ (x11_1 : Int) := dX
 have q278 : x11_1 < (l1.length : Int) := dX
 obtain ⟨ad278, e278, hx278_0⟩ := Kd.at_int HR1.out x11_1 p278 q278
 cases e278
 replace p278 := eq_true p278
 replace q278 := eq_true q278
 go_wp2_with (first | ((with_reducible refine gate_callee (f := 142) rfl ?_); refine goesL_ (some 26) rfl rfl Tryz.func142 (by kernel_rfl) rfl #[.int .i64 (rd l0 x11_1), .int .i64 (rd l1 x11_1)] rfl aX ?_; (with_reducible refine (cmp_Compare_int.calls (rd l0 x11_1) (rd l1 x11_1) t279 _ A8.out).mono ?_); rintro e w' ⟨rfl, ⟨nd, rfl⟩⟩; refine ⟨_, rfl, ?_⟩))
 go_ret
 exact ⟨by first | rfl | (simp; done) | (simp [*]; done), by repeat (first | exact Drawn0.refl _ | apply Drawn0.step)⟩
 }
 }
 {
 rw [if_neg c7] at H
 exact absurd H (by simp)
 }
 }
 }
 {
 rw [if_neg c5] at H
 exact absurd H (by simp)
 }
 }
 {
 rw [if_neg c4] at H
 exact absurd H (by simp)
 }
 }
 {
 rw [if_neg c3] at H
 have c3b0 : decide (x11_1 < (l0.length : Int)) = false := decide_eq_false c3
 clear c3
 by_cases c10 : (l0.length : Int) < (l1.length : Int)
 {
 rw [if_pos c10] at H
 have c10b0 : decide ((l0.length : Int) < (l1.length : Int)) = true := decide_eq_true c10
 have c10b1 : decide (l0.length < l1.length) = true := decide_eq_true (Int.ofNat_lt.mp c10)
 clear c10
 obtain rfl := Option.some.inj H
 go_wp2
 go_ret
 exact ⟨by first | rfl | (simp; done) | (simp [*]; done), by repeat (first | exact Drawn0.refl _ | apply Drawn0.step)⟩
 }
 {
 rw [if_neg c10] at H
 have c10b0 : decide ((l0.length : Int) < (l1.length : Int)) = false := decide_eq_false c10
 have c10b1 : decide (l0.length < l1.length) = false := decide_eq_false (fun h => c10 (Int.ofNat_lt.mpr h))
 clear c10
 obtain rfl := Option.some.inj H
 go_wp2
 go_ret
 exact ⟨by first | rfl | (simp; done) | (simp [*]; done), by repeat (first | exact Drawn0.refl _ | apply Drawn0.step)⟩
 }
 }

/-! ### impl_compareSurfaces: function 82 -/
def impl_compareSurfaces.f (k : Nat) (l0_0 : List Int) (l0_1 : List Int) (l1_0 : List Int) (l1_1 : List Int) : Option (Int) := (slices_Compare_int_int.f k l0_0 l1_0).bind fun t282 => (if t282 = 0 then ((slices_Compare_int_int.f k l0_1 l1_1).bind fun t283 => (some t283)) else (some t282))
set_option maxHeartbeats 8000000 in
set_option maxRecDepth 100000 in
theorem impl_compareSurfaces.calls (k : Nat) (A0_0 : Option Addr) (c0_0 : Nat) (l0_0 : List Int) (A0_1 : Option Addr) (c0_1 : Nat) (l0_1 : List Int) (A1_0 : Option Addr) (c1_0 : Nat) (l1_0 : List Int) (A1_1 : Option Addr) (c1_1 : Nat) (l1_1 : List Int) (r : Int) (w : World) (hr0_0 : Kd.C (Kd.int .i64) w A0_0 l0_0.length l0_0) (hc0_0 : l0_0.length ≤ c0_0) (hr0_1 : Kd.C (Kd.int .i64) w A0_1 l0_1.length l0_1) (hc0_1 : l0_1.length ≤ c0_1) (hr1_0 : Kd.C (Kd.int .i64) w A1_0 l1_0.length l1_0) (hc1_0 : l1_0.length ≤ c1_0) (hr1_1 : Kd.C (Kd.int .i64) w A1_1 l1_1.length l1_1) (hc1_1 : l1_1.length ≤ c1_1) (h : impl_compareSurfaces.f k l0_0 l0_1 l1_0 l1_1 = some r) :
  Calls Tryz.prog 82 #[.agg #[.slice A0_0 l0_0.length c0_0, .slice A0_1 l0_1.length c0_1], .agg #[.slice A1_0 l1_0.length c1_0, .slice A1_1 l1_1.length c1_1]] w fun e w' => e = .returned (.int .i64 r) ∧ Below w.heap.size w w' := by
 have hu25 := Tryz.underlying25
 have HR0_0 := Aside0.mk hr0_0
 have HC0_0 := Aside0.mk hc0_0
 clear hr0_0 hc0_0
 have HR0_1 := Aside0.mk hr0_1
 have HC0_1 := Aside0.mk hc0_1
 clear hr0_1 hc0_1
 have HR1_0 := Aside0.mk hr1_0
 have HC1_0 := Aside0.mk hc1_0
 clear hr1_0 hc1_0
 have HR1_1 := Aside0.mk hr1_1
 have HC1_1 := Aside0.mk hc1_1
 clear hr1_1 hc1_1
 have HB := Aside0.mk (Below.refl w.heap.size w)
 have H : ((slices_Compare_int_int.f k l0_0 l1_0).bind fun t282 => (if t282 = 0 then ((slices_Compare_int_int.f k l0_1 l1_1).bind fun t283 => (some t283)) else (some t282))) = some r := h
 clear h
 replace H := Option.bind_eq_some_iff.mp H
 obtain ⟨t282, A30, H⟩ := H
 replace H : (if t282 = 0 then ((slices_Compare_int_int.f k l0_1 l1_1).bind fun t283 => (some t283)) else (some t282)) = some r := H
 have A3 := Aside0.mk A30
 clear A30
 by_cases c4 : t282 = 0
 {
 rw [if_pos c4] at H
 have c4b0 : (t282 == 0) = true := beq_iff_eq.mpr c4
 have c4b1 : (t282 != 0) = false := bne_eq_false_iff_eq.mpr c4
 clear c4
 replace H := Option.bind_eq_some_iff.mp H
 obtain ⟨t283, A50, H⟩ := H
 replace H : (some t283) = some r := H
 have A5 := Aside0.mk A50
 clear A50
 obtain rfl := Option.some.inj H
 go_enter Tryz.func82, Tryz.ntmps82
 go_wp2_with (first | ((with_reducible refine gate_dst (N := 2) rfl ?_); refine box_event ?hg (N := 2) ?hd (cs := #[.slice A0_0 l0_0.length c0_0, .slice A0_1 l0_1.length c0_1]) (t := 25) ?hr ?_; (case hd => rfl); (case hg => rfl); (case hr => first | (go_simp; done) | (go_simp; rfl)); intro gb280 hg w6 hbox hb; have n0_ := Aside0.mk (below_step (bX HB.out) hb); have n1_ := Aside0.mk (hbox); have n2_ := Aside0.mk ((szX (below_size (bX HB.out)) hg : w.heap.size ≤ gb280)); have n3_ := Aside0.mk ((szX (below_size (bX HB.out)) hg : w.heap.size ≤ gb280)); clear HB; have HB := n0_; have BK280 := n1_; have GW280 := n2_; have GE280 := n3_; clear n0_ n1_ n2_ n3_ hb hbox hg) | ((with_reducible refine gate_dst (N := 3) rfl ?_); refine box_event ?hg (N := 3) ?hd (cs := #[.slice A1_0 l1_0.length c1_0, .slice A1_1 l1_1.length c1_1]) (t := 25) ?hr ?_; (case hd => rfl); (case hg => rfl); (case hr => first | (go_simp; done) | (go_simp; rfl)); intro gb281 hg w7 hbox hb; have n0_ := Aside0.mk (bbX BK280.out hb); have n1_ := Aside0.mk (below_step (bX1 HB.out GE280.out) hb); have n2_ := Aside0.mk (hbox); have n3_ := Aside0.mk ((szX (below_size (bX1 HB.out GE280.out)) hg : w.heap.size ≤ gb281)); have n4_ := Aside0.mk ((szX (below_size (bX1 HB.out GE280.out)) hg : w.heap.size ≤ gb281)); have n5_ := Aside0.mk (neX BK280.out hg); have n6_ := Aside0.mk (nfX BK280.out hg); clear BK280 HB; have BK280 := n0_; have HB := n1_; have BK281 := n2_; have GW281 := n3_; have GE281 := n4_; have NB280_281 := n5_; have NB281_280 := n6_; clear n0_ n1_ n2_ n3_ n4_ n5_ n6_ hb hbox hg; have hnb8 := NB280_281.out; have hnc8 := NB281_280.out; have hcz9_0 := cz20 BK280.out; have hcz9_1 := cz21 BK280.out; have hfz9_0 := blk_frozen BK280.out 0; have hfz9_1 := blk_frozen BK280.out 1; have hcz10_0 : w7.cell? ⟨gb281, 0, none⟩ = some (.slice A1_0 l1_0.length c1_0) := (blk_cell BK281.out 0).trans rfl; have hcz10_1 : w7.cell? ⟨gb281, 1, none⟩ = some (.slice A1_1 l1_1.length c1_1) := (blk_cell BK281.out 1).trans rfl; have hfz10_0 := blk_frozen BK281.out 0; have hfz10_1 := blk_frozen BK281.out 1) | ((with_reducible refine gate_callee (f := 114) rfl ?_); refine goesL_ (some 10) rfl rfl Tryz.func114 (by kernel_rfl) rfl #[.slice A0_0 l0_0.length c0_0, .slice A1_0 l1_0.length c1_0] rfl aX ?_; (with_reducible refine (slices_Compare_int_int.calls k _ _ l0_0 _ _ l1_0 t282 _ ?side1 ?side2 ?side3 ?side4 A3.out).mono ?_); (case side1 => exact cX (Kd.C_below HR0_0.out HB.out)); (case side2 => exact HC0_0.out); (case side3 => exact cX (Kd.C_below HR1_0.out HB.out)); (case side4 => exact HC1_0.out); rintro e w' ⟨rfl, ⟨nd, rfl⟩⟩; refine ⟨_, rfl, ?_⟩) | ((with_reducible refine gate_callee (f := 114) rfl ?_); refine goesL_ (some 18) rfl rfl Tryz.func114 (by kernel_rfl) rfl #[.slice A0_1 l0_1.length c0_1, .slice A1_1 l1_1.length c1_1] rfl aX ?_; (with_reducible refine (slices_Compare_int_int.calls k _ _ l0_1 _ _ l1_1 t283 _ ?side1 ?side2 ?side3 ?side4 A5.out).mono ?_); (case side1 => exact cX (Kd.C_below HR0_1.out (bX2 HB.out GE280.out GE281.out))); (case side2 => exact HC0_1.out); (case side3 => exact cX (Kd.C_below HR1_1.out (bX2 HB.out GE280.out GE281.out))); (case side4 => exact HC1_1.out); rintro e w' ⟨rfl, ⟨nd, rfl⟩⟩; refine ⟨_, rfl, ?_⟩))
 go_ret
 exact ⟨eX, bX2 HB.out GE280.out GE281.out⟩
 }
 {
 rw [if_neg c4] at H
 have c4b0 : (t282 == 0) = false := beq_eq_false_iff_ne.mpr c4
 have c4b1 : (t282 != 0) = true := bne_iff_ne.mpr c4
 obtain rfl := Option.some.inj H
 go_enter Tryz.func82, Tryz.ntmps82
 go_wp2_with (first | ((with_reducible refine gate_dst (N := 2) rfl ?_); refine box_event ?hg (N := 2) ?hd (cs := #[.slice A0_0 l0_0.length c0_0, .slice A0_1 l0_1.length c0_1]) (t := 25) ?hr ?_; (case hd => rfl); (case hg => rfl); (case hr => first | (go_simp; done) | (go_simp; rfl)); intro gb280 hg w11 hbox hb; have n0_ := Aside0.mk (below_step (bX HB.out) hb); have n1_ := Aside0.mk (hbox); have n2_ := Aside0.mk ((szX (below_size (bX HB.out)) hg : w.heap.size ≤ gb280)); have n3_ := Aside0.mk ((szX (below_size (bX HB.out)) hg : w.heap.size ≤ gb280)); clear HB; have HB := n0_; have BK280 := n1_; have GW280 := n2_; have GE280 := n3_; clear n0_ n1_ n2_ n3_ hb hbox hg) | ((with_reducible refine gate_dst (N := 3) rfl ?_); refine box_event ?hg (N := 3) ?hd (cs := #[.slice A1_0 l1_0.length c1_0, .slice A1_1 l1_1.length c1_1]) (t := 25) ?hr ?_; (case hd => rfl); (case hg => rfl); (case hr => first | (go_simp; done) | (go_simp; rfl)); intro gb281 hg w12 hbox hb; have n0_ := Aside0.mk (bbX BK280.out hb); have n1_ := Aside0.mk (below_step (bX1 HB.out GE280.out) hb); have n2_ := Aside0.mk (hbox); have n3_ := Aside0.mk ((szX (below_size (bX1 HB.out GE280.out)) hg : w.heap.size ≤ gb281)); have n4_ := Aside0.mk ((szX (below_size (bX1 HB.out GE280.out)) hg : w.heap.size ≤ gb281)); have n5_ := Aside0.mk (neX BK280.out hg); have n6_ := Aside0.mk (nfX BK280.out hg); clear BK280 HB; have BK280 := n0_; have HB := n1_; have BK281 := n2_; have GW281 := n3_; have GE281 := n4_; have NB280_281 := n5_; have NB281_280 := n6_; clear n0_ n1_ n2_ n3_ n4_ n5_ n6_ hb hbox hg; have hnb13 := NB280_281.out; have hnc13 := NB281_280.out; have hcz14_0 := cz20 BK280.out; have hcz14_1 := cz21 BK280.out; have hfz14_0 := blk_frozen BK280.out 0; have hfz14_1 := blk_frozen BK280.out 1; have hcz15_0 : w12.cell? ⟨gb281, 0, none⟩ = some (.slice A1_0 l1_0.length c1_0) := (blk_cell BK281.out 0).trans rfl; have hcz15_1 : w12.cell? ⟨gb281, 1, none⟩ = some (.slice A1_1 l1_1.length c1_1) := (blk_cell BK281.out 1).trans rfl; have hfz15_0 := blk_frozen BK281.out 0; have hfz15_1 := blk_frozen BK281.out 1) | ((with_reducible refine gate_callee (f := 114) rfl ?_); refine goesL_ (some 10) rfl rfl Tryz.func114 (by kernel_rfl) rfl #[.slice A0_0 l0_0.length c0_0, .slice A1_0 l1_0.length c1_0] rfl aX ?_; (with_reducible refine (slices_Compare_int_int.calls k _ _ l0_0 _ _ l1_0 t282 _ ?side1 ?side2 ?side3 ?side4 A3.out).mono ?_); (case side1 => exact cX (Kd.C_below HR0_0.out HB.out)); (case side2 => exact HC0_0.out); (case side3 => exact cX (Kd.C_below HR1_0.out HB.out)); (case side4 => exact HC1_0.out); rintro e w' ⟨rfl, ⟨nd, rfl⟩⟩; refine ⟨_, rfl, ?_⟩))
 go_ret
 exact ⟨eX, bX2 HB.out GE280.out GE281.out⟩
 }

end Go.Proofs.YthhdgeafdnikcaaGreatDoor.S
