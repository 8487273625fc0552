-- PRINTED by print.py (a twelfth state) out of the translation. Not trusted: Lean checks it.
import Derived.Test.YtfomhkfgdggngaaS0
import Derived.Test.YtfomhkfgdggngaaS3
namespace Go.Proofs.Ytfomhkfgdggngaa.S
open Go.RowKit Go.Proofs.YtfomhkfgdggngaaW.PrintWords Go.Proofs.YtfomhkfgdggngaaW.PrintLast Go.Proofs.YtfomhkfgdggngaaW.PrintMore
attribute [local go_sem] max2_int min2_int max_two min_two max_three min_three max_four min_four   -- for this text's walks alone
set_option linter.unusedVariables false
set_option linter.unusedSimpArgs false

/-! ### impl_InduceOnce: function 9 -/
def impl_InduceOnce.j0 : Nat → Int → Int → Bool → List Int → List Int → List Int → Option (List Int × List Int × List Int × Bool)
 | 0, _, _, _, _, _, _ => none
 | k + 1, x5, x6, x42, x228000, x228001, x228002 => if x42 = true then (some (([] : List Int), ([] : List Int), ([] : List Int), false)) else ((impl_copyExchange.f x228000 x228001 x228002).bind fun bt234 => (if 0 ≤ x5 then (if x5 < (x228000.length : Int) then (if 0 ≤ x6 then (if x6 < (x228000.length : Int) then (if (rd x228000 x5) > (rd x228000 x6) then (if x5 < (bt234.1.length : Int) then ((impl_putBehind.f k x228002 x5).bind fun t249 => (some ((bt234.1.set (x5 : Int).toNat (wrap64 ((rd bt234.1 x5) - (rd x228000 x6)))), bt234.2.1, t249, true))) else (none)) else (if x6 < (bt234.1.length : Int) then ((impl_putBehind.f k x228001 x6).bind fun t255 => (some ((bt234.1.set (x6 : Int).toNat (wrap64 ((rd bt234.1 x6) - (rd x228000 x5)))), t255, bt234.2.2, true))) else (none))) else (none)) else (none)) else (none)) else (none)))
def impl_InduceOnce.f (k : Nat) (l0_0 : List Int) (l0_1 : List Int) (l0_2 : List Int) : Option (List Int × List Int × List Int × Bool) := (impl_ExchangeOk.f k l0_0 l0_1 l0_2).bind fun t229 => (if t229 = true then (if 0 ≤ (wrap64 ((l0_1.length : Int) - 1)) then (if (wrap64 ((l0_1.length : Int) - 1)) < (l0_1.length : Int) then (if (wrap64 ((l0_1.length : Int) - 1)) < (l0_2.length : Int) then (if (rd l0_1 (wrap64 ((l0_1.length : Int) - 1))) = (rd l0_2 (wrap64 ((l0_1.length : Int) - 1))) then (impl_InduceOnce.j0 k (rd l0_1 (wrap64 ((l0_1.length : Int) - 1))) (rd l0_2 (wrap64 ((l0_1.length : Int) - 1))) true l0_0 l0_1 l0_2) else (if 0 ≤ (rd l0_1 (wrap64 ((l0_1.length : Int) - 1))) then (if (rd l0_1 (wrap64 ((l0_1.length : Int) - 1))) < (l0_0.length : Int) then (if 0 ≤ (rd l0_2 (wrap64 ((l0_1.length : Int) - 1))) then (if (rd l0_2 (wrap64 ((l0_1.length : Int) - 1))) < (l0_0.length : Int) then (impl_InduceOnce.j0 k (rd l0_1 (wrap64 ((l0_1.length : Int) - 1))) (rd l0_2 (wrap64 ((l0_1.length : Int) - 1))) ((rd l0_0 (rd l0_1 (wrap64 ((l0_1.length : Int) - 1)))) == (rd l0_0 (rd l0_2 (wrap64 ((l0_1.length : Int) - 1))))) l0_0 l0_1 l0_2) else (none)) else (none)) else (none)) else (none))) else (none)) else (none)) else (none)) else (some (([] : List Int), ([] : List Int), ([] : List Int), false)))
def impl_InduceOnce.T6 : Bool × List (List Nat × List Nat) := (true, [([], []), ([], []), ([0, 1], [0, 1]), ([2], [2]), ([3], [3]), ([4, 3], [3, 4]), ([3], [3]), ([5, 6, 3], [3, 5, 6]), ([7, 3], [3, 7]), ([3], [3]), ([9, 3], [3, 9]), ([3], [3]), ([10, 11, 3], [3, 10, 11]), ([12, 3], [3, 12]), ([8, 13, 3], [3, 8, 13]), ([3, 14], [3, 14])])
def impl_InduceOnce.B6 : List Nat := [0, 0, 3, 7, 15, 31, 15, 127, 255, 15, 527, 15, 3599, 7695, 16383, 32767]
theorem impl_InduceOnce.tab6 : rtab .any (opsOf Try.f9 6) = impl_InduceOnce.T6 := by kernel_rfl
theorem impl_InduceOnce.bits6 : waitsOk impl_InduceOnce.T6.2 impl_InduceOnce.B6 = true := by kernel_rfl
def impl_InduceOnce.T9 : Bool × List (List Nat × List Nat) := (true, [([], []), ([0], [0]), ([], []), ([1, 2], [1, 2]), ([3], [3]), ([], []), ([5], [5]), ([], []), ([6, 7], [6, 7]), ([8], [8]), ([4, 9], [4, 9])])
def impl_InduceOnce.B9 : List Nat := [0, 1, 0, 7, 15, 0, 32, 0, 224, 480, 1023]
theorem impl_InduceOnce.tab9 : rtab .any (opsOf Try.f9 9) = impl_InduceOnce.T9 := by kernel_rfl
theorem impl_InduceOnce.bits9 : waitsOk impl_InduceOnce.T9.2 impl_InduceOnce.B9 = true := by kernel_rfl
def impl_InduceOnce.T10 : Bool × List (List Nat × List Nat) := (true, [([], []), ([0], [0]), ([], []), ([1, 2], [1, 2]), ([3], [3]), ([], []), ([5], [5]), ([], []), ([6, 7], [6, 7]), ([8], [8]), ([4, 9], [4, 9]), ([1, 2, 0, 1, 2, 3, 4, 5, 6, 7, 8, 9, 10], [1, 2]), ([11, 10, 0, 1, 2, 3, 4, 5, 6, 7, 8, 9, 10], [10, 11])])
def impl_InduceOnce.B10 : List Nat := [0, 1, 0, 7, 15, 0, 32, 0, 224, 480, 1023, 2047, 4095]
theorem impl_InduceOnce.tab10 : rtab .any (opsOf Try.f9 10) = impl_InduceOnce.T10 := by kernel_rfl
theorem impl_InduceOnce.bits10 : waitsOk impl_InduceOnce.T10.2 impl_InduceOnce.B10 = true := by kernel_rfl
def impl_InduceOnce.T12 : Bool × List (List Nat × List Nat) := (true, [([], []), ([0], [0]), ([], []), ([1, 2], [1, 2]), ([3], [3]), ([], []), ([5], [5]), ([], []), ([6, 7], [6, 7]), ([8], [8]), ([4, 9], [4, 9]), ([1, 2, 0, 1, 2, 3, 4, 5, 6, 7, 8, 9, 10], [1, 2]), ([11, 10, 0, 1, 2, 3, 4, 5, 6, 7, 8, 9, 10], [10, 11])])
def impl_InduceOnce.B12 : List Nat := [0, 1, 0, 7, 15, 0, 32, 0, 224, 480, 1023, 2047, 4095]
theorem impl_InduceOnce.tab12 : rtab .any (opsOf Try.f9 12) = impl_InduceOnce.T12 := by kernel_rfl
theorem impl_InduceOnce.bits12 : waitsOk impl_InduceOnce.T12.2 impl_InduceOnce.B12 = true := by kernel_rfl
set_option maxHeartbeats 8000000 in
set_option maxRecDepth 100000 in
theorem impl_InduceOnce.calls (k : Nat) (A0_0 : Option Addr) (c0_0 : Nat) (l0_0 : List Int) (A0_1 : Option Addr) (c0_1 : Nat) (l0_1 : List Int) (A0_2 : Option Addr) (c0_2 : Nat) (l0_2 : List Int) (r1 : List Int) (r2 : List Int) (r3 : List Int) (r4 : Bool) (w : World) (hr0_0 : Kd.C (Kd.int .i64) w A0_0 l0_0.length l0_0) (hc0_0 : l0_0.length ≤ c0_0) (hr0_1 : Kd.C (Kd.int .i64) w A0_1 l0_1.length l0_1) (hc0_1 : l0_1.length ≤ c0_1) (hr0_2 : Kd.C (Kd.int .i64) w A0_2 l0_2.length l0_2) (hc0_2 : l0_2.length ≤ c0_2) (h : impl_InduceOnce.f k l0_0 l0_1 l0_2 = some (r1, r2, r3, r4)) :
  Calls Try.prog 9 #[.agg #[.slice A0_0 l0_0.length c0_0, .slice A0_1 l0_1.length c0_1, .slice A0_2 l0_2.length c0_2]] w fun e w' => ∃ v0_ v1_ v2_ : Value, e = .returned (.tuple #[.agg #[v0_, v1_, v2_], .bool r4]) ∧ Kd.R (Kd.int .i64) 3 w' w.heap.size (fun k_ => some k_ ≠ (v1_ : Value).ownBlock ∧ some k_ ≠ (v2_ : Value).ownBlock) v0_ r1 ∧ Kd.R (Kd.int .i64) 3 w' w.heap.size (fun k_ => some k_ ≠ (v0_ : Value).ownBlock ∧ some k_ ≠ (v2_ : Value).ownBlock) v1_ r2 ∧ Kd.R (Kd.int .i64) 3 w' w.heap.size (fun k_ => some k_ ≠ (v0_ : Value).ownBlock ∧ some k_ ≠ (v1_ : Value).ownBlock) v2_ r3 ∧ Below w.heap.size w w' := by
 have hu26 := Try.underlying26
 have HR0_0 := Aside0.mk hr0_0
 have HC0_0 := Aside0.mk hc0_0
 clear hr0_0 hc0_0
 have HR0_1 := Aside0.mk hr0_1
 have HC0_1 := Aside0.mk hc0_1
 clear hr0_1 hc0_1
 have HR0_2 := Aside0.mk hr0_2
 have HC0_2 := Aside0.mk hc0_2
 clear hr0_2 hc0_2
 have HB := Aside0.mk (Below.refl w.heap.size w)
 have H : ((impl_ExchangeOk.f k l0_0 l0_1 l0_2).bind fun t229 => (if t229 = true then (if 0 ≤ (wrap64 ((l0_1.length : Int) - 1)) then (if (wrap64 ((l0_1.length : Int) - 1)) < (l0_1.length : Int) then (if (wrap64 ((l0_1.length : Int) - 1)) < (l0_2.length : Int) then (if (rd l0_1 (wrap64 ((l0_1.length : Int) - 1))) = (rd l0_2 (wrap64 ((l0_1.length : Int) - 1))) then (impl_InduceOnce.j0 k (rd l0_1 (wrap64 ((l0_1.length : Int) - 1))) (rd l0_2 (wrap64 ((l0_1.length : Int) - 1))) true l0_0 l0_1 l0_2) else (if 0 ≤ (rd l0_1 (wrap64 ((l0_1.length : Int) - 1))) then (if (rd l0_1 (wrap64 ((l0_1.length : Int) - 1))) < (l0_0.length : Int) then (if 0 ≤ (rd l0_2 (wrap64 ((l0_1.length : Int) - 1))) then (if (rd l0_2 (wrap64 ((l0_1.length : Int) - 1))) < (l0_0.length : Int) then (impl_InduceOnce.j0 k (rd l0_1 (wrap64 ((l0_1.length : Int) - 1))) (rd l0_2 (wrap64 ((l0_1.length : Int) - 1))) ((rd l0_0 (rd l0_1 (wrap64 ((l0_1.length : Int) - 1)))) == (rd l0_0 (rd l0_2 (wrap64 ((l0_1.length : Int) - 1))))) l0_0 l0_1 l0_2) else (none)) else (none)) else (none)) else (none))) else (none)) else (none)) else (none)) else (some (([] : List Int), ([] : List Int), ([] : List Int), false)))) = some (r1, r2, r3, r4) := h
 clear h
 replace H := Option.bind_eq_some_iff.mp H
 obtain ⟨t229, A20, H⟩ := H
 replace H : (if t229 = true then (if 0 ≤ (wrap64 ((l0_1.length : Int) - 1)) then (if (wrap64 ((l0_1.length : Int) - 1)) < (l0_1.length : Int) then (if (wrap64 ((l0_1.length : Int) - 1)) < (l0_2.length : Int) then (if (rd l0_1 (wrap64 ((l0_1.length : Int) - 1))) = (rd l0_2 (wrap64 ((l0_1.length : Int) - 1))) then (impl_InduceOnce.j0 k (rd l0_1 (wrap64 ((l0_1.length : Int) - 1))) (rd l0_2 (wrap64 ((l0_1.length : Int) - 1))) true l0_0 l0_1 l0_2) else (if 0 ≤ (rd l0_1 (wrap64 ((l0_1.length : Int) - 1))) then (if (rd l0_1 (wrap64 ((l0_1.length : Int) - 1))) < (l0_0.length : Int) then (if 0 ≤ (rd l0_2 (wrap64 ((l0_1.length : Int) - 1))) then (if (rd l0_2 (wrap64 ((l0_1.length : Int) - 1))) < (l0_0.length : Int) then (impl_InduceOnce.j0 k (rd l0_1 (wrap64 ((l0_1.length : Int) - 1))) (rd l0_2 (wrap64 ((l0_1.length : Int) - 1))) ((rd l0_0 (rd l0_1 (wrap64 ((l0_1.length : Int) - 1)))) == (rd l0_0 (rd l0_2 (wrap64 ((l0_1.length : Int) - 1))))) l0_0 l0_1 l0_2) else (none)) else (none)) else (none)) else (none))) else (none)) else (none)) else (none)) else (some (([] : List Int), ([] : List Int), ([] : List Int), false))) = some (r1, r2, r3, r4) := H
 have A2 := Aside0.mk A20
 clear A20
 by_cases c3 : t229 = true
 {
 subst c3
 have H1 : (if 0 ≤ (wrap64 ((l0_1.length : Int) - 1)) then (if (wrap64 ((l0_1.length : Int) - 1)) < (l0_1.length : Int) then (if (wrap64 ((l0_1.length : Int) - 1)) < (l0_2.length : Int) then (if (rd l0_1 (wrap64 ((l0_1.length : Int) - 1))) = (rd l0_2 (wrap64 ((l0_1.length : Int) - 1))) then (impl_InduceOnce.j0 k (rd l0_1 (wrap64 ((l0_1.length : Int) - 1))) (rd l0_2 (wrap64 ((l0_1.length : Int) - 1))) true l0_0 l0_1 l0_2) else (if 0 ≤ (rd l0_1 (wrap64 ((l0_1.length : Int) - 1))) then (if (rd l0_1 (wrap64 ((l0_1.length : Int) - 1))) < (l0_0.length : Int) then (if 0 ≤ (rd l0_2 (wrap64 ((l0_1.length : Int) - 1))) then (if (rd l0_2 (wrap64 ((l0_1.length : Int) - 1))) < (l0_0.length : Int) then (impl_InduceOnce.j0 k (rd l0_1 (wrap64 ((l0_1.length : Int) - 1))) (rd l0_2 (wrap64 ((l0_1.length : Int) - 1))) ((rd l0_0 (rd l0_1 (wrap64 ((l0_1.length : Int) - 1)))) == (rd l0_0 (rd l0_2 (wrap64 ((l0_1.length : Int) - 1))))) l0_0 l0_1 l0_2) else (none)) else (none)) else (none)) else (none))) else (none)) else (none)) else (none)) = some (r1, r2, r3, r4) := by rw [if_pos rfl] at H; exact H
 clear H
 have H := H1
 clear H1
 obtain ⟨ji4, hji4⟩ : ∃ j_ : Int, (wrap64 ((l0_1.length : Int) - 1)) = j_ := ⟨_, rfl⟩
 replace H : (if 0 ≤ (ji4) then (if (ji4) < (l0_1.length : Int) then (if (ji4) < (l0_2.length : Int) then (if (rd l0_1 (ji4)) = (rd l0_2 (ji4)) then (impl_InduceOnce.j0 k (rd l0_1 (ji4)) (rd l0_2 (ji4)) true l0_0 l0_1 l0_2) else (if 0 ≤ (rd l0_1 (ji4)) then (if (rd l0_1 (ji4)) < (l0_0.length : Int) then (if 0 ≤ (rd l0_2 (ji4)) then (if (rd l0_2 (ji4)) < (l0_0.length : Int) then (impl_InduceOnce.j0 k (rd l0_1 (ji4)) (rd l0_2 (ji4)) ((rd l0_0 (rd l0_1 (ji4))) == (rd l0_0 (rd l0_2 (ji4)))) l0_0 l0_1 l0_2) else (none)) else (none)) else (none)) else (none))) else (none)) else (none)) else (none)) = some (r1, r2, r3, r4) := by first | (rw [hji4] at H; exact H) | (simp only [hji4] at H ⊢; exact H)
 (try rw [hji4] at A2)
 have hji4w : (IntKind.i64.wrap ((l0_1.length : Int) - 1)) = ji4 := (i64_w _).trans hji4
 by_cases c5 : 0 ≤ (ji4)
 {
 rw [if_pos c5] at H
 have c5b0 : decide (0 ≤ (ji4)) = true := decide_eq_true c5
 clear c5
 by_cases c6 : (ji4) < (l0_1.length : Int)
 {
 rw [if_pos c6] at H
 have c6b0 : decide ((ji4) < (l0_1.length : Int)) = true := decide_eq_true c6
 clear c6
 by_cases c7 : (ji4) < (l0_2.length : Int)
 {
 rw [if_pos c7] at H
 have c7b0 : decide ((ji4) < (l0_2.length : Int)) = true := decide_eq_true c7
 clear c7
 have HC8 := Aside0.mk H
 clear H
 go_enter Try.func9, Try.ntmps9
 go_upto_region 6 with (first | ((with_reducible refine gate_dst (N := 1) rfl ?_); refine box_event ?hg (N := 1) ?hd (cs := #[.slice A0_0 l0_0.length c0_0, .slice A0_1 l0_1.length c0_1, .slice A0_2 l0_2.length c0_2]) (t := 26) ?hr ?_; (case hd => rfl); (case hg => rfl); (case hr => first | (go_simp; done) | (go_simp; rfl)); intro gb227 hg w9 hbox hb; have n0_ := Aside0.mk (below_step (bX HB.out) hb); have n1_ := Aside0.mk (hbox); have n2_ := Aside0.mk ((szX (below_size (bX HB.out)) hg : w.heap.size ≤ gb227)); have n3_ := Aside0.mk ((szX (below_size (bX HB.out)) hg : w.heap.size ≤ gb227)); clear HB; have HB := n0_; have BK227 := n1_; have GW227 := n2_; have GE227 := n3_; clear n0_ n1_ n2_ n3_ hb hbox hg) | ((with_reducible refine gate_dst (N := 2) rfl ?_); refine box_event ?hg (N := 2) ?hd (cs := #[.slice none 0 0, .slice none 0 0, .slice none 0 0]) (t := 26) ?hr ?_; (case hd => rfl); (case hg => rfl); (case hr => first | (go_simp; done) | (go_simp; rfl)); intro gb228 hg w10 hbox hb; have n0_ := Aside0.mk (bbX BK227.out hb); have n1_ := Aside0.mk (below_step (bX1 HB.out GE227.out) hb); have n2_ := Aside0.mk (hbox); have n3_ := Aside0.mk ((szX (below_size (bX1 HB.out GE227.out)) hg : w.heap.size ≤ gb228)); have n4_ := Aside0.mk ((szX (below_size (bX1 HB.out GE227.out)) hg : w.heap.size ≤ gb228)); have n5_ := Aside0.mk (neX BK227.out hg); have n6_ := Aside0.mk (nfX BK227.out hg); clear BK227 HB; have BK227 := n0_; have HB := n1_; have BK228 := n2_; have GW228 := n3_; have GE228 := n4_; have NB227_228 := n5_; have NB228_227 := n6_; clear n0_ n1_ n2_ n3_ n4_ n5_ n6_ hb hbox hg; have hnb11 := NB227_228.out; have hnc11 := NB228_227.out; have hcz12_0 := cz30 BK227.out; have hcz12_1 := cz31 BK227.out; have hcz12_2 := cz32 BK227.out; have hfz12_0 := blk_frozen BK227.out 0; have hfz12_1 := blk_frozen BK227.out 1; have hfz12_2 := blk_frozen BK227.out 2) | ((with_reducible refine gate_callee (f := 31) rfl ?_); refine goesL_ (some 9) rfl rfl Try.func31 (by kernel_rfl) rfl #[.agg #[.slice A0_0 l0_0.length c0_0, .slice A0_1 l0_1.length c0_1, .slice A0_2 l0_2.length c0_2]] rfl aX ?_; (with_reducible refine (impl_ExchangeOk.calls k _ _ l0_0 _ _ l0_1 _ _ l0_2 true _ ?side1 ?side2 ?side3 ?side4 ?side5 ?side6 A2.out).mono ?_); (case side1 => exact cX (Kd.C_below HR0_0.out HB.out)); (case side2 => exact HC0_0.out); (case side3 => exact cX (Kd.C_below HR0_1.out HB.out)); (case side4 => exact HC0_1.out); (case side5 => exact cX (Kd.C_below HR0_2.out HB.out)); (case side6 => exact HC0_2.out); rintro e w13 ⟨rfl, hb⟩; refine ⟨_, rfl, ?_⟩; have n0_ := Aside0.mk (bbX BK227.out hb); have n1_ := Aside0.mk (bbX BK228.out hb); have n2_ := Aside0.mk (below_step (bX2 HB.out GE227.out GE228.out) hb); clear BK227 BK228 HB; have BK227 := n0_; have BK228 := n1_; have HB := n2_; clear n0_ n1_ n2_; (try clear hb); (try clear hb2); (try clear hk); (try clear hi); have hcz14_0 := cz30 BK227.out; have hcz14_1 := cz31 BK227.out; have hcz14_2 := cz32 BK227.out; have hfz14_0 := blk_frozen BK227.out 0; have hfz14_1 := blk_frozen BK227.out 1; have hfz14_2 := blk_frozen BK227.out 2; have p230 : 0 ≤ ((ji4) : Int) := dX; have q230 : (ji4) < (l0_1.length : Int) := dX; obtain ⟨ad230, e230, hx230_0⟩ := Kd.at_int HR0_1.out (ji4) p230 q230; cases e230; replace hx230_0 := (HB.out.cell (World.block_lt_of_cell? w _ hx230_0)).trans hx230_0; replace p230 := eq_true p230; replace q230 := eq_true q230; have p231 : 0 ≤ ((ji4) : Int) := dX; have q231 : (ji4) < (l0_2.length : Int) := dX; obtain ⟨ad231, e231, hx231_0⟩ := Kd.at_int HR0_2.out (ji4) p231 q231; cases e231; replace hx231_0 := (HB.out.cell (World.block_lt_of_cell? w _ hx231_0)).trans hx231_0; replace p231 := eq_true p231; replace q231 := eq_true q231))
 (try simp only [Act.put, List.setIfInBounds_toArray, List.set_cons_zero, List.set_cons_succ])
 go_cut [42] (fun v42 wc => ∃ (kq : Nat) (x42_7 : Bool), v42 = .bool x42_7 ∧ Aside0 (impl_InduceOnce.j0 kq (rd l0_1 (ji4)) (rd l0_2 (ji4)) x42_7 l0_0 l0_1 l0_2 = some (r1, r2, r3, r4)) ∧ Aside0 (kq ≤ k) ∧ Aside0 (wc.heap[gb227]? = some (.cells #[(.slice A0_0 l0_0.length c0_0), (.slice (some ad230) l0_1.length c0_1), (.slice (some ad231) l0_2.length c0_2)] 26 (0, 0))) ∧ Aside0 (wc.heap[gb228]? = some (.cells #[(.slice none 0 0), (.slice none 0 0), (.slice none 0 0)] 26 (0, 0))) ∧ Aside0 (Below w.heap.size w wc))
 case first =>
  have H := HC8.out
  clear HC8
  by_cases c15 : (rd l0_1 (ji4)) = (rd l0_2 (ji4))
  {
  rw [if_pos c15] at H
  have c15b0 : ((rd l0_1 (ji4)) == (rd l0_2 (ji4))) = true := beq_iff_eq.mpr c15
  have c15b1 : ((rd l0_1 (ji4)) != (rd l0_2 (ji4))) = false := bne_eq_false_iff_eq.mpr c15
  clear c15
  (first | rw [c15b0] | (simp only [i64_w, i32_w]; rw [c15b0]) | skip)
  have H' := Aside0.mk H
  clear H
  try go_wp2
  have n0_ := Aside0.mk (blk_drew BK227.out)
  have n1_ := Aside0.mk (blk_drew BK228.out)
  have n2_ := Aside0.mk (below_drew1 HB.out)
  clear BK227 BK228 HB
  have BK227 := n0_
  have BK228 := n1_
  have HB := n2_
  clear n0_ n1_ n2_
  refine start_ (n := 16) (S := fun w' => True) (ds := []) #[ff,ff,ff,ff,ff,ff,ff,ff,ff,ff,ff,ff,ff,ff,ff,ff] (by kernel_rfl) rfl rfl trivial (fun hHeld => ?_); refine with_tabW impl_InduceOnce.tab6 impl_InduceOnce.bits6 (fun HT_ HW_ => ?_)
  generalize w13.drew = w16 at BK227 BK228 HB hHeld ⊢
  refine pX 0 27 (fl 16 1) rfl rfl HT_.out ?_
  refine pX 1 28 (fl 16 3) rfl rfl HT_.out ?_
  refine pX 2 29 (fl 16 7) rfl rfl HT_.out ?_
  refine pX 3 30 (fl 16 15) rfl rfl HT_.out ?_
  refine uX 4 31 (fl 16 31) rfl rfl HT_.out ?_
  refine uX 5 32 (fl 16 63) rfl rfl HT_.out ?_
  refine uX 6 33 (fl 16 127) rfl rfl HT_.out ?_
  refine uX 7 34 (fl 16 255) rfl rfl HT_.out ?_
  refine uX 8 35 (fl 16 511) rfl rfl HT_.out ?_
  refine uX 9 36 (fl 16 1023) rfl rfl HT_.out ?_
  refine uX 10 37 (fl 16 2047) rfl rfl HT_.out ?_
  refine uX 11 38 (fl 16 4095) rfl rfl HT_.out ?_
  refine uX 12 39 (fl 16 8191) rfl rfl HT_.out ?_
  refine uX 13 40 (fl 16 16383) rfl rfl HT_.out ?_
  refine uX 14 41 (fl 16 32767) rfl rfl HT_.out ?_
  refine pX 15 42 (fl 16 65535) rfl rfl HT_.out ?_
  refine done_ (done_of HT_.out (by kernel_rfl)) ?_
  try go_wp2
  go_meet
  case rel => exact ⟨_, (true), vX, H', ⟨by first | omega | exact Nat.le_refl _⟩, ⟨kX BK227.out⟩, ⟨kX BK228.out⟩, ⟨bX2 HB.out GE227.out GE228.out⟩⟩
  }
  {
  rw [if_neg c15] at H
  have c15b0 : ((rd l0_1 (ji4)) == (rd l0_2 (ji4))) = false := beq_eq_false_iff_ne.mpr c15
  have c15b1 : ((rd l0_1 (ji4)) != (rd l0_2 (ji4))) = true := bne_iff_ne.mpr c15
  (first | rw [c15b0] | (simp only [i64_w, i32_w]; rw [c15b0]) | skip)
  by_cases c17 : 0 ≤ (rd l0_1 (ji4))
  {
  rw [if_pos c17] at H
  have c17b0 : decide (0 ≤ (rd l0_1 (ji4))) = true := decide_eq_true c17
  clear c17
  by_cases c18 : (rd l0_1 (ji4)) < (l0_0.length : Int)
  {
  rw [if_pos c18] at H
  have c18b0 : decide ((rd l0_1 (ji4)) < (l0_0.length : Int)) = true := decide_eq_true c18
  clear c18
  by_cases c19 : 0 ≤ (rd l0_2 (ji4))
  {
  rw [if_pos c19] at H
  have c19b0 : decide (0 ≤ (rd l0_2 (ji4))) = true := decide_eq_true c19
  clear c19
  by_cases c20 : (rd l0_2 (ji4)) < (l0_0.length : Int)
  {
  rw [if_pos c20] at H
  have c20b0 : decide ((rd l0_2 (ji4)) < (l0_0.length : Int)) = true := decide_eq_true c20
  clear c20
  have H' := Aside0.mk H
  clear H
  try go_wp2
  have n0_ := Aside0.mk (blk_drew BK227.out)
  have n1_ := Aside0.mk (blk_drew BK228.out)
  have n2_ := Aside0.mk (below_drew1 HB.out)
  clear BK227 BK228 HB
  have BK227 := n0_
  have BK228 := n1_
  have HB := n2_
  clear n0_ n1_ n2_
  have p232 : 0 ≤ ((rd l0_1 (ji4)) : Int) := dX
  have q232 : (rd l0_1 (ji4)) < (l0_0.length : Int) := dX
  obtain ⟨ad232, e232, hx232_0⟩ := Kd.at_int HR0_0.out (rd l0_1 (ji4)) p232 q232
  have hw232_0 := hx232_0
  cases e232
  replace hx232_0 := (HB.out.cell (World.block_lt_of_cell? w _ hx232_0)).trans hx232_0
  replace p232 := eq_true p232
  replace q232 := eq_true q232
  have p233 : 0 ≤ ((rd l0_2 (ji4)) : Int) := dX
  have q233 : (rd l0_2 (ji4)) < (l0_0.length : Int) := dX
  obtain ⟨ad233, e233, hx233_0⟩ := Kd.at_int HR0_0.out (rd l0_2 (ji4)) p233 q233
  have hw233_0 := hx233_0
  obtain rfl : ad232 = ad233 := (by injection e233)
  replace hx233_0 := (HB.out.cell (World.block_lt_of_cell? w _ hx233_0)).trans hx233_0
  replace p233 := eq_true p233
  replace q233 := eq_true q233
  refine start_ (n := 16) (S := fun w' => w'.cell? ⟨gb227, 0, none⟩ = some (.slice (some ad232) l0_0.length c0_0) ∧ w'.cell? ⟨gb227, 1, none⟩ = some (.slice (some ad230) l0_1.length c0_1) ∧ w'.cell? ⟨gb227, 2, none⟩ = some (.slice (some ad231) l0_2.length c0_2) ∧ w'.cell? (ad232.add ((rd l0_1 (ji4))).toNat) = some (.int .i64 (rd l0_0 (rd l0_1 (ji4)))) ∧ w'.cell? (ad232.add ((rd l0_2 (ji4))).toNat) = some (.int .i64 (rd l0_0 (rd l0_2 (ji4))))) (ds := []) #[ff,ff,ff,ff,ff,ff,ff,ff,ff,ff,ff,ff,ff,ff,ff,ff] (by kernel_rfl) rfl rfl ⟨cz30 BK227.out, cz31 BK227.out, cz32 BK227.out, ((HB.out.cell (World.block_lt_of_cell? w _ hw232_0)).trans hw232_0), ((HB.out.cell (World.block_lt_of_cell? w _ hw233_0)).trans hw233_0)⟩ (fun hHeld => ?_); refine with_tabW impl_InduceOnce.tab6 impl_InduceOnce.bits6 (fun HT_ HW_ => ?_)
  generalize w13.drew = w21 at BK227 BK228 HB hx232_0 hx233_0 hHeld ⊢
  refine pX 0 27 (fl 16 1) rfl rfl HT_.out ?_
  refine pX 1 28 (fl 16 3) rfl rfl HT_.out ?_
  refine pX 2 29 (fl 16 7) rfl rfl HT_.out ?_
  refine pX 3 30 (fl 16 15) rfl rfl HT_.out ?_
  refine pX 4 31 (fl 16 31) rfl rfl HT_.out ?_
  refine pX 6 33 (fl 16 95) rfl rfl HT_.out ?_
  refine pX 9 36 (fl 16 607) rfl rfl HT_.out ?_
  refine pX 11 38 (fl 16 2655) rfl rfl HT_.out ?_
  refine tX5 5 32 (fl 16 2687) rfl rfl HT_.out HW_.out hHeld ?_
  refine pX 7 34 (fl 16 2815) rfl rfl HT_.out ?_
  refine tX5 8 35 (fl 16 3071) rfl rfl HT_.out HW_.out hHeld ?_
  refine tX5 10 37 (fl 16 4095) rfl rfl HT_.out HW_.out hHeld ?_
  refine pX 12 39 (fl 16 8191) rfl rfl HT_.out ?_
  refine tX5 13 40 (fl 16 16383) rfl rfl HT_.out HW_.out hHeld ?_
  refine pX 14 41 (fl 16 32767) rfl rfl HT_.out ?_
  refine pX 15 42 (fl 16 65535) rfl rfl HT_.out ?_
  refine done_ (done_of HT_.out (by kernel_rfl)) ?_
  try go_wp2
  go_meet
  case rel => exact ⟨_, (((rd l0_0 (rd l0_1 (ji4))) == (rd l0_0 (rd l0_2 (ji4))))), (by first | rfl | (simp; done) | (simp only [← hji4] <;> (first | rfl | simp)) | (simp [*]; done)), H', ⟨by first | omega | exact Nat.le_refl _⟩, ⟨kX BK227.out⟩, ⟨kX BK228.out⟩, ⟨bX2 HB.out GE227.out GE228.out⟩⟩
  }
  {
  rw [if_neg c20] at H
  exact absurd H (by simp)
  }
  }
  {
  rw [if_neg c19] at H
  exact absurd H (by simp)
  }
  }
  {
  rw [if_neg c18] at H
  exact absurd H (by simp)
  }
  }
  {
  rw [if_neg c17] at H
  exact absurd H (by simp)
  }
  }
 case rest =>
 clear HC8
 try clear c1
 try clear c2
 try clear p2
 try clear q2
 try clear hx2
 try clear c3
 try clear c5
 try clear c5b0
 try clear c6
 try clear c6b0
 try clear p6
 try clear c7
 try clear c7b0
 try clear c9
 try clear c11
 try clear c15
 try clear c15b0
 try clear c15b1
 try clear c17
 try clear c17b0
 try clear c18
 try clear c18b0
 try clear c19
 try clear c19b0
 try clear c20
 try clear c20b0
 try clear hcz12_0
 try clear hcz12_1
 try clear hcz12_2
 try clear hcz14_0
 try clear hcz14_1
 try clear hcz14_2
 try clear hfz12_0
 try clear hfz12_1
 try clear hfz12_2
 try clear hfz14_0
 try clear hfz14_1
 try clear hfz14_2
 try clear hx230_0
 try clear hx231_0
 try clear hx232_0
 try clear hx233_0
 try clear p230
 try clear p231
 try clear p232
 try clear p233
 try clear q230
 try clear q231
 try clear q232
 try clear q233
 obtain ⟨kq, x42_7, rfl, HA, HJ7, BK227, BK228, HB⟩ := hcut
 cases kq with
 | zero => exact absurd HA.out (by simp [impl_InduceOnce.j0])
 | succ kj7 =>
 have H := HA.out
 clear HA
 simp only [impl_InduceOnce.j0] at H
 by_cases c22 : x42_7 = true
 {
 subst c22
 have H1 : (some (([] : List Int), ([] : List Int), ([] : List Int), false)) = some (r1, r2, r3, r4) := by rw [if_pos rfl] at H; exact H
 clear H
 have H := H1
 clear H1
 simp only [Option.some.injEq, Prod.mk.injEq] at H
 obtain ⟨rfl, rfl, rfl, rfl⟩ := H
 have hnb23 := NB228_227.out
 have hnc23 := NB227_228.out
 have hcz24_0 := cz30 BK228.out
 have hcz24_1 := cz31 BK228.out
 have hcz24_2 := cz32 BK228.out
 have hfz24_0 := blk_frozen BK228.out 0
 have hfz24_1 := blk_frozen BK228.out 1
 have hfz24_2 := blk_frozen BK228.out 2
 go_wp2
 refine bodyPost_ret (results_ct rfl _ _ gb228 26 #[.slice none 0 0, .slice none 0 0, .slice none 0 0] (0, 0) _ rfl (by (with_reducible repeat (first|refine kN ?_ _|refine kD ?_|refine kA ?_ _)); refine blk_put (cs := #[.slice none 0 0, .slice none 0 0, .slice none 0 0]) ?_ 2 _ rfl; (with_reducible repeat (first|refine kN ?_ _|refine kD ?_|refine kA ?_ _)); refine blk_put (cs := #[.slice none 0 0, .slice none 0 0, .slice none 0 0]) ?_ 1 _ rfl; (with_reducible repeat (first|refine kN ?_ _|refine kD ?_|refine kA ?_ _)); refine blk_put (cs := #[.slice none 0 0, .slice none 0 0, .slice none 0 0]) ?_ 0 _ rfl; (with_reducible repeat (first|refine kN ?_ _|refine kD ?_|refine kA ?_ _)); exact BK228.out) Try.underlying26 rfl (by kernel_rfl)) rfl ?_
 exact ⟨_, _, _, by first | rfl | (simp [errW_none, errW_some] <;> rfl) | (simp only [← hji4]; first | rfl | (simp [errW_none, errW_some] <;> rfl)) | (simp [*, errW_none, errW_some] <;> rfl), by first | exact Kd.R_nil _ _ _ _ _ | exact Kd.N_nil _ _ _ _ _ | exact Kd.V_nil _ _ _ _ _ | exact Kd.Q_nil _ _ _ _ _ | exact Kd.S_nil _ _ _ _ _, by first | exact Kd.R_nil _ _ _ _ _ | exact Kd.N_nil _ _ _ _ _ | exact Kd.V_nil _ _ _ _ _ | exact Kd.Q_nil _ _ _ _ _ | exact Kd.S_nil _ _ _ _ _, by first | exact Kd.R_nil _ _ _ _ _ | exact Kd.N_nil _ _ _ _ _ | exact Kd.V_nil _ _ _ _ _ | exact Kd.Q_nil _ _ _ _ _ | exact Kd.S_nil _ _ _ _ _, bX2 HB.out GE227.out GE228.out⟩
 }
 {
 replace c22 := Bool.eq_false_iff.mpr c22
 subst c22
 have H1 : ((impl_copyExchange.f l0_0 l0_1 l0_2).bind fun bt234 => (if 0 ≤ (rd l0_1 (ji4)) then (if (rd l0_1 (ji4)) < (l0_0.length : Int) then (if 0 ≤ (rd l0_2 (ji4)) then (if (rd l0_2 (ji4)) < (l0_0.length : Int) then (if (rd l0_0 (rd l0_1 (ji4))) > (rd l0_0 (rd l0_2 (ji4))) then (if (rd l0_1 (ji4)) < (bt234.1.length : Int) then ((impl_putBehind.f kj7 l0_2 (rd l0_1 (ji4))).bind fun t249 => (some ((bt234.1.set ((rd l0_1 (ji4)) : Int).toNat (wrap64 ((rd bt234.1 (rd l0_1 (ji4))) - (rd l0_0 (rd l0_2 (ji4)))))), bt234.2.1, t249, true))) else (none)) else (if (rd l0_2 (ji4)) < (bt234.1.length : Int) then ((impl_putBehind.f kj7 l0_1 (rd l0_2 (ji4))).bind fun t255 => (some ((bt234.1.set ((rd l0_2 (ji4)) : Int).toNat (wrap64 ((rd bt234.1 (rd l0_2 (ji4))) - (rd l0_0 (rd l0_1 (ji4)))))), t255, bt234.2.2, true))) else (none))) else (none)) else (none)) else (none)) else (none))) = some (r1, r2, r3, r4) := by rw [if_neg (show ¬ (false = true) by decide)] at H; exact H
 clear H
 have H := H1
 clear H1
 replace H := Option.bind_eq_some_iff.mp H
 obtain ⟨⟨t234, t237, t240⟩, A250, H⟩ := H
 replace H : (if 0 ≤ (rd l0_1 (ji4)) then (if (rd l0_1 (ji4)) < (l0_0.length : Int) then (if 0 ≤ (rd l0_2 (ji4)) then (if (rd l0_2 (ji4)) < (l0_0.length : Int) then (if (rd l0_0 (rd l0_1 (ji4))) > (rd l0_0 (rd l0_2 (ji4))) then (if (rd l0_1 (ji4)) < (t234.length : Int) then ((impl_putBehind.f kj7 l0_2 (rd l0_1 (ji4))).bind fun t249 => (some ((t234.set ((rd l0_1 (ji4)) : Int).toNat (wrap64 ((rd t234 (rd l0_1 (ji4))) - (rd l0_0 (rd l0_2 (ji4)))))), t237, t249, true))) else (none)) else (if (rd l0_2 (ji4)) < (t234.length : Int) then ((impl_putBehind.f kj7 l0_1 (rd l0_2 (ji4))).bind fun t255 => (some ((t234.set ((rd l0_2 (ji4)) : Int).toNat (wrap64 ((rd t234 (rd l0_2 (ji4))) - (rd l0_0 (rd l0_1 (ji4)))))), t255, t240, true))) else (none))) else (none)) else (none)) else (none)) else (none)) = some (r1, r2, r3, r4) := H
 have A25 := Aside0.mk A250
 clear A250
 by_cases c26 : 0 ≤ (rd l0_1 (ji4))
 {
 rw [if_pos c26] at H
 have c26b0 : decide (0 ≤ (rd l0_1 (ji4))) = true := decide_eq_true c26
 clear c26
 by_cases c27 : (rd l0_1 (ji4)) < (l0_0.length : Int)
 {
 rw [if_pos c27] at H
 have c27b0 : decide ((rd l0_1 (ji4)) < (l0_0.length : Int)) = true := decide_eq_true c27
 clear c27
 by_cases c28 : 0 ≤ (rd l0_2 (ji4))
 {
 rw [if_pos c28] at H
 have c28b0 : decide (0 ≤ (rd l0_2 (ji4))) = true := decide_eq_true c28
 clear c28
 by_cases c29 : (rd l0_2 (ji4)) < (l0_0.length : Int)
 {
 rw [if_pos c29] at H
 have c29b0 : decide ((rd l0_2 (ji4)) < (l0_0.length : Int)) = true := decide_eq_true c29
 clear c29
 by_cases c30 : (rd l0_0 (rd l0_1 (ji4))) > (rd l0_0 (rd l0_2 (ji4)))
 {
 rw [if_pos c30] at H
 have c30b0 : decide ((rd l0_0 (rd l0_2 (ji4))) < (rd l0_0 (rd l0_1 (ji4)))) = true := decide_eq_true c30
 clear c30
 by_cases c31 : (rd l0_1 (ji4)) < (t234.length : Int)
 {
 rw [if_pos c31] at H
 have c31b0 : decide ((rd l0_1 (ji4)) < (t234.length : Int)) = true := decide_eq_true c31
 clear c31
 obtain ⟨y248, hy248⟩ : ∃ y_ : List Int, y_ = (t234.set ((rd l0_1 (ji4)) : Int).toNat (wrap64 ((rd t234 (rd l0_1 (ji4))) - (rd l0_0 (rd l0_2 (ji4)))))) := ⟨_, rfl⟩
 replace H : ((impl_putBehind.f kj7 l0_2 (rd l0_1 (ji4))).bind fun t249 => (some (y248, t237, t249, true))) = some (r1, r2, r3, r4) := by first | (rw [hy248]; with_reducible exact H) | (have H2_ := (Option.bind_some _ _).symm.trans H; rw [hy248]; with_reducible exact H2_) | (have H2_ := (Option.bind_some _ _).symm.trans H; with_reducible exact H2_) | with_reducible exact H | (rw [hy248]; exact H) | exact H
 have Ny248 := Aside0.mk hy248
 clear hy248
 replace H := Option.bind_eq_some_iff.mp H
 obtain ⟨t249, A330, H⟩ := H
 replace H : (some (y248, t237, t249, true)) = some (r1, r2, r3, r4) := H
 have A33 := Aside0.mk A330
 clear A330
 simp only [Option.some.injEq, Prod.mk.injEq] at H
 obtain ⟨rfl, rfl, rfl, rfl⟩ := H
 have hnb34 := NB227_228.out
 have hnc34 := NB228_227.out
 have hcz35_0 := cz30 BK227.out
 have hcz35_1 := cz31 BK227.out
 have hcz35_2 := cz32 BK227.out
 have hfz35_0 := blk_frozen BK227.out 0
 have hfz35_1 := blk_frozen BK227.out 1
 have hfz35_2 := blk_frozen BK227.out 2
 try go_wp2_with (first | ((with_reducible refine gate_callee (f := 32) rfl ?_); refine goesL_ (some 45) rfl rfl Try.func32 (by kernel_rfl) rfl #[.agg #[.slice A0_0 l0_0.length c0_0, .slice (some ad230) l0_1.length c0_1, .slice (some ad231) l0_2.length c0_2]] rfl aX ?_; (with_reducible refine (impl_copyExchange.calls _ _ l0_0 _ _ l0_1 _ _ l0_2 t234 t237 t240 _ ?side1 ?side2 ?side3 ?side4 ?side5 ?side6 A25.out).mono ?_); (case side1 => exact cX (Kd.C_below HR0_0.out HB.out)); (case side2 => exact HC0_0.out); (case side3 => exact cX (Kd.C_below HR0_1.out HB.out)); (case side4 => exact HC0_1.out); (case side5 => exact cX (Kd.C_below HR0_2.out HB.out)); (case side6 => exact HC0_2.out); rintro e w36 ⟨v235, v238, v241, rfl, ho0, ho1, ho2, hb⟩; refine ⟨_, rfl, ?_⟩; have n0_ := Aside0.mk (Kd.R_lower ho0 (below_size (bX2 HB.out GE227.out GE228.out))); have n1_ := Aside0.mk (Kd.R_lower ho1 (below_size (bX2 HB.out GE227.out GE228.out))); have n2_ := Aside0.mk (Kd.R_lower ho2 (below_size (bX2 HB.out GE227.out GE228.out))); have n3_ := Aside0.mk (bbX BK227.out hb); have n4_ := Aside0.mk (bbX BK228.out hb); have n5_ := Aside0.mk (below_step (bX2 HB.out GE227.out GE228.out) hb); clear BK227 BK228 HB; have HO236 := n0_; have HO239 := n1_; have HO242 := n2_; have BK227 := n3_; have BK228 := n4_; have HB := n5_; clear n0_ n1_ n2_ n3_ n4_ n5_; (try clear hb); (try clear hb2); (try clear hk); (try clear hi); (try clear ho0); (try clear ho1); (try clear ho2)) | ((with_reducible refine gate_dst (N := 7) rfl ?_); refine box_event ?hg (N := 7) ?hd (cs := #[.slice none 0 0, .slice none 0 0, .slice none 0 0]) (t := 26) ?hr ?_; (case hd => rfl); (case hg => rfl); (case hr => first | (go_simp; done) | (go_simp; rfl)); intro gb243 hg w37 hbox hb; have n0_ := Aside0.mk (Kd.R_below (rX HO236.out) hb); have n1_ := Aside0.mk (Kd.R_below (rX HO239.out) hb); have n2_ := Aside0.mk (Kd.R_below (rX HO242.out) hb); have n3_ := Aside0.mk (bbX BK227.out hb); have n4_ := Aside0.mk (bbX BK228.out hb); have n5_ := Aside0.mk (below_step (bX2 HB.out GE227.out GE228.out) hb); have n6_ := Aside0.mk (hbox); have n7_ := Aside0.mk ((szX (below_size (bX2 HB.out GE227.out GE228.out)) hg : w.heap.size ≤ gb243)); have n8_ := Aside0.mk ((szX (below_size (bX2 HB.out GE227.out GE228.out)) hg : w.heap.size ≤ gb243)); have n9_ := Aside0.mk (neX BK227.out hg); have n10_ := Aside0.mk (nfX BK227.out hg); have n11_ := Aside0.mk (neX BK228.out hg); have n12_ := Aside0.mk (nfX BK228.out hg); clear HO236 HO239 HO242 BK227 BK228 HB; have HO236 := n0_; have HO239 := n1_; have HO242 := n2_; have BK227 := n3_; have BK228 := n4_; have HB := n5_; have BK243 := n6_; have GW243 := n7_; have GE243 := n8_; have NB227_243 := n9_; have NB243_227 := n10_; have NB228_243 := n11_; have NB243_228 := n12_; clear n0_ n1_ n2_ n3_ n4_ n5_ n6_ n7_ n8_ n9_ n10_ n11_ n12_ hb hbox hg; obtain ⟨Ao38, co38, eo38⟩ := Kd.R_slice HO236.out; subst eo38; have hnb39 := NB243_227.out; have hnc39 := NB227_243.out; have hnb40 := NB243_228.out; have hnc40 := NB228_243.out; have hcz41_0 := cz30 BK243.out; have hcz41_1 := cz31 BK243.out; have hcz41_2 := cz32 BK243.out; have hfz41_0 := blk_frozen BK243.out 0; have hfz41_1 := blk_frozen BK243.out 1; have hfz41_2 := blk_frozen BK243.out 2; obtain ⟨Ao42, co42, eo42⟩ := Kd.R_slice HO239.out; subst eo42; obtain ⟨Ao43, co43, eo43⟩ := Kd.R_slice HO242.out; subst eo43))
 have n0_ : Aside0 (Kd.R (Kd.int .i64) 3 (((w37.setCell ⟨gb243, 0, none⟩ (.slice Ao38 t234.length co38)).setCell ⟨gb243, 1, none⟩ (.slice Ao42 t237.length co42)).setCell ⟨gb243, 2, none⟩ (.slice Ao43 t240.length co43)) w.heap.size (fun k_ => some k_ ≠ (.slice Ao42 t237.length co42 : Value).ownBlock ∧ some k_ ≠ (.slice Ao43 t240.length co43 : Value).ownBlock) (.slice Ao38 t234.length co38) t234) := ⟨by (with_reducible repeat (first|apply rA|apply rN|apply rD)); exact Kd.R_mono (Kd.R_far (p := ⟨gb243, 2, none⟩) (Kd.R_far (p := ⟨gb243, 1, none⟩) (Kd.R_far (p := ⟨gb243, 0, none⟩) (Kd.R_types HO236.out BK243.out (by decide)) (fun _ hk => hk.2) (.slice Ao38 t234.length co38)) (fun _ hk => hk.2) (.slice Ao42 t237.length co42)) (fun _ hk => hk.2) (.slice Ao43 t240.length co43)) (fun _ hk => ⟨hk.1.1, hk.1.2⟩)⟩
 have n1_ : Aside0 (Kd.R (Kd.int .i64) 3 (((w37.setCell ⟨gb243, 0, none⟩ (.slice Ao38 t234.length co38)).setCell ⟨gb243, 1, none⟩ (.slice Ao42 t237.length co42)).setCell ⟨gb243, 2, none⟩ (.slice Ao43 t240.length co43)) w.heap.size (fun k_ => some k_ ≠ (.slice Ao38 t234.length co38 : Value).ownBlock ∧ some k_ ≠ (.slice Ao43 t240.length co43 : Value).ownBlock) (.slice Ao42 t237.length co42) t237) := ⟨by (with_reducible repeat (first|apply rA|apply rN|apply rD)); exact Kd.R_mono (Kd.R_far (p := ⟨gb243, 2, none⟩) (Kd.R_far (p := ⟨gb243, 1, none⟩) (Kd.R_far (p := ⟨gb243, 0, none⟩) (Kd.R_types HO239.out BK243.out (by decide)) (fun _ hk => hk.2) (.slice Ao38 t234.length co38)) (fun _ hk => hk.2) (.slice Ao42 t237.length co42)) (fun _ hk => hk.2) (.slice Ao43 t240.length co43)) (fun _ hk => ⟨hk.1.1, hk.1.2⟩)⟩
 have n2_ : Aside0 (Kd.R (Kd.int .i64) 3 (((w37.setCell ⟨gb243, 0, none⟩ (.slice Ao38 t234.length co38)).setCell ⟨gb243, 1, none⟩ (.slice Ao42 t237.length co42)).setCell ⟨gb243, 2, none⟩ (.slice Ao43 t240.length co43)) w.heap.size (fun k_ => some k_ ≠ (.slice Ao38 t234.length co38 : Value).ownBlock ∧ some k_ ≠ (.slice Ao42 t237.length co42 : Value).ownBlock) (.slice Ao43 t240.length co43) t240) := ⟨by (with_reducible repeat (first|apply rA|apply rN|apply rD)); exact Kd.R_mono (Kd.R_far (p := ⟨gb243, 2, none⟩) (Kd.R_far (p := ⟨gb243, 1, none⟩) (Kd.R_far (p := ⟨gb243, 0, none⟩) (Kd.R_types HO242.out BK243.out (by decide)) (fun _ hk => hk.2) (.slice Ao38 t234.length co38)) (fun _ hk => hk.2) (.slice Ao42 t237.length co42)) (fun _ hk => hk.2) (.slice Ao43 t240.length co43)) (fun _ hk => ⟨hk.1.1, hk.1.2⟩)⟩
 have n3_ : Aside0 ((((w37.setCell ⟨gb243, 0, none⟩ (.slice Ao38 t234.length co38)).setCell ⟨gb243, 1, none⟩ (.slice Ao42 t237.length co42)).setCell ⟨gb243, 2, none⟩ (.slice Ao43 t240.length co43)).heap[gb227]? = some (.cells #[.slice A0_0 l0_0.length c0_0, .slice (some ad230) l0_1.length c0_1, .slice (some ad231) l0_2.length c0_2] 26 (0, 0))) := ⟨by (with_reducible repeat (first|refine kN ?_ _|refine kD ?_|refine kA ?_ _)); refine blk_far ?_ NB227_243.out _; (with_reducible repeat (first|refine kN ?_ _|refine kD ?_|refine kA ?_ _)); refine blk_far ?_ NB227_243.out _; (with_reducible repeat (first|refine kN ?_ _|refine kD ?_|refine kA ?_ _)); refine blk_far ?_ NB227_243.out _; (with_reducible repeat (first|refine kN ?_ _|refine kD ?_|refine kA ?_ _)); exact BK227.out⟩
 have n4_ : Aside0 ((((w37.setCell ⟨gb243, 0, none⟩ (.slice Ao38 t234.length co38)).setCell ⟨gb243, 1, none⟩ (.slice Ao42 t237.length co42)).setCell ⟨gb243, 2, none⟩ (.slice Ao43 t240.length co43)).heap[gb228]? = some (.cells #[.slice none 0 0, .slice none 0 0, .slice none 0 0] 26 (0, 0))) := ⟨by (with_reducible repeat (first|refine kN ?_ _|refine kD ?_|refine kA ?_ _)); refine blk_far ?_ NB228_243.out _; (with_reducible repeat (first|refine kN ?_ _|refine kD ?_|refine kA ?_ _)); refine blk_far ?_ NB228_243.out _; (with_reducible repeat (first|refine kN ?_ _|refine kD ?_|refine kA ?_ _)); refine blk_far ?_ NB228_243.out _; (with_reducible repeat (first|refine kN ?_ _|refine kD ?_|refine kA ?_ _)); exact BK228.out⟩
 have n5_ : Aside0 ((((w37.setCell ⟨gb243, 0, none⟩ (.slice Ao38 t234.length co38)).setCell ⟨gb243, 1, none⟩ (.slice Ao42 t237.length co42)).setCell ⟨gb243, 2, none⟩ (.slice Ao43 t240.length co43)).heap[gb243]? = some (.cells #[.slice Ao38 t234.length co38, .slice Ao42 t237.length co42, .slice Ao43 t240.length co43] 26 (0, 0))) := ⟨by (with_reducible repeat (first|refine kN ?_ _|refine kD ?_|refine kA ?_ _)); refine blk_put (cs := #[.slice Ao38 t234.length co38, .slice Ao42 t237.length co42, .slice none 0 0]) ?_ 2 _ rfl; (with_reducible repeat (first|refine kN ?_ _|refine kD ?_|refine kA ?_ _)); refine blk_put (cs := #[.slice Ao38 t234.length co38, .slice none 0 0, .slice none 0 0]) ?_ 1 _ rfl; (with_reducible repeat (first|refine kN ?_ _|refine kD ?_|refine kA ?_ _)); refine blk_put (cs := #[.slice none 0 0, .slice none 0 0, .slice none 0 0]) ?_ 0 _ rfl; (with_reducible repeat (first|refine kN ?_ _|refine kD ?_|refine kA ?_ _)); exact BK243.out⟩
 have n6_ : Aside0 (Below w.heap.size w (((w37.setCell ⟨gb243, 0, none⟩ (.slice Ao38 t234.length co38)).setCell ⟨gb243, 1, none⟩ (.slice Ao42 t237.length co42)).setCell ⟨gb243, 2, none⟩ (.slice Ao43 t240.length co43))) := ⟨bX3 HB.out GE227.out GE228.out GE243.out⟩
 (try clear HO236)
 (try clear HO239)
 (try clear HO242)
 (try clear BK227)
 (try clear BK228)
 (try clear BK243)
 (try clear HB)
 generalize (((w37.setCell ⟨gb243, 0, none⟩ (.slice Ao38 t234.length co38)).setCell ⟨gb243, 1, none⟩ (.slice Ao42 t237.length co42)).setCell ⟨gb243, 2, none⟩ (.slice Ao43 t240.length co43)) = w44 at n0_ n1_ n2_ n3_ n4_ n5_ n6_ ⊢
 have HO236 := n0_
 have HO239 := n1_
 have HO242 := n2_
 have BK227 := n3_
 have BK228 := n4_
 have BK243 := n5_
 have HB := n6_
 clear n0_ n1_ n2_ n3_ n4_ n5_ n6_
 have n0_ := Aside0.mk (Kd.R_drew HO236.out)
 have n1_ := Aside0.mk (Kd.R_drew HO239.out)
 have n2_ := Aside0.mk (Kd.R_drew HO242.out)
 have n3_ := Aside0.mk (blk_drew BK227.out)
 have n4_ := Aside0.mk (blk_drew BK228.out)
 have n5_ := Aside0.mk (blk_drew BK243.out)
 have n6_ := Aside0.mk (below_drew1 HB.out)
 clear HO236 HO239 HO242 BK227 BK228 BK243 HB
 have HO236 := n0_
 have HO239 := n1_
 have HO242 := n2_
 have BK227 := n3_
 have BK228 := n4_
 have BK243 := n5_
 have HB := n6_
 clear n0_ n1_ n2_ n3_ n4_ n5_ n6_
 have p244 : 0 ≤ ((rd l0_1 (ji4)) : Int) := dX
 have q244 : (rd l0_1 (ji4)) < (l0_0.length : Int) := dX
 obtain ⟨ad244, e244, hx244_0⟩ := Kd.at_int HR0_0.out (rd l0_1 (ji4)) p244 q244
 have hw244_0 := hx244_0
 cases e244
 replace hx244_0 := (HB.out.cell (World.block_lt_of_cell? w _ hx244_0)).trans hx244_0
 replace p244 := eq_true p244
 replace q244 := eq_true q244
 have p245 : 0 ≤ ((rd l0_2 (ji4)) : Int) := dX
 have q245 : (rd l0_2 (ji4)) < (l0_0.length : Int) := dX
 obtain ⟨ad245, e245, hx245_0⟩ := Kd.at_int HR0_0.out (rd l0_2 (ji4)) p245 q245
 have hw245_0 := hx245_0
 obtain rfl : ad244 = ad245 := (by injection e245)
 replace hx245_0 := (HB.out.cell (World.block_lt_of_cell? w _ hx245_0)).trans hx245_0
 replace p245 := eq_true p245
 replace q245 := eq_true q245
 refine start_ (n := 11) (S := fun w' => w'.cell? ⟨gb227, 0, none⟩ = some (.slice (some ad244) l0_0.length c0_0) ∧ w'.cell? ⟨gb227, 1, none⟩ = some (.slice (some ad230) l0_1.length c0_1) ∧ w'.cell? ⟨gb227, 2, none⟩ = some (.slice (some ad231) l0_2.length c0_2) ∧ w'.cell? (ad244.add ((rd l0_1 (ji4))).toNat) = some (.int .i64 (rd l0_0 (rd l0_1 (ji4)))) ∧ w'.cell? (ad244.add ((rd l0_2 (ji4))).toNat) = some (.int .i64 (rd l0_0 (rd l0_2 (ji4))))) (ds := []) #[ff,ff,ff,ff,ff,ff,ff,ff,ff,ff,ff] (by kernel_rfl) rfl rfl ⟨cz30 BK227.out, cz31 BK227.out, cz32 BK227.out, ((HB.out.cell (World.block_lt_of_cell? w _ hw244_0)).trans hw244_0), ((HB.out.cell (World.block_lt_of_cell? w _ hw245_0)).trans hw245_0)⟩ (fun hHeld => ?_); refine with_tabW impl_InduceOnce.tab9 impl_InduceOnce.bits9 (fun HT_ HW_ => ?_)
 generalize w44.drew = w45 at HO236 HO239 HO242 BK227 BK228 BK243 HB hx244_0 hx245_0 hHeld ⊢
 refine pX 0 46 (fl 11 1) rfl rfl HT_.out ?_
 refine pX 2 48 (fl 11 5) rfl rfl HT_.out ?_
 refine pX 5 51 (fl 11 37) rfl rfl HT_.out ?_
 refine pX 7 53 (fl 11 165) rfl rfl HT_.out ?_
 refine tX5 1 47 (fl 11 167) rfl rfl HT_.out HW_.out hHeld ?_
 refine pX 3 49 (fl 11 175) rfl rfl HT_.out ?_
 refine tX5 4 50 (fl 11 191) rfl rfl HT_.out HW_.out hHeld ?_
 refine tX5 6 52 (fl 11 255) rfl rfl HT_.out HW_.out hHeld ?_
 refine pX 8 54 (fl 11 511) rfl rfl HT_.out ?_
 refine tX5 9 55 (fl 11 1023) rfl rfl HT_.out HW_.out hHeld ?_
 refine pX 10 56 (fl 11 2047) rfl rfl HT_.out ?_
 refine done_ (done_of HT_.out (by kernel_rfl)) ?_
 try go_wp2
 have n0_ := Aside0.mk (Kd.R_drew HO236.out)
 have n1_ := Aside0.mk (Kd.R_drew HO239.out)
 have n2_ := Aside0.mk (Kd.R_drew HO242.out)
 have n3_ := Aside0.mk (blk_drew BK227.out)
 have n4_ := Aside0.mk (blk_drew BK228.out)
 have n5_ := Aside0.mk (blk_drew BK243.out)
 have n6_ := Aside0.mk (below_drew1 HB.out)
 clear HO236 HO239 HO242 BK227 BK228 BK243 HB
 have HO236 := n0_
 have HO239 := n1_
 have HO242 := n2_
 have BK227 := n3_
 have BK228 := n4_
 have BK243 := n5_
 have HB := n6_
 clear n0_ n1_ n2_ n3_ n4_ n5_ n6_
 have p246 : 0 ≤ ((rd l0_1 (ji4)) : Int) := dX
 have q246 : (rd l0_1 (ji4)) < (t234.length : Int) := dX
 obtain ⟨ad246, e246, hx246_0⟩ := Kd.at_int (Kd.R_reads' HO236.out).2.2 (rd l0_1 (ji4)) p246 q246
 cases e246
 replace p246 := eq_true p246
 replace q246 := eq_true q246
 have p247 : 0 ≤ ((rd l0_2 (ji4)) : Int) := dX
 have q247 : (rd l0_2 (ji4)) < (l0_0.length : Int) := dX
 obtain ⟨ad247, e247, hx247_0⟩ := Kd.at_int HR0_0.out (rd l0_2 (ji4)) p247 q247
 have hw247_0 := hx247_0
 obtain rfl : ad244 = ad247 := (by injection e247)
 replace hx247_0 := (HB.out.cell (World.block_lt_of_cell? w _ hx247_0)).trans hx247_0
 replace p247 := eq_true p247
 replace q247 := eq_true q247
 have p32 : 0 ≤ ((rd l0_1 (ji4)) : Int) := dX
 have q32 : ((rd l0_1 (ji4)) : Int) < ((t234.length : Int) : Int) := dX
 obtain ⟨go32, co32, eo32, gb32, gl32, cl32, HG32⟩ := Kd.R_form HO236.out (by omega)
 (first | cases eo32 | (injection eo32 with ea_ en_ ec_; (first | subst ea_ | (injection ea_ with ea_; subst ea_)); subst ec_; clear en_))
 have GB32 := Aside0.mk gb32
 have GG32 := Aside0.mk HG32
 clear gb32 gl32 HG32
 (first | simp only [add_plain] at hx246_0 | skip)
 obtain ⟨hx32_0, hf32_0⟩ := Kd.R_celln 0 HO236.out ((rd l0_1 (ji4)) : Int) p32 q32
 replace p32 := eq_true p32
 replace q32 := eq_true q32
 have HP47 := Kd.R_putn HO236.out ((rd l0_1 (ji4)) : Int) (wrap64 ((rd t234 (rd l0_1 (ji4))) - (rd l0_0 (rd l0_2 (ji4)))))
 rw [← Ny248.out] at HP47
 have HQ47 := Aside0.mk HP47
 clear HP47
 refine start_ (n := 13) (S := fun w' => w'.cell? ⟨gb243, 0, none⟩ = some (.slice (some ⟨go32, 0, none⟩) t234.length co38) ∧ w'.cell? ⟨gb243, 1, none⟩ = some (.slice Ao42 t237.length co42) ∧ w'.cell? ⟨gb243, 2, none⟩ = some (.slice Ao43 t240.length co43) ∧ w'.cell? ⟨gb227, 0, none⟩ = some (.slice (some ad244) l0_0.length c0_0) ∧ w'.cell? ⟨gb227, 1, none⟩ = some (.slice (some ad230) l0_1.length c0_1) ∧ w'.cell? ⟨gb227, 2, none⟩ = some (.slice (some ad231) l0_2.length c0_2) ∧ w'.cell? ⟨go32, ((rd l0_1 (ji4))).toNat, none⟩ = some (.int .i64 (rd t234 (rd l0_1 (ji4)))) ∧ w'.cell? (ad244.add ((rd l0_2 (ji4))).toNat) = some (.int .i64 (rd l0_0 (rd l0_2 (ji4))))) (ds := [12]) #[ff,ff,ff,ff,ff,ff,ff,ff,ff,ff,ff,ff,ff] (by kernel_rfl) rfl rfl ⟨cz30 BK243.out, cz31 BK243.out, cz32 BK243.out, cz30 BK227.out, cz31 BK227.out, cz32 BK227.out, hx246_0, ((HB.out.cell (World.block_lt_of_cell? w _ hw247_0)).trans hw247_0)⟩ (fun hHeld => ?_); refine with_tabW impl_InduceOnce.tab10 impl_InduceOnce.bits10 (fun HT_ HW_ => ?_)
 generalize w45.drew = w46 at HO236 HO239 HO242 BK227 BK228 BK243 HB GG32 HQ47 hf32_0 hx246_0 hx247_0 hx32_0 hHeld ⊢
 refine pX 0 57 (fl 13 1) rfl rfl HT_.out ?_
 refine pX 2 59 (fl 13 5) rfl rfl HT_.out ?_
 refine pX 5 62 (fl 13 37) rfl rfl HT_.out ?_
 refine pX 7 64 (fl 13 165) rfl rfl HT_.out ?_
 refine tX8 1 58 (fl 13 167) rfl rfl HT_.out HW_.out hHeld ?_
 refine pX 3 60 (fl 13 175) rfl rfl HT_.out ?_
 refine tX8 4 61 (fl 13 191) rfl rfl HT_.out HW_.out hHeld ?_
 refine tX8 6 63 (fl 13 255) rfl rfl HT_.out HW_.out hHeld ?_
 refine pX 8 65 (fl 13 511) rfl rfl HT_.out ?_
 refine tX8 9 66 (fl 13 1023) rfl rfl HT_.out HW_.out hHeld ?_
 refine pX 10 67 (fl 13 2047) rfl rfl HT_.out ?_
 refine pX 11 68 (fl 13 4095) rfl rfl HT_.out ?_
 refine last_ (i := 12) (N := none) #[tt,tt,tt,tt,tt,tt,tt,tt,tt,tt,tt,tt,tt] rfl rfl (one_of HT_.out (by kernel_rfl)) (by decide) (fun K hK => ?_)
 refine skip_ (w1 := ?_) (by rfl) rfl ?_ ?_
 rotate_left
 {
 go_simp
 rfl
 }
 refine hK.out _ _ ?_
 clear hK K
 refine done_ (done_of HT_.out (by kernel_rfl)) ?_
 have n0_ : Aside0 (Kd.R (Kd.int .i64) 3 (w46.setCell ⟨go32, ((rd l0_1 (ji4)) : Int).toNat, none⟩ (.int .i64 (wrap64 ((rd t234 (rd l0_1 (ji4))) - (rd l0_0 (rd l0_2 (ji4))))))) w.heap.size (fun k_ => some k_ ≠ (.slice Ao42 t237.length co42 : Value).ownBlock ∧ some k_ ≠ (.slice Ao43 t240.length co43 : Value).ownBlock) (.slice (some ⟨go32, 0, none⟩) t234.length co38) y248) := ⟨rX HQ47.out⟩
 have n1_ : Aside0 (Kd.R (Kd.int .i64) 3 (w46.setCell ⟨go32, ((rd l0_1 (ji4)) : Int).toNat, none⟩ (.int .i64 (wrap64 ((rd t234 (rd l0_1 (ji4))) - (rd l0_0 (rd l0_2 (ji4))))))) w.heap.size (fun k_ => some k_ ≠ (.slice (some ⟨go32, 0, none⟩) t234.length co38 : Value).ownBlock ∧ some k_ ≠ (.slice Ao43 t240.length co43 : Value).ownBlock) (.slice Ao42 t237.length co42) t237) := ⟨by (with_reducible repeat (first|apply rA|apply rN|apply rD)); exact Kd.R_mono (Kd.R_far (p := ⟨go32, ((rd l0_1 (ji4)) : Int).toNat, none⟩) (Kd.R_mono HO239.out (fun k_ hk => (⟨hk, fun e_ => hk.1 (by rw [e_]; rfl)⟩ : _ ∧ k_ ≠ go32))) (fun _ hk => hk.2) (.int .i64 (wrap64 ((rd t234 (rd l0_1 (ji4))) - (rd l0_0 (rd l0_2 (ji4))))))) (fun _ hk => ⟨hk.1.1, hk.1.2⟩)⟩
 have n2_ : Aside0 (Kd.R (Kd.int .i64) 3 (w46.setCell ⟨go32, ((rd l0_1 (ji4)) : Int).toNat, none⟩ (.int .i64 (wrap64 ((rd t234 (rd l0_1 (ji4))) - (rd l0_0 (rd l0_2 (ji4))))))) w.heap.size (fun k_ => some k_ ≠ (.slice (some ⟨go32, 0, none⟩) t234.length co38 : Value).ownBlock ∧ some k_ ≠ (.slice Ao42 t237.length co42 : Value).ownBlock) (.slice Ao43 t240.length co43) t240) := ⟨by (with_reducible repeat (first|apply rA|apply rN|apply rD)); exact Kd.R_mono (Kd.R_far (p := ⟨go32, ((rd l0_1 (ji4)) : Int).toNat, none⟩) (Kd.R_mono HO242.out (fun k_ hk => (⟨hk, fun e_ => hk.1 (by rw [e_]; rfl)⟩ : _ ∧ k_ ≠ go32))) (fun _ hk => hk.2) (.int .i64 (wrap64 ((rd t234 (rd l0_1 (ji4))) - (rd l0_0 (rd l0_2 (ji4))))))) (fun _ hk => ⟨hk.1.1, hk.1.2⟩)⟩
 have n3_ : Aside0 ((w46.setCell ⟨go32, ((rd l0_1 (ji4)) : Int).toNat, none⟩ (.int .i64 (wrap64 ((rd t234 (rd l0_1 (ji4))) - (rd l0_0 (rd l0_2 (ji4))))))).heap[gb227]? = some (.cells #[.slice (some ad244) l0_0.length c0_0, .slice (some ad230) l0_1.length c0_1, .slice (some ad231) l0_2.length c0_2] 26 (0, 0))) := ⟨by (with_reducible repeat (first|refine kN ?_ _|refine kD ?_|refine kA ?_ _)); refine blk_far ?_ (by have h_ := Kd.R_ne HO236.out BK227.out (by decide); intro e_; exact h_ (by rw [e_]; rfl)) _; (with_reducible repeat (first|refine kN ?_ _|refine kD ?_|refine kA ?_ _)); exact BK227.out⟩
 have n4_ : Aside0 ((w46.setCell ⟨go32, ((rd l0_1 (ji4)) : Int).toNat, none⟩ (.int .i64 (wrap64 ((rd t234 (rd l0_1 (ji4))) - (rd l0_0 (rd l0_2 (ji4))))))).heap[gb228]? = some (.cells #[.slice none 0 0, .slice none 0 0, .slice none 0 0] 26 (0, 0))) := ⟨by (with_reducible repeat (first|refine kN ?_ _|refine kD ?_|refine kA ?_ _)); refine blk_far ?_ (by have h_ := Kd.R_ne HO236.out BK228.out (by decide); intro e_; exact h_ (by rw [e_]; rfl)) _; (with_reducible repeat (first|refine kN ?_ _|refine kD ?_|refine kA ?_ _)); exact BK228.out⟩
 have n5_ : Aside0 ((w46.setCell ⟨go32, ((rd l0_1 (ji4)) : Int).toNat, none⟩ (.int .i64 (wrap64 ((rd t234 (rd l0_1 (ji4))) - (rd l0_0 (rd l0_2 (ji4))))))).heap[gb243]? = some (.cells #[.slice (some ⟨go32, 0, none⟩) t234.length co38, .slice Ao42 t237.length co42, .slice Ao43 t240.length co43] 26 (0, 0))) := ⟨by (with_reducible repeat (first|refine kN ?_ _|refine kD ?_|refine kA ?_ _)); refine blk_far ?_ (by have h_ := Kd.R_ne HO236.out BK243.out (by decide); intro e_; exact h_ (by rw [e_]; rfl)) _; (with_reducible repeat (first|refine kN ?_ _|refine kD ?_|refine kA ?_ _)); exact BK243.out⟩
 have n6_ : Aside0 (Below w.heap.size w (w46.setCell ⟨go32, ((rd l0_1 (ji4)) : Int).toNat, none⟩ (.int .i64 (wrap64 ((rd t234 (rd l0_1 (ji4))) - (rd l0_0 (rd l0_2 (ji4)))))))) := ⟨by repeat (first | (with_reducible first | exact HB.out|apply bA|apply bN|apply bD | refine below_set ?_ GB32.out | refine below_set ?_ GE227.out | refine below_set ?_ GE228.out | refine below_set ?_ GE243.out) | exact HB.out)⟩
 (try clear HO236)
 (try clear HO239)
 (try clear HO242)
 (try clear BK227)
 (try clear BK228)
 (try clear BK243)
 (try clear HB)
 generalize (w46.setCell ⟨go32, ((rd l0_1 (ji4)) : Int).toNat, none⟩ (.int .i64 (wrap64 ((rd t234 (rd l0_1 (ji4))) - (rd l0_0 (rd l0_2 (ji4))))))) = w48 at n0_ n1_ n2_ n3_ n4_ n5_ n6_ ⊢
 have HO236 := n0_
 have HO239 := n1_
 have HO242 := n2_
 have BK227 := n3_
 have BK228 := n4_
 have BK243 := n5_
 have HB := n6_
 clear n0_ n1_ n2_ n3_ n4_ n5_ n6_
 have hcz49_0 := cz30 BK227.out
 have hcz49_1 := cz31 BK227.out
 have hcz49_2 := cz32 BK227.out
 have hfz49_0 := blk_frozen BK227.out 0
 have hfz49_1 := blk_frozen BK227.out 1
 have hfz49_2 := blk_frozen BK227.out 2
 try go_wp2_with (first | ((with_reducible refine gate_callee (f := 33) rfl ?_); refine goesL_ (some 72) rfl rfl Try.func33 (by kernel_rfl) rfl #[.slice (some ad231) l0_2.length c0_2, .int .i64 (rd l0_1 (ji4))] rfl (by (try simp only [List.map_toArray, List.map_cons, List.map_nil]); first | done | (simp only [hji4]; rfl) | rfl | (simp only [List.length_drop, List.length_take]; rfl)) ?_; (with_reducible refine (impl_putBehind.calls kj7 _ _ l0_2 (rd l0_1 (ji4)) t249 _ ?side1 ?side2 A33.out).mono ?_); (case side1 => exact cX (Kd.C_below HR0_2.out HB.out)); (case side2 => exact HC0_2.out); rintro e w50 ⟨v250, rfl, ho0, hb⟩; refine ⟨_, rfl, ?_⟩; have n0_ := Aside0.mk (Kd.R_elder' (rX HO236.out) (Kd.R_base ho0) hb); have n1_ := Aside0.mk (Kd.R_elder' (rX HO239.out) (Kd.R_base ho0) hb); have n2_ := Aside0.mk (Kd.R_elder' (rX HO242.out) (Kd.R_base ho0) hb); have n3_ := Aside0.mk (Kd.R_lower (Kd.R_new' (Kd.R_new' (Kd.R_new' ho0 (Kd.R_lt (rX HO236.out))) (Kd.R_lt (rX HO239.out))) (Kd.R_lt (rX HO242.out))) (below_size (bX3 HB.out GE227.out GE228.out GE243.out))); have n4_ := Aside0.mk (bbX BK227.out hb); have n5_ := Aside0.mk (bbX BK228.out hb); have n6_ := Aside0.mk (bbX BK243.out hb); have n7_ := Aside0.mk (below_step (bX3 HB.out GE227.out GE228.out GE243.out) hb); clear HO236 HO239 HO242 BK227 BK228 BK243 HB; have HO236 := n0_; have HO239 := n1_; have HO242 := n2_; have HO251 := n3_; have BK227 := n4_; have BK228 := n5_; have BK243 := n6_; have HB := n7_; clear n0_ n1_ n2_ n3_ n4_ n5_ n6_ n7_; (try clear hb); (try clear hb2); (try clear hk); (try clear hi); (try clear ho0); obtain ⟨Ao51, co51, eo51⟩ := Kd.R_slice HO251.out; subst eo51; have hcz52_0 := cz30 BK243.out; have hcz52_1 := cz31 BK243.out; have hcz52_2 := cz32 BK243.out; have hfz52_0 := blk_frozen BK243.out 0; have hfz52_1 := blk_frozen BK243.out 1; have hfz52_2 := blk_frozen BK243.out 2; have hcz53_0 := cz30 BK228.out; have hcz53_1 := cz31 BK228.out; have hcz53_2 := cz32 BK228.out; have hfz53_0 := blk_frozen BK228.out 0; have hfz53_1 := blk_frozen BK228.out 1; have hfz53_2 := blk_frozen BK228.out 2))
 refine bodyPost_ret (results_ct rfl _ _ gb228 26 #[.slice (some ⟨go32, 0, none⟩) t234.length co38, .slice Ao42 t237.length co42, .slice Ao51 t249.length co51] (0, 0) _ rfl (by (with_reducible repeat (first|refine kN ?_ _|refine kD ?_|refine kA ?_ _)); refine blk_put (cs := #[.slice (some ⟨go32, 0, none⟩) t234.length co38, .slice Ao42 t237.length co42, .slice none 0 0]) ?_ 2 _ rfl; (with_reducible repeat (first|refine kN ?_ _|refine kD ?_|refine kA ?_ _)); refine blk_put (cs := #[.slice (some ⟨go32, 0, none⟩) t234.length co38, .slice none 0 0, .slice none 0 0]) ?_ 1 _ rfl; (with_reducible repeat (first|refine kN ?_ _|refine kD ?_|refine kA ?_ _)); refine blk_put (cs := #[.slice none 0 0, .slice none 0 0, .slice none 0 0]) ?_ 0 _ rfl; (with_reducible repeat (first|refine kN ?_ _|refine kD ?_|refine kA ?_ _)); refine blk_far ?_ NB228_243.out _; (with_reducible repeat (first|refine kN ?_ _|refine kD ?_|refine kA ?_ _)); exact BK228.out) Try.underlying26 rfl (by kernel_rfl)) rfl ?_
 exact ⟨_, _, _, by first | rfl | (simp [errW_none, errW_some] <;> rfl) | (simp only [← hji4]; first | rfl | (simp [errW_none, errW_some] <;> rfl)) | (simp [*, errW_none, errW_some] <;> rfl), by (with_reducible repeat (first|apply rA|apply rN|apply rD)); exact Kd.R_mono (Kd.R_far (p := ⟨gb228, 2, none⟩) (Kd.R_far (p := ⟨gb228, 1, none⟩) (Kd.R_far (p := ⟨gb228, 0, none⟩) (Kd.R_far (p := ⟨gb243, 2, none⟩) (Kd.R_types (Kd.R_types HO236.out BK243.out (by decide)) BK228.out (by decide)) (fun _ hk => hk.1.2) (.slice Ao51 t249.length co51)) (fun _ hk => hk.2) (.slice (some ⟨go32, 0, none⟩) t234.length co38)) (fun _ hk => hk.2) (.slice Ao42 t237.length co42)) (fun _ hk => hk.2) (.slice Ao51 t249.length co51)) (fun _ hk => ⟨hk.1.1.1.1, hk.1.1.2⟩), by (with_reducible repeat (first|apply rA|apply rN|apply rD)); exact Kd.R_mono (Kd.R_far (p := ⟨gb228, 2, none⟩) (Kd.R_far (p := ⟨gb228, 1, none⟩) (Kd.R_far (p := ⟨gb228, 0, none⟩) (Kd.R_far (p := ⟨gb243, 2, none⟩) (Kd.R_types (Kd.R_types HO239.out BK243.out (by decide)) BK228.out (by decide)) (fun _ hk => hk.1.2) (.slice Ao51 t249.length co51)) (fun _ hk => hk.2) (.slice (some ⟨go32, 0, none⟩) t234.length co38)) (fun _ hk => hk.2) (.slice Ao42 t237.length co42)) (fun _ hk => hk.2) (.slice Ao51 t249.length co51)) (fun _ hk => ⟨hk.1.1.1.1, hk.1.1.2⟩), by (with_reducible repeat (first|apply rA|apply rN|apply rD)); exact Kd.R_mono (Kd.R_far (p := ⟨gb228, 2, none⟩) (Kd.R_far (p := ⟨gb228, 1, none⟩) (Kd.R_far (p := ⟨gb228, 0, none⟩) (Kd.R_far (p := ⟨gb243, 2, none⟩) (Kd.R_types (Kd.R_types HO251.out BK243.out (by decide)) BK228.out (by decide)) (fun _ hk => hk.1.2) (.slice Ao51 t249.length co51)) (fun _ hk => hk.2) (.slice (some ⟨go32, 0, none⟩) t234.length co38)) (fun _ hk => hk.2) (.slice Ao42 t237.length co42)) (fun _ hk => hk.2) (.slice Ao51 t249.length co51)) (fun _ hk => ⟨hk.1.1.1.1.2, hk.1.1.1.2⟩), bX3 HB.out GE227.out GE228.out GE243.out⟩
 }
 {
 rw [if_neg c31] at H
 exact absurd H (by simp)
 }
 }
 {
 rw [if_neg c30] at H
 have c30b0 : decide ((rd l0_0 (rd l0_2 (ji4))) < (rd l0_0 (rd l0_1 (ji4)))) = false := decide_eq_false c30
 clear c30
 by_cases c54 : (rd l0_2 (ji4)) < (t234.length : Int)
 {
 rw [if_pos c54] at H
 have c54b0 : decide ((rd l0_2 (ji4)) < (t234.length : Int)) = true := decide_eq_true c54
 clear c54
 obtain ⟨y254, hy254⟩ : ∃ y_ : List Int, y_ = (t234.set ((rd l0_2 (ji4)) : Int).toNat (wrap64 ((rd t234 (rd l0_2 (ji4))) - (rd l0_0 (rd l0_1 (ji4)))))) := ⟨_, rfl⟩
 replace H : ((impl_putBehind.f kj7 l0_1 (rd l0_2 (ji4))).bind fun t255 => (some (y254, t255, t240, true))) = some (r1, r2, r3, r4) := by first | (rw [hy254]; with_reducible exact H) | (have H2_ := (Option.bind_some _ _).symm.trans H; rw [hy254]; with_reducible exact H2_) | (have H2_ := (Option.bind_some _ _).symm.trans H; with_reducible exact H2_) | with_reducible exact H | (rw [hy254]; exact H) | exact H
 have Ny254 := Aside0.mk hy254
 clear hy254
 replace H := Option.bind_eq_some_iff.mp H
 obtain ⟨t255, A560, H⟩ := H
 replace H : (some (y254, t255, t240, true)) = some (r1, r2, r3, r4) := H
 have A56 := Aside0.mk A560
 clear A560
 simp only [Option.some.injEq, Prod.mk.injEq] at H
 obtain ⟨rfl, rfl, rfl, rfl⟩ := H
 have hnb57 := NB227_228.out
 have hnc57 := NB228_227.out
 have hcz58_0 := cz30 BK227.out
 have hcz58_1 := cz31 BK227.out
 have hcz58_2 := cz32 BK227.out
 have hfz58_0 := blk_frozen BK227.out 0
 have hfz58_1 := blk_frozen BK227.out 1
 have hfz58_2 := blk_frozen BK227.out 2
 try go_wp2_with (first | ((with_reducible refine gate_callee (f := 32) rfl ?_); refine goesL_ (some 45) rfl rfl Try.func32 (by kernel_rfl) rfl #[.agg #[.slice A0_0 l0_0.length c0_0, .slice (some ad230) l0_1.length c0_1, .slice (some ad231) l0_2.length c0_2]] rfl aX ?_; (with_reducible refine (impl_copyExchange.calls _ _ l0_0 _ _ l0_1 _ _ l0_2 t234 t237 t240 _ ?side1 ?side2 ?side3 ?side4 ?side5 ?side6 A25.out).mono ?_); (case side1 => exact cX (Kd.C_below HR0_0.out HB.out)); (case side2 => exact HC0_0.out); (case side3 => exact cX (Kd.C_below HR0_1.out HB.out)); (case side4 => exact HC0_1.out); (case side5 => exact cX (Kd.C_below HR0_2.out HB.out)); (case side6 => exact HC0_2.out); rintro e w59 ⟨v235, v238, v241, rfl, ho0, ho1, ho2, hb⟩; refine ⟨_, rfl, ?_⟩; have n0_ := Aside0.mk (Kd.R_lower ho0 (below_size (bX2 HB.out GE227.out GE228.out))); have n1_ := Aside0.mk (Kd.R_lower ho1 (below_size (bX2 HB.out GE227.out GE228.out))); have n2_ := Aside0.mk (Kd.R_lower ho2 (below_size (bX2 HB.out GE227.out GE228.out))); have n3_ := Aside0.mk (bbX BK227.out hb); have n4_ := Aside0.mk (bbX BK228.out hb); have n5_ := Aside0.mk (below_step (bX2 HB.out GE227.out GE228.out) hb); clear BK227 BK228 HB; have HO236 := n0_; have HO239 := n1_; have HO242 := n2_; have BK227 := n3_; have BK228 := n4_; have HB := n5_; clear n0_ n1_ n2_ n3_ n4_ n5_; (try clear hb); (try clear hb2); (try clear hk); (try clear hi); (try clear ho0); (try clear ho1); (try clear ho2)) | ((with_reducible refine gate_dst (N := 7) rfl ?_); refine box_event ?hg (N := 7) ?hd (cs := #[.slice none 0 0, .slice none 0 0, .slice none 0 0]) (t := 26) ?hr ?_; (case hd => rfl); (case hg => rfl); (case hr => first | (go_simp; done) | (go_simp; rfl)); intro gb243 hg w60 hbox hb; have n0_ := Aside0.mk (Kd.R_below (rX HO236.out) hb); have n1_ := Aside0.mk (Kd.R_below (rX HO239.out) hb); have n2_ := Aside0.mk (Kd.R_below (rX HO242.out) hb); have n3_ := Aside0.mk (bbX BK227.out hb); have n4_ := Aside0.mk (bbX BK228.out hb); have n5_ := Aside0.mk (below_step (bX2 HB.out GE227.out GE228.out) hb); have n6_ := Aside0.mk (hbox); have n7_ := Aside0.mk ((szX (below_size (bX2 HB.out GE227.out GE228.out)) hg : w.heap.size ≤ gb243)); have n8_ := Aside0.mk ((szX (below_size (bX2 HB.out GE227.out GE228.out)) hg : w.heap.size ≤ gb243)); have n9_ := Aside0.mk (neX BK227.out hg); have n10_ := Aside0.mk (nfX BK227.out hg); have n11_ := Aside0.mk (neX BK228.out hg); have n12_ := Aside0.mk (nfX BK228.out hg); clear HO236 HO239 HO242 BK227 BK228 HB; have HO236 := n0_; have HO239 := n1_; have HO242 := n2_; have BK227 := n3_; have BK228 := n4_; have HB := n5_; have BK243 := n6_; have GW243 := n7_; have GE243 := n8_; have NB227_243 := n9_; have NB243_227 := n10_; have NB228_243 := n11_; have NB243_228 := n12_; clear n0_ n1_ n2_ n3_ n4_ n5_ n6_ n7_ n8_ n9_ n10_ n11_ n12_ hb hbox hg; obtain ⟨Ao61, co61, eo61⟩ := Kd.R_slice HO236.out; subst eo61; have hnb62 := NB243_227.out; have hnc62 := NB227_243.out; have hnb63 := NB243_228.out; have hnc63 := NB228_243.out; have hcz64_0 := cz30 BK243.out; have hcz64_1 := cz31 BK243.out; have hcz64_2 := cz32 BK243.out; have hfz64_0 := blk_frozen BK243.out 0; have hfz64_1 := blk_frozen BK243.out 1; have hfz64_2 := blk_frozen BK243.out 2; obtain ⟨Ao65, co65, eo65⟩ := Kd.R_slice HO239.out; subst eo65; obtain ⟨Ao66, co66, eo66⟩ := Kd.R_slice HO242.out; subst eo66))
 have n0_ : Aside0 (Kd.R (Kd.int .i64) 3 (((w60.setCell ⟨gb243, 0, none⟩ (.slice Ao61 t234.length co61)).setCell ⟨gb243, 1, none⟩ (.slice Ao65 t237.length co65)).setCell ⟨gb243, 2, none⟩ (.slice Ao66 t240.length co66)) w.heap.size (fun k_ => some k_ ≠ (.slice Ao65 t237.length co65 : Value).ownBlock ∧ some k_ ≠ (.slice Ao66 t240.length co66 : Value).ownBlock) (.slice Ao61 t234.length co61) t234) := ⟨by (with_reducible repeat (first|apply rA|apply rN|apply rD)); exact Kd.R_mono (Kd.R_far (p := ⟨gb243, 2, none⟩) (Kd.R_far (p := ⟨gb243, 1, none⟩) (Kd.R_far (p := ⟨gb243, 0, none⟩) (Kd.R_types HO236.out BK243.out (by decide)) (fun _ hk => hk.2) (.slice Ao61 t234.length co61)) (fun _ hk => hk.2) (.slice Ao65 t237.length co65)) (fun _ hk => hk.2) (.slice Ao66 t240.length co66)) (fun _ hk => ⟨hk.1.1, hk.1.2⟩)⟩
 have n1_ : Aside0 (Kd.R (Kd.int .i64) 3 (((w60.setCell ⟨gb243, 0, none⟩ (.slice Ao61 t234.length co61)).setCell ⟨gb243, 1, none⟩ (.slice Ao65 t237.length co65)).setCell ⟨gb243, 2, none⟩ (.slice Ao66 t240.length co66)) w.heap.size (fun k_ => some k_ ≠ (.slice Ao61 t234.length co61 : Value).ownBlock ∧ some k_ ≠ (.slice Ao66 t240.length co66 : Value).ownBlock) (.slice Ao65 t237.length co65) t237) := ⟨by (with_reducible repeat (first|apply rA|apply rN|apply rD)); exact Kd.R_mono (Kd.R_far (p := ⟨gb243, 2, none⟩) (Kd.R_far (p := ⟨gb243, 1, none⟩) (Kd.R_far (p := ⟨gb243, 0, none⟩) (Kd.R_types HO239.out BK243.out (by decide)) (fun _ hk => hk.2) (.slice Ao61 t234.length co61)) (fun _ hk => hk.2) (.slice Ao65 t237.length co65)) (fun _ hk => hk.2) (.slice Ao66 t240.length co66)) (fun _ hk => ⟨hk.1.1, hk.1.2⟩)⟩
 have n2_ : Aside0 (Kd.R (Kd.int .i64) 3 (((w60.setCell ⟨gb243, 0, none⟩ (.slice Ao61 t234.length co61)).setCell ⟨gb243, 1, none⟩ (.slice Ao65 t237.length co65)).setCell ⟨gb243, 2, none⟩ (.slice Ao66 t240.length co66)) w.heap.size (fun k_ => some k_ ≠ (.slice Ao61 t234.length co61 : Value).ownBlock ∧ some k_ ≠ (.slice Ao65 t237.length co65 : Value).ownBlock) (.slice Ao66 t240.length co66) t240) := ⟨by (with_reducible repeat (first|apply rA|apply rN|apply rD)); exact Kd.R_mono (Kd.R_far (p := ⟨gb243, 2, none⟩) (Kd.R_far (p := ⟨gb243, 1, none⟩) (Kd.R_far (p := ⟨gb243, 0, none⟩) (Kd.R_types HO242.out BK243.out (by decide)) (fun _ hk => hk.2) (.slice Ao61 t234.length co61)) (fun _ hk => hk.2) (.slice Ao65 t237.length co65)) (fun _ hk => hk.2) (.slice Ao66 t240.length co66)) (fun _ hk => ⟨hk.1.1, hk.1.2⟩)⟩
 have n3_ : Aside0 ((((w60.setCell ⟨gb243, 0, none⟩ (.slice Ao61 t234.length co61)).setCell ⟨gb243, 1, none⟩ (.slice Ao65 t237.length co65)).setCell ⟨gb243, 2, none⟩ (.slice Ao66 t240.length co66)).heap[gb227]? = some (.cells #[.slice A0_0 l0_0.length c0_0, .slice (some ad230) l0_1.length c0_1, .slice (some ad231) l0_2.length c0_2] 26 (0, 0))) := ⟨by (with_reducible repeat (first|refine kN ?_ _|refine kD ?_|refine kA ?_ _)); refine blk_far ?_ NB227_243.out _; (with_reducible repeat (first|refine kN ?_ _|refine kD ?_|refine kA ?_ _)); refine blk_far ?_ NB227_243.out _; (with_reducible repeat (first|refine kN ?_ _|refine kD ?_|refine kA ?_ _)); refine blk_far ?_ NB227_243.out _; (with_reducible repeat (first|refine kN ?_ _|refine kD ?_|refine kA ?_ _)); exact BK227.out⟩
 have n4_ : Aside0 ((((w60.setCell ⟨gb243, 0, none⟩ (.slice Ao61 t234.length co61)).setCell ⟨gb243, 1, none⟩ (.slice Ao65 t237.length co65)).setCell ⟨gb243, 2, none⟩ (.slice Ao66 t240.length co66)).heap[gb228]? = some (.cells #[.slice none 0 0, .slice none 0 0, .slice none 0 0] 26 (0, 0))) := ⟨by (with_reducible repeat (first|refine kN ?_ _|refine kD ?_|refine kA ?_ _)); refine blk_far ?_ NB228_243.out _; (with_reducible repeat (first|refine kN ?_ _|refine kD ?_|refine kA ?_ _)); refine blk_far ?_ NB228_243.out _; (with_reducible repeat (first|refine kN ?_ _|refine kD ?_|refine kA ?_ _)); refine blk_far ?_ NB228_243.out _; (with_reducible repeat (first|refine kN ?_ _|refine kD ?_|refine kA ?_ _)); exact BK228.out⟩
 have n5_ : Aside0 ((((w60.setCell ⟨gb243, 0, none⟩ (.slice Ao61 t234.length co61)).setCell ⟨gb243, 1, none⟩ (.slice Ao65 t237.length co65)).setCell ⟨gb243, 2, none⟩ (.slice Ao66 t240.length co66)).heap[gb243]? = some (.cells #[.slice Ao61 t234.length co61, .slice Ao65 t237.length co65, .slice Ao66 t240.length co66] 26 (0, 0))) := ⟨by (with_reducible repeat (first|refine kN ?_ _|refine kD ?_|refine kA ?_ _)); refine blk_put (cs := #[.slice Ao61 t234.length co61, .slice Ao65 t237.length co65, .slice none 0 0]) ?_ 2 _ rfl; (with_reducible repeat (first|refine kN ?_ _|refine kD ?_|refine kA ?_ _)); refine blk_put (cs := #[.slice Ao61 t234.length co61, .slice none 0 0, .slice none 0 0]) ?_ 1 _ rfl; (with_reducible repeat (first|refine kN ?_ _|refine kD ?_|refine kA ?_ _)); refine blk_put (cs := #[.slice none 0 0, .slice none 0 0, .slice none 0 0]) ?_ 0 _ rfl; (with_reducible repeat (first|refine kN ?_ _|refine kD ?_|refine kA ?_ _)); exact BK243.out⟩
 have n6_ : Aside0 (Below w.heap.size w (((w60.setCell ⟨gb243, 0, none⟩ (.slice Ao61 t234.length co61)).setCell ⟨gb243, 1, none⟩ (.slice Ao65 t237.length co65)).setCell ⟨gb243, 2, none⟩ (.slice Ao66 t240.length co66))) := ⟨bX3 HB.out GE227.out GE228.out GE243.out⟩
 (try clear HO236)
 (try clear HO239)
 (try clear HO242)
 (try clear BK227)
 (try clear BK228)
 (try clear BK243)
 (try clear HB)
 generalize (((w60.setCell ⟨gb243, 0, none⟩ (.slice Ao61 t234.length co61)).setCell ⟨gb243, 1, none⟩ (.slice Ao65 t237.length co65)).setCell ⟨gb243, 2, none⟩ (.slice Ao66 t240.length co66)) = w67 at n0_ n1_ n2_ n3_ n4_ n5_ n6_ ⊢
 have HO236 := n0_
 have HO239 := n1_
 have HO242 := n2_
 have BK227 := n3_
 have BK228 := n4_
 have BK243 := n5_
 have HB := n6_
 clear n0_ n1_ n2_ n3_ n4_ n5_ n6_
 have n0_ := Aside0.mk (Kd.R_drew HO236.out)
 have n1_ := Aside0.mk (Kd.R_drew HO239.out)
 have n2_ := Aside0.mk (Kd.R_drew HO242.out)
 have n3_ := Aside0.mk (blk_drew BK227.out)
 have n4_ := Aside0.mk (blk_drew BK228.out)
 have n5_ := Aside0.mk (blk_drew BK243.out)
 have n6_ := Aside0.mk (below_drew1 HB.out)
 clear HO236 HO239 HO242 BK227 BK228 BK243 HB
 have HO236 := n0_
 have HO239 := n1_
 have HO242 := n2_
 have BK227 := n3_
 have BK228 := n4_
 have BK243 := n5_
 have HB := n6_
 clear n0_ n1_ n2_ n3_ n4_ n5_ n6_
 have p244 : 0 ≤ ((rd l0_1 (ji4)) : Int) := dX
 have q244 : (rd l0_1 (ji4)) < (l0_0.length : Int) := dX
 obtain ⟨ad244, e244, hx244_0⟩ := Kd.at_int HR0_0.out (rd l0_1 (ji4)) p244 q244
 have hw244_0 := hx244_0
 cases e244
 replace hx244_0 := (HB.out.cell (World.block_lt_of_cell? w _ hx244_0)).trans hx244_0
 replace p244 := eq_true p244
 replace q244 := eq_true q244
 have p245 : 0 ≤ ((rd l0_2 (ji4)) : Int) := dX
 have q245 : (rd l0_2 (ji4)) < (l0_0.length : Int) := dX
 obtain ⟨ad245, e245, hx245_0⟩ := Kd.at_int HR0_0.out (rd l0_2 (ji4)) p245 q245
 have hw245_0 := hx245_0
 obtain rfl : ad244 = ad245 := (by injection e245)
 replace hx245_0 := (HB.out.cell (World.block_lt_of_cell? w _ hx245_0)).trans hx245_0
 replace p245 := eq_true p245
 replace q245 := eq_true q245
 refine start_ (n := 11) (S := fun w' => w'.cell? ⟨gb227, 0, none⟩ = some (.slice (some ad244) l0_0.length c0_0) ∧ w'.cell? ⟨gb227, 1, none⟩ = some (.slice (some ad230) l0_1.length c0_1) ∧ w'.cell? ⟨gb227, 2, none⟩ = some (.slice (some ad231) l0_2.length c0_2) ∧ w'.cell? (ad244.add ((rd l0_1 (ji4))).toNat) = some (.int .i64 (rd l0_0 (rd l0_1 (ji4)))) ∧ w'.cell? (ad244.add ((rd l0_2 (ji4))).toNat) = some (.int .i64 (rd l0_0 (rd l0_2 (ji4))))) (ds := []) #[ff,ff,ff,ff,ff,ff,ff,ff,ff,ff,ff] (by kernel_rfl) rfl rfl ⟨cz30 BK227.out, cz31 BK227.out, cz32 BK227.out, ((HB.out.cell (World.block_lt_of_cell? w _ hw244_0)).trans hw244_0), ((HB.out.cell (World.block_lt_of_cell? w _ hw245_0)).trans hw245_0)⟩ (fun hHeld => ?_); refine with_tabW impl_InduceOnce.tab9 impl_InduceOnce.bits9 (fun HT_ HW_ => ?_)
 generalize w67.drew = w68 at HO236 HO239 HO242 BK227 BK228 BK243 HB hx244_0 hx245_0 hHeld ⊢
 refine pX 0 46 (fl 11 1) rfl rfl HT_.out ?_
 refine pX 2 48 (fl 11 5) rfl rfl HT_.out ?_
 refine pX 5 51 (fl 11 37) rfl rfl HT_.out ?_
 refine pX 7 53 (fl 11 165) rfl rfl HT_.out ?_
 refine tX5 1 47 (fl 11 167) rfl rfl HT_.out HW_.out hHeld ?_
 refine pX 3 49 (fl 11 175) rfl rfl HT_.out ?_
 refine tX5 4 50 (fl 11 191) rfl rfl HT_.out HW_.out hHeld ?_
 refine tX5 6 52 (fl 11 255) rfl rfl HT_.out HW_.out hHeld ?_
 refine pX 8 54 (fl 11 511) rfl rfl HT_.out ?_
 refine tX5 9 55 (fl 11 1023) rfl rfl HT_.out HW_.out hHeld ?_
 refine pX 10 56 (fl 11 2047) rfl rfl HT_.out ?_
 refine done_ (done_of HT_.out (by kernel_rfl)) ?_
 try go_wp2
 have n0_ := Aside0.mk (Kd.R_drew HO236.out)
 have n1_ := Aside0.mk (Kd.R_drew HO239.out)
 have n2_ := Aside0.mk (Kd.R_drew HO242.out)
 have n3_ := Aside0.mk (blk_drew BK227.out)
 have n4_ := Aside0.mk (blk_drew BK228.out)
 have n5_ := Aside0.mk (blk_drew BK243.out)
 have n6_ := Aside0.mk (below_drew1 HB.out)
 clear HO236 HO239 HO242 BK227 BK228 BK243 HB
 have HO236 := n0_
 have HO239 := n1_
 have HO242 := n2_
 have BK227 := n3_
 have BK228 := n4_
 have BK243 := n5_
 have HB := n6_
 clear n0_ n1_ n2_ n3_ n4_ n5_ n6_
 have p252 : 0 ≤ ((rd l0_2 (ji4)) : Int) := dX
 have q252 : (rd l0_2 (ji4)) < (t234.length : Int) := dX
 obtain ⟨ad252, e252, hx252_0⟩ := Kd.at_int (Kd.R_reads' HO236.out).2.2 (rd l0_2 (ji4)) p252 q252
 cases e252
 replace p252 := eq_true p252
 replace q252 := eq_true q252
 have p253 : 0 ≤ ((rd l0_1 (ji4)) : Int) := dX
 have q253 : (rd l0_1 (ji4)) < (l0_0.length : Int) := dX
 obtain ⟨ad253, e253, hx253_0⟩ := Kd.at_int HR0_0.out (rd l0_1 (ji4)) p253 q253
 have hw253_0 := hx253_0
 obtain rfl : ad244 = ad253 := (by injection e253)
 replace hx253_0 := (HB.out.cell (World.block_lt_of_cell? w _ hx253_0)).trans hx253_0
 replace p253 := eq_true p253
 replace q253 := eq_true q253
 have p55 : 0 ≤ ((rd l0_2 (ji4)) : Int) := dX
 have q55 : ((rd l0_2 (ji4)) : Int) < ((t234.length : Int) : Int) := dX
 obtain ⟨go55, co55, eo55, gb55, gl55, cl55, HG55⟩ := Kd.R_form HO236.out (by omega)
 (first | cases eo55 | (injection eo55 with ea_ en_ ec_; (first | subst ea_ | (injection ea_ with ea_; subst ea_)); subst ec_; clear en_))
 have GB55 := Aside0.mk gb55
 have GG55 := Aside0.mk HG55
 clear gb55 gl55 HG55
 (first | simp only [add_plain] at hx252_0 | skip)
 obtain ⟨hx55_0, hf55_0⟩ := Kd.R_celln 0 HO236.out ((rd l0_2 (ji4)) : Int) p55 q55
 replace p55 := eq_true p55
 replace q55 := eq_true q55
 have HP70 := Kd.R_putn HO236.out ((rd l0_2 (ji4)) : Int) (wrap64 ((rd t234 (rd l0_2 (ji4))) - (rd l0_0 (rd l0_1 (ji4)))))
 rw [← Ny254.out] at HP70
 have HQ70 := Aside0.mk HP70
 clear HP70
 refine start_ (n := 13) (S := fun w' => w'.cell? ⟨gb243, 0, none⟩ = some (.slice (some ⟨go55, 0, none⟩) t234.length co61) ∧ w'.cell? ⟨gb243, 1, none⟩ = some (.slice Ao65 t237.length co65) ∧ w'.cell? ⟨gb243, 2, none⟩ = some (.slice Ao66 t240.length co66) ∧ w'.cell? ⟨gb227, 0, none⟩ = some (.slice (some ad244) l0_0.length c0_0) ∧ w'.cell? ⟨gb227, 1, none⟩ = some (.slice (some ad230) l0_1.length c0_1) ∧ w'.cell? ⟨gb227, 2, none⟩ = some (.slice (some ad231) l0_2.length c0_2) ∧ w'.cell? ⟨go55, ((rd l0_2 (ji4))).toNat, none⟩ = some (.int .i64 (rd t234 (rd l0_2 (ji4)))) ∧ w'.cell? (ad244.add ((rd l0_1 (ji4))).toNat) = some (.int .i64 (rd l0_0 (rd l0_1 (ji4))))) (ds := [12]) #[ff,ff,ff,ff,ff,ff,ff,ff,ff,ff,ff,ff,ff] (by kernel_rfl) rfl rfl ⟨cz30 BK243.out, cz31 BK243.out, cz32 BK243.out, cz30 BK227.out, cz31 BK227.out, cz32 BK227.out, hx252_0, ((HB.out.cell (World.block_lt_of_cell? w _ hw253_0)).trans hw253_0)⟩ (fun hHeld => ?_); refine with_tabW impl_InduceOnce.tab12 impl_InduceOnce.bits12 (fun HT_ HW_ => ?_)
 generalize w68.drew = w69 at HO236 HO239 HO242 BK227 BK228 BK243 HB GG55 HQ70 hf55_0 hx252_0 hx253_0 hx55_0 hHeld ⊢
 refine pX 0 74 (fl 13 1) rfl rfl HT_.out ?_
 refine pX 2 76 (fl 13 5) rfl rfl HT_.out ?_
 refine pX 5 79 (fl 13 37) rfl rfl HT_.out ?_
 refine pX 7 81 (fl 13 165) rfl rfl HT_.out ?_
 refine tX8 1 75 (fl 13 167) rfl rfl HT_.out HW_.out hHeld ?_
 refine pX 3 77 (fl 13 175) rfl rfl HT_.out ?_
 refine tX8 4 78 (fl 13 191) rfl rfl HT_.out HW_.out hHeld ?_
 refine tX8 6 80 (fl 13 255) rfl rfl HT_.out HW_.out hHeld ?_
 refine pX 8 82 (fl 13 511) rfl rfl HT_.out ?_
 refine tX8 9 83 (fl 13 1023) rfl rfl HT_.out HW_.out hHeld ?_
 refine pX 10 84 (fl 13 2047) rfl rfl HT_.out ?_
 refine pX 11 85 (fl 13 4095) rfl rfl HT_.out ?_
 refine last_ (i := 12) (N := none) #[tt,tt,tt,tt,tt,tt,tt,tt,tt,tt,tt,tt,tt] rfl rfl (one_of HT_.out (by kernel_rfl)) (by decide) (fun K hK => ?_)
 refine skip_ (w1 := ?_) (by rfl) rfl ?_ ?_
 rotate_left
 {
 go_simp
 rfl
 }
 refine hK.out _ _ ?_
 clear hK K
 refine done_ (done_of HT_.out (by kernel_rfl)) ?_
 have n0_ : Aside0 (Kd.R (Kd.int .i64) 3 (w69.setCell ⟨go55, ((rd l0_2 (ji4)) : Int).toNat, none⟩ (.int .i64 (wrap64 ((rd t234 (rd l0_2 (ji4))) - (rd l0_0 (rd l0_1 (ji4))))))) w.heap.size (fun k_ => some k_ ≠ (.slice Ao65 t237.length co65 : Value).ownBlock ∧ some k_ ≠ (.slice Ao66 t240.length co66 : Value).ownBlock) (.slice (some ⟨go55, 0, none⟩) t234.length co61) y254) := ⟨rX HQ70.out⟩
 have n1_ : Aside0 (Kd.R (Kd.int .i64) 3 (w69.setCell ⟨go55, ((rd l0_2 (ji4)) : Int).toNat, none⟩ (.int .i64 (wrap64 ((rd t234 (rd l0_2 (ji4))) - (rd l0_0 (rd l0_1 (ji4))))))) w.heap.size (fun k_ => some k_ ≠ (.slice (some ⟨go55, 0, none⟩) t234.length co61 : Value).ownBlock ∧ some k_ ≠ (.slice Ao66 t240.length co66 : Value).ownBlock) (.slice Ao65 t237.length co65) t237) := ⟨by (with_reducible repeat (first|apply rA|apply rN|apply rD)); exact Kd.R_mono (Kd.R_far (p := ⟨go55, ((rd l0_2 (ji4)) : Int).toNat, none⟩) (Kd.R_mono HO239.out (fun k_ hk => (⟨hk, fun e_ => hk.1 (by rw [e_]; rfl)⟩ : _ ∧ k_ ≠ go55))) (fun _ hk => hk.2) (.int .i64 (wrap64 ((rd t234 (rd l0_2 (ji4))) - (rd l0_0 (rd l0_1 (ji4))))))) (fun _ hk => ⟨hk.1.1, hk.1.2⟩)⟩
 have n2_ : Aside0 (Kd.R (Kd.int .i64) 3 (w69.setCell ⟨go55, ((rd l0_2 (ji4)) : Int).toNat, none⟩ (.int .i64 (wrap64 ((rd t234 (rd l0_2 (ji4))) - (rd l0_0 (rd l0_1 (ji4))))))) w.heap.size (fun k_ => some k_ ≠ (.slice (some ⟨go55, 0, none⟩) t234.length co61 : Value).ownBlock ∧ some k_ ≠ (.slice Ao65 t237.length co65 : Value).ownBlock) (.slice Ao66 t240.length co66) t240) := ⟨by (with_reducible repeat (first|apply rA|apply rN|apply rD)); exact Kd.R_mono (Kd.R_far (p := ⟨go55, ((rd l0_2 (ji4)) : Int).toNat, none⟩) (Kd.R_mono HO242.out (fun k_ hk => (⟨hk, fun e_ => hk.1 (by rw [e_]; rfl)⟩ : _ ∧ k_ ≠ go55))) (fun _ hk => hk.2) (.int .i64 (wrap64 ((rd t234 (rd l0_2 (ji4))) - (rd l0_0 (rd l0_1 (ji4))))))) (fun _ hk => ⟨hk.1.1, hk.1.2⟩)⟩
 have n3_ : Aside0 ((w69.setCell ⟨go55, ((rd l0_2 (ji4)) : Int).toNat, none⟩ (.int .i64 (wrap64 ((rd t234 (rd l0_2 (ji4))) - (rd l0_0 (rd l0_1 (ji4))))))).heap[gb227]? = some (.cells #[.slice (some ad244) l0_0.length c0_0, .slice (some ad230) l0_1.length c0_1, .slice (some ad231) l0_2.length c0_2] 26 (0, 0))) := ⟨by (with_reducible repeat (first|refine kN ?_ _|refine kD ?_|refine kA ?_ _)); refine blk_far ?_ (by have h_ := Kd.R_ne HO236.out BK227.out (by decide); intro e_; exact h_ (by rw [e_]; rfl)) _; (with_reducible repeat (first|refine kN ?_ _|refine kD ?_|refine kA ?_ _)); exact BK227.out⟩
 have n4_ : Aside0 ((w69.setCell ⟨go55, ((rd l0_2 (ji4)) : Int).toNat, none⟩ (.int .i64 (wrap64 ((rd t234 (rd l0_2 (ji4))) - (rd l0_0 (rd l0_1 (ji4))))))).heap[gb228]? = some (.cells #[.slice none 0 0, .slice none 0 0, .slice none 0 0] 26 (0, 0))) := ⟨by (with_reducible repeat (first|refine kN ?_ _|refine kD ?_|refine kA ?_ _)); refine blk_far ?_ (by have h_ := Kd.R_ne HO236.out BK228.out (by decide); intro e_; exact h_ (by rw [e_]; rfl)) _; (with_reducible repeat (first|refine kN ?_ _|refine kD ?_|refine kA ?_ _)); exact BK228.out⟩
 have n5_ : Aside0 ((w69.setCell ⟨go55, ((rd l0_2 (ji4)) : Int).toNat, none⟩ (.int .i64 (wrap64 ((rd t234 (rd l0_2 (ji4))) - (rd l0_0 (rd l0_1 (ji4))))))).heap[gb243]? = some (.cells #[.slice (some ⟨go55, 0, none⟩) t234.length co61, .slice Ao65 t237.length co65, .slice Ao66 t240.length co66] 26 (0, 0))) := ⟨by (with_reducible repeat (first|refine kN ?_ _|refine kD ?_|refine kA ?_ _)); refine blk_far ?_ (by have h_ := Kd.R_ne HO236.out BK243.out (by decide); intro e_; exact h_ (by rw [e_]; rfl)) _; (with_reducible repeat (first|refine kN ?_ _|refine kD ?_|refine kA ?_ _)); exact BK243.out⟩
 have n6_ : Aside0 (Below w.heap.size w (w69.setCell ⟨go55, ((rd l0_2 (ji4)) : Int).toNat, none⟩ (.int .i64 (wrap64 ((rd t234 (rd l0_2 (ji4))) - (rd l0_0 (rd l0_1 (ji4)))))))) := ⟨by repeat (first | (with_reducible first | exact HB.out|apply bA|apply bN|apply bD | refine below_set ?_ GB55.out | refine below_set ?_ GE227.out | refine below_set ?_ GE228.out | refine below_set ?_ GE243.out) | exact HB.out)⟩
 (try clear HO236)
 (try clear HO239)
 (try clear HO242)
 (try clear BK227)
 (try clear BK228)
 (try clear BK243)
 (try clear HB)
 generalize (w69.setCell ⟨go55, ((rd l0_2 (ji4)) : Int).toNat, none⟩ (.int .i64 (wrap64 ((rd t234 (rd l0_2 (ji4))) - (rd l0_0 (rd l0_1 (ji4))))))) = w71 at n0_ n1_ n2_ n3_ n4_ n5_ n6_ ⊢
 have HO236 := n0_
 have HO239 := n1_
 have HO242 := n2_
 have BK227 := n3_
 have BK228 := n4_
 have BK243 := n5_
 have HB := n6_
 clear n0_ n1_ n2_ n3_ n4_ n5_ n6_
 have hcz72_0 := cz30 BK227.out
 have hcz72_1 := cz31 BK227.out
 have hcz72_2 := cz32 BK227.out
 have hfz72_0 := blk_frozen BK227.out 0
 have hfz72_1 := blk_frozen BK227.out 1
 have hfz72_2 := blk_frozen BK227.out 2
 try go_wp2_with (first | ((with_reducible refine gate_callee (f := 33) rfl ?_); refine goesL_ (some 89) rfl rfl Try.func33 (by kernel_rfl) rfl #[.slice (some ad230) l0_1.length c0_1, .int .i64 (rd l0_2 (ji4))] rfl (by (try simp only [List.map_toArray, List.map_cons, List.map_nil]); first | done | (simp only [hji4]; rfl) | rfl | (simp only [List.length_drop, List.length_take]; rfl)) ?_; (with_reducible refine (impl_putBehind.calls kj7 _ _ l0_1 (rd l0_2 (ji4)) t255 _ ?side1 ?side2 A56.out).mono ?_); (case side1 => exact cX (Kd.C_below HR0_1.out HB.out)); (case side2 => exact HC0_1.out); rintro e w73 ⟨v256, rfl, ho0, hb⟩; refine ⟨_, rfl, ?_⟩; have n0_ := Aside0.mk (Kd.R_elder' (rX HO236.out) (Kd.R_base ho0) hb); have n1_ := Aside0.mk (Kd.R_elder' (rX HO239.out) (Kd.R_base ho0) hb); have n2_ := Aside0.mk (Kd.R_elder' (rX HO242.out) (Kd.R_base ho0) hb); have n3_ := Aside0.mk (Kd.R_lower (Kd.R_new' (Kd.R_new' (Kd.R_new' ho0 (Kd.R_lt (rX HO236.out))) (Kd.R_lt (rX HO239.out))) (Kd.R_lt (rX HO242.out))) (below_size (bX3 HB.out GE227.out GE228.out GE243.out))); have n4_ := Aside0.mk (bbX BK227.out hb); have n5_ := Aside0.mk (bbX BK228.out hb); have n6_ := Aside0.mk (bbX BK243.out hb); have n7_ := Aside0.mk (below_step (bX3 HB.out GE227.out GE228.out GE243.out) hb); clear HO236 HO239 HO242 BK227 BK228 BK243 HB; have HO236 := n0_; have HO239 := n1_; have HO242 := n2_; have HO257 := n3_; have BK227 := n4_; have BK228 := n5_; have BK243 := n6_; have HB := n7_; clear n0_ n1_ n2_ n3_ n4_ n5_ n6_ n7_; (try clear hb); (try clear hb2); (try clear hk); (try clear hi); (try clear ho0); obtain ⟨Ao74, co74, eo74⟩ := Kd.R_slice HO257.out; subst eo74; have hcz75_0 := cz30 BK243.out; have hcz75_1 := cz31 BK243.out; have hcz75_2 := cz32 BK243.out; have hfz75_0 := blk_frozen BK243.out 0; have hfz75_1 := blk_frozen BK243.out 1; have hfz75_2 := blk_frozen BK243.out 2; have hcz76_0 := cz30 BK228.out; have hcz76_1 := cz31 BK228.out; have hcz76_2 := cz32 BK228.out; have hfz76_0 := blk_frozen BK228.out 0; have hfz76_1 := blk_frozen BK228.out 1; have hfz76_2 := blk_frozen BK228.out 2))
 refine bodyPost_ret (results_ct rfl _ _ gb228 26 #[.slice (some ⟨go55, 0, none⟩) t234.length co61, .slice Ao74 t255.length co74, .slice Ao66 t240.length co66] (0, 0) _ rfl (by (with_reducible repeat (first|refine kN ?_ _|refine kD ?_|refine kA ?_ _)); refine blk_put (cs := #[.slice (some ⟨go55, 0, none⟩) t234.length co61, .slice Ao74 t255.length co74, .slice none 0 0]) ?_ 2 _ rfl; (with_reducible repeat (first|refine kN ?_ _|refine kD ?_|refine kA ?_ _)); refine blk_put (cs := #[.slice (some ⟨go55, 0, none⟩) t234.length co61, .slice none 0 0, .slice none 0 0]) ?_ 1 _ rfl; (with_reducible repeat (first|refine kN ?_ _|refine kD ?_|refine kA ?_ _)); refine blk_put (cs := #[.slice none 0 0, .slice none 0 0, .slice none 0 0]) ?_ 0 _ rfl; (with_reducible repeat (first|refine kN ?_ _|refine kD ?_|refine kA ?_ _)); refine blk_far ?_ NB228_243.out _; (with_reducible repeat (first|refine kN ?_ _|refine kD ?_|refine kA ?_ _)); exact BK228.out) Try.underlying26 rfl (by kernel_rfl)) rfl ?_
 exact ⟨_, _, _, by first | rfl | (simp [errW_none, errW_some] <;> rfl) | (simp only [← hji4]; first | rfl | (simp [errW_none, errW_some] <;> rfl)) | (simp [*, errW_none, errW_some] <;> rfl), by (with_reducible repeat (first|apply rA|apply rN|apply rD)); exact Kd.R_mono (Kd.R_far (p := ⟨gb228, 2, none⟩) (Kd.R_far (p := ⟨gb228, 1, none⟩) (Kd.R_far (p := ⟨gb228, 0, none⟩) (Kd.R_far (p := ⟨gb243, 1, none⟩) (Kd.R_types (Kd.R_types HO236.out BK243.out (by decide)) BK228.out (by decide)) (fun _ hk => hk.1.2) (.slice Ao74 t255.length co74)) (fun _ hk => hk.2) (.slice (some ⟨go55, 0, none⟩) t234.length co61)) (fun _ hk => hk.2) (.slice Ao74 t255.length co74)) (fun _ hk => hk.2) (.slice Ao66 t240.length co66)) (fun _ hk => ⟨hk.1.1.2, hk.1.1.1.2⟩), by (with_reducible repeat (first|apply rA|apply rN|apply rD)); exact Kd.R_mono (Kd.R_far (p := ⟨gb228, 2, none⟩) (Kd.R_far (p := ⟨gb228, 1, none⟩) (Kd.R_far (p := ⟨gb228, 0, none⟩) (Kd.R_far (p := ⟨gb243, 1, none⟩) (Kd.R_types (Kd.R_types HO257.out BK243.out (by decide)) BK228.out (by decide)) (fun _ hk => hk.1.2) (.slice Ao74 t255.length co74)) (fun _ hk => hk.2) (.slice (some ⟨go55, 0, none⟩) t234.length co61)) (fun _ hk => hk.2) (.slice Ao74 t255.length co74)) (fun _ hk => hk.2) (.slice Ao66 t240.length co66)) (fun _ hk => ⟨hk.1.1.1.1.2, hk.1.1.2⟩), by (with_reducible repeat (first|apply rA|apply rN|apply rD)); exact Kd.R_mono (Kd.R_far (p := ⟨gb228, 2, none⟩) (Kd.R_far (p := ⟨gb228, 1, none⟩) (Kd.R_far (p := ⟨gb228, 0, none⟩) (Kd.R_far (p := ⟨gb243, 1, none⟩) (Kd.R_types (Kd.R_types HO242.out BK243.out (by decide)) BK228.out (by decide)) (fun _ hk => hk.1.2) (.slice Ao74 t255.length co74)) (fun _ hk => hk.2) (.slice (some ⟨go55, 0, none⟩) t234.length co61)) (fun _ hk => hk.2) (.slice Ao74 t255.length co74)) (fun _ hk => hk.2) (.slice Ao66 t240.length co66)) (fun _ hk => ⟨hk.1.1.1.1, hk.1.1.2⟩), bX3 HB.out GE227.out GE228.out GE243.out⟩
 }
 {
 rw [if_neg c54] at H
 exact absurd H (by simp)
 }
 }
 }
 {
 rw [if_neg c29] at H
 exact absurd H (by simp)
 }
 }
 {
 rw [if_neg c28] at H
 exact absurd H (by simp)
 }
 }
 {
 rw [if_neg c27] at H
 exact absurd H (by simp)
 }
 }
 {
 rw [if_neg c26] at H
 exact absurd H (by simp)
 }
 }
 }
 {
 rw [if_neg c7] at H
 exact absurd H (by simp)
 }
 }
 {
 rw [if_neg c6] at H
 exact absurd H (by simp)
 }
 }
 {
 rw [if_neg c5] at H
 exact absurd H (by simp)
 }
 }
 {
 replace c3 := Bool.eq_false_iff.mpr c3
 subst c3
 have H1 : (some (([] : List Int), ([] : List Int), ([] : List Int), false)) = some (r1, r2, r3, r4) := by rw [if_neg (show ¬ (false = true) by decide)] at H; exact H
 clear H
 have H := H1
 clear H1
 simp only [Option.some.injEq, Prod.mk.injEq] at H
 obtain ⟨rfl, rfl, rfl, rfl⟩ := H
 go_enter Try.func9, Try.ntmps9
 go_wp2_with (first | ((with_reducible refine gate_dst (N := 1) rfl ?_); refine box_event ?hg (N := 1) ?hd (cs := #[.slice A0_0 l0_0.length c0_0, .slice A0_1 l0_1.length c0_1, .slice A0_2 l0_2.length c0_2]) (t := 26) ?hr ?_; (case hd => rfl); (case hg => rfl); (case hr => first | (go_simp; done) | (go_simp; rfl)); intro gb227 hg w77 hbox hb; have n0_ := Aside0.mk (below_step (bX HB.out) hb); have n1_ := Aside0.mk (hbox); have n2_ := Aside0.mk ((szX (below_size (bX HB.out)) hg : w.heap.size ≤ gb227)); have n3_ := Aside0.mk ((szX (below_size (bX HB.out)) hg : w.heap.size ≤ gb227)); clear HB; have HB := n0_; have BK227 := n1_; have GW227 := n2_; have GE227 := n3_; clear n0_ n1_ n2_ n3_ hb hbox hg) | ((with_reducible refine gate_dst (N := 2) rfl ?_); refine box_event ?hg (N := 2) ?hd (cs := #[.slice none 0 0, .slice none 0 0, .slice none 0 0]) (t := 26) ?hr ?_; (case hd => rfl); (case hg => rfl); (case hr => first | (go_simp; done) | (go_simp; rfl)); intro gb228 hg w78 hbox hb; have n0_ := Aside0.mk (bbX BK227.out hb); have n1_ := Aside0.mk (below_step (bX1 HB.out GE227.out) hb); have n2_ := Aside0.mk (hbox); have n3_ := Aside0.mk ((szX (below_size (bX1 HB.out GE227.out)) hg : w.heap.size ≤ gb228)); have n4_ := Aside0.mk ((szX (below_size (bX1 HB.out GE227.out)) hg : w.heap.size ≤ gb228)); have n5_ := Aside0.mk (neX BK227.out hg); have n6_ := Aside0.mk (nfX BK227.out hg); clear BK227 HB; have BK227 := n0_; have HB := n1_; have BK228 := n2_; have GW228 := n3_; have GE228 := n4_; have NB227_228 := n5_; have NB228_227 := n6_; clear n0_ n1_ n2_ n3_ n4_ n5_ n6_ hb hbox hg; have hnb79 := NB227_228.out; have hnc79 := NB228_227.out; have hcz80_0 := cz30 BK227.out; have hcz80_1 := cz31 BK227.out; have hcz80_2 := cz32 BK227.out; have hfz80_0 := blk_frozen BK227.out 0; have hfz80_1 := blk_frozen BK227.out 1; have hfz80_2 := blk_frozen BK227.out 2) | ((with_reducible refine gate_callee (f := 31) rfl ?_); refine goesL_ (some 9) rfl rfl Try.func31 (by kernel_rfl) rfl #[.agg #[.slice A0_0 l0_0.length c0_0, .slice A0_1 l0_1.length c0_1, .slice A0_2 l0_2.length c0_2]] rfl aX ?_; (with_reducible refine (impl_ExchangeOk.calls k _ _ l0_0 _ _ l0_1 _ _ l0_2 false _ ?side1 ?side2 ?side3 ?side4 ?side5 ?side6 A2.out).mono ?_); (case side1 => exact cX (Kd.C_below HR0_0.out HB.out)); (case side2 => exact HC0_0.out); (case side3 => exact cX (Kd.C_below HR0_1.out HB.out)); (case side4 => exact HC0_1.out); (case side5 => exact cX (Kd.C_below HR0_2.out HB.out)); (case side6 => exact HC0_2.out); rintro e w81 ⟨rfl, hb⟩; refine ⟨_, rfl, ?_⟩; have n0_ := Aside0.mk (bbX BK227.out hb); have n1_ := Aside0.mk (bbX BK228.out hb); have n2_ := Aside0.mk (below_step (bX2 HB.out GE227.out GE228.out) hb); clear BK227 BK228 HB; have BK227 := n0_; have BK228 := n1_; have HB := n2_; clear n0_ n1_ n2_; (try clear hb); (try clear hb2); (try clear hk); (try clear hi); have hcz82_0 := cz30 BK228.out; have hcz82_1 := cz31 BK228.out; have hcz82_2 := cz32 BK228.out; have hfz82_0 := blk_frozen BK228.out 0; have hfz82_1 := blk_frozen BK228.out 1; have hfz82_2 := blk_frozen BK228.out 2))
 refine bodyPost_ret (results_ct rfl _ _ gb228 26 #[.slice none 0 0, .slice none 0 0, .slice none 0 0] (0, 0) _ rfl (by (with_reducible repeat (first|refine kN ?_ _|refine kD ?_|refine kA ?_ _)); refine blk_put (cs := #[.slice none 0 0, .slice none 0 0, .slice none 0 0]) ?_ 2 _ rfl; (with_reducible repeat (first|refine kN ?_ _|refine kD ?_|refine kA ?_ _)); refine blk_put (cs := #[.slice none 0 0, .slice none 0 0, .slice none 0 0]) ?_ 1 _ rfl; (with_reducible repeat (first|refine kN ?_ _|refine kD ?_|refine kA ?_ _)); refine blk_put (cs := #[.slice none 0 0, .slice none 0 0, .slice none 0 0]) ?_ 0 _ rfl; (with_reducible repeat (first|refine kN ?_ _|refine kD ?_|refine kA ?_ _)); exact BK228.out) Try.underlying26 rfl (by kernel_rfl)) rfl ?_
 exact ⟨_, _, _, eX, by first | exact Kd.R_nil _ _ _ _ _ | exact Kd.N_nil _ _ _ _ _ | exact Kd.V_nil _ _ _ _ _ | exact Kd.Q_nil _ _ _ _ _ | exact Kd.S_nil _ _ _ _ _, by first | exact Kd.R_nil _ _ _ _ _ | exact Kd.N_nil _ _ _ _ _ | exact Kd.V_nil _ _ _ _ _ | exact Kd.Q_nil _ _ _ _ _ | exact Kd.S_nil _ _ _ _ _, by first | exact Kd.R_nil _ _ _ _ _ | exact Kd.N_nil _ _ _ _ _ | exact Kd.V_nil _ _ _ _ _ | exact Kd.Q_nil _ _ _ _ _ | exact Kd.S_nil _ _ _ _ _, bX2 HB.out GE227.out GE228.out⟩
 }

/-! ### laws_eqIntS: function 34 -/
def laws_eqIntS.l0 : Nat → List Int → List Int → Int → Option (Bool)
 | 0, _, _, _ => none
 | k + 1, x0, x1, x5 => if x5 < (x0.length : Int) then (if 0 ≤ x5 then (if x5 < (x1.length : Int) then (if (rd x0 x5) = (rd x1 x5) then (laws_eqIntS.l0 k x0 x1 (wrap64 (x5 + 1))) else (some false)) else (none)) else (none)) else (some true)
def laws_eqIntS.f (k : Nat) (l0 : List Int) (l1 : List Int) : Option (Bool) := if (l0.length : Int) = (l1.length : Int) then (laws_eqIntS.l0 k l0 l1 0) else (some false)
set_option maxHeartbeats 8000000 in
set_option maxRecDepth 100000 in
theorem laws_eqIntS.calls (k : Nat) (A0 : Option Addr) (c0 : Nat) (l0 : List Int) (A1 : Option Addr) (c1 : Nat) (l1 : List Int) (r : Bool) (w : World) (hr0 : Kd.C (Kd.int .i64) w A0 l0.length l0) (hc0 : l0.length ≤ c0) (hr1 : Kd.C (Kd.int .i64) w A1 l1.length l1) (hc1 : l1.length ≤ c1) (h : laws_eqIntS.f k l0 l1 = some r) :
  Calls Try.prog 34 #[.slice A0 l0.length c0, .slice A1 l1.length c1] w fun e w' => e = .returned (.bool r) ∧ Drawn0 w w' := by
 have HR0 := Aside0.mk hr0
 have HC0 := Aside0.mk hc0
 clear hr0 hc0
 have HR1 := Aside0.mk hr1
 have HC1 := Aside0.mk hc1
 clear hr1 hc1
 have H : (if (l0.length : Int) = (l1.length : Int) then (laws_eqIntS.l0 k l0 l1 0) else (some false)) = some r := h
 clear h
 by_cases c3 : (l0.length : Int) = (l1.length : Int)
 {
 rw [if_pos c3] at H
 have c3b0 : ((l0.length : Int) == (l1.length : Int)) = true := beq_iff_eq.mpr c3
 have c3b1 : ((l0.length : Int) != (l1.length : Int)) = false := bne_eq_false_iff_eq.mpr c3
 have c3b2 : (l0.length == l1.length) = true := by first | simpa using c3 | (simp at c3 ⊢; omega)
 clear c3
 have H' := Aside0.mk H
 clear H
 go_enter Try.func34, Try.ntmps34
 go_wp2
 repeat (go_quiet (fail); try go_wp2)
 go_loopg [5] k (fun kq v5 w' => ∃ (x5_1 : Int), v5 = .int .i64 x5_1 ∧ Aside0 (laws_eqIntS.l0 kq l0 l1 x5_1 = some r) ∧ Aside0 (kq ≤ k) ∧ Drawn0 w w')
 case atStart => exact ⟨(0), vX, H', ⟨Nat.le_refl _⟩, by repeat (first | exact Drawn0.refl _ | apply Drawn0.step)⟩
 case round =>
 clear H'
 try clear c1
 try clear p2
 try clear c3
 try clear c3b0
 try clear c3b1
 try clear c3b2
 obtain ⟨x5_1, rfl, HA, HK1, ⟨m1, rfl⟩⟩ := hrel
 cases gk with
 | zero => exact absurd HA.out (by simp [laws_eqIntS.l0])
 | succ k1 =>
 have H := HA.out
 clear HA
 simp only [laws_eqIntS.l0] at H
 by_cases c4 : x5_1 < (l0.length : Int)
 {
 rw [if_pos c4] at H
 have c4b0 : decide (x5_1 < (l0.length : Int)) = true := decide_eq_true c4
 clear c4
 by_cases c5 : 0 ≤ x5_1
 {
 rw [if_pos c5] at H
 have c5b0 : decide (0 ≤ x5_1) = true := decide_eq_true c5
 clear c5
 by_cases c6 : x5_1 < (l1.length : Int)
 {
 rw [if_pos c6] at H
 have c6b0 : decide (x5_1 < (l1.length : Int)) = true := decide_eq_true c6
 clear c6
 by_cases c7 : (rd l0 x5_1) = (rd l1 x5_1)
 {
 rw [if_pos c7] at H
 have c7b0 : ((rd l0 x5_1) == (rd l1 x5_1)) = true := beq_iff_eq.mpr c7
 have c7b1 : ((rd l0 x5_1) != (rd l1 x5_1)) = false := bne_eq_false_iff_eq.mpr c7
 clear c7
 have H' := Aside0.mk H
 clear H
 have p258 : 0 ≤ (x5_1 : Int) := dX
 have q258 : x5_1 < (l0.length : Int) := dX
 obtain ⟨ad258, e258, hx258_0⟩ := Kd.at_int HR0.out x5_1 p258 q258
 cases e258
 replace p258 := eq_true p258
 replace q258 := eq_true q258
 have p259 : 0 ≤ (x5_1 : Int) := dX
 have q259 : x5_1 < (l1.length : Int) := dX
 obtain ⟨ad259, e259, hx259_0⟩ := Kd.at_int HR1.out x5_1 p259 q259
 cases e259
 replace p259 := eq_true p259
 replace q259 := eq_true q259
 go_wp2
 repeat (go_quiet (fail); try go_wp2)
 go_roundg k1
 case measure => have := HK1.out; omega
 case rel => exact ⟨(wrap64 (x5_1 + 1)), vX, H', ⟨by have := HK1.out; omega⟩, by repeat (first | exact Drawn0.refl _ | apply Drawn0.step)⟩
 }
 {
 rw [if_neg c7] at H
 have c7b0 : ((rd l0 x5_1) == (rd l1 x5_1)) = false := beq_eq_false_iff_ne.mpr c7
 have c7b1 : ((rd l0 x5_1) != (rd l1 x5_1)) = true := bne_iff_ne.mpr c7
 obtain rfl := Option.some.inj H
 have p258 : 0 ≤ (x5_1 : Int) := dX
 have q258 : x5_1 < (l0.length : Int) := dX
 obtain ⟨ad258, e258, hx258_0⟩ := Kd.at_int HR0.out x5_1 p258 q258
 cases e258
 replace p258 := eq_true p258
 replace q258 := eq_true q258
 have p259 : 0 ≤ (x5_1 : Int) := dX
 have q259 : x5_1 < (l1.length : Int) := dX
 obtain ⟨ad259, e259, hx259_0⟩ := Kd.at_int HR1.out x5_1 p259 q259
 cases e259
 replace p259 := eq_true p259
 replace q259 := eq_true q259
 go_wp2
 repeat (go_quiet (fail); try go_wp2)
 go_ret
 exact ⟨by first | rfl | (simp; done) | (simp [*]; done), by repeat (first | exact Drawn0.refl _ | apply Drawn0.step)⟩
 }
 }
 {
 rw [if_neg c6] at H
 exact absurd H (by simp)
 }
 }
 {
 rw [if_neg c5] at H
 exact absurd H (by simp)
 }
 }
 {
 rw [if_neg c4] at H
 have c4b0 : decide (x5_1 < (l0.length : Int)) = false := decide_eq_false c4
 clear c4
 obtain rfl := Option.some.inj H
 go_wp2
 repeat (go_quiet (fail); try go_wp2)
 go_ret
 exact ⟨by first | rfl | (simp; done) | (simp [*]; done), by repeat (first | exact Drawn0.refl _ | apply Drawn0.step)⟩
 }
 }
 {
 rw [if_neg c3] at H
 have c3b0 : ((l0.length : Int) == (l1.length : Int)) = false := beq_eq_false_iff_ne.mpr c3
 have c3b1 : ((l0.length : Int) != (l1.length : Int)) = true := bne_iff_ne.mpr c3
 have c3b2 : (l0.length == l1.length) = false := by first | simpa using c3 | (simp at c3 ⊢; omega)
 obtain rfl := Option.some.inj H
 go_enter Try.func34, Try.ntmps34
 go_wp2
 repeat (go_quiet (fail); try go_wp2)
 go_ret
 exact ⟨by first | rfl | (simp; done) | (simp [*]; done), by repeat (first | exact Drawn0.refl _ | apply Drawn0.step)⟩
 }

/-! ### laws_eqExchange: function 10 -/
def laws_eqExchange.f (k : Nat) (l0_0 : List Int) (l0_1 : List Int) (l0_2 : List Int) (l1_0 : List Int) (l1_1 : List Int) (l1_2 : List Int) : Option (Bool) := (laws_eqIntS.f k l0_0 l1_0).bind fun t262 => (if t262 = true then ((laws_eqIntS.f k l0_1 l1_1).bind fun t263 => (if t263 = true then ((laws_eqIntS.f k l0_2 l1_2).bind fun t264 => (if t264 = true then (some true) else (some false))) else (some false))) else (some false))
set_option maxHeartbeats 8000000 in
set_option maxRecDepth 100000 in
theorem laws_eqExchange.calls (k : Nat) (A0_0 : Option Addr) (c0_0 : Nat) (l0_0 : List Int) (A0_1 : Option Addr) (c0_1 : Nat) (l0_1 : List Int) (A0_2 : Option Addr) (c0_2 : Nat) (l0_2 : List Int) (A1_0 : Option Addr) (c1_0 : Nat) (l1_0 : List Int) (A1_1 : Option Addr) (c1_1 : Nat) (l1_1 : List Int) (A1_2 : Option Addr) (c1_2 : Nat) (l1_2 : List Int) (r : Bool) (w : World) (hr0_0 : Kd.C (Kd.int .i64) w A0_0 l0_0.length l0_0) (hc0_0 : l0_0.length ≤ c0_0) (hr0_1 : Kd.C (Kd.int .i64) w A0_1 l0_1.length l0_1) (hc0_1 : l0_1.length ≤ c0_1) (hr0_2 : Kd.C (Kd.int .i64) w A0_2 l0_2.length l0_2) (hc0_2 : l0_2.length ≤ c0_2) (hr1_0 : Kd.C (Kd.int .i64) w A1_0 l1_0.length l1_0) (hc1_0 : l1_0.length ≤ c1_0) (hr1_1 : Kd.C (Kd.int .i64) w A1_1 l1_1.length l1_1) (hc1_1 : l1_1.length ≤ c1_1) (hr1_2 : Kd.C (Kd.int .i64) w A1_2 l1_2.length l1_2) (hc1_2 : l1_2.length ≤ c1_2) (h : laws_eqExchange.f k l0_0 l0_1 l0_2 l1_0 l1_1 l1_2 = some r) :
  Calls Try.prog 10 #[.agg #[.slice A0_0 l0_0.length c0_0, .slice A0_1 l0_1.length c0_1, .slice A0_2 l0_2.length c0_2], .agg #[.slice A1_0 l1_0.length c1_0, .slice A1_1 l1_1.length c1_1, .slice A1_2 l1_2.length c1_2]] w fun e w' => e = .returned (.bool r) ∧ Below w.heap.size w w' := by
 have hu26 := Try.underlying26
 have HR0_0 := Aside0.mk hr0_0
 have HC0_0 := Aside0.mk hc0_0
 clear hr0_0 hc0_0
 have HR0_1 := Aside0.mk hr0_1
 have HC0_1 := Aside0.mk hc0_1
 clear hr0_1 hc0_1
 have HR0_2 := Aside0.mk hr0_2
 have HC0_2 := Aside0.mk hc0_2
 clear hr0_2 hc0_2
 have HR1_0 := Aside0.mk hr1_0
 have HC1_0 := Aside0.mk hc1_0
 clear hr1_0 hc1_0
 have HR1_1 := Aside0.mk hr1_1
 have HC1_1 := Aside0.mk hc1_1
 clear hr1_1 hc1_1
 have HR1_2 := Aside0.mk hr1_2
 have HC1_2 := Aside0.mk hc1_2
 clear hr1_2 hc1_2
 have HB := Aside0.mk (Below.refl w.heap.size w)
 have H : ((laws_eqIntS.f k l0_0 l1_0).bind fun t262 => (if t262 = true then ((laws_eqIntS.f k l0_1 l1_1).bind fun t263 => (if t263 = true then ((laws_eqIntS.f k l0_2 l1_2).bind fun t264 => (if t264 = true then (some true) else (some false))) else (some false))) else (some false))) = some r := h
 clear h
 replace H := Option.bind_eq_some_iff.mp H
 obtain ⟨t262, A30, H⟩ := H
 replace H : (if t262 = true then ((laws_eqIntS.f k l0_1 l1_1).bind fun t263 => (if t263 = true then ((laws_eqIntS.f k l0_2 l1_2).bind fun t264 => (if t264 = true then (some true) else (some false))) else (some false))) else (some false)) = some r := H
 have A3 := Aside0.mk A30
 clear A30
 by_cases c4 : t262 = true
 {
 subst c4
 have H1 : ((laws_eqIntS.f k l0_1 l1_1).bind fun t263 => (if t263 = true then ((laws_eqIntS.f k l0_2 l1_2).bind fun t264 => (if t264 = true then (some true) else (some false))) else (some false))) = some r := by rw [if_pos rfl] at H; exact H
 clear H
 have H := H1
 clear H1
 replace H := Option.bind_eq_some_iff.mp H
 obtain ⟨t263, A50, H⟩ := H
 replace H : (if t263 = true then ((laws_eqIntS.f k l0_2 l1_2).bind fun t264 => (if t264 = true then (some true) else (some false))) else (some false)) = some r := H
 have A5 := Aside0.mk A50
 clear A50
 by_cases c6 : t263 = true
 {
 subst c6
 have H1 : ((laws_eqIntS.f k l0_2 l1_2).bind fun t264 => (if t264 = true then (some true) else (some false))) = some r := by rw [if_pos rfl] at H; exact H
 clear H
 have H := H1
 clear H1
 replace H := Option.bind_eq_some_iff.mp H
 obtain ⟨t264, A70, H⟩ := H
 replace H : (if t264 = true then (some true) else (some false)) = some r := H
 have A7 := Aside0.mk A70
 clear A70
 by_cases c8 : t264 = true
 {
 subst c8
 have H1 : (some true) = some r := by rw [if_pos rfl] at H; exact H
 clear H
 have H := H1
 clear H1
 obtain rfl := Option.some.inj H
 go_enter Try.func10, Try.ntmps10
 go_wp2_with (first | ((with_reducible refine gate_dst (N := 2) rfl ?_); refine box_event ?hg (N := 2) ?hd (cs := #[.slice A0_0 l0_0.length c0_0, .slice A0_1 l0_1.length c0_1, .slice A0_2 l0_2.length c0_2]) (t := 26) ?hr ?_; (case hd => rfl); (case hg => rfl); (case hr => first | (go_simp; done) | (go_simp; rfl)); intro gb260 hg w9 hbox hb; have n0_ := Aside0.mk (below_step (bX HB.out) hb); have n1_ := Aside0.mk (hbox); have n2_ := Aside0.mk ((szX (below_size (bX HB.out)) hg : w.heap.size ≤ gb260)); have n3_ := Aside0.mk ((szX (below_size (bX HB.out)) hg : w.heap.size ≤ gb260)); clear HB; have HB := n0_; have BK260 := n1_; have GW260 := n2_; have GE260 := n3_; clear n0_ n1_ n2_ n3_ hb hbox hg) | ((with_reducible refine gate_dst (N := 3) rfl ?_); refine box_event ?hg (N := 3) ?hd (cs := #[.slice A1_0 l1_0.length c1_0, .slice A1_1 l1_1.length c1_1, .slice A1_2 l1_2.length c1_2]) (t := 26) ?hr ?_; (case hd => rfl); (case hg => rfl); (case hr => first | (go_simp; done) | (go_simp; rfl)); intro gb261 hg w10 hbox hb; have n0_ := Aside0.mk (bbX BK260.out hb); have n1_ := Aside0.mk (below_step (bX1 HB.out GE260.out) hb); have n2_ := Aside0.mk (hbox); have n3_ := Aside0.mk ((szX (below_size (bX1 HB.out GE260.out)) hg : w.heap.size ≤ gb261)); have n4_ := Aside0.mk ((szX (below_size (bX1 HB.out GE260.out)) hg : w.heap.size ≤ gb261)); have n5_ := Aside0.mk (neX BK260.out hg); have n6_ := Aside0.mk (nfX BK260.out hg); clear BK260 HB; have BK260 := n0_; have HB := n1_; have BK261 := n2_; have GW261 := n3_; have GE261 := n4_; have NB260_261 := n5_; have NB261_260 := n6_; clear n0_ n1_ n2_ n3_ n4_ n5_ n6_ hb hbox hg; have hnb11 := NB260_261.out; have hnc11 := NB261_260.out; have hcz12_0 := cz30 BK260.out; have hcz12_1 := cz31 BK260.out; have hcz12_2 := cz32 BK260.out; have hfz12_0 := blk_frozen BK260.out 0; have hfz12_1 := blk_frozen BK260.out 1; have hfz12_2 := blk_frozen BK260.out 2; have hcz13_0 : w10.cell? ⟨gb261, 0, none⟩ = some (.slice A1_0 l1_0.length c1_0) := (blk_cell BK261.out 0).trans rfl; have hcz13_1 : w10.cell? ⟨gb261, 1, none⟩ = some (.slice A1_1 l1_1.length c1_1) := (blk_cell BK261.out 1).trans rfl; have hcz13_2 : w10.cell? ⟨gb261, 2, none⟩ = some (.slice A1_2 l1_2.length c1_2) := (blk_cell BK261.out 2).trans rfl; have hfz13_0 := blk_frozen BK261.out 0; have hfz13_1 := blk_frozen BK261.out 1; have hfz13_2 := blk_frozen BK261.out 2) | ((with_reducible refine gate_callee (f := 34) rfl ?_); refine goesL_ (some 9) rfl rfl Try.func34 (by kernel_rfl) rfl #[.slice A0_0 l0_0.length c0_0, .slice A1_0 l1_0.length c1_0] rfl aX ?_; (with_reducible refine (laws_eqIntS.calls k _ _ l0_0 _ _ l1_0 true _ ?side1 ?side2 ?side3 ?side4 A3.out).mono ?_); (case side1 => exact cX (Kd.C_below HR0_0.out HB.out)); (case side2 => exact HC0_0.out); (case side3 => exact cX (Kd.C_below HR1_0.out HB.out)); (case side4 => exact HC1_0.out); rintro e w' ⟨rfl, ⟨nd, rfl⟩⟩; refine ⟨_, rfl, ?_⟩) | ((with_reducible refine gate_callee (f := 34) rfl ?_); refine goesL_ (some 15) rfl rfl Try.func34 (by kernel_rfl) rfl #[.slice A0_1 l0_1.length c0_1, .slice A1_1 l1_1.length c1_1] rfl aX ?_; (with_reducible refine (laws_eqIntS.calls k _ _ l0_1 _ _ l1_1 true _ ?side1 ?side2 ?side3 ?side4 A5.out).mono ?_); (case side1 => exact cX (Kd.C_below HR0_1.out (bX2 HB.out GE260.out GE261.out))); (case side2 => exact HC0_1.out); (case side3 => exact cX (Kd.C_below HR1_1.out (bX2 HB.out GE260.out GE261.out))); (case side4 => exact HC1_1.out); rintro e w' ⟨rfl, ⟨nd, rfl⟩⟩; refine ⟨_, rfl, ?_⟩) | ((with_reducible refine gate_callee (f := 34) rfl ?_); refine goesL_ (some 21) rfl rfl Try.func34 (by kernel_rfl) rfl #[.slice A0_2 l0_2.length c0_2, .slice A1_2 l1_2.length c1_2] rfl aX ?_; (with_reducible refine (laws_eqIntS.calls k _ _ l0_2 _ _ l1_2 true _ ?side1 ?side2 ?side3 ?side4 A7.out).mono ?_); (case side1 => exact cX (Kd.C_below HR0_2.out (bX2 HB.out GE260.out GE261.out))); (case side2 => exact HC0_2.out); (case side3 => exact cX (Kd.C_below HR1_2.out (bX2 HB.out GE260.out GE261.out))); (case side4 => exact HC1_2.out); rintro e w' ⟨rfl, ⟨nd, rfl⟩⟩; refine ⟨_, rfl, ?_⟩))
 go_ret
 exact ⟨eX, bX2 HB.out GE260.out GE261.out⟩
 }
 {
 replace c8 := Bool.eq_false_iff.mpr c8
 subst c8
 have H1 : (some false) = some r := by rw [if_neg (show ¬ (false = true) by decide)] at H; exact H
 clear H
 have H := H1
 clear H1
 obtain rfl := Option.some.inj H
 go_enter Try.func10, Try.ntmps10
 go_wp2_with (first | ((with_reducible refine gate_dst (N := 2) rfl ?_); refine box_event ?hg (N := 2) ?hd (cs := #[.slice A0_0 l0_0.length c0_0, .slice A0_1 l0_1.length c0_1, .slice A0_2 l0_2.length c0_2]) (t := 26) ?hr ?_; (case hd => rfl); (case hg => rfl); (case hr => first | (go_simp; done) | (go_simp; rfl)); intro gb260 hg w14 hbox hb; have n0_ := Aside0.mk (below_step (bX HB.out) hb); have n1_ := Aside0.mk (hbox); have n2_ := Aside0.mk ((szX (below_size (bX HB.out)) hg : w.heap.size ≤ gb260)); have n3_ := Aside0.mk ((szX (below_size (bX HB.out)) hg : w.heap.size ≤ gb260)); clear HB; have HB := n0_; have BK260 := n1_; have GW260 := n2_; have GE260 := n3_; clear n0_ n1_ n2_ n3_ hb hbox hg) | ((with_reducible refine gate_dst (N := 3) rfl ?_); refine box_event ?hg (N := 3) ?hd (cs := #[.slice A1_0 l1_0.length c1_0, .slice A1_1 l1_1.length c1_1, .slice A1_2 l1_2.length c1_2]) (t := 26) ?hr ?_; (case hd => rfl); (case hg => rfl); (case hr => first | (go_simp; done) | (go_simp; rfl)); intro gb261 hg w15 hbox hb; have n0_ := Aside0.mk (bbX BK260.out hb); have n1_ := Aside0.mk (below_step (bX1 HB.out GE260.out) hb); have n2_ := Aside0.mk (hbox); have n3_ := Aside0.mk ((szX (below_size (bX1 HB.out GE260.out)) hg : w.heap.size ≤ gb261)); have n4_ := Aside0.mk ((szX (below_size (bX1 HB.out GE260.out)) hg : w.heap.size ≤ gb261)); have n5_ := Aside0.mk (neX BK260.out hg); have n6_ := Aside0.mk (nfX BK260.out hg); clear BK260 HB; have BK260 := n0_; have HB := n1_; have BK261 := n2_; have GW261 := n3_; have GE261 := n4_; have NB260_261 := n5_; have NB261_260 := n6_; clear n0_ n1_ n2_ n3_ n4_ n5_ n6_ hb hbox hg; have hnb16 := NB260_261.out; have hnc16 := NB261_260.out; have hcz17_0 := cz30 BK260.out; have hcz17_1 := cz31 BK260.out; have hcz17_2 := cz32 BK260.out; have hfz17_0 := blk_frozen BK260.out 0; have hfz17_1 := blk_frozen BK260.out 1; have hfz17_2 := blk_frozen BK260.out 2; have hcz18_0 : w15.cell? ⟨gb261, 0, none⟩ = some (.slice A1_0 l1_0.length c1_0) := (blk_cell BK261.out 0).trans rfl; have hcz18_1 : w15.cell? ⟨gb261, 1, none⟩ = some (.slice A1_1 l1_1.length c1_1) := (blk_cell BK261.out 1).trans rfl; have hcz18_2 : w15.cell? ⟨gb261, 2, none⟩ = some (.slice A1_2 l1_2.length c1_2) := (blk_cell BK261.out 2).trans rfl; have hfz18_0 := blk_frozen BK261.out 0; have hfz18_1 := blk_frozen BK261.out 1; have hfz18_2 := blk_frozen BK261.out 2) | ((with_reducible refine gate_callee (f := 34) rfl ?_); refine goesL_ (some 9) rfl rfl Try.func34 (by kernel_rfl) rfl #[.slice A0_0 l0_0.length c0_0, .slice A1_0 l1_0.length c1_0] rfl aX ?_; (with_reducible refine (laws_eqIntS.calls k _ _ l0_0 _ _ l1_0 true _ ?side1 ?side2 ?side3 ?side4 A3.out).mono ?_); (case side1 => exact cX (Kd.C_below HR0_0.out HB.out)); (case side2 => exact HC0_0.out); (case side3 => exact cX (Kd.C_below HR1_0.out HB.out)); (case side4 => exact HC1_0.out); rintro e w' ⟨rfl, ⟨nd, rfl⟩⟩; refine ⟨_, rfl, ?_⟩) | ((with_reducible refine gate_callee (f := 34) rfl ?_); refine goesL_ (some 15) rfl rfl Try.func34 (by kernel_rfl) rfl #[.slice A0_1 l0_1.length c0_1, .slice A1_1 l1_1.length c1_1] rfl aX ?_; (with_reducible refine (laws_eqIntS.calls k _ _ l0_1 _ _ l1_1 true _ ?side1 ?side2 ?side3 ?side4 A5.out).mono ?_); (case side1 => exact cX (Kd.C_below HR0_1.out (bX2 HB.out GE260.out GE261.out))); (case side2 => exact HC0_1.out); (case side3 => exact cX (Kd.C_below HR1_1.out (bX2 HB.out GE260.out GE261.out))); (case side4 => exact HC1_1.out); rintro e w' ⟨rfl, ⟨nd, rfl⟩⟩; refine ⟨_, rfl, ?_⟩) | ((with_reducible refine gate_callee (f := 34) rfl ?_); refine goesL_ (some 21) rfl rfl Try.func34 (by kernel_rfl) rfl #[.slice A0_2 l0_2.length c0_2, .slice A1_2 l1_2.length c1_2] rfl aX ?_; (with_reducible refine (laws_eqIntS.calls k _ _ l0_2 _ _ l1_2 false _ ?side1 ?side2 ?side3 ?side4 A7.out).mono ?_); (case side1 => exact cX (Kd.C_below HR0_2.out (bX2 HB.out GE260.out GE261.out))); (case side2 => exact HC0_2.out); (case side3 => exact cX (Kd.C_below HR1_2.out (bX2 HB.out GE260.out GE261.out))); (case side4 => exact HC1_2.out); rintro e w' ⟨rfl, ⟨nd, rfl⟩⟩; refine ⟨_, rfl, ?_⟩))
 go_ret
 exact ⟨eX, bX2 HB.out GE260.out GE261.out⟩
 }
 }
 {
 replace c6 := Bool.eq_false_iff.mpr c6
 subst c6
 have H1 : (some false) = some r := by rw [if_neg (show ¬ (false = true) by decide)] at H; exact H
 clear H
 have H := H1
 clear H1
 obtain rfl := Option.some.inj H
 go_enter Try.func10, Try.ntmps10
 go_wp2_with (first | ((with_reducible refine gate_dst (N := 2) rfl ?_); refine box_event ?hg (N := 2) ?hd (cs := #[.slice A0_0 l0_0.length c0_0, .slice A0_1 l0_1.length c0_1, .slice A0_2 l0_2.length c0_2]) (t := 26) ?hr ?_; (case hd => rfl); (case hg => rfl); (case hr => first | (go_simp; done) | (go_simp; rfl)); intro gb260 hg w19 hbox hb; have n0_ := Aside0.mk (below_step (bX HB.out) hb); have n1_ := Aside0.mk (hbox); have n2_ := Aside0.mk ((szX (below_size (bX HB.out)) hg : w.heap.size ≤ gb260)); have n3_ := Aside0.mk ((szX (below_size (bX HB.out)) hg : w.heap.size ≤ gb260)); clear HB; have HB := n0_; have BK260 := n1_; have GW260 := n2_; have GE260 := n3_; clear n0_ n1_ n2_ n3_ hb hbox hg) | ((with_reducible refine gate_dst (N := 3) rfl ?_); refine box_event ?hg (N := 3) ?hd (cs := #[.slice A1_0 l1_0.length c1_0, .slice A1_1 l1_1.length c1_1, .slice A1_2 l1_2.length c1_2]) (t := 26) ?hr ?_; (case hd => rfl); (case hg => rfl); (case hr => first | (go_simp; done) | (go_simp; rfl)); intro gb261 hg w20 hbox hb; have n0_ := Aside0.mk (bbX BK260.out hb); have n1_ := Aside0.mk (below_step (bX1 HB.out GE260.out) hb); have n2_ := Aside0.mk (hbox); have n3_ := Aside0.mk ((szX (below_size (bX1 HB.out GE260.out)) hg : w.heap.size ≤ gb261)); have n4_ := Aside0.mk ((szX (below_size (bX1 HB.out GE260.out)) hg : w.heap.size ≤ gb261)); have n5_ := Aside0.mk (neX BK260.out hg); have n6_ := Aside0.mk (nfX BK260.out hg); clear BK260 HB; have BK260 := n0_; have HB := n1_; have BK261 := n2_; have GW261 := n3_; have GE261 := n4_; have NB260_261 := n5_; have NB261_260 := n6_; clear n0_ n1_ n2_ n3_ n4_ n5_ n6_ hb hbox hg; have hnb21 := NB260_261.out; have hnc21 := NB261_260.out; have hcz22_0 := cz30 BK260.out; have hcz22_1 := cz31 BK260.out; have hcz22_2 := cz32 BK260.out; have hfz22_0 := blk_frozen BK260.out 0; have hfz22_1 := blk_frozen BK260.out 1; have hfz22_2 := blk_frozen BK260.out 2; have hcz23_0 : w20.cell? ⟨gb261, 0, none⟩ = some (.slice A1_0 l1_0.length c1_0) := (blk_cell BK261.out 0).trans rfl; have hcz23_1 : w20.cell? ⟨gb261, 1, none⟩ = some (.slice A1_1 l1_1.length c1_1) := (blk_cell BK261.out 1).trans rfl; have hcz23_2 : w20.cell? ⟨gb261, 2, none⟩ = some (.slice A1_2 l1_2.length c1_2) := (blk_cell BK261.out 2).trans rfl; have hfz23_0 := blk_frozen BK261.out 0; have hfz23_1 := blk_frozen BK261.out 1; have hfz23_2 := blk_frozen BK261.out 2) | ((with_reducible refine gate_callee (f := 34) rfl ?_); refine goesL_ (some 9) rfl rfl Try.func34 (by kernel_rfl) rfl #[.slice A0_0 l0_0.length c0_0, .slice A1_0 l1_0.length c1_0] rfl aX ?_; (with_reducible refine (laws_eqIntS.calls k _ _ l0_0 _ _ l1_0 true _ ?side1 ?side2 ?side3 ?side4 A3.out).mono ?_); (case side1 => exact cX (Kd.C_below HR0_0.out HB.out)); (case side2 => exact HC0_0.out); (case side3 => exact cX (Kd.C_below HR1_0.out HB.out)); (case side4 => exact HC1_0.out); rintro e w' ⟨rfl, ⟨nd, rfl⟩⟩; refine ⟨_, rfl, ?_⟩) | ((with_reducible refine gate_callee (f := 34) rfl ?_); refine goesL_ (some 15) rfl rfl Try.func34 (by kernel_rfl) rfl #[.slice A0_1 l0_1.length c0_1, .slice A1_1 l1_1.length c1_1] rfl aX ?_; (with_reducible refine (laws_eqIntS.calls k _ _ l0_1 _ _ l1_1 false _ ?side1 ?side2 ?side3 ?side4 A5.out).mono ?_); (case side1 => exact cX (Kd.C_below HR0_1.out (bX2 HB.out GE260.out GE261.out))); (case side2 => exact HC0_1.out); (case side3 => exact cX (Kd.C_below HR1_1.out (bX2 HB.out GE260.out GE261.out))); (case side4 => exact HC1_1.out); rintro e w' ⟨rfl, ⟨nd, rfl⟩⟩; refine ⟨_, rfl, ?_⟩))
 go_ret
 exact ⟨eX, bX2 HB.out GE260.out GE261.out⟩
 }
 }
 {
 replace c4 := Bool.eq_false_iff.mpr c4
 subst c4
 have H1 : (some false) = some r := by rw [if_neg (show ¬ (false = true) by decide)] at H; exact H
 clear H
 have H := H1
 clear H1
 obtain rfl := Option.some.inj H
 go_enter Try.func10, Try.ntmps10
 go_wp2_with (first | ((with_reducible refine gate_dst (N := 2) rfl ?_); refine box_event ?hg (N := 2) ?hd (cs := #[.slice A0_0 l0_0.length c0_0, .slice A0_1 l0_1.length c0_1, .slice A0_2 l0_2.length c0_2]) (t := 26) ?hr ?_; (case hd => rfl); (case hg => rfl); (case hr => first | (go_simp; done) | (go_simp; rfl)); intro gb260 hg w24 hbox hb; have n0_ := Aside0.mk (below_step (bX HB.out) hb); have n1_ := Aside0.mk (hbox); have n2_ := Aside0.mk ((szX (below_size (bX HB.out)) hg : w.heap.size ≤ gb260)); have n3_ := Aside0.mk ((szX (below_size (bX HB.out)) hg : w.heap.size ≤ gb260)); clear HB; have HB := n0_; have BK260 := n1_; have GW260 := n2_; have GE260 := n3_; clear n0_ n1_ n2_ n3_ hb hbox hg) | ((with_reducible refine gate_dst (N := 3) rfl ?_); refine box_event ?hg (N := 3) ?hd (cs := #[.slice A1_0 l1_0.length c1_0, .slice A1_1 l1_1.length c1_1, .slice A1_2 l1_2.length c1_2]) (t := 26) ?hr ?_; (case hd => rfl); (case hg => rfl); (case hr => first | (go_simp; done) | (go_simp; rfl)); intro gb261 hg w25 hbox hb; have n0_ := Aside0.mk (bbX BK260.out hb); have n1_ := Aside0.mk (below_step (bX1 HB.out GE260.out) hb); have n2_ := Aside0.mk (hbox); have n3_ := Aside0.mk ((szX (below_size (bX1 HB.out GE260.out)) hg : w.heap.size ≤ gb261)); have n4_ := Aside0.mk ((szX (below_size (bX1 HB.out GE260.out)) hg : w.heap.size ≤ gb261)); have n5_ := Aside0.mk (neX BK260.out hg); have n6_ := Aside0.mk (nfX BK260.out hg); clear BK260 HB; have BK260 := n0_; have HB := n1_; have BK261 := n2_; have GW261 := n3_; have GE261 := n4_; have NB260_261 := n5_; have NB261_260 := n6_; clear n0_ n1_ n2_ n3_ n4_ n5_ n6_ hb hbox hg; have hnb26 := NB260_261.out; have hnc26 := NB261_260.out; have hcz27_0 := cz30 BK260.out; have hcz27_1 := cz31 BK260.out; have hcz27_2 := cz32 BK260.out; have hfz27_0 := blk_frozen BK260.out 0; have hfz27_1 := blk_frozen BK260.out 1; have hfz27_2 := blk_frozen BK260.out 2; have hcz28_0 : w25.cell? ⟨gb261, 0, none⟩ = some (.slice A1_0 l1_0.length c1_0) := (blk_cell BK261.out 0).trans rfl; have hcz28_1 : w25.cell? ⟨gb261, 1, none⟩ = some (.slice A1_1 l1_1.length c1_1) := (blk_cell BK261.out 1).trans rfl; have hcz28_2 : w25.cell? ⟨gb261, 2, none⟩ = some (.slice A1_2 l1_2.length c1_2) := (blk_cell BK261.out 2).trans rfl; have hfz28_0 := blk_frozen BK261.out 0; have hfz28_1 := blk_frozen BK261.out 1; have hfz28_2 := blk_frozen BK261.out 2) | ((with_reducible refine gate_callee (f := 34) rfl ?_); refine goesL_ (some 9) rfl rfl Try.func34 (by kernel_rfl) rfl #[.slice A0_0 l0_0.length c0_0, .slice A1_0 l1_0.length c1_0] rfl aX ?_; (with_reducible refine (laws_eqIntS.calls k _ _ l0_0 _ _ l1_0 false _ ?side1 ?side2 ?side3 ?side4 A3.out).mono ?_); (case side1 => exact cX (Kd.C_below HR0_0.out HB.out)); (case side2 => exact HC0_0.out); (case side3 => exact cX (Kd.C_below HR1_0.out HB.out)); (case side4 => exact HC1_0.out); rintro e w' ⟨rfl, ⟨nd, rfl⟩⟩; refine ⟨_, rfl, ?_⟩))
 go_ret
 exact ⟨eX, bX2 HB.out GE260.out GE261.out⟩
 }

/-! ### laws_markIntS: function 35 -/
def laws_markIntS.l0 : Nat → List Int → Int → Int → Option (Int × List Int)
 | 0, _, _, _ => none
 | k + 1, x0, x1, x5 => if x5 < (x0.length : Int) then (if 0 ≤ x5 then (laws_markIntS.l0 k (x0.set (x5 : Int).toNat x1) (wrap64 (x1 + 1)) (wrap64 (x5 + 1))) else (none)) else (some (x1, x0))
def laws_markIntS.f (k : Nat) (l0 : List Int) (a1 : Int) : Option (Int × List Int) := laws_markIntS.l0 k l0 a1 0
set_option maxHeartbeats 8000000 in
set_option maxRecDepth 100000 in
theorem laws_markIntS.calls (k : Nat) (P0_ : Nat → Prop) (u9000_ : Value) (l0 : List Int) (a1 : Int) (r1 : Int) (r2 : List Int) (w0 w : World) (hB : Below w0.heap.size w0 w) (ho0 : Kd.R (Kd.int .i64) 3 w w0.heap.size P0_ u9000_ l0) (h : laws_markIntS.f k l0 a1 = some (r1, r2)) :
  Calls Try.prog 35 #[u9000_, .int .i64 a1] w fun e w' => e = .returned (.int .i64 r1) ∧ Kd.R (Kd.int .i64) 3 w' w0.heap.size (fun k_ => (P0_ k_ ∨ w.heap.size ≤ k_)) u9000_ r2 ∧ Below w0.heap.size w0 w' ∧ Kept w w' (fun k_ => P0_ k_) := by
 have HO0 := Aside0.mk (show Kd.R (Kd.int .i64) 3 w w0.heap.size (fun k_ => (P0_ k_ ∨ w.heap.size ≤ k_)) u9000_ l0 from Kd.R_mono ho0 (fun k_ hk => (.inl hk)))
 have HK := Aside0.mk (Kept.refl w (fun k_ => P0_ k_))
 have HW0 := Aside0.mk hB.size
 have HB := Aside0.mk hB
 clear hB
 have H : (laws_markIntS.l0 k l0 a1 0) = some (r1, r2) := h
 clear h
 have H' := Aside0.mk H
 clear H
 go_enter Try.func35, Try.ntmps35
 go_wp2
 go_loopg [1, 5] k (fun kq v1 v5 w' => ∃ (x0_1 : List Int) (x1_1 : Int) (x5_1 : Int), v1 = .int .i64 x1_1 ∧ v5 = .int .i64 x5_1 ∧ Aside0 (laws_markIntS.l0 kq x0_1 x1_1 x5_1 = some (r1, r2)) ∧ Aside0 (kq ≤ k) ∧ Aside0 (Kd.R (Kd.int .i64) 3 w' w0.heap.size (fun k_ => (P0_ k_ ∨ w.heap.size ≤ k_)) u9000_ x0_1) ∧ Aside0 (Kept w w' (fun k_ => P0_ k_)) ∧ Aside0 (Below w0.heap.size w0 w'))
 case atStart => exact ⟨(l0), (a1), (0), vX, vX, H', ⟨Nat.le_refl _⟩, ⟨rX HO0.out⟩, ⟨by repeat (first | (with_reducible first | exact HK.out | apply Kept.alloc | apply Kept.drewN | apply Kept.drew) | exact HK.out)⟩, ⟨bX HB.out⟩⟩
 case round =>
 clear H'
 try clear p2
 obtain ⟨x0_1, x1_1, x5_1, rfl, rfl, HA, HK1, HO_0, HK, HB⟩ := hrel
 cases gk with
 | zero => exact absurd HA.out (by simp [laws_markIntS.l0])
 | succ k1 =>
 have H := HA.out
 clear HA
 simp only [laws_markIntS.l0] at H
 by_cases c3 : x5_1 < (x0_1.length : Int)
 {
 rw [if_pos c3] at H
 have c3b0 : decide (x5_1 < (x0_1.length : Int)) = true := decide_eq_true c3
 clear c3
 by_cases c4 : 0 ≤ x5_1
 {
 rw [if_pos c4] at H
 have c4b0 : decide (0 ≤ x5_1) = true := decide_eq_true c4
 clear c4
 obtain ⟨y265, hy265⟩ : ∃ y_ : List Int, y_ = (x0_1.set (x5_1 : Int).toNat x1_1) := ⟨_, rfl⟩
 replace H : (laws_markIntS.l0 k1 y265 (wrap64 (x1_1 + 1)) (wrap64 (x5_1 + 1))) = some (r1, r2) := by first | (rw [hy265]; with_reducible exact H) | (have H2_ := (Option.bind_some _ _).symm.trans H; rw [hy265]; with_reducible exact H2_) | (have H2_ := (Option.bind_some _ _).symm.trans H; with_reducible exact H2_) | with_reducible exact H | (rw [hy265]; exact H) | exact H
 have Ny265 := Aside0.mk hy265
 clear hy265
 have H' := Aside0.mk H
 clear H
 obtain ⟨Ao6, co6, eo6⟩ := Kd.R_slice HO_0.out
 subst eo6
 have p5 : 0 ≤ (x5_1 : Int) := dX
 have q5 : (x5_1 : Int) < ((x0_1.length : Int) : Int) := dX
 obtain ⟨go5, co5, eo5, gb5, gl5, cl5, HG5⟩ := Kd.R_form HO_0.out (by omega)
 (first | cases eo5 | (injection eo5 with ea_ en_ ec_; (first | subst ea_ | (injection ea_ with ea_; subst ea_)); subst ec_; clear en_))
 have GB5 := Aside0.mk gb5
 have GG5 := Aside0.mk HG5
 clear gb5 gl5 HG5
 have HMgo5 := Aside0.mk (show (P0_ go5 ∨ w.heap.size ≤ go5) from (HO_0.out.1 _ rfl))
 obtain ⟨hx5_0, hf5_0⟩ := Kd.R_celln 0 HO_0.out (x5_1 : Int) p5 q5
 replace p5 := eq_true p5
 replace q5 := eq_true q5
 have HP7 := Kd.R_putg HO_0.out (x5_1 : Int) x1_1
 go_wp2_with (first | ((with_reducible refine gate_store (t := 3) (p := 15) rfl ?_); refine store_event (t := 3) (p := 15) (v := ?vo_w8) (w1 := (wr.setCell ⟨go5, (x5_1 : Int).toNat, none⟩ (.int .i64 x1_1))) ?hg ?ho ?hn ?hr ?_; (case ho => rfl); (case hg => rfl); (case hn => rfl); (case hr => first | (go_simp; done) | (go_simp; rfl)); intro w8 hw; have hg : wr.grownBy w8 (some go5) := (by rw [hw]; exact HP7.2); have hp_ : Kd.R (Kd.int .i64) 3 w8 w0.heap.size (fun k_ => (P0_ k_ ∨ w.heap.size ≤ k_)) (.slice (some ⟨go5, 0, none⟩) x0_1.length co6) y265 := (by rw [hw, Ny265.out]; exact HP7.1); clear HP7; have n0_ := Aside0.mk (hp_); have n1_ := Aside0.mk ((by rw [hw]; exact below_set (HB.out) GB5.out : Below w0.heap.size w0 w8)); have n2_ := Aside0.mk (Kept.of_grown (S := (fun k_ => P0_ k_)) hg (by repeat (first | (with_reducible first | exact HK.out | apply Kept.alloc | apply Kept.drewN | apply Kept.drew) | exact HK.out)) (fun k_ e_ => (HO_0.out.1 k_ e_))); clear HO_0 HB HK; have HO_0 := n0_; have HB := n1_; have HK := n2_; clear n0_ n1_ n2_ hg hw hp_))
 go_roundg k1
 case measure => have := HK1.out; omega
 case rel => exact ⟨(y265), (wrap64 (x1_1 + 1)), (wrap64 (x5_1 + 1)), vX, vX, H', ⟨by have := HK1.out; omega⟩, ⟨rX HO_0.out⟩, ⟨by repeat (first | (with_reducible first | exact HK.out | apply Kept.alloc | apply Kept.drewN | apply Kept.drew) | exact HK.out)⟩, ⟨bX HB.out⟩⟩
 }
 {
 rw [if_neg c4] at H
 exact absurd H (by simp)
 }
 }
 {
 rw [if_neg c3] at H
 have c3b0 : decide (x5_1 < (x0_1.length : Int)) = false := decide_eq_false c3
 clear c3
 simp only [Option.some.injEq, Prod.mk.injEq] at H
 obtain ⟨rfl, rfl⟩ := H
 obtain ⟨Ao9, co9, eo9⟩ := Kd.R_slice HO_0.out
 subst eo9
 go_wp2
 go_ret
 exact ⟨eX, by (with_reducible repeat (first|apply rA|apply rN|apply rD)); exact HO_0.out, bX HB.out, by repeat (first | (with_reducible first | exact HK.out | apply Kept.alloc | apply Kept.drewN | apply Kept.drew) | exact HK.out)⟩
 }

end Go.Proofs.Ytfomhkfgdggngaa.S
