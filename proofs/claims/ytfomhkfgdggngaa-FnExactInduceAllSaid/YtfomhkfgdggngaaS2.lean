-- PRINTED by print.py (a twelfth state) out of the translation. Not trusted: Lean checks it.
import Derived.Test.YtfomhkfgdggngaaS0
import Derived.Test.YtfomhkfgdggngaaS1
namespace Go.Proofs.Ytfomhkfgdggngaa.S
open Go.RowKit Go.Proofs.YtfomhkfgdggngaaW.PrintWords Go.Proofs.YtfomhkfgdggngaaW.PrintLast Go.Proofs.YtfomhkfgdggngaaW.PrintMore
attribute [local go_sem] max2_int min2_int max_two min_two max_three min_three max_four min_four   -- for this text's walks alone
set_option linter.unusedVariables false
set_option linter.unusedSimpArgs false

/-! ### spec_l16Once: function 29 -/
def spec_l16Once.j0 : Nat → Int → Int → Bool → List Int → List Int → List Int → List Int → List Int → List Int → Option (List Int × List Int × List Int × Bool)
 | 0, _, _, _, _, _, _, _, _, _ => none
 | k + 1, x4, x5, x56, x125000, x125001, x125002, x147000, x147001, x147002 => if x56 = true then (some (([] : List Int), ([] : List Int), ([] : List Int), false)) else (if 0 ≤ x4 then (if x4 < (x125000.length : Int) then (if 0 ≤ x5 then (if x5 < (x125000.length : Int) then (if (rd x125000 x4) > (rd x125000 x5) then (if x4 < (x147000.length : Int) then ((spec_l16After.f k x125002 x4).bind fun t154 => (some ((x147000.set (x4 : Int).toNat (wrap64 ((rd x125000 x4) - (rd x125000 x5)))), x147001, t154, true))) else (none)) else (if x5 < (x147000.length : Int) then ((spec_l16After.f k x125001 x5).bind fun t160 => (some ((x147000.set (x5 : Int).toNat (wrap64 ((rd x125000 x5) - (rd x125000 x4)))), t160, x147002, true))) else (none))) else (none)) else (none)) else (none)) else (none))
def spec_l16Once.f (k : Nat) (l0_0 : List Int) (l0_1 : List Int) (l0_2 : List Int) : Option (List Int × List Int × List Int × Bool) := if 0 ≤ (wrap64 ((l0_1.length : Int) - 1)) then (if (wrap64 ((l0_1.length : Int) - 1)) < (l0_1.length : Int) then (if 0 ≤ (wrap64 ((l0_2.length : Int) - 1)) then (if (wrap64 ((l0_2.length : Int) - 1)) < (l0_2.length : Int) then ((some (([] : List Int) : List Int)).bind fun y128 => (if y128.length + l0_0.length < 17592186044416 then ((some (y128 ++ l0_0 : List Int)).bind fun y131 => ((some (([] : List Int) : List Int)).bind fun y134 => (if y134.length + l0_1.length < 17592186044416 then ((some (y134 ++ l0_1 : List Int)).bind fun y137 => ((some (([] : List Int) : List Int)).bind fun y140 => (if y140.length + l0_2.length < 17592186044416 then ((some (y140 ++ l0_2 : List Int)).bind fun y143 => (if (rd l0_1 (wrap64 ((l0_1.length : Int) - 1))) = (rd l0_2 (wrap64 ((l0_2.length : Int) - 1))) then (spec_l16Once.j0 k (rd l0_1 (wrap64 ((l0_1.length : Int) - 1))) (rd l0_2 (wrap64 ((l0_2.length : Int) - 1))) true l0_0 l0_1 l0_2 y131 y137 y143) else (if 0 ≤ (rd l0_1 (wrap64 ((l0_1.length : Int) - 1))) then (if (rd l0_1 (wrap64 ((l0_1.length : Int) - 1))) < (l0_0.length : Int) then (if 0 ≤ (rd l0_2 (wrap64 ((l0_2.length : Int) - 1))) then (if (rd l0_2 (wrap64 ((l0_2.length : Int) - 1))) < (l0_0.length : Int) then (spec_l16Once.j0 k (rd l0_1 (wrap64 ((l0_1.length : Int) - 1))) (rd l0_2 (wrap64 ((l0_2.length : Int) - 1))) ((rd l0_0 (rd l0_1 (wrap64 ((l0_1.length : Int) - 1)))) == (rd l0_0 (rd l0_2 (wrap64 ((l0_2.length : Int) - 1))))) l0_0 l0_1 l0_2 y131 y137 y143) else (none)) else (none)) else (none)) else (none)))) else (none)))) else (none)))) else (none))) else (none)) else (none)) else (none)) else (none)
def spec_l16Once.T3 : Bool × List (List Nat × List Nat) := (true, [([], []), ([], []), ([1], [1]), ([0, 2], [0, 2]), ([], []), ([], []), ([5], [5]), ([4, 6, 3], [4, 6]), ([], []), ([], []), ([9], [9]), ([8, 10, 7], [8, 10]), ([3, 7, 11], [3, 7, 11]), ([], []), ([13, 12, 11, 0, 1, 2, 3, 4, 5, 6, 7, 8, 9, 10, 11, 12, 13], [12, 13])])
def spec_l16Once.B3 : List Nat := [0, 0, 2, 7, 0, 0, 32, 127, 0, 0, 512, 2047, 4095, 0, 16383]
theorem spec_l16Once.tab3 : rtab .any (opsOf Try.f29 3) = spec_l16Once.T3 := by kernel_rfl
theorem spec_l16Once.bits3 : waitsOk spec_l16Once.T3.2 spec_l16Once.B3 = true := by kernel_rfl
def spec_l16Once.T4 : Bool × List (List Nat × List Nat) := (true, [([], []), ([0], [0]), ([], []), ([], []), ([3], [3]), ([], []), ([4, 5], [4, 5]), ([6], [6]), ([], []), ([8], [8]), ([], []), ([9, 10], [9, 10]), ([11], [11]), ([7, 12], [7, 12]), ([1, 2, 0, 1, 2, 3, 4, 5, 6, 7, 8, 9, 10, 11, 12, 13], [1, 2]), ([14, 13, 0, 1, 2, 3, 4, 5, 6, 7, 8, 9, 10, 11, 12, 13], [13, 14])])
def spec_l16Once.B4 : List Nat := [0, 1, 0, 0, 8, 0, 56, 120, 0, 256, 0, 1792, 3840, 8184, 16383, 32767]
theorem spec_l16Once.tab4 : rtab .any (opsOf Try.f29 4) = spec_l16Once.T4 := by kernel_rfl
theorem spec_l16Once.bits4 : waitsOk spec_l16Once.T4.2 spec_l16Once.B4 = true := by kernel_rfl
def spec_l16Once.T6 : Bool × List (List Nat × List Nat) := (true, [([], []), ([], []), ([0, 1], [0, 1]), ([2], [2]), ([3], [3]), ([4, 3], [3, 4]), ([3], [3]), ([5, 6, 3], [3, 5, 6]), ([7, 3], [3, 7]), ([3], [3]), ([9, 3], [3, 9]), ([3], [3]), ([10, 11, 3], [3, 10, 11]), ([12, 3], [3, 12]), ([8, 13, 3], [3, 8, 13]), ([3, 14], [3, 14]), ([15, 3], [15])])
def spec_l16Once.B6 : List Nat := [0, 0, 3, 7, 15, 31, 15, 127, 255, 15, 527, 15, 3599, 7695, 16383, 32767, 65535]
theorem spec_l16Once.tab6 : rtab .any (opsOf Try.f29 6) = spec_l16Once.T6 := by kernel_rfl
theorem spec_l16Once.bits6 : waitsOk spec_l16Once.T6.2 spec_l16Once.B6 = true := by kernel_rfl
def spec_l16Once.T8 : Bool × List (List Nat × List Nat) := (true, [([], []), ([0], [0]), ([], []), ([1, 2], [1, 2]), ([3], [3]), ([], []), ([5], [5]), ([], []), ([6, 7], [6, 7]), ([8], [8]), ([4, 9], [4, 9]), ([10], [10])])
def spec_l16Once.B8 : List Nat := [0, 1, 0, 7, 15, 0, 32, 0, 224, 480, 1023, 2047]
theorem spec_l16Once.tab8 : rtab .any (opsOf Try.f29 8) = spec_l16Once.T8 := by kernel_rfl
theorem spec_l16Once.bits8 : waitsOk spec_l16Once.T8.2 spec_l16Once.B8 = true := by kernel_rfl
def spec_l16Once.T9 : Bool × List (List Nat × List Nat) := (true, [([], []), ([0], [0]), ([], []), ([], []), ([3], [3]), ([], []), ([4, 5], [4, 5]), ([6], [6]), ([], []), ([8], [8]), ([], []), ([9, 10], [9, 10]), ([11], [11]), ([7, 12], [7, 12]), ([1, 2, 0, 1, 2, 3, 4, 5, 6, 7, 8, 9, 10, 11, 12, 13], [1, 2]), ([14, 13, 0, 1, 2, 3, 4, 5, 6, 7, 8, 9, 10, 11, 12, 13], [13, 14])])
def spec_l16Once.B9 : List Nat := [0, 1, 0, 0, 8, 0, 56, 120, 0, 256, 0, 1792, 3840, 8184, 16383, 32767]
theorem spec_l16Once.tab9 : rtab .any (opsOf Try.f29 9) = spec_l16Once.T9 := by kernel_rfl
theorem spec_l16Once.bits9 : waitsOk spec_l16Once.T9.2 spec_l16Once.B9 = true := by kernel_rfl
set_option maxHeartbeats 8000000 in
set_option maxRecDepth 100000 in
theorem spec_l16Once.calls (k : Nat) (A0_0 : Option Addr) (c0_0 : Nat) (l0_0 : List Int) (A0_1 : Option Addr) (c0_1 : Nat) (l0_1 : List Int) (A0_2 : Option Addr) (c0_2 : Nat) (l0_2 : List Int) (r1 : List Int) (r2 : List Int) (r3 : List Int) (r4 : Bool) (w : World) (hr0_0 : Kd.C (Kd.int .i64) w A0_0 l0_0.length l0_0) (hc0_0 : l0_0.length ≤ c0_0) (hr0_1 : Kd.C (Kd.int .i64) w A0_1 l0_1.length l0_1) (hc0_1 : l0_1.length ≤ c0_1) (hr0_2 : Kd.C (Kd.int .i64) w A0_2 l0_2.length l0_2) (hc0_2 : l0_2.length ≤ c0_2) (h : spec_l16Once.f k l0_0 l0_1 l0_2 = some (r1, r2, r3, r4)) :
  Calls Try.prog 29 #[.agg #[.slice A0_0 l0_0.length c0_0, .slice A0_1 l0_1.length c0_1, .slice A0_2 l0_2.length c0_2]] w fun e w' => ∃ v0_ v1_ v2_ : Value, e = .returned (.tuple #[.agg #[v0_, v1_, v2_], .bool r4]) ∧ Kd.R (Kd.int .i64) 3 w' w.heap.size (fun k_ => some k_ ≠ (v1_ : Value).ownBlock ∧ some k_ ≠ (v2_ : Value).ownBlock) v0_ r1 ∧ Kd.R (Kd.int .i64) 3 w' w.heap.size (fun k_ => some k_ ≠ (v0_ : Value).ownBlock ∧ some k_ ≠ (v2_ : Value).ownBlock) v1_ r2 ∧ Kd.R (Kd.int .i64) 3 w' w.heap.size (fun k_ => some k_ ≠ (v0_ : Value).ownBlock ∧ some k_ ≠ (v1_ : Value).ownBlock) v2_ r3 ∧ Below w.heap.size w w' := by
 have hu26 := Try.underlying26
 have HR0_0 := Aside0.mk hr0_0
 have HC0_0 := Aside0.mk hc0_0
 clear hr0_0 hc0_0
 have HR0_1 := Aside0.mk hr0_1
 have HC0_1 := Aside0.mk hc0_1
 clear hr0_1 hc0_1
 have HR0_2 := Aside0.mk hr0_2
 have HC0_2 := Aside0.mk hc0_2
 clear hr0_2 hc0_2
 have HB := Aside0.mk (Below.refl w.heap.size w)
 have H : (if 0 ≤ (wrap64 ((l0_1.length : Int) - 1)) then (if (wrap64 ((l0_1.length : Int) - 1)) < (l0_1.length : Int) then (if 0 ≤ (wrap64 ((l0_2.length : Int) - 1)) then (if (wrap64 ((l0_2.length : Int) - 1)) < (l0_2.length : Int) then ((some (([] : List Int) : List Int)).bind fun y128 => (if y128.length + l0_0.length < 17592186044416 then ((some (y128 ++ l0_0 : List Int)).bind fun y131 => ((some (([] : List Int) : List Int)).bind fun y134 => (if y134.length + l0_1.length < 17592186044416 then ((some (y134 ++ l0_1 : List Int)).bind fun y137 => ((some (([] : List Int) : List Int)).bind fun y140 => (if y140.length + l0_2.length < 17592186044416 then ((some (y140 ++ l0_2 : List Int)).bind fun y143 => (if (rd l0_1 (wrap64 ((l0_1.length : Int) - 1))) = (rd l0_2 (wrap64 ((l0_2.length : Int) - 1))) then (spec_l16Once.j0 k (rd l0_1 (wrap64 ((l0_1.length : Int) - 1))) (rd l0_2 (wrap64 ((l0_2.length : Int) - 1))) true l0_0 l0_1 l0_2 y131 y137 y143) else (if 0 ≤ (rd l0_1 (wrap64 ((l0_1.length : Int) - 1))) then (if (rd l0_1 (wrap64 ((l0_1.length : Int) - 1))) < (l0_0.length : Int) then (if 0 ≤ (rd l0_2 (wrap64 ((l0_2.length : Int) - 1))) then (if (rd l0_2 (wrap64 ((l0_2.length : Int) - 1))) < (l0_0.length : Int) then (spec_l16Once.j0 k (rd l0_1 (wrap64 ((l0_1.length : Int) - 1))) (rd l0_2 (wrap64 ((l0_2.length : Int) - 1))) ((rd l0_0 (rd l0_1 (wrap64 ((l0_1.length : Int) - 1)))) == (rd l0_0 (rd l0_2 (wrap64 ((l0_2.length : Int) - 1))))) l0_0 l0_1 l0_2 y131 y137 y143) else (none)) else (none)) else (none)) else (none)))) else (none)))) else (none)))) else (none))) else (none)) else (none)) else (none)) else (none)) = some (r1, r2, r3, r4) := h
 clear h
 obtain ⟨ji2, hji2⟩ : ∃ j_ : Int, (wrap64 ((l0_1.length : Int) - 1)) = j_ := ⟨_, rfl⟩
 replace H : (if 0 ≤ (ji2) then (if (ji2) < (l0_1.length : Int) then (if 0 ≤ (wrap64 ((l0_2.length : Int) - 1)) then (if (wrap64 ((l0_2.length : Int) - 1)) < (l0_2.length : Int) then ((some (([] : List Int) : List Int)).bind fun y128 => (if y128.length + l0_0.length < 17592186044416 then ((some (y128 ++ l0_0 : List Int)).bind fun y131 => ((some (([] : List Int) : List Int)).bind fun y134 => (if y134.length + l0_1.length < 17592186044416 then ((some (y134 ++ l0_1 : List Int)).bind fun y137 => ((some (([] : List Int) : List Int)).bind fun y140 => (if y140.length + l0_2.length < 17592186044416 then ((some (y140 ++ l0_2 : List Int)).bind fun y143 => (if (rd l0_1 (ji2)) = (rd l0_2 (wrap64 ((l0_2.length : Int) - 1))) then (spec_l16Once.j0 k (rd l0_1 (ji2)) (rd l0_2 (wrap64 ((l0_2.length : Int) - 1))) true l0_0 l0_1 l0_2 y131 y137 y143) else (if 0 ≤ (rd l0_1 (ji2)) then (if (rd l0_1 (ji2)) < (l0_0.length : Int) then (if 0 ≤ (rd l0_2 (wrap64 ((l0_2.length : Int) - 1))) then (if (rd l0_2 (wrap64 ((l0_2.length : Int) - 1))) < (l0_0.length : Int) then (spec_l16Once.j0 k (rd l0_1 (ji2)) (rd l0_2 (wrap64 ((l0_2.length : Int) - 1))) ((rd l0_0 (rd l0_1 (ji2))) == (rd l0_0 (rd l0_2 (wrap64 ((l0_2.length : Int) - 1))))) l0_0 l0_1 l0_2 y131 y137 y143) else (none)) else (none)) else (none)) else (none)))) else (none)))) else (none)))) else (none))) else (none)) else (none)) else (none)) else (none)) = some (r1, r2, r3, r4) := by first | (rw [hji2] at H; exact H) | (simp only [hji2] at H ⊢; exact H)
 have hji2w : (IntKind.i64.wrap ((l0_1.length : Int) - 1)) = ji2 := (i64_w _).trans hji2
 by_cases c3 : 0 ≤ (ji2)
 {
 rw [if_pos c3] at H
 have c3b0 : decide (0 ≤ (ji2)) = true := decide_eq_true c3
 clear c3
 by_cases c4 : (ji2) < (l0_1.length : Int)
 {
 rw [if_pos c4] at H
 have c4b0 : decide ((ji2) < (l0_1.length : Int)) = true := decide_eq_true c4
 clear c4
 obtain ⟨ji5, hji5⟩ : ∃ j_ : Int, (wrap64 ((l0_2.length : Int) - 1)) = j_ := ⟨_, rfl⟩
 replace H : (if 0 ≤ (ji5) then (if (ji5) < (l0_2.length : Int) then ((some (([] : List Int) : List Int)).bind fun y128 => (if y128.length + l0_0.length < 17592186044416 then ((some (y128 ++ l0_0 : List Int)).bind fun y131 => ((some (([] : List Int) : List Int)).bind fun y134 => (if y134.length + l0_1.length < 17592186044416 then ((some (y134 ++ l0_1 : List Int)).bind fun y137 => ((some (([] : List Int) : List Int)).bind fun y140 => (if y140.length + l0_2.length < 17592186044416 then ((some (y140 ++ l0_2 : List Int)).bind fun y143 => (if (rd l0_1 (ji2)) = (rd l0_2 (ji5)) then (spec_l16Once.j0 k (rd l0_1 (ji2)) (rd l0_2 (ji5)) true l0_0 l0_1 l0_2 y131 y137 y143) else (if 0 ≤ (rd l0_1 (ji2)) then (if (rd l0_1 (ji2)) < (l0_0.length : Int) then (if 0 ≤ (rd l0_2 (ji5)) then (if (rd l0_2 (ji5)) < (l0_0.length : Int) then (spec_l16Once.j0 k (rd l0_1 (ji2)) (rd l0_2 (ji5)) ((rd l0_0 (rd l0_1 (ji2))) == (rd l0_0 (rd l0_2 (ji5)))) l0_0 l0_1 l0_2 y131 y137 y143) else (none)) else (none)) else (none)) else (none)))) else (none)))) else (none)))) else (none))) else (none)) else (none)) = some (r1, r2, r3, r4) := by first | (rw [hji5] at H; exact H) | (simp only [hji5] at H ⊢; exact H)
 have hji5w : (IntKind.i64.wrap ((l0_2.length : Int) - 1)) = ji5 := (i64_w _).trans hji5
 by_cases c6 : 0 ≤ (ji5)
 {
 rw [if_pos c6] at H
 have c6b0 : decide (0 ≤ (ji5)) = true := decide_eq_true c6
 clear c6
 by_cases c7 : (ji5) < (l0_2.length : Int)
 {
 rw [if_pos c7] at H
 have c7b0 : decide ((ji5) < (l0_2.length : Int)) = true := decide_eq_true c7
 clear c7
 obtain ⟨y128, hy128⟩ : ∃ y_ : List Int, y_ = (([] : List Int)) := ⟨_, rfl⟩
 replace H : (if y128.length + l0_0.length < 17592186044416 then ((some (y128 ++ l0_0 : List Int)).bind fun y131 => ((some (([] : List Int) : List Int)).bind fun y134 => (if y134.length + l0_1.length < 17592186044416 then ((some (y134 ++ l0_1 : List Int)).bind fun y137 => ((some (([] : List Int) : List Int)).bind fun y140 => (if y140.length + l0_2.length < 17592186044416 then ((some (y140 ++ l0_2 : List Int)).bind fun y143 => (if (rd l0_1 (ji2)) = (rd l0_2 (ji5)) then (spec_l16Once.j0 k (rd l0_1 (ji2)) (rd l0_2 (ji5)) true l0_0 l0_1 l0_2 y131 y137 y143) else (if 0 ≤ (rd l0_1 (ji2)) then (if (rd l0_1 (ji2)) < (l0_0.length : Int) then (if 0 ≤ (rd l0_2 (ji5)) then (if (rd l0_2 (ji5)) < (l0_0.length : Int) then (spec_l16Once.j0 k (rd l0_1 (ji2)) (rd l0_2 (ji5)) ((rd l0_0 (rd l0_1 (ji2))) == (rd l0_0 (rd l0_2 (ji5)))) l0_0 l0_1 l0_2 y131 y137 y143) else (none)) else (none)) else (none)) else (none)))) else (none)))) else (none)))) else (none)) = some (r1, r2, r3, r4) := by first | (rw [hy128]; with_reducible exact H) | (have H2_ := (Option.bind_some _ _).symm.trans H; rw [hy128]; with_reducible exact H2_) | (have H2_ := (Option.bind_some _ _).symm.trans H; with_reducible exact H2_) | with_reducible exact H | (rw [hy128]; exact H) | exact H
 have Ny128 := Aside0.mk hy128
 clear hy128
 by_cases c8 : y128.length + l0_0.length < 17592186044416
 {
 rw [if_pos c8] at H
 have LMc8 := Aside0.mk c8
 clear c8
 obtain ⟨y131, hy131⟩ : ∃ y_ : List Int, y_ = (y128 ++ l0_0) := ⟨_, rfl⟩
 replace H : ((some (([] : List Int) : List Int)).bind fun y134 => (if y134.length + l0_1.length < 17592186044416 then ((some (y134 ++ l0_1 : List Int)).bind fun y137 => ((some (([] : List Int) : List Int)).bind fun y140 => (if y140.length + l0_2.length < 17592186044416 then ((some (y140 ++ l0_2 : List Int)).bind fun y143 => (if (rd l0_1 (ji2)) = (rd l0_2 (ji5)) then (spec_l16Once.j0 k (rd l0_1 (ji2)) (rd l0_2 (ji5)) true l0_0 l0_1 l0_2 y131 y137 y143) else (if 0 ≤ (rd l0_1 (ji2)) then (if (rd l0_1 (ji2)) < (l0_0.length : Int) then (if 0 ≤ (rd l0_2 (ji5)) then (if (rd l0_2 (ji5)) < (l0_0.length : Int) then (spec_l16Once.j0 k (rd l0_1 (ji2)) (rd l0_2 (ji5)) ((rd l0_0 (rd l0_1 (ji2))) == (rd l0_0 (rd l0_2 (ji5)))) l0_0 l0_1 l0_2 y131 y137 y143) else (none)) else (none)) else (none)) else (none)))) else (none)))) else (none))) = some (r1, r2, r3, r4) := by first | (rw [hy131]; with_reducible exact H) | (have H2_ := (Option.bind_some _ _).symm.trans H; rw [hy131]; with_reducible exact H2_) | (have H2_ := (Option.bind_some _ _).symm.trans H; with_reducible exact H2_) | with_reducible exact H | (rw [hy131]; exact H) | exact H
 have Ny131 := Aside0.mk hy131
 clear hy131
 obtain ⟨y134, hy134⟩ : ∃ y_ : List Int, y_ = (([] : List Int)) := ⟨_, rfl⟩
 replace H : (if y134.length + l0_1.length < 17592186044416 then ((some (y134 ++ l0_1 : List Int)).bind fun y137 => ((some (([] : List Int) : List Int)).bind fun y140 => (if y140.length + l0_2.length < 17592186044416 then ((some (y140 ++ l0_2 : List Int)).bind fun y143 => (if (rd l0_1 (ji2)) = (rd l0_2 (ji5)) then (spec_l16Once.j0 k (rd l0_1 (ji2)) (rd l0_2 (ji5)) true l0_0 l0_1 l0_2 y131 y137 y143) else (if 0 ≤ (rd l0_1 (ji2)) then (if (rd l0_1 (ji2)) < (l0_0.length : Int) then (if 0 ≤ (rd l0_2 (ji5)) then (if (rd l0_2 (ji5)) < (l0_0.length : Int) then (spec_l16Once.j0 k (rd l0_1 (ji2)) (rd l0_2 (ji5)) ((rd l0_0 (rd l0_1 (ji2))) == (rd l0_0 (rd l0_2 (ji5)))) l0_0 l0_1 l0_2 y131 y137 y143) else (none)) else (none)) else (none)) else (none)))) else (none)))) else (none)) = some (r1, r2, r3, r4) := by first | (rw [hy134]; with_reducible exact H) | (have H2_ := (Option.bind_some _ _).symm.trans H; rw [hy134]; with_reducible exact H2_) | (have H2_ := (Option.bind_some _ _).symm.trans H; with_reducible exact H2_) | with_reducible exact H | (rw [hy134]; exact H) | exact H
 have Ny134 := Aside0.mk hy134
 clear hy134
 by_cases c9 : y134.length + l0_1.length < 17592186044416
 {
 rw [if_pos c9] at H
 have LMc9 := Aside0.mk c9
 clear c9
 obtain ⟨y137, hy137⟩ : ∃ y_ : List Int, y_ = (y134 ++ l0_1) := ⟨_, rfl⟩
 replace H : ((some (([] : List Int) : List Int)).bind fun y140 => (if y140.length + l0_2.length < 17592186044416 then ((some (y140 ++ l0_2 : List Int)).bind fun y143 => (if (rd l0_1 (ji2)) = (rd l0_2 (ji5)) then (spec_l16Once.j0 k (rd l0_1 (ji2)) (rd l0_2 (ji5)) true l0_0 l0_1 l0_2 y131 y137 y143) else (if 0 ≤ (rd l0_1 (ji2)) then (if (rd l0_1 (ji2)) < (l0_0.length : Int) then (if 0 ≤ (rd l0_2 (ji5)) then (if (rd l0_2 (ji5)) < (l0_0.length : Int) then (spec_l16Once.j0 k (rd l0_1 (ji2)) (rd l0_2 (ji5)) ((rd l0_0 (rd l0_1 (ji2))) == (rd l0_0 (rd l0_2 (ji5)))) l0_0 l0_1 l0_2 y131 y137 y143) else (none)) else (none)) else (none)) else (none)))) else (none))) = some (r1, r2, r3, r4) := by first | (rw [hy137]; with_reducible exact H) | (have H2_ := (Option.bind_some _ _).symm.trans H; rw [hy137]; with_reducible exact H2_) | (have H2_ := (Option.bind_some _ _).symm.trans H; with_reducible exact H2_) | with_reducible exact H | (rw [hy137]; exact H) | exact H
 have Ny137 := Aside0.mk hy137
 clear hy137
 obtain ⟨y140, hy140⟩ : ∃ y_ : List Int, y_ = (([] : List Int)) := ⟨_, rfl⟩
 replace H : (if y140.length + l0_2.length < 17592186044416 then ((some (y140 ++ l0_2 : List Int)).bind fun y143 => (if (rd l0_1 (ji2)) = (rd l0_2 (ji5)) then (spec_l16Once.j0 k (rd l0_1 (ji2)) (rd l0_2 (ji5)) true l0_0 l0_1 l0_2 y131 y137 y143) else (if 0 ≤ (rd l0_1 (ji2)) then (if (rd l0_1 (ji2)) < (l0_0.length : Int) then (if 0 ≤ (rd l0_2 (ji5)) then (if (rd l0_2 (ji5)) < (l0_0.length : Int) then (spec_l16Once.j0 k (rd l0_1 (ji2)) (rd l0_2 (ji5)) ((rd l0_0 (rd l0_1 (ji2))) == (rd l0_0 (rd l0_2 (ji5)))) l0_0 l0_1 l0_2 y131 y137 y143) else (none)) else (none)) else (none)) else (none)))) else (none)) = some (r1, r2, r3, r4) := by first | (rw [hy140]; with_reducible exact H) | (have H2_ := (Option.bind_some _ _).symm.trans H; rw [hy140]; with_reducible exact H2_) | (have H2_ := (Option.bind_some _ _).symm.trans H; with_reducible exact H2_) | with_reducible exact H | (rw [hy140]; exact H) | exact H
 have Ny140 := Aside0.mk hy140
 clear hy140
 by_cases c10 : y140.length + l0_2.length < 17592186044416
 {
 rw [if_pos c10] at H
 have LMc10 := Aside0.mk c10
 clear c10
 obtain ⟨y143, hy143⟩ : ∃ y_ : List Int, y_ = (y140 ++ l0_2) := ⟨_, rfl⟩
 replace H : (if (rd l0_1 (ji2)) = (rd l0_2 (ji5)) then (spec_l16Once.j0 k (rd l0_1 (ji2)) (rd l0_2 (ji5)) true l0_0 l0_1 l0_2 y131 y137 y143) else (if 0 ≤ (rd l0_1 (ji2)) then (if (rd l0_1 (ji2)) < (l0_0.length : Int) then (if 0 ≤ (rd l0_2 (ji5)) then (if (rd l0_2 (ji5)) < (l0_0.length : Int) then (spec_l16Once.j0 k (rd l0_1 (ji2)) (rd l0_2 (ji5)) ((rd l0_0 (rd l0_1 (ji2))) == (rd l0_0 (rd l0_2 (ji5)))) l0_0 l0_1 l0_2 y131 y137 y143) else (none)) else (none)) else (none)) else (none))) = some (r1, r2, r3, r4) := by first | (rw [hy143]; with_reducible exact H) | (have H2_ := (Option.bind_some _ _).symm.trans H; rw [hy143]; with_reducible exact H2_) | (have H2_ := (Option.bind_some _ _).symm.trans H; with_reducible exact H2_) | with_reducible exact H | (rw [hy143]; exact H) | exact H
 have Ny143 := Aside0.mk hy143
 clear hy143
 have HC11 := Aside0.mk H
 clear H
 go_enter Try.func29, Try.ntmps29
 try go_wp2_with (first | ((with_reducible refine gate_dst (N := 1) rfl ?_); refine box_event ?hg (N := 1) ?hd (cs := #[.slice A0_0 l0_0.length c0_0, .slice A0_1 l0_1.length c0_1, .slice A0_2 l0_2.length c0_2]) (t := 26) ?hr ?_; (case hd => rfl); (case hg => rfl); (case hr => first | (go_simp; done) | (go_simp; rfl)); intro gb124 hg w12 hbox hb; have n0_ := Aside0.mk (below_step (bX HB.out) hb); have n1_ := Aside0.mk (hbox); have n2_ := Aside0.mk ((szX (below_size (bX HB.out)) hg : w.heap.size ≤ gb124)); have n3_ := Aside0.mk ((szX (below_size (bX HB.out)) hg : w.heap.size ≤ gb124)); clear HB; have HB := n0_; have BK124 := n1_; have GW124 := n2_; have GE124 := n3_; clear n0_ n1_ n2_ n3_ hb hbox hg) | ((with_reducible refine gate_dst (N := 2) rfl ?_); refine box_event ?hg (N := 2) ?hd (cs := #[.slice none 0 0, .slice none 0 0, .slice none 0 0]) (t := 26) ?hr ?_; (case hd => rfl); (case hg => rfl); (case hr => first | (go_simp; done) | (go_simp; rfl)); intro gb125 hg w13 hbox hb; have n0_ := Aside0.mk (bbX BK124.out hb); have n1_ := Aside0.mk (below_step (bX1 HB.out GE124.out) hb); have n2_ := Aside0.mk (hbox); have n3_ := Aside0.mk ((szX (below_size (bX1 HB.out GE124.out)) hg : w.heap.size ≤ gb125)); have n4_ := Aside0.mk ((szX (below_size (bX1 HB.out GE124.out)) hg : w.heap.size ≤ gb125)); have n5_ := Aside0.mk (neX BK124.out hg); have n6_ := Aside0.mk (nfX BK124.out hg); clear BK124 HB; have BK124 := n0_; have HB := n1_; have BK125 := n2_; have GW125 := n3_; have GE125 := n4_; have NB124_125 := n5_; have NB125_124 := n6_; clear n0_ n1_ n2_ n3_ n4_ n5_ n6_ hb hbox hg; have hnb14 := NB124_125.out; have hnc14 := NB125_124.out; have hcz15_0 := cz30 BK124.out; have hcz15_1 := cz31 BK124.out; have hcz15_2 := cz32 BK124.out; have hfz15_0 := blk_frozen BK124.out 0; have hfz15_1 := blk_frozen BK124.out 1; have hfz15_2 := blk_frozen BK124.out 2; have p126 : 0 ≤ ((ji2) : Int) := dX; have q126 : (ji2) < (l0_1.length : Int) := dX; obtain ⟨ad126, e126, hx126_0⟩ := Kd.at_int HR0_1.out (ji2) p126 q126; cases e126; replace hx126_0 := (HB.out.cell (World.block_lt_of_cell? w _ hx126_0)).trans hx126_0; replace p126 := eq_true p126; replace q126 := eq_true q126; have p127 : 0 ≤ ((ji5) : Int) := dX; have q127 : (ji5) < (l0_2.length : Int) := dX; obtain ⟨ad127, e127, hx127_0⟩ := Kd.at_int HR0_2.out (ji5) p127 q127; cases e127; replace hx127_0 := (HB.out.cell (World.block_lt_of_cell? w _ hx127_0)).trans hx127_0; replace p127 := eq_true p127; replace q127 := eq_true q127))
 have n0_ := Aside0.mk (blk_drew BK124.out)
 have n1_ := Aside0.mk (blk_drew BK125.out)
 have n2_ := Aside0.mk (below_drew1 HB.out)
 clear BK124 BK125 HB
 have BK124 := n0_
 have BK125 := n1_
 have HB := n2_
 clear n0_ n1_ n2_
 refine start_ (n := 15) (S := fun w' => w'.cell? ⟨gb124, 0, none⟩ = some (.slice A0_0 l0_0.length c0_0) ∧ w'.cell? ⟨gb124, 1, none⟩ = some (.slice (some ad126) l0_1.length c0_1) ∧ w'.cell? ⟨gb124, 2, none⟩ = some (.slice (some ad127) l0_2.length c0_2)) (ds := []) #[ff,ff,ff,ff,ff,ff,ff,ff,ff,ff,ff,ff,ff,ff,ff] (by kernel_rfl) rfl rfl ⟨cz30 BK124.out, cz31 BK124.out, cz32 BK124.out⟩ (fun hHeld => ?_); refine with_tabW spec_l16Once.tab3 spec_l16Once.bits3 (fun HT_ HW_ => ?_)
 generalize w13.drew = w16 at BK124 BK125 HB hHeld ⊢
 refine pX 1 24 (fl 15 2) rfl rfl HT_.out ?_
 refine pX 5 28 (fl 15 34) rfl rfl HT_.out ?_
 refine pX 9 32 (fl 15 546) rfl rfl HT_.out ?_
 refine tX3 2 25 (fl 15 550) rfl rfl HT_.out HW_.out hHeld ?_
 refine tX3 6 29 (fl 15 614) rfl rfl HT_.out HW_.out hHeld ?_
 refine tX3 10 33 (fl 15 1638) rfl rfl HT_.out HW_.out hHeld ?_
 refine join_ (σ := Value × Value × Value × Value × Value × Value × Nat) 1 #[tt,tt,tt,tt,tt,tt,tt,tt,tt,tt,tt,tt,tt,tt,ff] (fun s_ => [(23, s_.1), (26, s_.2.1), (27, s_.2.2.1), (30, s_.2.2.2.1), (31, s_.2.2.2.2.1), (34, s_.2.2.2.2.2.1), (6, .pointer (some ⟨s_.2.2.2.2.2.2, 0, none⟩)), (35, .agg #[s_.2.1, s_.2.2.2.1, s_.2.2.2.2.2.1])]) (fun s_ w' => (w'.cell? ⟨gb124, 0, none⟩ = some (.slice A0_0 l0_0.length c0_0) ∧ w'.cell? ⟨gb124, 1, none⟩ = some (.slice (some ad126) l0_1.length c0_1) ∧ w'.cell? ⟨gb124, 2, none⟩ = some (.slice (some ad127) l0_2.length c0_2)) ∧ (Kd.R (Kd.int .i64) 3 w' w.heap.size (fun k_ => some k_ ≠ (s_.2.2.2.1 : Value).ownBlock ∧ some k_ ≠ (s_.2.2.2.2.2.1 : Value).ownBlock) s_.2.1 y131) ∧ (Kd.R (Kd.int .i64) 3 w' w.heap.size (fun k_ => some k_ ≠ (s_.2.1 : Value).ownBlock ∧ some k_ ≠ (s_.2.2.2.2.2.1 : Value).ownBlock) s_.2.2.2.1 y137) ∧ (Kd.R (Kd.int .i64) 3 w' w.heap.size (fun k_ => some k_ ≠ (s_.2.1 : Value).ownBlock ∧ some k_ ≠ (s_.2.2.2.1 : Value).ownBlock) s_.2.2.2.2.2.1 y143) ∧ (w'.heap[gb124]? = some (.cells #[.slice A0_0 l0_0.length c0_0, .slice (some ad126) l0_1.length c0_1, .slice (some ad127) l0_2.length c0_2] 26 (0, 0))) ∧ (w'.heap[gb125]? = some (.cells #[.slice none 0 0, .slice none 0 0, .slice none 0 0] 26 (0, 0))) ∧ (w'.heap[s_.2.2.2.2.2.2]? = some (.cells #[.slice none 0 0, .slice none 0 0, .slice none 0 0] 26 (0, 0))) ∧ (w.heap.size ≤ s_.2.2.2.2.2.2) ∧ (w.heap.size ≤ s_.2.2.2.2.2.2) ∧ (gb124 ≠ s_.2.2.2.2.2.2) ∧ (s_.2.2.2.2.2.2 ≠ gb124) ∧ (gb125 ≠ s_.2.2.2.2.2.2) ∧ (s_.2.2.2.2.2.2 ≠ gb125) ∧ (Below w.heap.size w w')) ?_ ?_
 rotate_left
 {
 intro hJ0_3_4_7_8_11_13
 refine join_ (σ := Value × Value × Value × Value × Value × Value) 2 #[tt,tt,tt,tt,tt,tt,tt,tt,tt,tt,tt,tt,tt,ff,ff] (fun s_ => [(23, s_.1), (26, s_.2.1), (27, s_.2.2.1), (30, s_.2.2.2.1), (31, s_.2.2.2.2.1), (34, s_.2.2.2.2.2), (35, .agg #[s_.2.1, s_.2.2.2.1, s_.2.2.2.2.2])]) (fun s_ w' => (w'.cell? ⟨gb124, 0, none⟩ = some (.slice A0_0 l0_0.length c0_0) ∧ w'.cell? ⟨gb124, 1, none⟩ = some (.slice (some ad126) l0_1.length c0_1) ∧ w'.cell? ⟨gb124, 2, none⟩ = some (.slice (some ad127) l0_2.length c0_2)) ∧ (Kd.R (Kd.int .i64) 3 w' w.heap.size (fun k_ => some k_ ≠ (s_.2.2.2.1 : Value).ownBlock ∧ some k_ ≠ (s_.2.2.2.2.2 : Value).ownBlock) s_.2.1 y131) ∧ (Kd.R (Kd.int .i64) 3 w' w.heap.size (fun k_ => some k_ ≠ (s_.2.1 : Value).ownBlock ∧ some k_ ≠ (s_.2.2.2.2.2 : Value).ownBlock) s_.2.2.2.1 y137) ∧ (Kd.R (Kd.int .i64) 3 w' w.heap.size (fun k_ => some k_ ≠ (s_.2.1 : Value).ownBlock ∧ some k_ ≠ (s_.2.2.2.1 : Value).ownBlock) s_.2.2.2.2.2 y143) ∧ (w'.heap[gb124]? = some (.cells #[.slice A0_0 l0_0.length c0_0, .slice (some ad126) l0_1.length c0_1, .slice (some ad127) l0_2.length c0_2] 26 (0, 0))) ∧ (w'.heap[gb125]? = some (.cells #[.slice none 0 0, .slice none 0 0, .slice none 0 0] 26 (0, 0))) ∧ (Below w.heap.size w w')) ?_ ?_
 rotate_left
 {
 intro hJ0_3_4_7_8_11
 refine join_ (σ := Value × Value × Value × Value × Value × Nat) 3 #[tt,tt,tt,tt,tt,tt,tt,tt,tt,tt,tt,ff,ff,tt,ff] (fun s_ => [(23, s_.1), (26, s_.2.1), (27, s_.2.2.1), (30, s_.2.2.2.1), (31, s_.2.2.2.2.1), (6, .pointer (some ⟨s_.2.2.2.2.2, 0, none⟩))]) (fun s_ w' => (w'.cell? ⟨gb124, 0, none⟩ = some (.slice A0_0 l0_0.length c0_0) ∧ w'.cell? ⟨gb124, 1, none⟩ = some (.slice (some ad126) l0_1.length c0_1) ∧ w'.cell? ⟨gb124, 2, none⟩ = some (.slice (some ad127) l0_2.length c0_2)) ∧ (Kd.R (Kd.int .i64) 3 w' w.heap.size (fun k_ => some k_ ≠ (s_.2.2.2.1 : Value).ownBlock ∧ some k_ ≠ (s_.2.2.2.2.1 : Value).ownBlock) s_.2.1 y131) ∧ (Kd.R (Kd.int .i64) 3 w' w.heap.size (fun k_ => some k_ ≠ (s_.2.1 : Value).ownBlock ∧ some k_ ≠ (s_.2.2.2.2.1 : Value).ownBlock) s_.2.2.2.1 y137) ∧ (Kd.R (Kd.int .i64) 3 w' w.heap.size (fun k_ => some k_ ≠ (s_.2.1 : Value).ownBlock ∧ some k_ ≠ (s_.2.2.2.1 : Value).ownBlock) s_.2.2.2.2.1 y140) ∧ (w'.heap[gb124]? = some (.cells #[.slice A0_0 l0_0.length c0_0, .slice (some ad126) l0_1.length c0_1, .slice (some ad127) l0_2.length c0_2] 26 (0, 0))) ∧ (w'.heap[gb125]? = some (.cells #[.slice none 0 0, .slice none 0 0, .slice none 0 0] 26 (0, 0))) ∧ (w'.heap[s_.2.2.2.2.2]? = some (.cells #[.slice none 0 0, .slice none 0 0, .slice none 0 0] 26 (0, 0))) ∧ (w.heap.size ≤ s_.2.2.2.2.2) ∧ (w.heap.size ≤ s_.2.2.2.2.2) ∧ (gb124 ≠ s_.2.2.2.2.2) ∧ (s_.2.2.2.2.2 ≠ gb124) ∧ (gb125 ≠ s_.2.2.2.2.2) ∧ (s_.2.2.2.2.2 ≠ gb125) ∧ (Below w.heap.size w w')) ?_ ?_
 rotate_left
 {
 intro hJ0_3_4_7_8_13
 refine join_ (σ := Value × Value × Value × Value × Value) 4 #[tt,tt,tt,tt,tt,tt,tt,tt,tt,tt,tt,ff,ff,ff,ff] (fun s_ => [(23, s_.1), (26, s_.2.1), (27, s_.2.2.1), (30, s_.2.2.2.1), (31, s_.2.2.2.2)]) (fun s_ w' => (w'.cell? ⟨gb124, 0, none⟩ = some (.slice A0_0 l0_0.length c0_0) ∧ w'.cell? ⟨gb124, 1, none⟩ = some (.slice (some ad126) l0_1.length c0_1) ∧ w'.cell? ⟨gb124, 2, none⟩ = some (.slice (some ad127) l0_2.length c0_2)) ∧ (Kd.R (Kd.int .i64) 3 w' w.heap.size (fun k_ => some k_ ≠ (s_.2.2.2.1 : Value).ownBlock ∧ some k_ ≠ (s_.2.2.2.2 : Value).ownBlock) s_.2.1 y131) ∧ (Kd.R (Kd.int .i64) 3 w' w.heap.size (fun k_ => some k_ ≠ (s_.2.1 : Value).ownBlock ∧ some k_ ≠ (s_.2.2.2.2 : Value).ownBlock) s_.2.2.2.1 y137) ∧ (Kd.R (Kd.int .i64) 3 w' w.heap.size (fun k_ => some k_ ≠ (s_.2.1 : Value).ownBlock ∧ some k_ ≠ (s_.2.2.2.1 : Value).ownBlock) s_.2.2.2.2 y140) ∧ (w'.heap[gb124]? = some (.cells #[.slice A0_0 l0_0.length c0_0, .slice (some ad126) l0_1.length c0_1, .slice (some ad127) l0_2.length c0_2] 26 (0, 0))) ∧ (w'.heap[gb125]? = some (.cells #[.slice none 0 0, .slice none 0 0, .slice none 0 0] 26 (0, 0))) ∧ (Below w.heap.size w w')) ?_ ?_
 rotate_left
 {
 intro hJ0_3_4_7_8
 refine join_ (σ := Value × Value × Value × Value × Nat) 4 #[tt,tt,tt,tt,tt,tt,tt,tt,ff,tt,tt,ff,ff,tt,ff] (fun s_ => [(23, s_.1), (26, s_.2.1), (27, s_.2.2.1), (30, s_.2.2.2.1), (6, .pointer (some ⟨s_.2.2.2.2, 0, none⟩))]) (fun s_ w' => (w'.cell? ⟨gb124, 0, none⟩ = some (.slice A0_0 l0_0.length c0_0) ∧ w'.cell? ⟨gb124, 1, none⟩ = some (.slice (some ad126) l0_1.length c0_1) ∧ w'.cell? ⟨gb124, 2, none⟩ = some (.slice (some ad127) l0_2.length c0_2)) ∧ (Kd.R (Kd.int .i64) 3 w' w.heap.size (fun k_ => some k_ ≠ (s_.2.2.2.1 : Value).ownBlock) s_.2.1 y131) ∧ (Kd.R (Kd.int .i64) 3 w' w.heap.size (fun k_ => some k_ ≠ (s_.2.1 : Value).ownBlock) s_.2.2.2.1 y137) ∧ (w'.heap[gb124]? = some (.cells #[.slice A0_0 l0_0.length c0_0, .slice (some ad126) l0_1.length c0_1, .slice (some ad127) l0_2.length c0_2] 26 (0, 0))) ∧ (w'.heap[gb125]? = some (.cells #[.slice none 0 0, .slice none 0 0, .slice none 0 0] 26 (0, 0))) ∧ (w'.heap[s_.2.2.2.2]? = some (.cells #[.slice none 0 0, .slice none 0 0, .slice none 0 0] 26 (0, 0))) ∧ (w.heap.size ≤ s_.2.2.2.2) ∧ (w.heap.size ≤ s_.2.2.2.2) ∧ (gb124 ≠ s_.2.2.2.2) ∧ (s_.2.2.2.2 ≠ gb124) ∧ (gb125 ≠ s_.2.2.2.2) ∧ (s_.2.2.2.2 ≠ gb125) ∧ (Below w.heap.size w w')) ?_ ?_
 rotate_left
 {
 intro hJ0_3_4_7_13
 refine join_ (σ := Value × Value × Value × Value × Nat) 4 #[tt,tt,tt,tt,tt,tt,tt,ff,tt,tt,tt,ff,ff,tt,ff] (fun s_ => [(23, s_.1), (26, s_.2.1), (27, s_.2.2.1), (31, s_.2.2.2.1), (6, .pointer (some ⟨s_.2.2.2.2, 0, none⟩))]) (fun s_ w' => (w'.cell? ⟨gb124, 0, none⟩ = some (.slice A0_0 l0_0.length c0_0) ∧ w'.cell? ⟨gb124, 1, none⟩ = some (.slice (some ad126) l0_1.length c0_1) ∧ w'.cell? ⟨gb124, 2, none⟩ = some (.slice (some ad127) l0_2.length c0_2)) ∧ (Kd.R (Kd.int .i64) 3 w' w.heap.size (fun k_ => some k_ ≠ (s_.2.2.1 : Value).ownBlock ∧ some k_ ≠ (s_.2.2.2.1 : Value).ownBlock) s_.2.1 y131) ∧ (Kd.R (Kd.int .i64) 3 w' w.heap.size (fun k_ => some k_ ≠ (s_.2.1 : Value).ownBlock ∧ some k_ ≠ (s_.2.2.2.1 : Value).ownBlock) s_.2.2.1 y134) ∧ (Kd.R (Kd.int .i64) 3 w' w.heap.size (fun k_ => some k_ ≠ (s_.2.1 : Value).ownBlock ∧ some k_ ≠ (s_.2.2.1 : Value).ownBlock) s_.2.2.2.1 y140) ∧ (w'.heap[gb124]? = some (.cells #[.slice A0_0 l0_0.length c0_0, .slice (some ad126) l0_1.length c0_1, .slice (some ad127) l0_2.length c0_2] 26 (0, 0))) ∧ (w'.heap[gb125]? = some (.cells #[.slice none 0 0, .slice none 0 0, .slice none 0 0] 26 (0, 0))) ∧ (w'.heap[s_.2.2.2.2]? = some (.cells #[.slice none 0 0, .slice none 0 0, .slice none 0 0] 26 (0, 0))) ∧ (w.heap.size ≤ s_.2.2.2.2) ∧ (w.heap.size ≤ s_.2.2.2.2) ∧ (gb124 ≠ s_.2.2.2.2) ∧ (s_.2.2.2.2 ≠ gb124) ∧ (gb125 ≠ s_.2.2.2.2) ∧ (s_.2.2.2.2 ≠ gb125) ∧ (Below w.heap.size w w')) ?_ ?_
 rotate_left
 {
 intro hJ0_3_4_8_13
 refine join_ (σ := Value × Value × Value × Value) 5 #[tt,tt,tt,tt,tt,tt,tt,tt,ff,tt,tt,ff,ff,ff,ff] (fun s_ => [(23, s_.1), (26, s_.2.1), (27, s_.2.2.1), (30, s_.2.2.2)]) (fun s_ w' => (w'.cell? ⟨gb124, 0, none⟩ = some (.slice A0_0 l0_0.length c0_0) ∧ w'.cell? ⟨gb124, 1, none⟩ = some (.slice (some ad126) l0_1.length c0_1) ∧ w'.cell? ⟨gb124, 2, none⟩ = some (.slice (some ad127) l0_2.length c0_2)) ∧ (Kd.R (Kd.int .i64) 3 w' w.heap.size (fun k_ => some k_ ≠ (s_.2.2.2 : Value).ownBlock) s_.2.1 y131) ∧ (Kd.R (Kd.int .i64) 3 w' w.heap.size (fun k_ => some k_ ≠ (s_.2.1 : Value).ownBlock) s_.2.2.2 y137) ∧ (w'.heap[gb124]? = some (.cells #[.slice A0_0 l0_0.length c0_0, .slice (some ad126) l0_1.length c0_1, .slice (some ad127) l0_2.length c0_2] 26 (0, 0))) ∧ (w'.heap[gb125]? = some (.cells #[.slice none 0 0, .slice none 0 0, .slice none 0 0] 26 (0, 0))) ∧ (Below w.heap.size w w')) ?_ ?_
 rotate_left
 {
 intro hJ0_3_4_7
 refine join_ (σ := Value × Value × Value × Value) 5 #[tt,tt,tt,tt,tt,tt,tt,ff,tt,tt,tt,ff,ff,ff,ff] (fun s_ => [(23, s_.1), (26, s_.2.1), (27, s_.2.2.1), (31, s_.2.2.2)]) (fun s_ w' => (w'.cell? ⟨gb124, 0, none⟩ = some (.slice A0_0 l0_0.length c0_0) ∧ w'.cell? ⟨gb124, 1, none⟩ = some (.slice (some ad126) l0_1.length c0_1) ∧ w'.cell? ⟨gb124, 2, none⟩ = some (.slice (some ad127) l0_2.length c0_2)) ∧ (Kd.R (Kd.int .i64) 3 w' w.heap.size (fun k_ => some k_ ≠ (s_.2.2.1 : Value).ownBlock ∧ some k_ ≠ (s_.2.2.2 : Value).ownBlock) s_.2.1 y131) ∧ (Kd.R (Kd.int .i64) 3 w' w.heap.size (fun k_ => some k_ ≠ (s_.2.1 : Value).ownBlock ∧ some k_ ≠ (s_.2.2.2 : Value).ownBlock) s_.2.2.1 y134) ∧ (Kd.R (Kd.int .i64) 3 w' w.heap.size (fun k_ => some k_ ≠ (s_.2.1 : Value).ownBlock ∧ some k_ ≠ (s_.2.2.1 : Value).ownBlock) s_.2.2.2 y140) ∧ (w'.heap[gb124]? = some (.cells #[.slice A0_0 l0_0.length c0_0, .slice (some ad126) l0_1.length c0_1, .slice (some ad127) l0_2.length c0_2] 26 (0, 0))) ∧ (w'.heap[gb125]? = some (.cells #[.slice none 0 0, .slice none 0 0, .slice none 0 0] 26 (0, 0))) ∧ (Below w.heap.size w w')) ?_ ?_
 rotate_left
 {
 intro hJ0_3_4_8
 refine join_ (σ := Value × Value × Value × Nat) 5 #[tt,tt,tt,tt,tt,tt,tt,ff,ff,tt,tt,ff,ff,tt,ff] (fun s_ => [(23, s_.1), (26, s_.2.1), (27, s_.2.2.1), (6, .pointer (some ⟨s_.2.2.2, 0, none⟩))]) (fun s_ w' => (w'.cell? ⟨gb124, 0, none⟩ = some (.slice A0_0 l0_0.length c0_0) ∧ w'.cell? ⟨gb124, 1, none⟩ = some (.slice (some ad126) l0_1.length c0_1) ∧ w'.cell? ⟨gb124, 2, none⟩ = some (.slice (some ad127) l0_2.length c0_2)) ∧ (Kd.R (Kd.int .i64) 3 w' w.heap.size (fun k_ => some k_ ≠ (s_.2.2.1 : Value).ownBlock) s_.2.1 y131) ∧ (Kd.R (Kd.int .i64) 3 w' w.heap.size (fun k_ => some k_ ≠ (s_.2.1 : Value).ownBlock) s_.2.2.1 y134) ∧ (w'.heap[gb124]? = some (.cells #[.slice A0_0 l0_0.length c0_0, .slice (some ad126) l0_1.length c0_1, .slice (some ad127) l0_2.length c0_2] 26 (0, 0))) ∧ (w'.heap[gb125]? = some (.cells #[.slice none 0 0, .slice none 0 0, .slice none 0 0] 26 (0, 0))) ∧ (w'.heap[s_.2.2.2]? = some (.cells #[.slice none 0 0, .slice none 0 0, .slice none 0 0] 26 (0, 0))) ∧ (w.heap.size ≤ s_.2.2.2) ∧ (w.heap.size ≤ s_.2.2.2) ∧ (gb124 ≠ s_.2.2.2) ∧ (s_.2.2.2 ≠ gb124) ∧ (gb125 ≠ s_.2.2.2) ∧ (s_.2.2.2 ≠ gb125) ∧ (Below w.heap.size w w')) ?_ ?_
 rotate_left
 {
 intro hJ0_3_4_13
 refine join_ (σ := Value × Value × Value × Nat) 5 #[tt,tt,tt,tt,ff,tt,tt,ff,tt,tt,tt,ff,ff,tt,ff] (fun s_ => [(23, s_.1), (26, s_.2.1), (31, s_.2.2.1), (6, .pointer (some ⟨s_.2.2.2, 0, none⟩))]) (fun s_ w' => (w'.cell? ⟨gb124, 0, none⟩ = some (.slice A0_0 l0_0.length c0_0) ∧ w'.cell? ⟨gb124, 1, none⟩ = some (.slice (some ad126) l0_1.length c0_1) ∧ w'.cell? ⟨gb124, 2, none⟩ = some (.slice (some ad127) l0_2.length c0_2)) ∧ (Kd.R (Kd.int .i64) 3 w' w.heap.size (fun k_ => some k_ ≠ (s_.2.2.1 : Value).ownBlock) s_.2.1 y131) ∧ (Kd.R (Kd.int .i64) 3 w' w.heap.size (fun k_ => some k_ ≠ (s_.2.1 : Value).ownBlock) s_.2.2.1 y140) ∧ (w'.heap[gb124]? = some (.cells #[.slice A0_0 l0_0.length c0_0, .slice (some ad126) l0_1.length c0_1, .slice (some ad127) l0_2.length c0_2] 26 (0, 0))) ∧ (w'.heap[gb125]? = some (.cells #[.slice none 0 0, .slice none 0 0, .slice none 0 0] 26 (0, 0))) ∧ (w'.heap[s_.2.2.2]? = some (.cells #[.slice none 0 0, .slice none 0 0, .slice none 0 0] 26 (0, 0))) ∧ (w.heap.size ≤ s_.2.2.2) ∧ (w.heap.size ≤ s_.2.2.2) ∧ (gb124 ≠ s_.2.2.2) ∧ (s_.2.2.2 ≠ gb124) ∧ (gb125 ≠ s_.2.2.2) ∧ (s_.2.2.2 ≠ gb125) ∧ (Below w.heap.size w w')) ?_ ?_
 rotate_left
 {
 intro hJ0_3_8_13
 refine join_ (σ := Value × Value × Value × Nat) 5 #[tt,tt,tt,ff,tt,tt,tt,ff,tt,tt,tt,ff,ff,tt,ff] (fun s_ => [(23, s_.1), (27, s_.2.1), (31, s_.2.2.1), (6, .pointer (some ⟨s_.2.2.2, 0, none⟩))]) (fun s_ w' => (w'.cell? ⟨gb124, 0, none⟩ = some (.slice A0_0 l0_0.length c0_0) ∧ w'.cell? ⟨gb124, 1, none⟩ = some (.slice (some ad126) l0_1.length c0_1) ∧ w'.cell? ⟨gb124, 2, none⟩ = some (.slice (some ad127) l0_2.length c0_2)) ∧ (Kd.R (Kd.int .i64) 3 w' w.heap.size (fun k_ => some k_ ≠ (s_.2.1 : Value).ownBlock ∧ some k_ ≠ (s_.2.2.1 : Value).ownBlock) s_.1 y128) ∧ (Kd.R (Kd.int .i64) 3 w' w.heap.size (fun k_ => some k_ ≠ (s_.1 : Value).ownBlock ∧ some k_ ≠ (s_.2.2.1 : Value).ownBlock) s_.2.1 y134) ∧ (Kd.R (Kd.int .i64) 3 w' w.heap.size (fun k_ => some k_ ≠ (s_.1 : Value).ownBlock ∧ some k_ ≠ (s_.2.1 : Value).ownBlock) s_.2.2.1 y140) ∧ (w'.heap[gb124]? = some (.cells #[.slice A0_0 l0_0.length c0_0, .slice (some ad126) l0_1.length c0_1, .slice (some ad127) l0_2.length c0_2] 26 (0, 0))) ∧ (w'.heap[gb125]? = some (.cells #[.slice none 0 0, .slice none 0 0, .slice none 0 0] 26 (0, 0))) ∧ (w'.heap[s_.2.2.2]? = some (.cells #[.slice none 0 0, .slice none 0 0, .slice none 0 0] 26 (0, 0))) ∧ (w.heap.size ≤ s_.2.2.2) ∧ (w.heap.size ≤ s_.2.2.2) ∧ (gb124 ≠ s_.2.2.2) ∧ (s_.2.2.2 ≠ gb124) ∧ (gb125 ≠ s_.2.2.2) ∧ (s_.2.2.2 ≠ gb125) ∧ (Below w.heap.size w w')) ?_ ?_
 rotate_left
 {
 intro hJ0_4_8_13
 refine join_ (σ := Value × Value × Value) 6 #[tt,tt,tt,tt,tt,tt,tt,ff,ff,tt,tt,ff,ff,ff,ff] (fun s_ => [(23, s_.1), (26, s_.2.1), (27, s_.2.2)]) (fun s_ w' => (w'.cell? ⟨gb124, 0, none⟩ = some (.slice A0_0 l0_0.length c0_0) ∧ w'.cell? ⟨gb124, 1, none⟩ = some (.slice (some ad126) l0_1.length c0_1) ∧ w'.cell? ⟨gb124, 2, none⟩ = some (.slice (some ad127) l0_2.length c0_2)) ∧ (Kd.R (Kd.int .i64) 3 w' w.heap.size (fun k_ => some k_ ≠ (s_.2.2 : Value).ownBlock) s_.2.1 y131) ∧ (Kd.R (Kd.int .i64) 3 w' w.heap.size (fun k_ => some k_ ≠ (s_.2.1 : Value).ownBlock) s_.2.2 y134) ∧ (w'.heap[gb124]? = some (.cells #[.slice A0_0 l0_0.length c0_0, .slice (some ad126) l0_1.length c0_1, .slice (some ad127) l0_2.length c0_2] 26 (0, 0))) ∧ (w'.heap[gb125]? = some (.cells #[.slice none 0 0, .slice none 0 0, .slice none 0 0] 26 (0, 0))) ∧ (Below w.heap.size w w')) ?_ ?_
 rotate_left
 {
 intro hJ0_3_4
 refine join_ (σ := Value × Value × Value) 6 #[tt,tt,tt,tt,ff,tt,tt,ff,tt,tt,tt,ff,ff,ff,ff] (fun s_ => [(23, s_.1), (26, s_.2.1), (31, s_.2.2)]) (fun s_ w' => (w'.cell? ⟨gb124, 0, none⟩ = some (.slice A0_0 l0_0.length c0_0) ∧ w'.cell? ⟨gb124, 1, none⟩ = some (.slice (some ad126) l0_1.length c0_1) ∧ w'.cell? ⟨gb124, 2, none⟩ = some (.slice (some ad127) l0_2.length c0_2)) ∧ (Kd.R (Kd.int .i64) 3 w' w.heap.size (fun k_ => some k_ ≠ (s_.2.2 : Value).ownBlock) s_.2.1 y131) ∧ (Kd.R (Kd.int .i64) 3 w' w.heap.size (fun k_ => some k_ ≠ (s_.2.1 : Value).ownBlock) s_.2.2 y140) ∧ (w'.heap[gb124]? = some (.cells #[.slice A0_0 l0_0.length c0_0, .slice (some ad126) l0_1.length c0_1, .slice (some ad127) l0_2.length c0_2] 26 (0, 0))) ∧ (w'.heap[gb125]? = some (.cells #[.slice none 0 0, .slice none 0 0, .slice none 0 0] 26 (0, 0))) ∧ (Below w.heap.size w w')) ?_ ?_
 rotate_left
 {
 intro hJ0_3_8
 refine join_ (σ := Value × Value × Nat) 6 #[tt,tt,tt,tt,ff,tt,tt,ff,ff,tt,tt,ff,ff,tt,ff] (fun s_ => [(23, s_.1), (26, s_.2.1), (6, .pointer (some ⟨s_.2.2, 0, none⟩))]) (fun s_ w' => (w'.cell? ⟨gb124, 0, none⟩ = some (.slice A0_0 l0_0.length c0_0) ∧ w'.cell? ⟨gb124, 1, none⟩ = some (.slice (some ad126) l0_1.length c0_1) ∧ w'.cell? ⟨gb124, 2, none⟩ = some (.slice (some ad127) l0_2.length c0_2)) ∧ (Kd.R (Kd.int .i64) 3 w' w.heap.size (fun _ => True) s_.2.1 y131) ∧ (w'.heap[gb124]? = some (.cells #[.slice A0_0 l0_0.length c0_0, .slice (some ad126) l0_1.length c0_1, .slice (some ad127) l0_2.length c0_2] 26 (0, 0))) ∧ (w'.heap[gb125]? = some (.cells #[.slice none 0 0, .slice none 0 0, .slice none 0 0] 26 (0, 0))) ∧ (w'.heap[s_.2.2]? = some (.cells #[.slice none 0 0, .slice none 0 0, .slice none 0 0] 26 (0, 0))) ∧ (w.heap.size ≤ s_.2.2) ∧ (w.heap.size ≤ s_.2.2) ∧ (gb124 ≠ s_.2.2) ∧ (s_.2.2 ≠ gb124) ∧ (gb125 ≠ s_.2.2) ∧ (s_.2.2 ≠ gb125) ∧ (Below w.heap.size w w')) ?_ ?_
 rotate_left
 {
 intro hJ0_3_13
 refine join_ (σ := Value × Value × Value) 6 #[tt,tt,tt,ff,tt,tt,tt,ff,tt,tt,tt,ff,ff,ff,ff] (fun s_ => [(23, s_.1), (27, s_.2.1), (31, s_.2.2)]) (fun s_ w' => (w'.cell? ⟨gb124, 0, none⟩ = some (.slice A0_0 l0_0.length c0_0) ∧ w'.cell? ⟨gb124, 1, none⟩ = some (.slice (some ad126) l0_1.length c0_1) ∧ w'.cell? ⟨gb124, 2, none⟩ = some (.slice (some ad127) l0_2.length c0_2)) ∧ (Kd.R (Kd.int .i64) 3 w' w.heap.size (fun k_ => some k_ ≠ (s_.2.1 : Value).ownBlock ∧ some k_ ≠ (s_.2.2 : Value).ownBlock) s_.1 y128) ∧ (Kd.R (Kd.int .i64) 3 w' w.heap.size (fun k_ => some k_ ≠ (s_.1 : Value).ownBlock ∧ some k_ ≠ (s_.2.2 : Value).ownBlock) s_.2.1 y134) ∧ (Kd.R (Kd.int .i64) 3 w' w.heap.size (fun k_ => some k_ ≠ (s_.1 : Value).ownBlock ∧ some k_ ≠ (s_.2.1 : Value).ownBlock) s_.2.2 y140) ∧ (w'.heap[gb124]? = some (.cells #[.slice A0_0 l0_0.length c0_0, .slice (some ad126) l0_1.length c0_1, .slice (some ad127) l0_2.length c0_2] 26 (0, 0))) ∧ (w'.heap[gb125]? = some (.cells #[.slice none 0 0, .slice none 0 0, .slice none 0 0] 26 (0, 0))) ∧ (Below w.heap.size w w')) ?_ ?_
 rotate_left
 {
 intro hJ0_4_8
 refine join_ (σ := Value × Value × Nat) 6 #[tt,tt,tt,ff,tt,tt,tt,ff,ff,tt,tt,ff,ff,tt,ff] (fun s_ => [(23, s_.1), (27, s_.2.1), (6, .pointer (some ⟨s_.2.2, 0, none⟩))]) (fun s_ w' => (w'.cell? ⟨gb124, 0, none⟩ = some (.slice A0_0 l0_0.length c0_0) ∧ w'.cell? ⟨gb124, 1, none⟩ = some (.slice (some ad126) l0_1.length c0_1) ∧ w'.cell? ⟨gb124, 2, none⟩ = some (.slice (some ad127) l0_2.length c0_2)) ∧ (Kd.R (Kd.int .i64) 3 w' w.heap.size (fun k_ => some k_ ≠ (s_.2.1 : Value).ownBlock) s_.1 y128) ∧ (Kd.R (Kd.int .i64) 3 w' w.heap.size (fun k_ => some k_ ≠ (s_.1 : Value).ownBlock) s_.2.1 y134) ∧ (w'.heap[gb124]? = some (.cells #[.slice A0_0 l0_0.length c0_0, .slice (some ad126) l0_1.length c0_1, .slice (some ad127) l0_2.length c0_2] 26 (0, 0))) ∧ (w'.heap[gb125]? = some (.cells #[.slice none 0 0, .slice none 0 0, .slice none 0 0] 26 (0, 0))) ∧ (w'.heap[s_.2.2]? = some (.cells #[.slice none 0 0, .slice none 0 0, .slice none 0 0] 26 (0, 0))) ∧ (w.heap.size ≤ s_.2.2) ∧ (w.heap.size ≤ s_.2.2) ∧ (gb124 ≠ s_.2.2) ∧ (s_.2.2 ≠ gb124) ∧ (gb125 ≠ s_.2.2) ∧ (s_.2.2 ≠ gb125) ∧ (Below w.heap.size w w')) ?_ ?_
 rotate_left
 {
 intro hJ0_4_13
 refine join_ (σ := Value × Value × Nat) 6 #[tt,tt,tt,ff,ff,tt,tt,ff,tt,tt,tt,ff,ff,tt,ff] (fun s_ => [(23, s_.1), (31, s_.2.1), (6, .pointer (some ⟨s_.2.2, 0, none⟩))]) (fun s_ w' => (w'.cell? ⟨gb124, 0, none⟩ = some (.slice A0_0 l0_0.length c0_0) ∧ w'.cell? ⟨gb124, 1, none⟩ = some (.slice (some ad126) l0_1.length c0_1) ∧ w'.cell? ⟨gb124, 2, none⟩ = some (.slice (some ad127) l0_2.length c0_2)) ∧ (Kd.R (Kd.int .i64) 3 w' w.heap.size (fun k_ => some k_ ≠ (s_.2.1 : Value).ownBlock) s_.1 y128) ∧ (Kd.R (Kd.int .i64) 3 w' w.heap.size (fun k_ => some k_ ≠ (s_.1 : Value).ownBlock) s_.2.1 y140) ∧ (w'.heap[gb124]? = some (.cells #[.slice A0_0 l0_0.length c0_0, .slice (some ad126) l0_1.length c0_1, .slice (some ad127) l0_2.length c0_2] 26 (0, 0))) ∧ (w'.heap[gb125]? = some (.cells #[.slice none 0 0, .slice none 0 0, .slice none 0 0] 26 (0, 0))) ∧ (w'.heap[s_.2.2]? = some (.cells #[.slice none 0 0, .slice none 0 0, .slice none 0 0] 26 (0, 0))) ∧ (w.heap.size ≤ s_.2.2) ∧ (w.heap.size ≤ s_.2.2) ∧ (gb124 ≠ s_.2.2) ∧ (s_.2.2 ≠ gb124) ∧ (gb125 ≠ s_.2.2) ∧ (s_.2.2 ≠ gb125) ∧ (Below w.heap.size w w')) ?_ ?_
 rotate_left
 {
 intro hJ0_8_13
 refine join_ (σ := Value × Value × Nat) 6 #[ff,tt,tt,ff,tt,tt,tt,ff,tt,tt,tt,ff,ff,tt,ff] (fun s_ => [(27, s_.1), (31, s_.2.1), (6, .pointer (some ⟨s_.2.2, 0, none⟩))]) (fun s_ w' => (w'.cell? ⟨gb124, 0, none⟩ = some (.slice A0_0 l0_0.length c0_0) ∧ w'.cell? ⟨gb124, 1, none⟩ = some (.slice (some ad126) l0_1.length c0_1) ∧ w'.cell? ⟨gb124, 2, none⟩ = some (.slice (some ad127) l0_2.length c0_2)) ∧ (Kd.R (Kd.int .i64) 3 w' w.heap.size (fun k_ => some k_ ≠ (s_.2.1 : Value).ownBlock) s_.1 y134) ∧ (Kd.R (Kd.int .i64) 3 w' w.heap.size (fun k_ => some k_ ≠ (s_.1 : Value).ownBlock) s_.2.1 y140) ∧ (w'.heap[gb124]? = some (.cells #[.slice A0_0 l0_0.length c0_0, .slice (some ad126) l0_1.length c0_1, .slice (some ad127) l0_2.length c0_2] 26 (0, 0))) ∧ (w'.heap[gb125]? = some (.cells #[.slice none 0 0, .slice none 0 0, .slice none 0 0] 26 (0, 0))) ∧ (w'.heap[s_.2.2]? = some (.cells #[.slice none 0 0, .slice none 0 0, .slice none 0 0] 26 (0, 0))) ∧ (w.heap.size ≤ s_.2.2) ∧ (w.heap.size ≤ s_.2.2) ∧ (gb124 ≠ s_.2.2) ∧ (s_.2.2 ≠ gb124) ∧ (gb125 ≠ s_.2.2) ∧ (s_.2.2 ≠ gb125) ∧ (Below w.heap.size w w')) ?_ ?_
 rotate_left
 {
 intro hJ4_8_13
 refine join_ (σ := Value × Value) 7 #[tt,tt,tt,tt,ff,tt,tt,ff,ff,tt,tt,ff,ff,ff,ff] (fun s_ => [(23, s_.1), (26, s_.2)]) (fun s_ w' => (w'.cell? ⟨gb124, 0, none⟩ = some (.slice A0_0 l0_0.length c0_0) ∧ w'.cell? ⟨gb124, 1, none⟩ = some (.slice (some ad126) l0_1.length c0_1) ∧ w'.cell? ⟨gb124, 2, none⟩ = some (.slice (some ad127) l0_2.length c0_2)) ∧ (Kd.R (Kd.int .i64) 3 w' w.heap.size (fun _ => True) s_.2 y131) ∧ (w'.heap[gb124]? = some (.cells #[.slice A0_0 l0_0.length c0_0, .slice (some ad126) l0_1.length c0_1, .slice (some ad127) l0_2.length c0_2] 26 (0, 0))) ∧ (w'.heap[gb125]? = some (.cells #[.slice none 0 0, .slice none 0 0, .slice none 0 0] 26 (0, 0))) ∧ (Below w.heap.size w w')) ?_ ?_
 rotate_left
 {
 intro hJ0_3
 refine join_ (σ := Value × Value) 7 #[tt,tt,tt,ff,tt,tt,tt,ff,ff,tt,tt,ff,ff,ff,ff] (fun s_ => [(23, s_.1), (27, s_.2)]) (fun s_ w' => (w'.cell? ⟨gb124, 0, none⟩ = some (.slice A0_0 l0_0.length c0_0) ∧ w'.cell? ⟨gb124, 1, none⟩ = some (.slice (some ad126) l0_1.length c0_1) ∧ w'.cell? ⟨gb124, 2, none⟩ = some (.slice (some ad127) l0_2.length c0_2)) ∧ (Kd.R (Kd.int .i64) 3 w' w.heap.size (fun k_ => some k_ ≠ (s_.2 : Value).ownBlock) s_.1 y128) ∧ (Kd.R (Kd.int .i64) 3 w' w.heap.size (fun k_ => some k_ ≠ (s_.1 : Value).ownBlock) s_.2 y134) ∧ (w'.heap[gb124]? = some (.cells #[.slice A0_0 l0_0.length c0_0, .slice (some ad126) l0_1.length c0_1, .slice (some ad127) l0_2.length c0_2] 26 (0, 0))) ∧ (w'.heap[gb125]? = some (.cells #[.slice none 0 0, .slice none 0 0, .slice none 0 0] 26 (0, 0))) ∧ (Below w.heap.size w w')) ?_ ?_
 rotate_left
 {
 intro hJ0_4
 refine join_ (σ := Value × Value) 7 #[tt,tt,tt,ff,ff,tt,tt,ff,tt,tt,tt,ff,ff,ff,ff] (fun s_ => [(23, s_.1), (31, s_.2)]) (fun s_ w' => (w'.cell? ⟨gb124, 0, none⟩ = some (.slice A0_0 l0_0.length c0_0) ∧ w'.cell? ⟨gb124, 1, none⟩ = some (.slice (some ad126) l0_1.length c0_1) ∧ w'.cell? ⟨gb124, 2, none⟩ = some (.slice (some ad127) l0_2.length c0_2)) ∧ (Kd.R (Kd.int .i64) 3 w' w.heap.size (fun k_ => some k_ ≠ (s_.2 : Value).ownBlock) s_.1 y128) ∧ (Kd.R (Kd.int .i64) 3 w' w.heap.size (fun k_ => some k_ ≠ (s_.1 : Value).ownBlock) s_.2 y140) ∧ (w'.heap[gb124]? = some (.cells #[.slice A0_0 l0_0.length c0_0, .slice (some ad126) l0_1.length c0_1, .slice (some ad127) l0_2.length c0_2] 26 (0, 0))) ∧ (w'.heap[gb125]? = some (.cells #[.slice none 0 0, .slice none 0 0, .slice none 0 0] 26 (0, 0))) ∧ (Below w.heap.size w w')) ?_ ?_
 rotate_left
 {
 intro hJ0_8
 refine join_ (σ := Value × Nat) 7 #[tt,tt,tt,ff,ff,tt,tt,ff,ff,tt,tt,ff,ff,tt,ff] (fun s_ => [(23, s_.1), (6, .pointer (some ⟨s_.2, 0, none⟩))]) (fun s_ w' => (w'.cell? ⟨gb124, 0, none⟩ = some (.slice A0_0 l0_0.length c0_0) ∧ w'.cell? ⟨gb124, 1, none⟩ = some (.slice (some ad126) l0_1.length c0_1) ∧ w'.cell? ⟨gb124, 2, none⟩ = some (.slice (some ad127) l0_2.length c0_2)) ∧ (Kd.R (Kd.int .i64) 3 w' w.heap.size (fun _ => True) s_.1 y128) ∧ (w'.heap[gb124]? = some (.cells #[.slice A0_0 l0_0.length c0_0, .slice (some ad126) l0_1.length c0_1, .slice (some ad127) l0_2.length c0_2] 26 (0, 0))) ∧ (w'.heap[gb125]? = some (.cells #[.slice none 0 0, .slice none 0 0, .slice none 0 0] 26 (0, 0))) ∧ (w'.heap[s_.2]? = some (.cells #[.slice none 0 0, .slice none 0 0, .slice none 0 0] 26 (0, 0))) ∧ (w.heap.size ≤ s_.2) ∧ (w.heap.size ≤ s_.2) ∧ (gb124 ≠ s_.2) ∧ (s_.2 ≠ gb124) ∧ (gb125 ≠ s_.2) ∧ (s_.2 ≠ gb125) ∧ (Below w.heap.size w w')) ?_ ?_
 rotate_left
 {
 intro hJ0_13
 refine join_ (σ := Value × Value) 7 #[ff,tt,tt,ff,tt,tt,tt,ff,tt,tt,tt,ff,ff,ff,ff] (fun s_ => [(27, s_.1), (31, s_.2)]) (fun s_ w' => (w'.cell? ⟨gb124, 0, none⟩ = some (.slice A0_0 l0_0.length c0_0) ∧ w'.cell? ⟨gb124, 1, none⟩ = some (.slice (some ad126) l0_1.length c0_1) ∧ w'.cell? ⟨gb124, 2, none⟩ = some (.slice (some ad127) l0_2.length c0_2)) ∧ (Kd.R (Kd.int .i64) 3 w' w.heap.size (fun k_ => some k_ ≠ (s_.2 : Value).ownBlock) s_.1 y134) ∧ (Kd.R (Kd.int .i64) 3 w' w.heap.size (fun k_ => some k_ ≠ (s_.1 : Value).ownBlock) s_.2 y140) ∧ (w'.heap[gb124]? = some (.cells #[.slice A0_0 l0_0.length c0_0, .slice (some ad126) l0_1.length c0_1, .slice (some ad127) l0_2.length c0_2] 26 (0, 0))) ∧ (w'.heap[gb125]? = some (.cells #[.slice none 0 0, .slice none 0 0, .slice none 0 0] 26 (0, 0))) ∧ (Below w.heap.size w w')) ?_ ?_
 rotate_left
 {
 intro hJ4_8
 refine join_ (σ := Value × Nat) 7 #[ff,tt,tt,ff,tt,tt,tt,ff,ff,tt,tt,ff,ff,tt,ff] (fun s_ => [(27, s_.1), (6, .pointer (some ⟨s_.2, 0, none⟩))]) (fun s_ w' => (w'.cell? ⟨gb124, 0, none⟩ = some (.slice A0_0 l0_0.length c0_0) ∧ w'.cell? ⟨gb124, 1, none⟩ = some (.slice (some ad126) l0_1.length c0_1) ∧ w'.cell? ⟨gb124, 2, none⟩ = some (.slice (some ad127) l0_2.length c0_2)) ∧ (Kd.R (Kd.int .i64) 3 w' w.heap.size (fun _ => True) s_.1 y134) ∧ (w'.heap[gb124]? = some (.cells #[.slice A0_0 l0_0.length c0_0, .slice (some ad126) l0_1.length c0_1, .slice (some ad127) l0_2.length c0_2] 26 (0, 0))) ∧ (w'.heap[gb125]? = some (.cells #[.slice none 0 0, .slice none 0 0, .slice none 0 0] 26 (0, 0))) ∧ (w'.heap[s_.2]? = some (.cells #[.slice none 0 0, .slice none 0 0, .slice none 0 0] 26 (0, 0))) ∧ (w.heap.size ≤ s_.2) ∧ (w.heap.size ≤ s_.2) ∧ (gb124 ≠ s_.2) ∧ (s_.2 ≠ gb124) ∧ (gb125 ≠ s_.2) ∧ (s_.2 ≠ gb125) ∧ (Below w.heap.size w w')) ?_ ?_
 rotate_left
 {
 intro hJ4_13
 refine join_ (σ := Value × Nat) 7 #[ff,tt,tt,ff,ff,tt,tt,ff,tt,tt,tt,ff,ff,tt,ff] (fun s_ => [(31, s_.1), (6, .pointer (some ⟨s_.2, 0, none⟩))]) (fun s_ w' => (w'.cell? ⟨gb124, 0, none⟩ = some (.slice A0_0 l0_0.length c0_0) ∧ w'.cell? ⟨gb124, 1, none⟩ = some (.slice (some ad126) l0_1.length c0_1) ∧ w'.cell? ⟨gb124, 2, none⟩ = some (.slice (some ad127) l0_2.length c0_2)) ∧ (Kd.R (Kd.int .i64) 3 w' w.heap.size (fun _ => True) s_.1 y140) ∧ (w'.heap[gb124]? = some (.cells #[.slice A0_0 l0_0.length c0_0, .slice (some ad126) l0_1.length c0_1, .slice (some ad127) l0_2.length c0_2] 26 (0, 0))) ∧ (w'.heap[gb125]? = some (.cells #[.slice none 0 0, .slice none 0 0, .slice none 0 0] 26 (0, 0))) ∧ (w'.heap[s_.2]? = some (.cells #[.slice none 0 0, .slice none 0 0, .slice none 0 0] 26 (0, 0))) ∧ (w.heap.size ≤ s_.2) ∧ (w.heap.size ≤ s_.2) ∧ (gb124 ≠ s_.2) ∧ (s_.2 ≠ gb124) ∧ (gb125 ≠ s_.2) ∧ (s_.2 ≠ gb125) ∧ (Below w.heap.size w w')) ?_ ?_
 rotate_left
 {
 intro hJ8_13
 refine join_ (σ := Value) 8 #[tt,tt,tt,ff,ff,tt,tt,ff,ff,tt,tt,ff,ff,ff,ff] (fun s_ => [(23, s_)]) (fun s_ w' => (w'.cell? ⟨gb124, 0, none⟩ = some (.slice A0_0 l0_0.length c0_0) ∧ w'.cell? ⟨gb124, 1, none⟩ = some (.slice (some ad126) l0_1.length c0_1) ∧ w'.cell? ⟨gb124, 2, none⟩ = some (.slice (some ad127) l0_2.length c0_2)) ∧ (Kd.R (Kd.int .i64) 3 w' w.heap.size (fun _ => True) s_ y128) ∧ (w'.heap[gb124]? = some (.cells #[.slice A0_0 l0_0.length c0_0, .slice (some ad126) l0_1.length c0_1, .slice (some ad127) l0_2.length c0_2] 26 (0, 0))) ∧ (w'.heap[gb125]? = some (.cells #[.slice none 0 0, .slice none 0 0, .slice none 0 0] 26 (0, 0))) ∧ (Below w.heap.size w w')) ?_ ?_
 rotate_left
 {
 intro hJ0
 refine join_ (σ := Value) 8 #[ff,tt,tt,ff,tt,tt,tt,ff,ff,tt,tt,ff,ff,ff,ff] (fun s_ => [(27, s_)]) (fun s_ w' => (w'.cell? ⟨gb124, 0, none⟩ = some (.slice A0_0 l0_0.length c0_0) ∧ w'.cell? ⟨gb124, 1, none⟩ = some (.slice (some ad126) l0_1.length c0_1) ∧ w'.cell? ⟨gb124, 2, none⟩ = some (.slice (some ad127) l0_2.length c0_2)) ∧ (Kd.R (Kd.int .i64) 3 w' w.heap.size (fun _ => True) s_ y134) ∧ (w'.heap[gb124]? = some (.cells #[.slice A0_0 l0_0.length c0_0, .slice (some ad126) l0_1.length c0_1, .slice (some ad127) l0_2.length c0_2] 26 (0, 0))) ∧ (w'.heap[gb125]? = some (.cells #[.slice none 0 0, .slice none 0 0, .slice none 0 0] 26 (0, 0))) ∧ (Below w.heap.size w w')) ?_ ?_
 rotate_left
 {
 intro hJ4
 refine join_ (σ := Value) 8 #[ff,tt,tt,ff,ff,tt,tt,ff,tt,tt,tt,ff,ff,ff,ff] (fun s_ => [(31, s_)]) (fun s_ w' => (w'.cell? ⟨gb124, 0, none⟩ = some (.slice A0_0 l0_0.length c0_0) ∧ w'.cell? ⟨gb124, 1, none⟩ = some (.slice (some ad126) l0_1.length c0_1) ∧ w'.cell? ⟨gb124, 2, none⟩ = some (.slice (some ad127) l0_2.length c0_2)) ∧ (Kd.R (Kd.int .i64) 3 w' w.heap.size (fun _ => True) s_ y140) ∧ (w'.heap[gb124]? = some (.cells #[.slice A0_0 l0_0.length c0_0, .slice (some ad126) l0_1.length c0_1, .slice (some ad127) l0_2.length c0_2] 26 (0, 0))) ∧ (w'.heap[gb125]? = some (.cells #[.slice none 0 0, .slice none 0 0, .slice none 0 0] 26 (0, 0))) ∧ (Below w.heap.size w w')) ?_ ?_
 rotate_left
 {
 intro hJ8
 refine join_ (σ := Nat) 8 #[ff,tt,tt,ff,ff,tt,tt,ff,ff,tt,tt,ff,ff,tt,ff] (fun s_ => [(6, .pointer (some ⟨s_, 0, none⟩))]) (fun s_ w' => (w'.cell? ⟨gb124, 0, none⟩ = some (.slice A0_0 l0_0.length c0_0) ∧ w'.cell? ⟨gb124, 1, none⟩ = some (.slice (some ad126) l0_1.length c0_1) ∧ w'.cell? ⟨gb124, 2, none⟩ = some (.slice (some ad127) l0_2.length c0_2)) ∧ (w'.heap[gb124]? = some (.cells #[.slice A0_0 l0_0.length c0_0, .slice (some ad126) l0_1.length c0_1, .slice (some ad127) l0_2.length c0_2] 26 (0, 0))) ∧ (w'.heap[gb125]? = some (.cells #[.slice none 0 0, .slice none 0 0, .slice none 0 0] 26 (0, 0))) ∧ (w'.heap[s_]? = some (.cells #[.slice none 0 0, .slice none 0 0, .slice none 0 0] 26 (0, 0))) ∧ (w.heap.size ≤ s_) ∧ (w.heap.size ≤ s_) ∧ (gb124 ≠ s_) ∧ (s_ ≠ gb124) ∧ (gb125 ≠ s_) ∧ (s_ ≠ gb125) ∧ (Below w.heap.size w w')) ?_ ?_
 rotate_left
 {
 intro hJ13
 refine four_ (i := 0) (j := 4) (k := 8) (m := 13) (Ni := some 23) (Nj := some 27) (Nk := some 31) (Nm := some 6) #[tt,tt,tt,ff,ff,tt,tt,ff,ff,tt,tt,ff,ff,ff,ff] #[ff,tt,tt,ff,tt,tt,tt,ff,ff,tt,tt,ff,ff,ff,ff] #[ff,tt,tt,ff,ff,tt,tt,ff,tt,tt,tt,ff,ff,ff,ff] #[ff,tt,tt,ff,ff,tt,tt,ff,ff,tt,tt,ff,ff,tt,ff] rfl rfl rfl rfl rfl rfl rfl rfl (four_of HT_.out (by kernel_rfl)) (by decide) (by decide) (by decide) (by decide) (fun K hK => ?_) (fun K hK => ?_) (fun K hK => ?_) (fun K hK => ?_)
 {
 skip
 refine Kd.R_lit_step (Kd.int .i64) _ 3 ?hg (N := 23) ?hd (xs := ([] : List Int)) (inner := []) (ok := fun _ => True) (okp := fun _ => True) ?hr ?hp (fun _ hk => hk) trivial (Below.refl _ _) (Nat.le_refl _) (by simp) ?_; (case hd => rfl); (case hg => rfl); (case hr => first | (go_simp; done) | (go_simp; rfl)); (case hp => exact (Reps.none _ _))
 intro v129 w17 ho18 hb hg_ hnew_
 clear hg_ hnew_
 (first | rw [← Ny128.out] at ho18 | (simp only [Int.reduceToNat] at ho18; rw [← Ny128.out] at ho18))
 have n0_ := Aside0.mk (Kd.R_lower ho18 (below_size (bX2 HB.out GE124.out GE125.out)))
 have n1_ := Aside0.mk (bbX BK124.out hb)
 have n2_ := Aside0.mk (bbX BK125.out hb)
 have n3_ := Aside0.mk (below_step (bX2 HB.out GE124.out GE125.out) hb)
 clear BK124 BK125 HB
 have HO130 := n0_
 have BK124 := n1_
 have BK125 := n2_
 have HB := n3_
 clear n0_ n1_ n2_ n3_ hb ho18
 refine hK.out _ _ ⟨cz30 BK124.out, cz31 BK124.out, cz32 BK124.out⟩ (fun hHeld => ?_)
 clear hK K
 refine norm_ (a' := ?_) ?_ ?_
 rotate_left
 {
 show Act.put _ (some 23) _ = _
 simp only [Act.put, zA, zB, zC, i64_w, i32_w]
 rfl
 }
 exact nX (hJ0 (v129) _ ⟨hHeld, (rX HO130.out), (kX BK124.out), (kX BK125.out), (bX2 HB.out GE124.out GE125.out)⟩)
 }
 {
 skip
 refine Kd.R_lit_step (Kd.int .i64) _ 3 ?hg (N := 27) ?hd (xs := ([] : List Int)) (inner := []) (ok := fun _ => True) (okp := fun _ => True) ?hr ?hp (fun _ hk => hk) trivial (Below.refl _ _) (Nat.le_refl _) (by simp) ?_; (case hd => rfl); (case hg => rfl); (case hr => first | (go_simp; done) | (go_simp; rfl)); (case hp => exact (Reps.none _ _))
 intro v135 w17 ho18 hb hg_ hnew_
 clear hg_ hnew_
 (first | rw [← Ny134.out] at ho18 | (simp only [Int.reduceToNat] at ho18; rw [← Ny134.out] at ho18))
 have n0_ := Aside0.mk (Kd.R_lower ho18 (below_size (bX2 HB.out GE124.out GE125.out)))
 have n1_ := Aside0.mk (bbX BK124.out hb)
 have n2_ := Aside0.mk (bbX BK125.out hb)
 have n3_ := Aside0.mk (below_step (bX2 HB.out GE124.out GE125.out) hb)
 clear BK124 BK125 HB
 have HO136 := n0_
 have BK124 := n1_
 have BK125 := n2_
 have HB := n3_
 clear n0_ n1_ n2_ n3_ hb ho18
 refine hK.out _ _ ⟨cz30 BK124.out, cz31 BK124.out, cz32 BK124.out⟩ (fun hHeld => ?_)
 clear hK K
 refine norm_ (a' := ?_) ?_ ?_
 rotate_left
 {
 show Act.put _ (some 27) _ = _
 simp only [Act.put, zA, zB, zC, i64_w, i32_w]
 rfl
 }
 exact nX (hJ4 (v135) _ ⟨hHeld, (rX HO136.out), (kX BK124.out), (kX BK125.out), (bX2 HB.out GE124.out GE125.out)⟩)
 }
 {
 skip
 refine Kd.R_lit_step (Kd.int .i64) _ 3 ?hg (N := 31) ?hd (xs := ([] : List Int)) (inner := []) (ok := fun _ => True) (okp := fun _ => True) ?hr ?hp (fun _ hk => hk) trivial (Below.refl _ _) (Nat.le_refl _) (by simp) ?_; (case hd => rfl); (case hg => rfl); (case hr => first | (go_simp; done) | (go_simp; rfl)); (case hp => exact (Reps.none _ _))
 intro v141 w17 ho18 hb hg_ hnew_
 clear hg_ hnew_
 (first | rw [← Ny140.out] at ho18 | (simp only [Int.reduceToNat] at ho18; rw [← Ny140.out] at ho18))
 have n0_ := Aside0.mk (Kd.R_lower ho18 (below_size (bX2 HB.out GE124.out GE125.out)))
 have n1_ := Aside0.mk (bbX BK124.out hb)
 have n2_ := Aside0.mk (bbX BK125.out hb)
 have n3_ := Aside0.mk (below_step (bX2 HB.out GE124.out GE125.out) hb)
 clear BK124 BK125 HB
 have HO142 := n0_
 have BK124 := n1_
 have BK125 := n2_
 have HB := n3_
 clear n0_ n1_ n2_ n3_ hb ho18
 refine hK.out _ _ ⟨cz30 BK124.out, cz31 BK124.out, cz32 BK124.out⟩ (fun hHeld => ?_)
 clear hK K
 refine norm_ (a' := ?_) ?_ ?_
 rotate_left
 {
 show Act.put _ (some 31) _ = _
 simp only [Act.put, zA, zB, zC, i64_w, i32_w]
 rfl
 }
 exact nX (hJ8 (v141) _ ⟨hHeld, (rX HO142.out), (kX BK124.out), (kX BK125.out), (bX2 HB.out GE124.out GE125.out)⟩)
 }
 {
 skip
 refine box_step ?hg (N := 6) ?hd (cs := #[.slice none 0 0, .slice none 0 0, .slice none 0 0]) (t := 26) ?hr ?_; (case hd => rfl); (case hg => rfl); (case hr => first | (go_simp; done) | (go_simp; rfl))
 intro gb146 hg w17 hbox hb
 have n0_ := Aside0.mk (bbX BK124.out hb)
 have n1_ := Aside0.mk (bbX BK125.out hb)
 have n2_ := Aside0.mk (below_step (bX2 HB.out GE124.out GE125.out) hb)
 have n3_ := Aside0.mk (hbox)
 have n4_ := Aside0.mk ((szX (below_size (bX2 HB.out GE124.out GE125.out)) hg : w.heap.size ≤ gb146))
 have n5_ := Aside0.mk ((szX (below_size (bX2 HB.out GE124.out GE125.out)) hg : w.heap.size ≤ gb146))
 have n6_ := Aside0.mk (neX BK124.out hg)
 have n7_ := Aside0.mk (nfX BK124.out hg)
 have n8_ := Aside0.mk (neX BK125.out hg)
 have n9_ := Aside0.mk (nfX BK125.out hg)
 clear BK124 BK125 HB
 have BK124 := n0_
 have BK125 := n1_
 have HB := n2_
 have BK146 := n3_
 have GW146 := n4_
 have GE146 := n5_
 have NB124_146 := n6_
 have NB146_124 := n7_
 have NB125_146 := n8_
 have NB146_125 := n9_
 clear n0_ n1_ n2_ n3_ n4_ n5_ n6_ n7_ n8_ n9_ hb hbox hg
 refine hK.out _ _ ⟨cz30 BK124.out, cz31 BK124.out, cz32 BK124.out⟩ (fun hHeld => ?_)
 clear hK K
 refine norm_ (a' := ?_) ?_ ?_
 rotate_left
 {
 show Act.put _ (some 6) _ = _
 simp only [Act.put, zA, zB, zC, i64_w, i32_w]
 rfl
 }
 exact nX (hJ13 (gb146) _ ⟨hHeld, (kX BK124.out), (kX BK125.out), (kX BK146.out), GW146.out, GE146.out, NB124_146.out, NB146_124.out, NB125_146.out, NB146_125.out, (bX3 HB.out GE124.out GE125.out GE146.out)⟩)
 }
 }
 {
 skip
 rintro gb146 w18 ⟨hS_, h0_, h1_, h2_, h3_, h4_, h5_, h6_, h7_, h8_, h9_⟩
 have n0_ : Aside0 (w18.heap[gb124]? = some (.cells #[.slice A0_0 l0_0.length c0_0, .slice (some ad126) l0_1.length c0_1, .slice (some ad127) l0_2.length c0_2] 26 (0, 0))) := ⟨h0_⟩
 have n1_ : Aside0 (w18.heap[gb125]? = some (.cells #[.slice none 0 0, .slice none 0 0, .slice none 0 0] 26 (0, 0))) := ⟨h1_⟩
 have n2_ : Aside0 (w18.heap[gb146]? = some (.cells #[.slice none 0 0, .slice none 0 0, .slice none 0 0] 26 (0, 0))) := ⟨h2_⟩
 have n3_ : Aside0 (w.heap.size ≤ gb146) := ⟨h3_⟩
 have n4_ : Aside0 (w.heap.size ≤ gb146) := ⟨h4_⟩
 have n5_ : Aside0 (gb124 ≠ gb146) := ⟨h5_⟩
 have n6_ : Aside0 (gb146 ≠ gb124) := ⟨h6_⟩
 have n7_ : Aside0 (gb125 ≠ gb146) := ⟨h7_⟩
 have n8_ : Aside0 (gb146 ≠ gb125) := ⟨h8_⟩
 have n9_ : Aside0 (Below w.heap.size w w18) := ⟨h9_⟩
 clear BK124 BK125 HB h0_ h1_ h2_ h3_ h4_ h5_ h6_ h7_ h8_ h9_
 have BK124 := n0_
 have BK125 := n1_
 have BK146 := n2_
 have GW146 := n3_
 have GE146 := n4_
 have NB124_146 := n5_
 have NB146_124 := n6_
 have NB125_146 := n7_
 have NB146_125 := n8_
 have HB := n9_
 clear n0_ n1_ n2_ n3_ n4_ n5_ n6_ n7_ n8_ n9_
 have hHeld : w18.cell? ⟨gb124, 0, none⟩ = some (.slice A0_0 l0_0.length c0_0) ∧ w18.cell? ⟨gb124, 1, none⟩ = some (.slice (some ad126) l0_1.length c0_1) ∧ w18.cell? ⟨gb124, 2, none⟩ = some (.slice (some ad127) l0_2.length c0_2) := hS_
 refine norm_ (a' := ?_) ?_ ?_
 rotate_left
 {
 simp only [putAll, Act.put, List.setIfInBounds_toArray, List.set_cons_zero, List.set_cons_succ]
 rfl
 }
 refine three_ (i := 0) (j := 4) (k := 8) (Ni := some 23) (Nj := some 27) (Nk := some 31) #[tt,tt,tt,ff,ff,tt,tt,ff,ff,tt,tt,ff,ff,tt,ff] #[ff,tt,tt,ff,tt,tt,tt,ff,ff,tt,tt,ff,ff,tt,ff] #[ff,tt,tt,ff,ff,tt,tt,ff,tt,tt,tt,ff,ff,tt,ff] rfl rfl rfl rfl rfl rfl (three_of HT_.out (by kernel_rfl)) (by decide) (by decide) (by decide) (fun K hK => ?_) (fun K hK => ?_) (fun K hK => ?_)
 {
 skip
 refine Kd.R_lit_step (Kd.int .i64) _ 3 ?hg (N := 23) ?hd (xs := ([] : List Int)) (inner := []) (ok := fun _ => True) (okp := fun _ => True) ?hr ?hp (fun _ hk => hk) trivial (Below.refl _ _) (Nat.le_refl _) (by simp) ?_; (case hd => rfl); (case hg => rfl); (case hr => first | (go_simp; done) | (go_simp; rfl)); (case hp => exact (Reps.none _ _))
 intro v129 w19 ho20 hb hg_ hnew_
 clear hg_ hnew_
 (first | rw [← Ny128.out] at ho20 | (simp only [Int.reduceToNat] at ho20; rw [← Ny128.out] at ho20))
 have n0_ := Aside0.mk (Kd.R_lower ho20 (below_size (bX3 HB.out GE124.out GE125.out GE146.out)))
 have n1_ := Aside0.mk (bbX BK124.out hb)
 have n2_ := Aside0.mk (bbX BK125.out hb)
 have n3_ := Aside0.mk (bbX BK146.out hb)
 have n4_ := Aside0.mk (below_step (bX3 HB.out GE124.out GE125.out GE146.out) hb)
 clear BK124 BK125 BK146 HB
 have HO130 := n0_
 have BK124 := n1_
 have BK125 := n2_
 have BK146 := n3_
 have HB := n4_
 clear n0_ n1_ n2_ n3_ n4_ hb ho20
 refine hK.out _ _ ⟨cz30 BK124.out, cz31 BK124.out, cz32 BK124.out⟩ (fun hHeld => ?_)
 clear hK K
 refine norm_ (a' := ?_) ?_ ?_
 rotate_left
 {
 show Act.put _ (some 23) _ = _
 simp only [Act.put, zA, zB, zC, i64_w, i32_w]
 rfl
 }
 exact nX (hJ0_13 (v129, gb146) _ ⟨hHeld, (rX HO130.out), (kX BK124.out), (kX BK125.out), (kX BK146.out), GW146.out, GE146.out, NB124_146.out, NB146_124.out, NB125_146.out, NB146_125.out, (bX3 HB.out GE124.out GE125.out GE146.out)⟩)
 }
 {
 skip
 refine Kd.R_lit_step (Kd.int .i64) _ 3 ?hg (N := 27) ?hd (xs := ([] : List Int)) (inner := []) (ok := fun _ => True) (okp := fun _ => True) ?hr ?hp (fun _ hk => hk) trivial (Below.refl _ _) (Nat.le_refl _) (by simp) ?_; (case hd => rfl); (case hg => rfl); (case hr => first | (go_simp; done) | (go_simp; rfl)); (case hp => exact (Reps.none _ _))
 intro v135 w19 ho20 hb hg_ hnew_
 clear hg_ hnew_
 (first | rw [← Ny134.out] at ho20 | (simp only [Int.reduceToNat] at ho20; rw [← Ny134.out] at ho20))
 have n0_ := Aside0.mk (Kd.R_lower ho20 (below_size (bX3 HB.out GE124.out GE125.out GE146.out)))
 have n1_ := Aside0.mk (bbX BK124.out hb)
 have n2_ := Aside0.mk (bbX BK125.out hb)
 have n3_ := Aside0.mk (bbX BK146.out hb)
 have n4_ := Aside0.mk (below_step (bX3 HB.out GE124.out GE125.out GE146.out) hb)
 clear BK124 BK125 BK146 HB
 have HO136 := n0_
 have BK124 := n1_
 have BK125 := n2_
 have BK146 := n3_
 have HB := n4_
 clear n0_ n1_ n2_ n3_ n4_ hb ho20
 refine hK.out _ _ ⟨cz30 BK124.out, cz31 BK124.out, cz32 BK124.out⟩ (fun hHeld => ?_)
 clear hK K
 refine norm_ (a' := ?_) ?_ ?_
 rotate_left
 {
 show Act.put _ (some 27) _ = _
 simp only [Act.put, zA, zB, zC, i64_w, i32_w]
 rfl
 }
 exact nX (hJ4_13 (v135, gb146) _ ⟨hHeld, (rX HO136.out), (kX BK124.out), (kX BK125.out), (kX BK146.out), GW146.out, GE146.out, NB124_146.out, NB146_124.out, NB125_146.out, NB146_125.out, (bX3 HB.out GE124.out GE125.out GE146.out)⟩)
 }
 {
 skip
 refine Kd.R_lit_step (Kd.int .i64) _ 3 ?hg (N := 31) ?hd (xs := ([] : List Int)) (inner := []) (ok := fun _ => True) (okp := fun _ => True) ?hr ?hp (fun _ hk => hk) trivial (Below.refl _ _) (Nat.le_refl _) (by simp) ?_; (case hd => rfl); (case hg => rfl); (case hr => first | (go_simp; done) | (go_simp; rfl)); (case hp => exact (Reps.none _ _))
 intro v141 w19 ho20 hb hg_ hnew_
 clear hg_ hnew_
 (first | rw [← Ny140.out] at ho20 | (simp only [Int.reduceToNat] at ho20; rw [← Ny140.out] at ho20))
 have n0_ := Aside0.mk (Kd.R_lower ho20 (below_size (bX3 HB.out GE124.out GE125.out GE146.out)))
 have n1_ := Aside0.mk (bbX BK124.out hb)
 have n2_ := Aside0.mk (bbX BK125.out hb)
 have n3_ := Aside0.mk (bbX BK146.out hb)
 have n4_ := Aside0.mk (below_step (bX3 HB.out GE124.out GE125.out GE146.out) hb)
 clear BK124 BK125 BK146 HB
 have HO142 := n0_
 have BK124 := n1_
 have BK125 := n2_
 have BK146 := n3_
 have HB := n4_
 clear n0_ n1_ n2_ n3_ n4_ hb ho20
 refine hK.out _ _ ⟨cz30 BK124.out, cz31 BK124.out, cz32 BK124.out⟩ (fun hHeld => ?_)
 clear hK K
 refine norm_ (a' := ?_) ?_ ?_
 rotate_left
 {
 show Act.put _ (some 31) _ = _
 simp only [Act.put, zA, zB, zC, i64_w, i32_w]
 rfl
 }
 exact nX (hJ8_13 (v141, gb146) _ ⟨hHeld, (rX HO142.out), (kX BK124.out), (kX BK125.out), (kX BK146.out), GW146.out, GE146.out, NB124_146.out, NB146_124.out, NB125_146.out, NB146_125.out, (bX3 HB.out GE124.out GE125.out GE146.out)⟩)
 }
 }
 }
 {
 skip
 rintro v141 w19 ⟨hS_, h0_, h1_, h2_, h3_⟩
 have n0_ : Aside0 (Kd.R (Kd.int .i64) 3 w19 w.heap.size (fun _ => True) v141 y140) := ⟨h0_⟩
 have n1_ : Aside0 (w19.heap[gb124]? = some (.cells #[.slice A0_0 l0_0.length c0_0, .slice (some ad126) l0_1.length c0_1, .slice (some ad127) l0_2.length c0_2] 26 (0, 0))) := ⟨h1_⟩
 have n2_ : Aside0 (w19.heap[gb125]? = some (.cells #[.slice none 0 0, .slice none 0 0, .slice none 0 0] 26 (0, 0))) := ⟨h2_⟩
 have n3_ : Aside0 (Below w.heap.size w w19) := ⟨h3_⟩
 clear BK124 BK125 HB h0_ h1_ h2_ h3_
 have HO142 := n0_
 have BK124 := n1_
 have BK125 := n2_
 have HB := n3_
 clear n0_ n1_ n2_ n3_
 have hHeld : w19.cell? ⟨gb124, 0, none⟩ = some (.slice A0_0 l0_0.length c0_0) ∧ w19.cell? ⟨gb124, 1, none⟩ = some (.slice (some ad126) l0_1.length c0_1) ∧ w19.cell? ⟨gb124, 2, none⟩ = some (.slice (some ad127) l0_2.length c0_2) := hS_
 refine norm_ (a' := ?_) ?_ ?_
 rotate_left
 {
 simp only [putAll, Act.put, List.setIfInBounds_toArray, List.set_cons_zero, List.set_cons_succ]
 rfl
 }
 refine three_ (i := 0) (j := 4) (k := 13) (Ni := some 23) (Nj := some 27) (Nk := some 6) #[tt,tt,tt,ff,ff,tt,tt,ff,tt,tt,tt,ff,ff,ff,ff] #[ff,tt,tt,ff,tt,tt,tt,ff,tt,tt,tt,ff,ff,ff,ff] #[ff,tt,tt,ff,ff,tt,tt,ff,tt,tt,tt,ff,ff,tt,ff] rfl rfl rfl rfl rfl rfl (three_of HT_.out (by kernel_rfl)) (by decide) (by decide) (by decide) (fun K hK => ?_) (fun K hK => ?_) (fun K hK => ?_)
 {
 skip
 refine Kd.R_lit_step (Kd.int .i64) _ 3 ?hg (N := 23) ?hd (xs := ([] : List Int)) (inner := []) (ok := fun _ => True) (okp := fun _ => True) ?hr ?hp (fun _ hk => hk) trivial (Below.refl _ _) (Nat.le_refl _) (by simp) ?_; (case hd => rfl); (case hg => rfl); (case hr => first | (go_simp; done) | (go_simp; rfl)); (case hp => exact (Reps.none _ _))
 intro v129 w20 ho21 hb hg_ hnew_
 clear hg_ hnew_
 (first | rw [← Ny128.out] at ho21 | (simp only [Int.reduceToNat] at ho21; rw [← Ny128.out] at ho21))
 have n0_ := Aside0.mk (Kd.R_elder' (rX HO142.out) (Kd.R_base ho21) hb)
 have n1_ := Aside0.mk (Kd.R_lower (Kd.R_new' ho21 (Kd.R_lt (rX HO142.out))) (below_size (bX2 HB.out GE124.out GE125.out)))
 have n2_ := Aside0.mk (bbX BK124.out hb)
 have n3_ := Aside0.mk (bbX BK125.out hb)
 have n4_ := Aside0.mk (below_step (bX2 HB.out GE124.out GE125.out) hb)
 clear HO142 BK124 BK125 HB
 have HO142 := n0_
 have HO130 := n1_
 have BK124 := n2_
 have BK125 := n3_
 have HB := n4_
 clear n0_ n1_ n2_ n3_ n4_ hb ho21
 refine hK.out _ _ ⟨cz30 BK124.out, cz31 BK124.out, cz32 BK124.out⟩ (fun hHeld => ?_)
 clear hK K
 refine norm_ (a' := ?_) ?_ ?_
 rotate_left
 {
 show Act.put _ (some 23) _ = _
 simp only [Act.put, zA, zB, zC, i64_w, i32_w]
 rfl
 }
 exact nX (hJ0_8 (v129, v141) _ ⟨hHeld, (rM HO130.out (fun _ hk => hk.2)), (rM HO142.out (fun _ hk => hk.2)), (kX BK124.out), (kX BK125.out), (bX2 HB.out GE124.out GE125.out)⟩)
 }
 {
 skip
 refine Kd.R_lit_step (Kd.int .i64) _ 3 ?hg (N := 27) ?hd (xs := ([] : List Int)) (inner := []) (ok := fun _ => True) (okp := fun _ => True) ?hr ?hp (fun _ hk => hk) trivial (Below.refl _ _) (Nat.le_refl _) (by simp) ?_; (case hd => rfl); (case hg => rfl); (case hr => first | (go_simp; done) | (go_simp; rfl)); (case hp => exact (Reps.none _ _))
 intro v135 w20 ho21 hb hg_ hnew_
 clear hg_ hnew_
 (first | rw [← Ny134.out] at ho21 | (simp only [Int.reduceToNat] at ho21; rw [← Ny134.out] at ho21))
 have n0_ := Aside0.mk (Kd.R_elder' (rX HO142.out) (Kd.R_base ho21) hb)
 have n1_ := Aside0.mk (Kd.R_lower (Kd.R_new' ho21 (Kd.R_lt (rX HO142.out))) (below_size (bX2 HB.out GE124.out GE125.out)))
 have n2_ := Aside0.mk (bbX BK124.out hb)
 have n3_ := Aside0.mk (bbX BK125.out hb)
 have n4_ := Aside0.mk (below_step (bX2 HB.out GE124.out GE125.out) hb)
 clear HO142 BK124 BK125 HB
 have HO142 := n0_
 have HO136 := n1_
 have BK124 := n2_
 have BK125 := n3_
 have HB := n4_
 clear n0_ n1_ n2_ n3_ n4_ hb ho21
 refine hK.out _ _ ⟨cz30 BK124.out, cz31 BK124.out, cz32 BK124.out⟩ (fun hHeld => ?_)
 clear hK K
 refine norm_ (a' := ?_) ?_ ?_
 rotate_left
 {
 show Act.put _ (some 27) _ = _
 simp only [Act.put, zA, zB, zC, i64_w, i32_w]
 rfl
 }
 exact nX (hJ4_8 (v135, v141) _ ⟨hHeld, (rM HO136.out (fun _ hk => hk.2)), (rM HO142.out (fun _ hk => hk.2)), (kX BK124.out), (kX BK125.out), (bX2 HB.out GE124.out GE125.out)⟩)
 }
 {
 skip
 refine box_step ?hg (N := 6) ?hd (cs := #[.slice none 0 0, .slice none 0 0, .slice none 0 0]) (t := 26) ?hr ?_; (case hd => rfl); (case hg => rfl); (case hr => first | (go_simp; done) | (go_simp; rfl))
 intro gb146 hg w20 hbox hb
 have n0_ := Aside0.mk (Kd.R_below (rX HO142.out) hb)
 have n1_ := Aside0.mk (bbX BK124.out hb)
 have n2_ := Aside0.mk (bbX BK125.out hb)
 have n3_ := Aside0.mk (below_step (bX2 HB.out GE124.out GE125.out) hb)
 have n4_ := Aside0.mk (hbox)
 have n5_ := Aside0.mk ((szX (below_size (bX2 HB.out GE124.out GE125.out)) hg : w.heap.size ≤ gb146))
 have n6_ := Aside0.mk ((szX (below_size (bX2 HB.out GE124.out GE125.out)) hg : w.heap.size ≤ gb146))
 have n7_ := Aside0.mk (neX BK124.out hg)
 have n8_ := Aside0.mk (nfX BK124.out hg)
 have n9_ := Aside0.mk (neX BK125.out hg)
 have n10_ := Aside0.mk (nfX BK125.out hg)
 clear HO142 BK124 BK125 HB
 have HO142 := n0_
 have BK124 := n1_
 have BK125 := n2_
 have HB := n3_
 have BK146 := n4_
 have GW146 := n5_
 have GE146 := n6_
 have NB124_146 := n7_
 have NB146_124 := n8_
 have NB125_146 := n9_
 have NB146_125 := n10_
 clear n0_ n1_ n2_ n3_ n4_ n5_ n6_ n7_ n8_ n9_ n10_ hb hbox hg
 refine hK.out _ _ ⟨cz30 BK124.out, cz31 BK124.out, cz32 BK124.out⟩ (fun hHeld => ?_)
 clear hK K
 refine norm_ (a' := ?_) ?_ ?_
 rotate_left
 {
 show Act.put _ (some 6) _ = _
 simp only [Act.put, zA, zB, zC, i64_w, i32_w]
 rfl
 }
 exact nX (hJ8_13 (v141, gb146) _ ⟨hHeld, (rX HO142.out), (kX BK124.out), (kX BK125.out), (kX BK146.out), GW146.out, GE146.out, NB124_146.out, NB146_124.out, NB125_146.out, NB146_125.out, (bX3 HB.out GE124.out GE125.out GE146.out)⟩)
 }
 }
 }
 {
 skip
 rintro v135 w19 ⟨hS_, h0_, h1_, h2_, h3_⟩
 have n0_ : Aside0 (Kd.R (Kd.int .i64) 3 w19 w.heap.size (fun _ => True) v135 y134) := ⟨h0_⟩
 have n1_ : Aside0 (w19.heap[gb124]? = some (.cells #[.slice A0_0 l0_0.length c0_0, .slice (some ad126) l0_1.length c0_1, .slice (some ad127) l0_2.length c0_2] 26 (0, 0))) := ⟨h1_⟩
 have n2_ : Aside0 (w19.heap[gb125]? = some (.cells #[.slice none 0 0, .slice none 0 0, .slice none 0 0] 26 (0, 0))) := ⟨h2_⟩
 have n3_ : Aside0 (Below w.heap.size w w19) := ⟨h3_⟩
 clear BK124 BK125 HB h0_ h1_ h2_ h3_
 have HO136 := n0_
 have BK124 := n1_
 have BK125 := n2_
 have HB := n3_
 clear n0_ n1_ n2_ n3_
 have hHeld : w19.cell? ⟨gb124, 0, none⟩ = some (.slice A0_0 l0_0.length c0_0) ∧ w19.cell? ⟨gb124, 1, none⟩ = some (.slice (some ad126) l0_1.length c0_1) ∧ w19.cell? ⟨gb124, 2, none⟩ = some (.slice (some ad127) l0_2.length c0_2) := hS_
 refine norm_ (a' := ?_) ?_ ?_
 rotate_left
 {
 simp only [putAll, Act.put, List.setIfInBounds_toArray, List.set_cons_zero, List.set_cons_succ]
 rfl
 }
 refine three_ (i := 0) (j := 8) (k := 13) (Ni := some 23) (Nj := some 31) (Nk := some 6) #[tt,tt,tt,ff,tt,tt,tt,ff,ff,tt,tt,ff,ff,ff,ff] #[ff,tt,tt,ff,tt,tt,tt,ff,tt,tt,tt,ff,ff,ff,ff] #[ff,tt,tt,ff,tt,tt,tt,ff,ff,tt,tt,ff,ff,tt,ff] rfl rfl rfl rfl rfl rfl (three_of HT_.out (by kernel_rfl)) (by decide) (by decide) (by decide) (fun K hK => ?_) (fun K hK => ?_) (fun K hK => ?_)
 {
 skip
 refine Kd.R_lit_step (Kd.int .i64) _ 3 ?hg (N := 23) ?hd (xs := ([] : List Int)) (inner := []) (ok := fun _ => True) (okp := fun _ => True) ?hr ?hp (fun _ hk => hk) trivial (Below.refl _ _) (Nat.le_refl _) (by simp) ?_; (case hd => rfl); (case hg => rfl); (case hr => first | (go_simp; done) | (go_simp; rfl)); (case hp => exact (Reps.none _ _))
 intro v129 w20 ho21 hb hg_ hnew_
 clear hg_ hnew_
 (first | rw [← Ny128.out] at ho21 | (simp only [Int.reduceToNat] at ho21; rw [← Ny128.out] at ho21))
 have n0_ := Aside0.mk (Kd.R_elder' (rX HO136.out) (Kd.R_base ho21) hb)
 have n1_ := Aside0.mk (Kd.R_lower (Kd.R_new' ho21 (Kd.R_lt (rX HO136.out))) (below_size (bX2 HB.out GE124.out GE125.out)))
 have n2_ := Aside0.mk (bbX BK124.out hb)
 have n3_ := Aside0.mk (bbX BK125.out hb)
 have n4_ := Aside0.mk (below_step (bX2 HB.out GE124.out GE125.out) hb)
 clear HO136 BK124 BK125 HB
 have HO136 := n0_
 have HO130 := n1_
 have BK124 := n2_
 have BK125 := n3_
 have HB := n4_
 clear n0_ n1_ n2_ n3_ n4_ hb ho21
 refine hK.out _ _ ⟨cz30 BK124.out, cz31 BK124.out, cz32 BK124.out⟩ (fun hHeld => ?_)
 clear hK K
 refine norm_ (a' := ?_) ?_ ?_
 rotate_left
 {
 show Act.put _ (some 23) _ = _
 simp only [Act.put, zA, zB, zC, i64_w, i32_w]
 rfl
 }
 exact nX (hJ0_4 (v129, v135) _ ⟨hHeld, (rM HO130.out (fun _ hk => hk.2)), (rM HO136.out (fun _ hk => hk.2)), (kX BK124.out), (kX BK125.out), (bX2 HB.out GE124.out GE125.out)⟩)
 }
 {
 skip
 refine Kd.R_lit_step (Kd.int .i64) _ 3 ?hg (N := 31) ?hd (xs := ([] : List Int)) (inner := []) (ok := fun _ => True) (okp := fun _ => True) ?hr ?hp (fun _ hk => hk) trivial (Below.refl _ _) (Nat.le_refl _) (by simp) ?_; (case hd => rfl); (case hg => rfl); (case hr => first | (go_simp; done) | (go_simp; rfl)); (case hp => exact (Reps.none _ _))
 intro v141 w20 ho21 hb hg_ hnew_
 clear hg_ hnew_
 (first | rw [← Ny140.out] at ho21 | (simp only [Int.reduceToNat] at ho21; rw [← Ny140.out] at ho21))
 have n0_ := Aside0.mk (Kd.R_elder' (rX HO136.out) (Kd.R_base ho21) hb)
 have n1_ := Aside0.mk (Kd.R_lower (Kd.R_new' ho21 (Kd.R_lt (rX HO136.out))) (below_size (bX2 HB.out GE124.out GE125.out)))
 have n2_ := Aside0.mk (bbX BK124.out hb)
 have n3_ := Aside0.mk (bbX BK125.out hb)
 have n4_ := Aside0.mk (below_step (bX2 HB.out GE124.out GE125.out) hb)
 clear HO136 BK124 BK125 HB
 have HO136 := n0_
 have HO142 := n1_
 have BK124 := n2_
 have BK125 := n3_
 have HB := n4_
 clear n0_ n1_ n2_ n3_ n4_ hb ho21
 refine hK.out _ _ ⟨cz30 BK124.out, cz31 BK124.out, cz32 BK124.out⟩ (fun hHeld => ?_)
 clear hK K
 refine norm_ (a' := ?_) ?_ ?_
 rotate_left
 {
 show Act.put _ (some 31) _ = _
 simp only [Act.put, zA, zB, zC, i64_w, i32_w]
 rfl
 }
 exact nX (hJ4_8 (v135, v141) _ ⟨hHeld, (rM HO136.out (fun _ hk => hk.2)), (rM HO142.out (fun _ hk => hk.2)), (kX BK124.out), (kX BK125.out), (bX2 HB.out GE124.out GE125.out)⟩)
 }
 {
 skip
 refine box_step ?hg (N := 6) ?hd (cs := #[.slice none 0 0, .slice none 0 0, .slice none 0 0]) (t := 26) ?hr ?_; (case hd => rfl); (case hg => rfl); (case hr => first | (go_simp; done) | (go_simp; rfl))
 intro gb146 hg w20 hbox hb
 have n0_ := Aside0.mk (Kd.R_below (rX HO136.out) hb)
 have n1_ := Aside0.mk (bbX BK124.out hb)
 have n2_ := Aside0.mk (bbX BK125.out hb)
 have n3_ := Aside0.mk (below_step (bX2 HB.out GE124.out GE125.out) hb)
 have n4_ := Aside0.mk (hbox)
 have n5_ := Aside0.mk ((szX (below_size (bX2 HB.out GE124.out GE125.out)) hg : w.heap.size ≤ gb146))
 have n6_ := Aside0.mk ((szX (below_size (bX2 HB.out GE124.out GE125.out)) hg : w.heap.size ≤ gb146))
 have n7_ := Aside0.mk (neX BK124.out hg)
 have n8_ := Aside0.mk (nfX BK124.out hg)
 have n9_ := Aside0.mk (neX BK125.out hg)
 have n10_ := Aside0.mk (nfX BK125.out hg)
 clear HO136 BK124 BK125 HB
 have HO136 := n0_
 have BK124 := n1_
 have BK125 := n2_
 have HB := n3_
 have BK146 := n4_
 have GW146 := n5_
 have GE146 := n6_
 have NB124_146 := n7_
 have NB146_124 := n8_
 have NB125_146 := n9_
 have NB146_125 := n10_
 clear n0_ n1_ n2_ n3_ n4_ n5_ n6_ n7_ n8_ n9_ n10_ hb hbox hg
 refine hK.out _ _ ⟨cz30 BK124.out, cz31 BK124.out, cz32 BK124.out⟩ (fun hHeld => ?_)
 clear hK K
 refine norm_ (a' := ?_) ?_ ?_
 rotate_left
 {
 show Act.put _ (some 6) _ = _
 simp only [Act.put, zA, zB, zC, i64_w, i32_w]
 rfl
 }
 exact nX (hJ4_13 (v135, gb146) _ ⟨hHeld, (rX HO136.out), (kX BK124.out), (kX BK125.out), (kX BK146.out), GW146.out, GE146.out, NB124_146.out, NB146_124.out, NB125_146.out, NB146_125.out, (bX3 HB.out GE124.out GE125.out GE146.out)⟩)
 }
 }
 }
 {
 skip
 rintro v129 w19 ⟨hS_, h0_, h1_, h2_, h3_⟩
 have n0_ : Aside0 (Kd.R (Kd.int .i64) 3 w19 w.heap.size (fun _ => True) v129 y128) := ⟨h0_⟩
 have n1_ : Aside0 (w19.heap[gb124]? = some (.cells #[.slice A0_0 l0_0.length c0_0, .slice (some ad126) l0_1.length c0_1, .slice (some ad127) l0_2.length c0_2] 26 (0, 0))) := ⟨h1_⟩
 have n2_ : Aside0 (w19.heap[gb125]? = some (.cells #[.slice none 0 0, .slice none 0 0, .slice none 0 0] 26 (0, 0))) := ⟨h2_⟩
 have n3_ : Aside0 (Below w.heap.size w w19) := ⟨h3_⟩
 clear BK124 BK125 HB h0_ h1_ h2_ h3_
 have HO130 := n0_
 have BK124 := n1_
 have BK125 := n2_
 have HB := n3_
 clear n0_ n1_ n2_ n3_
 have hHeld : w19.cell? ⟨gb124, 0, none⟩ = some (.slice A0_0 l0_0.length c0_0) ∧ w19.cell? ⟨gb124, 1, none⟩ = some (.slice (some ad126) l0_1.length c0_1) ∧ w19.cell? ⟨gb124, 2, none⟩ = some (.slice (some ad127) l0_2.length c0_2) := hS_
 refine norm_ (a' := ?_) ?_ ?_
 rotate_left
 {
 simp only [putAll, Act.put, List.setIfInBounds_toArray, List.set_cons_zero, List.set_cons_succ]
 rfl
 }
 refine four_ (i := 3) (j := 4) (k := 8) (m := 13) (Ni := some 26) (Nj := some 27) (Nk := some 31) (Nm := some 6) #[tt,tt,tt,tt,ff,tt,tt,ff,ff,tt,tt,ff,ff,ff,ff] #[tt,tt,tt,ff,tt,tt,tt,ff,ff,tt,tt,ff,ff,ff,ff] #[tt,tt,tt,ff,ff,tt,tt,ff,tt,tt,tt,ff,ff,ff,ff] #[tt,tt,tt,ff,ff,tt,tt,ff,ff,tt,tt,ff,ff,tt,ff] rfl rfl rfl rfl rfl rfl rfl rfl (four_of HT_.out (by kernel_rfl)) (by decide) (by decide) (by decide) (by decide) (fun K hK => ?_) (fun K hK => ?_) (fun K hK => ?_) (fun K hK => ?_)
 {
 skip
 refine Kd.R_append_rows_step (Kd.int .i64) (w0 := w) w.heap.size (by rfl) (.tmp 23) (.tmp 25) 22 3 (.int .i64 0) 8 rfl Try.underlying22 info3 rfl (by decide) (by omega) v129 y128 l0_0 _ _ _ (fun _ => True) (fun _ => False) rfl rfl ?aO ?aR (fun _ _ h => h) (fun _ h => h.elim) ?aF ?aB ?aS ?aL ?_
 (case aR => exact cX (Kd.C_below HR0_0.out HB.out))
 (case aB => exact (bX2 HB.out GE124.out GE125.out))
 (case aF => exact (fun _ _ => trivial))
 (case aO => exact (rX HO130.out))
 (case aS => exact (below_size (bX2 HB.out GE124.out GE125.out)))
 (case aL => have := LMc8.out; omega)
 intro v132 w20 ho hb hg hat
 rw [← Ny131.out] at ho
 have n0_ := Aside0.mk (bgX BK124.out hg (Kd.R_ne HO130.out BK124.out (by decide)))
 have n1_ := Aside0.mk (bgX BK125.out hg (Kd.R_ne HO130.out BK125.out (by decide)))
 have n2_ := Aside0.mk (hb)
 have n3_ := Aside0.mk (ho)
 clear BK124 BK125 HB HO130
 have BK124 := n0_
 have BK125 := n1_
 have HB := n2_
 have HO133 := n3_
 clear n0_ n1_ n2_ n3_ ho hb hg hat
 refine hK.out _ _ ⟨cz30 BK124.out, cz31 BK124.out, cz32 BK124.out⟩ (fun hHeld => ?_)
 clear hK K
 refine norm_ (a' := ?_) ?_ ?_
 rotate_left
 {
 show Act.put _ (some 26) _ = _
 simp only [Act.put, zA, zB, zC, i64_w, i32_w]
 rfl
 }
 exact nX (hJ0_3 (v129, v132) _ ⟨hHeld, (rX HO133.out), (kX BK124.out), (kX BK125.out), (bX2 HB.out GE124.out GE125.out)⟩)
 }
 {
 skip
 refine Kd.R_lit_step (Kd.int .i64) _ 3 ?hg (N := 27) ?hd (xs := ([] : List Int)) (inner := []) (ok := fun _ => True) (okp := fun _ => True) ?hr ?hp (fun _ hk => hk) trivial (Below.refl _ _) (Nat.le_refl _) (by simp) ?_; (case hd => rfl); (case hg => rfl); (case hr => first | (go_simp; done) | (go_simp; rfl)); (case hp => exact (Reps.none _ _))
 intro v135 w20 ho21 hb hg_ hnew_
 clear hg_ hnew_
 (first | rw [← Ny134.out] at ho21 | (simp only [Int.reduceToNat] at ho21; rw [← Ny134.out] at ho21))
 have n0_ := Aside0.mk (Kd.R_elder' (rX HO130.out) (Kd.R_base ho21) hb)
 have n1_ := Aside0.mk (Kd.R_lower (Kd.R_new' ho21 (Kd.R_lt (rX HO130.out))) (below_size (bX2 HB.out GE124.out GE125.out)))
 have n2_ := Aside0.mk (bbX BK124.out hb)
 have n3_ := Aside0.mk (bbX BK125.out hb)
 have n4_ := Aside0.mk (below_step (bX2 HB.out GE124.out GE125.out) hb)
 clear HO130 BK124 BK125 HB
 have HO130 := n0_
 have HO136 := n1_
 have BK124 := n2_
 have BK125 := n3_
 have HB := n4_
 clear n0_ n1_ n2_ n3_ n4_ hb ho21
 refine hK.out _ _ ⟨cz30 BK124.out, cz31 BK124.out, cz32 BK124.out⟩ (fun hHeld => ?_)
 clear hK K
 refine norm_ (a' := ?_) ?_ ?_
 rotate_left
 {
 show Act.put _ (some 27) _ = _
 simp only [Act.put, zA, zB, zC, i64_w, i32_w]
 rfl
 }
 exact nX (hJ0_4 (v129, v135) _ ⟨hHeld, (rM HO130.out (fun _ hk => hk.2)), (rM HO136.out (fun _ hk => hk.2)), (kX BK124.out), (kX BK125.out), (bX2 HB.out GE124.out GE125.out)⟩)
 }
 {
 skip
 refine Kd.R_lit_step (Kd.int .i64) _ 3 ?hg (N := 31) ?hd (xs := ([] : List Int)) (inner := []) (ok := fun _ => True) (okp := fun _ => True) ?hr ?hp (fun _ hk => hk) trivial (Below.refl _ _) (Nat.le_refl _) (by simp) ?_; (case hd => rfl); (case hg => rfl); (case hr => first | (go_simp; done) | (go_simp; rfl)); (case hp => exact (Reps.none _ _))
 intro v141 w20 ho21 hb hg_ hnew_
 clear hg_ hnew_
 (first | rw [← Ny140.out] at ho21 | (simp only [Int.reduceToNat] at ho21; rw [← Ny140.out] at ho21))
 have n0_ := Aside0.mk (Kd.R_elder' (rX HO130.out) (Kd.R_base ho21) hb)
 have n1_ := Aside0.mk (Kd.R_lower (Kd.R_new' ho21 (Kd.R_lt (rX HO130.out))) (below_size (bX2 HB.out GE124.out GE125.out)))
 have n2_ := Aside0.mk (bbX BK124.out hb)
 have n3_ := Aside0.mk (bbX BK125.out hb)
 have n4_ := Aside0.mk (below_step (bX2 HB.out GE124.out GE125.out) hb)
 clear HO130 BK124 BK125 HB
 have HO130 := n0_
 have HO142 := n1_
 have BK124 := n2_
 have BK125 := n3_
 have HB := n4_
 clear n0_ n1_ n2_ n3_ n4_ hb ho21
 refine hK.out _ _ ⟨cz30 BK124.out, cz31 BK124.out, cz32 BK124.out⟩ (fun hHeld => ?_)
 clear hK K
 refine norm_ (a' := ?_) ?_ ?_
 rotate_left
 {
 show Act.put _ (some 31) _ = _
 simp only [Act.put, zA, zB, zC, i64_w, i32_w]
 rfl
 }
 exact nX (hJ0_8 (v129, v141) _ ⟨hHeld, (rM HO130.out (fun _ hk => hk.2)), (rM HO142.out (fun _ hk => hk.2)), (kX BK124.out), (kX BK125.out), (bX2 HB.out GE124.out GE125.out)⟩)
 }
 {
 skip
 refine box_step ?hg (N := 6) ?hd (cs := #[.slice none 0 0, .slice none 0 0, .slice none 0 0]) (t := 26) ?hr ?_; (case hd => rfl); (case hg => rfl); (case hr => first | (go_simp; done) | (go_simp; rfl))
 intro gb146 hg w20 hbox hb
 have n0_ := Aside0.mk (Kd.R_below (rX HO130.out) hb)
 have n1_ := Aside0.mk (bbX BK124.out hb)
 have n2_ := Aside0.mk (bbX BK125.out hb)
 have n3_ := Aside0.mk (below_step (bX2 HB.out GE124.out GE125.out) hb)
 have n4_ := Aside0.mk (hbox)
 have n5_ := Aside0.mk ((szX (below_size (bX2 HB.out GE124.out GE125.out)) hg : w.heap.size ≤ gb146))
 have n6_ := Aside0.mk ((szX (below_size (bX2 HB.out GE124.out GE125.out)) hg : w.heap.size ≤ gb146))
 have n7_ := Aside0.mk (neX BK124.out hg)
 have n8_ := Aside0.mk (nfX BK124.out hg)
 have n9_ := Aside0.mk (neX BK125.out hg)
 have n10_ := Aside0.mk (nfX BK125.out hg)
 clear HO130 BK124 BK125 HB
 have HO130 := n0_
 have BK124 := n1_
 have BK125 := n2_
 have HB := n3_
 have BK146 := n4_
 have GW146 := n5_
 have GE146 := n6_
 have NB124_146 := n7_
 have NB146_124 := n8_
 have NB125_146 := n9_
 have NB146_125 := n10_
 clear n0_ n1_ n2_ n3_ n4_ n5_ n6_ n7_ n8_ n9_ n10_ hb hbox hg
 refine hK.out _ _ ⟨cz30 BK124.out, cz31 BK124.out, cz32 BK124.out⟩ (fun hHeld => ?_)
 clear hK K
 refine norm_ (a' := ?_) ?_ ?_
 rotate_left
 {
 show Act.put _ (some 6) _ = _
 simp only [Act.put, zA, zB, zC, i64_w, i32_w]
 rfl
 }
 exact nX (hJ0_13 (v129, gb146) _ ⟨hHeld, (rX HO130.out), (kX BK124.out), (kX BK125.out), (kX BK146.out), GW146.out, GE146.out, NB124_146.out, NB146_124.out, NB125_146.out, NB146_125.out, (bX3 HB.out GE124.out GE125.out GE146.out)⟩)
 }
 }
 }
 {
 skip
 rintro ⟨v141, gb146⟩ w20 ⟨hS_, h0_, h1_, h2_, h3_, h4_, h5_, h6_, h7_, h8_, h9_, h10_⟩
 have n0_ : Aside0 (Kd.R (Kd.int .i64) 3 w20 w.heap.size (fun _ => True) v141 y140) := ⟨h0_⟩
 have n1_ : Aside0 (w20.heap[gb124]? = some (.cells #[.slice A0_0 l0_0.length c0_0, .slice (some ad126) l0_1.length c0_1, .slice (some ad127) l0_2.length c0_2] 26 (0, 0))) := ⟨h1_⟩
 have n2_ : Aside0 (w20.heap[gb125]? = some (.cells #[.slice none 0 0, .slice none 0 0, .slice none 0 0] 26 (0, 0))) := ⟨h2_⟩
 have n3_ : Aside0 (w20.heap[gb146]? = some (.cells #[.slice none 0 0, .slice none 0 0, .slice none 0 0] 26 (0, 0))) := ⟨h3_⟩
 have n4_ : Aside0 (w.heap.size ≤ gb146) := ⟨h4_⟩
 have n5_ : Aside0 (w.heap.size ≤ gb146) := ⟨h5_⟩
 have n6_ : Aside0 (gb124 ≠ gb146) := ⟨h6_⟩
 have n7_ : Aside0 (gb146 ≠ gb124) := ⟨h7_⟩
 have n8_ : Aside0 (gb125 ≠ gb146) := ⟨h8_⟩
 have n9_ : Aside0 (gb146 ≠ gb125) := ⟨h9_⟩
 have n10_ : Aside0 (Below w.heap.size w w20) := ⟨h10_⟩
 clear BK124 BK125 HB h0_ h1_ h2_ h3_ h4_ h5_ h6_ h7_ h8_ h9_ h10_
 have HO142 := n0_
 have BK124 := n1_
 have BK125 := n2_
 have BK146 := n3_
 have GW146 := n4_
 have GE146 := n5_
 have NB124_146 := n6_
 have NB146_124 := n7_
 have NB125_146 := n8_
 have NB146_125 := n9_
 have HB := n10_
 clear n0_ n1_ n2_ n3_ n4_ n5_ n6_ n7_ n8_ n9_ n10_
 have hHeld : w20.cell? ⟨gb124, 0, none⟩ = some (.slice A0_0 l0_0.length c0_0) ∧ w20.cell? ⟨gb124, 1, none⟩ = some (.slice (some ad126) l0_1.length c0_1) ∧ w20.cell? ⟨gb124, 2, none⟩ = some (.slice (some ad127) l0_2.length c0_2) := hS_
 refine norm_ (a' := ?_) ?_ ?_
 rotate_left
 {
 simp only [putAll, Act.put, List.setIfInBounds_toArray, List.set_cons_zero, List.set_cons_succ]
 rfl
 }
 refine two_ (i := 0) (j := 4) (Ni := some 23) (Nj := some 27) #[tt,tt,tt,ff,ff,tt,tt,ff,tt,tt,tt,ff,ff,tt,ff] #[ff,tt,tt,ff,tt,tt,tt,ff,tt,tt,tt,ff,ff,tt,ff] rfl rfl rfl rfl (two_of HT_.out (by kernel_rfl)) (by decide) (by decide) (fun K hK => ?_) (fun K hK => ?_)
 {
 skip
 refine Kd.R_lit_step (Kd.int .i64) _ 3 ?hg (N := 23) ?hd (xs := ([] : List Int)) (inner := []) (ok := fun _ => True) (okp := fun _ => True) ?hr ?hp (fun _ hk => hk) trivial (Below.refl _ _) (Nat.le_refl _) (by simp) ?_; (case hd => rfl); (case hg => rfl); (case hr => first | (go_simp; done) | (go_simp; rfl)); (case hp => exact (Reps.none _ _))
 intro v129 w21 ho22 hb hg_ hnew_
 clear hg_ hnew_
 (first | rw [← Ny128.out] at ho22 | (simp only [Int.reduceToNat] at ho22; rw [← Ny128.out] at ho22))
 have n0_ := Aside0.mk (Kd.R_elder' (rX HO142.out) (Kd.R_base ho22) hb)
 have n1_ := Aside0.mk (Kd.R_lower (Kd.R_new' ho22 (Kd.R_lt (rX HO142.out))) (below_size (bX3 HB.out GE124.out GE125.out GE146.out)))
 have n2_ := Aside0.mk (bbX BK124.out hb)
 have n3_ := Aside0.mk (bbX BK125.out hb)
 have n4_ := Aside0.mk (bbX BK146.out hb)
 have n5_ := Aside0.mk (below_step (bX3 HB.out GE124.out GE125.out GE146.out) hb)
 clear HO142 BK124 BK125 BK146 HB
 have HO142 := n0_
 have HO130 := n1_
 have BK124 := n2_
 have BK125 := n3_
 have BK146 := n4_
 have HB := n5_
 clear n0_ n1_ n2_ n3_ n4_ n5_ hb ho22
 refine hK.out _ _ ⟨cz30 BK124.out, cz31 BK124.out, cz32 BK124.out⟩ (fun hHeld => ?_)
 clear hK K
 refine norm_ (a' := ?_) ?_ ?_
 rotate_left
 {
 show Act.put _ (some 23) _ = _
 simp only [Act.put, zA, zB, zC, i64_w, i32_w]
 rfl
 }
 exact nX (hJ0_8_13 (v129, v141, gb146) _ ⟨hHeld, (rM HO130.out (fun _ hk => hk.2)), (rM HO142.out (fun _ hk => hk.2)), (kX BK124.out), (kX BK125.out), (kX BK146.out), GW146.out, GE146.out, NB124_146.out, NB146_124.out, NB125_146.out, NB146_125.out, (bX3 HB.out GE124.out GE125.out GE146.out)⟩)
 }
 {
 skip
 refine Kd.R_lit_step (Kd.int .i64) _ 3 ?hg (N := 27) ?hd (xs := ([] : List Int)) (inner := []) (ok := fun _ => True) (okp := fun _ => True) ?hr ?hp (fun _ hk => hk) trivial (Below.refl _ _) (Nat.le_refl _) (by simp) ?_; (case hd => rfl); (case hg => rfl); (case hr => first | (go_simp; done) | (go_simp; rfl)); (case hp => exact (Reps.none _ _))
 intro v135 w21 ho22 hb hg_ hnew_
 clear hg_ hnew_
 (first | rw [← Ny134.out] at ho22 | (simp only [Int.reduceToNat] at ho22; rw [← Ny134.out] at ho22))
 have n0_ := Aside0.mk (Kd.R_elder' (rX HO142.out) (Kd.R_base ho22) hb)
 have n1_ := Aside0.mk (Kd.R_lower (Kd.R_new' ho22 (Kd.R_lt (rX HO142.out))) (below_size (bX3 HB.out GE124.out GE125.out GE146.out)))
 have n2_ := Aside0.mk (bbX BK124.out hb)
 have n3_ := Aside0.mk (bbX BK125.out hb)
 have n4_ := Aside0.mk (bbX BK146.out hb)
 have n5_ := Aside0.mk (below_step (bX3 HB.out GE124.out GE125.out GE146.out) hb)
 clear HO142 BK124 BK125 BK146 HB
 have HO142 := n0_
 have HO136 := n1_
 have BK124 := n2_
 have BK125 := n3_
 have BK146 := n4_
 have HB := n5_
 clear n0_ n1_ n2_ n3_ n4_ n5_ hb ho22
 refine hK.out _ _ ⟨cz30 BK124.out, cz31 BK124.out, cz32 BK124.out⟩ (fun hHeld => ?_)
 clear hK K
 refine norm_ (a' := ?_) ?_ ?_
 rotate_left
 {
 show Act.put _ (some 27) _ = _
 simp only [Act.put, zA, zB, zC, i64_w, i32_w]
 rfl
 }
 exact nX (hJ4_8_13 (v135, v141, gb146) _ ⟨hHeld, (rM HO136.out (fun _ hk => hk.2)), (rM HO142.out (fun _ hk => hk.2)), (kX BK124.out), (kX BK125.out), (kX BK146.out), GW146.out, GE146.out, NB124_146.out, NB146_124.out, NB125_146.out, NB146_125.out, (bX3 HB.out GE124.out GE125.out GE146.out)⟩)
 }
 }
 }
 {
 skip
 rintro ⟨v135, gb146⟩ w20 ⟨hS_, h0_, h1_, h2_, h3_, h4_, h5_, h6_, h7_, h8_, h9_, h10_⟩
 have n0_ : Aside0 (Kd.R (Kd.int .i64) 3 w20 w.heap.size (fun _ => True) v135 y134) := ⟨h0_⟩
 have n1_ : Aside0 (w20.heap[gb124]? = some (.cells #[.slice A0_0 l0_0.length c0_0, .slice (some ad126) l0_1.length c0_1, .slice (some ad127) l0_2.length c0_2] 26 (0, 0))) := ⟨h1_⟩
 have n2_ : Aside0 (w20.heap[gb125]? = some (.cells #[.slice none 0 0, .slice none 0 0, .slice none 0 0] 26 (0, 0))) := ⟨h2_⟩
 have n3_ : Aside0 (w20.heap[gb146]? = some (.cells #[.slice none 0 0, .slice none 0 0, .slice none 0 0] 26 (0, 0))) := ⟨h3_⟩
 have n4_ : Aside0 (w.heap.size ≤ gb146) := ⟨h4_⟩
 have n5_ : Aside0 (w.heap.size ≤ gb146) := ⟨h5_⟩
 have n6_ : Aside0 (gb124 ≠ gb146) := ⟨h6_⟩
 have n7_ : Aside0 (gb146 ≠ gb124) := ⟨h7_⟩
 have n8_ : Aside0 (gb125 ≠ gb146) := ⟨h8_⟩
 have n9_ : Aside0 (gb146 ≠ gb125) := ⟨h9_⟩
 have n10_ : Aside0 (Below w.heap.size w w20) := ⟨h10_⟩
 clear BK124 BK125 HB h0_ h1_ h2_ h3_ h4_ h5_ h6_ h7_ h8_ h9_ h10_
 have HO136 := n0_
 have BK124 := n1_
 have BK125 := n2_
 have BK146 := n3_
 have GW146 := n4_
 have GE146 := n5_
 have NB124_146 := n6_
 have NB146_124 := n7_
 have NB125_146 := n8_
 have NB146_125 := n9_
 have HB := n10_
 clear n0_ n1_ n2_ n3_ n4_ n5_ n6_ n7_ n8_ n9_ n10_
 have hHeld : w20.cell? ⟨gb124, 0, none⟩ = some (.slice A0_0 l0_0.length c0_0) ∧ w20.cell? ⟨gb124, 1, none⟩ = some (.slice (some ad126) l0_1.length c0_1) ∧ w20.cell? ⟨gb124, 2, none⟩ = some (.slice (some ad127) l0_2.length c0_2) := hS_
 refine norm_ (a' := ?_) ?_ ?_
 rotate_left
 {
 simp only [putAll, Act.put, List.setIfInBounds_toArray, List.set_cons_zero, List.set_cons_succ]
 rfl
 }
 refine two_ (i := 0) (j := 8) (Ni := some 23) (Nj := some 31) #[tt,tt,tt,ff,tt,tt,tt,ff,ff,tt,tt,ff,ff,tt,ff] #[ff,tt,tt,ff,tt,tt,tt,ff,tt,tt,tt,ff,ff,tt,ff] rfl rfl rfl rfl (two_of HT_.out (by kernel_rfl)) (by decide) (by decide) (fun K hK => ?_) (fun K hK => ?_)
 {
 skip
 refine Kd.R_lit_step (Kd.int .i64) _ 3 ?hg (N := 23) ?hd (xs := ([] : List Int)) (inner := []) (ok := fun _ => True) (okp := fun _ => True) ?hr ?hp (fun _ hk => hk) trivial (Below.refl _ _) (Nat.le_refl _) (by simp) ?_; (case hd => rfl); (case hg => rfl); (case hr => first | (go_simp; done) | (go_simp; rfl)); (case hp => exact (Reps.none _ _))
 intro v129 w21 ho22 hb hg_ hnew_
 clear hg_ hnew_
 (first | rw [← Ny128.out] at ho22 | (simp only [Int.reduceToNat] at ho22; rw [← Ny128.out] at ho22))
 have n0_ := Aside0.mk (Kd.R_elder' (rX HO136.out) (Kd.R_base ho22) hb)
 have n1_ := Aside0.mk (Kd.R_lower (Kd.R_new' ho22 (Kd.R_lt (rX HO136.out))) (below_size (bX3 HB.out GE124.out GE125.out GE146.out)))
 have n2_ := Aside0.mk (bbX BK124.out hb)
 have n3_ := Aside0.mk (bbX BK125.out hb)
 have n4_ := Aside0.mk (bbX BK146.out hb)
 have n5_ := Aside0.mk (below_step (bX3 HB.out GE124.out GE125.out GE146.out) hb)
 clear HO136 BK124 BK125 BK146 HB
 have HO136 := n0_
 have HO130 := n1_
 have BK124 := n2_
 have BK125 := n3_
 have BK146 := n4_
 have HB := n5_
 clear n0_ n1_ n2_ n3_ n4_ n5_ hb ho22
 refine hK.out _ _ ⟨cz30 BK124.out, cz31 BK124.out, cz32 BK124.out⟩ (fun hHeld => ?_)
 clear hK K
 refine norm_ (a' := ?_) ?_ ?_
 rotate_left
 {
 show Act.put _ (some 23) _ = _
 simp only [Act.put, zA, zB, zC, i64_w, i32_w]
 rfl
 }
 exact nX (hJ0_4_13 (v129, v135, gb146) _ ⟨hHeld, (rM HO130.out (fun _ hk => hk.2)), (rM HO136.out (fun _ hk => hk.2)), (kX BK124.out), (kX BK125.out), (kX BK146.out), GW146.out, GE146.out, NB124_146.out, NB146_124.out, NB125_146.out, NB146_125.out, (bX3 HB.out GE124.out GE125.out GE146.out)⟩)
 }
 {
 skip
 refine Kd.R_lit_step (Kd.int .i64) _ 3 ?hg (N := 31) ?hd (xs := ([] : List Int)) (inner := []) (ok := fun _ => True) (okp := fun _ => True) ?hr ?hp (fun _ hk => hk) trivial (Below.refl _ _) (Nat.le_refl _) (by simp) ?_; (case hd => rfl); (case hg => rfl); (case hr => first | (go_simp; done) | (go_simp; rfl)); (case hp => exact (Reps.none _ _))
 intro v141 w21 ho22 hb hg_ hnew_
 clear hg_ hnew_
 (first | rw [← Ny140.out] at ho22 | (simp only [Int.reduceToNat] at ho22; rw [← Ny140.out] at ho22))
 have n0_ := Aside0.mk (Kd.R_elder' (rX HO136.out) (Kd.R_base ho22) hb)
 have n1_ := Aside0.mk (Kd.R_lower (Kd.R_new' ho22 (Kd.R_lt (rX HO136.out))) (below_size (bX3 HB.out GE124.out GE125.out GE146.out)))
 have n2_ := Aside0.mk (bbX BK124.out hb)
 have n3_ := Aside0.mk (bbX BK125.out hb)
 have n4_ := Aside0.mk (bbX BK146.out hb)
 have n5_ := Aside0.mk (below_step (bX3 HB.out GE124.out GE125.out GE146.out) hb)
 clear HO136 BK124 BK125 BK146 HB
 have HO136 := n0_
 have HO142 := n1_
 have BK124 := n2_
 have BK125 := n3_
 have BK146 := n4_
 have HB := n5_
 clear n0_ n1_ n2_ n3_ n4_ n5_ hb ho22
 refine hK.out _ _ ⟨cz30 BK124.out, cz31 BK124.out, cz32 BK124.out⟩ (fun hHeld => ?_)
 clear hK K
 refine norm_ (a' := ?_) ?_ ?_
 rotate_left
 {
 show Act.put _ (some 31) _ = _
 simp only [Act.put, zA, zB, zC, i64_w, i32_w]
 rfl
 }
 exact nX (hJ4_8_13 (v135, v141, gb146) _ ⟨hHeld, (rM HO136.out (fun _ hk => hk.2)), (rM HO142.out (fun _ hk => hk.2)), (kX BK124.out), (kX BK125.out), (kX BK146.out), GW146.out, GE146.out, NB124_146.out, NB146_124.out, NB125_146.out, NB146_125.out, (bX3 HB.out GE124.out GE125.out GE146.out)⟩)
 }
 }
 }
 {
 skip
 rintro ⟨v135, v141⟩ w21 ⟨hS_, h0_, h1_, h2_, h3_, h4_⟩
 have n0_ : Aside0 (Kd.R (Kd.int .i64) 3 w21 w.heap.size (fun k_ => some k_ ≠ (v141 : Value).ownBlock) v135 y134) := ⟨h0_⟩
 have n1_ : Aside0 (Kd.R (Kd.int .i64) 3 w21 w.heap.size (fun k_ => some k_ ≠ (v135 : Value).ownBlock) v141 y140) := ⟨h1_⟩
 have n2_ : Aside0 (w21.heap[gb124]? = some (.cells #[.slice A0_0 l0_0.length c0_0, .slice (some ad126) l0_1.length c0_1, .slice (some ad127) l0_2.length c0_2] 26 (0, 0))) := ⟨h2_⟩
 have n3_ : Aside0 (w21.heap[gb125]? = some (.cells #[.slice none 0 0, .slice none 0 0, .slice none 0 0] 26 (0, 0))) := ⟨h3_⟩
 have n4_ : Aside0 (Below w.heap.size w w21) := ⟨h4_⟩
 clear BK124 BK125 HB h0_ h1_ h2_ h3_ h4_
 have HO136 := n0_
 have HO142 := n1_
 have BK124 := n2_
 have BK125 := n3_
 have HB := n4_
 clear n0_ n1_ n2_ n3_ n4_
 have hHeld : w21.cell? ⟨gb124, 0, none⟩ = some (.slice A0_0 l0_0.length c0_0) ∧ w21.cell? ⟨gb124, 1, none⟩ = some (.slice (some ad126) l0_1.length c0_1) ∧ w21.cell? ⟨gb124, 2, none⟩ = some (.slice (some ad127) l0_2.length c0_2) := hS_
 refine norm_ (a' := ?_) ?_ ?_
 rotate_left
 {
 simp only [putAll, Act.put, List.setIfInBounds_toArray, List.set_cons_zero, List.set_cons_succ]
 rfl
 }
 refine two_ (i := 0) (j := 13) (Ni := some 23) (Nj := some 6) #[tt,tt,tt,ff,tt,tt,tt,ff,tt,tt,tt,ff,ff,ff,ff] #[ff,tt,tt,ff,tt,tt,tt,ff,tt,tt,tt,ff,ff,tt,ff] rfl rfl rfl rfl (two_of HT_.out (by kernel_rfl)) (by decide) (by decide) (fun K hK => ?_) (fun K hK => ?_)
 {
 skip
 refine Kd.R_lit_step (Kd.int .i64) _ 3 ?hg (N := 23) ?hd (xs := ([] : List Int)) (inner := []) (ok := fun _ => True) (okp := fun _ => True) ?hr ?hp (fun _ hk => hk) trivial (Below.refl _ _) (Nat.le_refl _) (by simp) ?_; (case hd => rfl); (case hg => rfl); (case hr => first | (go_simp; done) | (go_simp; rfl)); (case hp => exact (Reps.none _ _))
 intro v129 w22 ho23 hb hg_ hnew_
 clear hg_ hnew_
 (first | rw [← Ny128.out] at ho23 | (simp only [Int.reduceToNat] at ho23; rw [← Ny128.out] at ho23))
 have n0_ := Aside0.mk (Kd.R_elder' (rX HO136.out) (Kd.R_base ho23) hb)
 have n1_ := Aside0.mk (Kd.R_elder' (rX HO142.out) (Kd.R_base ho23) hb)
 have n2_ := Aside0.mk (Kd.R_lower (Kd.R_new' (Kd.R_new' ho23 (Kd.R_lt (rX HO136.out))) (Kd.R_lt (rX HO142.out))) (below_size (bX2 HB.out GE124.out GE125.out)))
 have n3_ := Aside0.mk (bbX BK124.out hb)
 have n4_ := Aside0.mk (bbX BK125.out hb)
 have n5_ := Aside0.mk (below_step (bX2 HB.out GE124.out GE125.out) hb)
 clear HO136 HO142 BK124 BK125 HB
 have HO136 := n0_
 have HO142 := n1_
 have HO130 := n2_
 have BK124 := n3_
 have BK125 := n4_
 have HB := n5_
 clear n0_ n1_ n2_ n3_ n4_ n5_ hb ho23
 refine hK.out _ _ ⟨cz30 BK124.out, cz31 BK124.out, cz32 BK124.out⟩ (fun hHeld => ?_)
 clear hK K
 refine norm_ (a' := ?_) ?_ ?_
 rotate_left
 {
 show Act.put _ (some 23) _ = _
 simp only [Act.put, zA, zB, zC, i64_w, i32_w]
 rfl
 }
 exact nX (hJ0_4_8 (v129, v135, v141) _ ⟨hHeld, (rM HO130.out (fun _ hk => ⟨hk.1.2, hk.2⟩)), (rM HO136.out (fun _ hk => ⟨hk.2, hk.1⟩)), (rM HO142.out (fun _ hk => ⟨hk.2, hk.1⟩)), (kX BK124.out), (kX BK125.out), (bX2 HB.out GE124.out GE125.out)⟩)
 }
 {
 skip
 refine box_step ?hg (N := 6) ?hd (cs := #[.slice none 0 0, .slice none 0 0, .slice none 0 0]) (t := 26) ?hr ?_; (case hd => rfl); (case hg => rfl); (case hr => first | (go_simp; done) | (go_simp; rfl))
 intro gb146 hg w22 hbox hb
 have n0_ := Aside0.mk (Kd.R_below (rX HO136.out) hb)
 have n1_ := Aside0.mk (Kd.R_below (rX HO142.out) hb)
 have n2_ := Aside0.mk (bbX BK124.out hb)
 have n3_ := Aside0.mk (bbX BK125.out hb)
 have n4_ := Aside0.mk (below_step (bX2 HB.out GE124.out GE125.out) hb)
 have n5_ := Aside0.mk (hbox)
 have n6_ := Aside0.mk ((szX (below_size (bX2 HB.out GE124.out GE125.out)) hg : w.heap.size ≤ gb146))
 have n7_ := Aside0.mk ((szX (below_size (bX2 HB.out GE124.out GE125.out)) hg : w.heap.size ≤ gb146))
 have n8_ := Aside0.mk (neX BK124.out hg)
 have n9_ := Aside0.mk (nfX BK124.out hg)
 have n10_ := Aside0.mk (neX BK125.out hg)
 have n11_ := Aside0.mk (nfX BK125.out hg)
 clear HO136 HO142 BK124 BK125 HB
 have HO136 := n0_
 have HO142 := n1_
 have BK124 := n2_
 have BK125 := n3_
 have HB := n4_
 have BK146 := n5_
 have GW146 := n6_
 have GE146 := n7_
 have NB124_146 := n8_
 have NB146_124 := n9_
 have NB125_146 := n10_
 have NB146_125 := n11_
 clear n0_ n1_ n2_ n3_ n4_ n5_ n6_ n7_ n8_ n9_ n10_ n11_ hb hbox hg
 refine hK.out _ _ ⟨cz30 BK124.out, cz31 BK124.out, cz32 BK124.out⟩ (fun hHeld => ?_)
 clear hK K
 refine norm_ (a' := ?_) ?_ ?_
 rotate_left
 {
 show Act.put _ (some 6) _ = _
 simp only [Act.put, zA, zB, zC, i64_w, i32_w]
 rfl
 }
 exact nX (hJ4_8_13 (v135, v141, gb146) _ ⟨hHeld, (rX HO136.out), (rX HO142.out), (kX BK124.out), (kX BK125.out), (kX BK146.out), GW146.out, GE146.out, NB124_146.out, NB146_124.out, NB125_146.out, NB146_125.out, (bX3 HB.out GE124.out GE125.out GE146.out)⟩)
 }
 }
 }
 {
 skip
 rintro ⟨v129, gb146⟩ w20 ⟨hS_, h0_, h1_, h2_, h3_, h4_, h5_, h6_, h7_, h8_, h9_, h10_⟩
 have n0_ : Aside0 (Kd.R (Kd.int .i64) 3 w20 w.heap.size (fun _ => True) v129 y128) := ⟨h0_⟩
 have n1_ : Aside0 (w20.heap[gb124]? = some (.cells #[.slice A0_0 l0_0.length c0_0, .slice (some ad126) l0_1.length c0_1, .slice (some ad127) l0_2.length c0_2] 26 (0, 0))) := ⟨h1_⟩
 have n2_ : Aside0 (w20.heap[gb125]? = some (.cells #[.slice none 0 0, .slice none 0 0, .slice none 0 0] 26 (0, 0))) := ⟨h2_⟩
 have n3_ : Aside0 (w20.heap[gb146]? = some (.cells #[.slice none 0 0, .slice none 0 0, .slice none 0 0] 26 (0, 0))) := ⟨h3_⟩
 have n4_ : Aside0 (w.heap.size ≤ gb146) := ⟨h4_⟩
 have n5_ : Aside0 (w.heap.size ≤ gb146) := ⟨h5_⟩
 have n6_ : Aside0 (gb124 ≠ gb146) := ⟨h6_⟩
 have n7_ : Aside0 (gb146 ≠ gb124) := ⟨h7_⟩
 have n8_ : Aside0 (gb125 ≠ gb146) := ⟨h8_⟩
 have n9_ : Aside0 (gb146 ≠ gb125) := ⟨h9_⟩
 have n10_ : Aside0 (Below w.heap.size w w20) := ⟨h10_⟩
 clear BK124 BK125 HB h0_ h1_ h2_ h3_ h4_ h5_ h6_ h7_ h8_ h9_ h10_
 have HO130 := n0_
 have BK124 := n1_
 have BK125 := n2_
 have BK146 := n3_
 have GW146 := n4_
 have GE146 := n5_
 have NB124_146 := n6_
 have NB146_124 := n7_
 have NB125_146 := n8_
 have NB146_125 := n9_
 have HB := n10_
 clear n0_ n1_ n2_ n3_ n4_ n5_ n6_ n7_ n8_ n9_ n10_
 have hHeld : w20.cell? ⟨gb124, 0, none⟩ = some (.slice A0_0 l0_0.length c0_0) ∧ w20.cell? ⟨gb124, 1, none⟩ = some (.slice (some ad126) l0_1.length c0_1) ∧ w20.cell? ⟨gb124, 2, none⟩ = some (.slice (some ad127) l0_2.length c0_2) := hS_
 refine norm_ (a' := ?_) ?_ ?_
 rotate_left
 {
 simp only [putAll, Act.put, List.setIfInBounds_toArray, List.set_cons_zero, List.set_cons_succ]
 rfl
 }
 refine three_ (i := 3) (j := 4) (k := 8) (Ni := some 26) (Nj := some 27) (Nk := some 31) #[tt,tt,tt,tt,ff,tt,tt,ff,ff,tt,tt,ff,ff,tt,ff] #[tt,tt,tt,ff,tt,tt,tt,ff,ff,tt,tt,ff,ff,tt,ff] #[tt,tt,tt,ff,ff,tt,tt,ff,tt,tt,tt,ff,ff,tt,ff] rfl rfl rfl rfl rfl rfl (three_of HT_.out (by kernel_rfl)) (by decide) (by decide) (by decide) (fun K hK => ?_) (fun K hK => ?_) (fun K hK => ?_)
 {
 skip
 refine Kd.R_append_rows_step (Kd.int .i64) (w0 := w) w.heap.size (by rfl) (.tmp 23) (.tmp 25) 22 3 (.int .i64 0) 8 rfl Try.underlying22 info3 rfl (by decide) (by omega) v129 y128 l0_0 _ _ _ (fun _ => True) (fun _ => False) rfl rfl ?aO ?aR (fun _ _ h => h) (fun _ h => h.elim) ?aF ?aB ?aS ?aL ?_
 (case aR => exact cX (Kd.C_below HR0_0.out HB.out))
 (case aB => exact (bX3 HB.out GE124.out GE125.out GE146.out))
 (case aF => exact (fun _ _ => trivial))
 (case aO => exact (rX HO130.out))
 (case aS => exact (below_size (bX3 HB.out GE124.out GE125.out GE146.out)))
 (case aL => have := LMc8.out; omega)
 intro v132 w21 ho hb hg hat
 rw [← Ny131.out] at ho
 have n0_ := Aside0.mk (bgX BK124.out hg (Kd.R_ne HO130.out BK124.out (by decide)))
 have n1_ := Aside0.mk (bgX BK125.out hg (Kd.R_ne HO130.out BK125.out (by decide)))
 have n2_ := Aside0.mk (bgX BK146.out hg (Kd.R_ne HO130.out BK146.out (by decide)))
 have n3_ := Aside0.mk (hb)
 have n4_ := Aside0.mk (ho)
 clear BK124 BK125 BK146 HB HO130
 have BK124 := n0_
 have BK125 := n1_
 have BK146 := n2_
 have HB := n3_
 have HO133 := n4_
 clear n0_ n1_ n2_ n3_ n4_ ho hb hg hat
 refine hK.out _ _ ⟨cz30 BK124.out, cz31 BK124.out, cz32 BK124.out⟩ (fun hHeld => ?_)
 clear hK K
 refine norm_ (a' := ?_) ?_ ?_
 rotate_left
 {
 show Act.put _ (some 26) _ = _
 simp only [Act.put, zA, zB, zC, i64_w, i32_w]
 rfl
 }
 exact nX (hJ0_3_13 (v129, v132, gb146) _ ⟨hHeld, (rX HO133.out), (kX BK124.out), (kX BK125.out), (kX BK146.out), GW146.out, GE146.out, NB124_146.out, NB146_124.out, NB125_146.out, NB146_125.out, (bX3 HB.out GE124.out GE125.out GE146.out)⟩)
 }
 {
 skip
 refine Kd.R_lit_step (Kd.int .i64) _ 3 ?hg (N := 27) ?hd (xs := ([] : List Int)) (inner := []) (ok := fun _ => True) (okp := fun _ => True) ?hr ?hp (fun _ hk => hk) trivial (Below.refl _ _) (Nat.le_refl _) (by simp) ?_; (case hd => rfl); (case hg => rfl); (case hr => first | (go_simp; done) | (go_simp; rfl)); (case hp => exact (Reps.none _ _))
 intro v135 w21 ho22 hb hg_ hnew_
 clear hg_ hnew_
 (first | rw [← Ny134.out] at ho22 | (simp only [Int.reduceToNat] at ho22; rw [← Ny134.out] at ho22))
 have n0_ := Aside0.mk (Kd.R_elder' (rX HO130.out) (Kd.R_base ho22) hb)
 have n1_ := Aside0.mk (Kd.R_lower (Kd.R_new' ho22 (Kd.R_lt (rX HO130.out))) (below_size (bX3 HB.out GE124.out GE125.out GE146.out)))
 have n2_ := Aside0.mk (bbX BK124.out hb)
 have n3_ := Aside0.mk (bbX BK125.out hb)
 have n4_ := Aside0.mk (bbX BK146.out hb)
 have n5_ := Aside0.mk (below_step (bX3 HB.out GE124.out GE125.out GE146.out) hb)
 clear HO130 BK124 BK125 BK146 HB
 have HO130 := n0_
 have HO136 := n1_
 have BK124 := n2_
 have BK125 := n3_
 have BK146 := n4_
 have HB := n5_
 clear n0_ n1_ n2_ n3_ n4_ n5_ hb ho22
 refine hK.out _ _ ⟨cz30 BK124.out, cz31 BK124.out, cz32 BK124.out⟩ (fun hHeld => ?_)
 clear hK K
 refine norm_ (a' := ?_) ?_ ?_
 rotate_left
 {
 show Act.put _ (some 27) _ = _
 simp only [Act.put, zA, zB, zC, i64_w, i32_w]
 rfl
 }
 exact nX (hJ0_4_13 (v129, v135, gb146) _ ⟨hHeld, (rM HO130.out (fun _ hk => hk.2)), (rM HO136.out (fun _ hk => hk.2)), (kX BK124.out), (kX BK125.out), (kX BK146.out), GW146.out, GE146.out, NB124_146.out, NB146_124.out, NB125_146.out, NB146_125.out, (bX3 HB.out GE124.out GE125.out GE146.out)⟩)
 }
 {
 skip
 refine Kd.R_lit_step (Kd.int .i64) _ 3 ?hg (N := 31) ?hd (xs := ([] : List Int)) (inner := []) (ok := fun _ => True) (okp := fun _ => True) ?hr ?hp (fun _ hk => hk) trivial (Below.refl _ _) (Nat.le_refl _) (by simp) ?_; (case hd => rfl); (case hg => rfl); (case hr => first | (go_simp; done) | (go_simp; rfl)); (case hp => exact (Reps.none _ _))
 intro v141 w21 ho22 hb hg_ hnew_
 clear hg_ hnew_
 (first | rw [← Ny140.out] at ho22 | (simp only [Int.reduceToNat] at ho22; rw [← Ny140.out] at ho22))
 have n0_ := Aside0.mk (Kd.R_elder' (rX HO130.out) (Kd.R_base ho22) hb)
 have n1_ := Aside0.mk (Kd.R_lower (Kd.R_new' ho22 (Kd.R_lt (rX HO130.out))) (below_size (bX3 HB.out GE124.out GE125.out GE146.out)))
 have n2_ := Aside0.mk (bbX BK124.out hb)
 have n3_ := Aside0.mk (bbX BK125.out hb)
 have n4_ := Aside0.mk (bbX BK146.out hb)
 have n5_ := Aside0.mk (below_step (bX3 HB.out GE124.out GE125.out GE146.out) hb)
 clear HO130 BK124 BK125 BK146 HB
 have HO130 := n0_
 have HO142 := n1_
 have BK124 := n2_
 have BK125 := n3_
 have BK146 := n4_
 have HB := n5_
 clear n0_ n1_ n2_ n3_ n4_ n5_ hb ho22
 refine hK.out _ _ ⟨cz30 BK124.out, cz31 BK124.out, cz32 BK124.out⟩ (fun hHeld => ?_)
 clear hK K
 refine norm_ (a' := ?_) ?_ ?_
 rotate_left
 {
 show Act.put _ (some 31) _ = _
 simp only [Act.put, zA, zB, zC, i64_w, i32_w]
 rfl
 }
 exact nX (hJ0_8_13 (v129, v141, gb146) _ ⟨hHeld, (rM HO130.out (fun _ hk => hk.2)), (rM HO142.out (fun _ hk => hk.2)), (kX BK124.out), (kX BK125.out), (kX BK146.out), GW146.out, GE146.out, NB124_146.out, NB146_124.out, NB125_146.out, NB146_125.out, (bX3 HB.out GE124.out GE125.out GE146.out)⟩)
 }
 }
 }
 {
 skip
 rintro ⟨v129, v141⟩ w21 ⟨hS_, h0_, h1_, h2_, h3_, h4_⟩
 have n0_ : Aside0 (Kd.R (Kd.int .i64) 3 w21 w.heap.size (fun k_ => some k_ ≠ (v141 : Value).ownBlock) v129 y128) := ⟨h0_⟩
 have n1_ : Aside0 (Kd.R (Kd.int .i64) 3 w21 w.heap.size (fun k_ => some k_ ≠ (v129 : Value).ownBlock) v141 y140) := ⟨h1_⟩
 have n2_ : Aside0 (w21.heap[gb124]? = some (.cells #[.slice A0_0 l0_0.length c0_0, .slice (some ad126) l0_1.length c0_1, .slice (some ad127) l0_2.length c0_2] 26 (0, 0))) := ⟨h2_⟩
 have n3_ : Aside0 (w21.heap[gb125]? = some (.cells #[.slice none 0 0, .slice none 0 0, .slice none 0 0] 26 (0, 0))) := ⟨h3_⟩
 have n4_ : Aside0 (Below w.heap.size w w21) := ⟨h4_⟩
 clear BK124 BK125 HB h0_ h1_ h2_ h3_ h4_
 have HO130 := n0_
 have HO142 := n1_
 have BK124 := n2_
 have BK125 := n3_
 have HB := n4_
 clear n0_ n1_ n2_ n3_ n4_
 have hHeld : w21.cell? ⟨gb124, 0, none⟩ = some (.slice A0_0 l0_0.length c0_0) ∧ w21.cell? ⟨gb124, 1, none⟩ = some (.slice (some ad126) l0_1.length c0_1) ∧ w21.cell? ⟨gb124, 2, none⟩ = some (.slice (some ad127) l0_2.length c0_2) := hS_
 refine norm_ (a' := ?_) ?_ ?_
 rotate_left
 {
 simp only [putAll, Act.put, List.setIfInBounds_toArray, List.set_cons_zero, List.set_cons_succ]
 rfl
 }
 refine three_ (i := 3) (j := 4) (k := 13) (Ni := some 26) (Nj := some 27) (Nk := some 6) #[tt,tt,tt,tt,ff,tt,tt,ff,tt,tt,tt,ff,ff,ff,ff] #[tt,tt,tt,ff,tt,tt,tt,ff,tt,tt,tt,ff,ff,ff,ff] #[tt,tt,tt,ff,ff,tt,tt,ff,tt,tt,tt,ff,ff,tt,ff] rfl rfl rfl rfl rfl rfl (three_of HT_.out (by kernel_rfl)) (by decide) (by decide) (by decide) (fun K hK => ?_) (fun K hK => ?_) (fun K hK => ?_)
 {
 skip
 refine Kd.R_append_rows_step (Kd.int .i64) (w0 := w) w.heap.size (by rfl) (.tmp 23) (.tmp 25) 22 3 (.int .i64 0) 8 rfl Try.underlying22 info3 rfl (by decide) (by omega) v129 y128 l0_0 _ _ _ (fun k_ => some k_ ≠ (v141 : Value).ownBlock) (fun _ => False) rfl rfl ?aO ?aR (fun _ _ h => h) (fun _ h => h.elim) ?aF ?aB ?aS ?aL ?_
 (case aR => exact cX (Kd.C_below HR0_0.out HB.out))
 (case aB => exact (bX2 HB.out GE124.out GE125.out))
 (case aF => exact (fun k_ hk => Kd.fresh' (Kd.R_lt (rX HO142.out)) k_ hk))
 (case aO => exact (rX HO130.out))
 (case aS => exact (below_size (bX2 HB.out GE124.out GE125.out)))
 (case aL => have := LMc8.out; omega)
 intro v132 w22 ho hb hg hat
 rw [← Ny131.out] at ho
 have n0_ := Aside0.mk (bgX BK124.out hg (Kd.R_ne HO130.out BK124.out (by decide)))
 have n1_ := Aside0.mk (bgX BK125.out hg (Kd.R_ne HO130.out BK125.out (by decide)))
 have n2_ := Aside0.mk (Kd.R_after (ok := (fun _ => True)) (rM HO142.out (fun _ hk => ⟨trivial, hk⟩)) hg hat)
 have n3_ := Aside0.mk (hb)
 have n4_ := Aside0.mk (ho)
 clear BK124 BK125 HO142 HB HO130
 have BK124 := n0_
 have BK125 := n1_
 have HO142 := n2_
 have HB := n3_
 have HO133 := n4_
 clear n0_ n1_ n2_ n3_ n4_ ho hb hg hat
 refine hK.out _ _ ⟨cz30 BK124.out, cz31 BK124.out, cz32 BK124.out⟩ (fun hHeld => ?_)
 clear hK K
 refine norm_ (a' := ?_) ?_ ?_
 rotate_left
 {
 show Act.put _ (some 26) _ = _
 simp only [Act.put, zA, zB, zC, i64_w, i32_w]
 rfl
 }
 exact nX (hJ0_3_8 (v129, v132, v141) _ ⟨hHeld, (rX HO133.out), (rM HO142.out (fun _ hk => hk.2)), (kX BK124.out), (kX BK125.out), (bX2 HB.out GE124.out GE125.out)⟩)
 }
 {
 skip
 refine Kd.R_lit_step (Kd.int .i64) _ 3 ?hg (N := 27) ?hd (xs := ([] : List Int)) (inner := []) (ok := fun _ => True) (okp := fun _ => True) ?hr ?hp (fun _ hk => hk) trivial (Below.refl _ _) (Nat.le_refl _) (by simp) ?_; (case hd => rfl); (case hg => rfl); (case hr => first | (go_simp; done) | (go_simp; rfl)); (case hp => exact (Reps.none _ _))
 intro v135 w22 ho23 hb hg_ hnew_
 clear hg_ hnew_
 (first | rw [← Ny134.out] at ho23 | (simp only [Int.reduceToNat] at ho23; rw [← Ny134.out] at ho23))
 have n0_ := Aside0.mk (Kd.R_elder' (rX HO130.out) (Kd.R_base ho23) hb)
 have n1_ := Aside0.mk (Kd.R_elder' (rX HO142.out) (Kd.R_base ho23) hb)
 have n2_ := Aside0.mk (Kd.R_lower (Kd.R_new' (Kd.R_new' ho23 (Kd.R_lt (rX HO130.out))) (Kd.R_lt (rX HO142.out))) (below_size (bX2 HB.out GE124.out GE125.out)))
 have n3_ := Aside0.mk (bbX BK124.out hb)
 have n4_ := Aside0.mk (bbX BK125.out hb)
 have n5_ := Aside0.mk (below_step (bX2 HB.out GE124.out GE125.out) hb)
 clear HO130 HO142 BK124 BK125 HB
 have HO130 := n0_
 have HO142 := n1_
 have HO136 := n2_
 have BK124 := n3_
 have BK125 := n4_
 have HB := n5_
 clear n0_ n1_ n2_ n3_ n4_ n5_ hb ho23
 refine hK.out _ _ ⟨cz30 BK124.out, cz31 BK124.out, cz32 BK124.out⟩ (fun hHeld => ?_)
 clear hK K
 refine norm_ (a' := ?_) ?_ ?_
 rotate_left
 {
 show Act.put _ (some 27) _ = _
 simp only [Act.put, zA, zB, zC, i64_w, i32_w]
 rfl
 }
 exact nX (hJ0_4_8 (v129, v135, v141) _ ⟨hHeld, (rM HO130.out (fun _ hk => ⟨hk.2, hk.1⟩)), (rM HO136.out (fun _ hk => ⟨hk.1.2, hk.2⟩)), (rX HO142.out), (kX BK124.out), (kX BK125.out), (bX2 HB.out GE124.out GE125.out)⟩)
 }
 {
 skip
 refine box_step ?hg (N := 6) ?hd (cs := #[.slice none 0 0, .slice none 0 0, .slice none 0 0]) (t := 26) ?hr ?_; (case hd => rfl); (case hg => rfl); (case hr => first | (go_simp; done) | (go_simp; rfl))
 intro gb146 hg w22 hbox hb
 have n0_ := Aside0.mk (Kd.R_below (rX HO130.out) hb)
 have n1_ := Aside0.mk (Kd.R_below (rX HO142.out) hb)
 have n2_ := Aside0.mk (bbX BK124.out hb)
 have n3_ := Aside0.mk (bbX BK125.out hb)
 have n4_ := Aside0.mk (below_step (bX2 HB.out GE124.out GE125.out) hb)
 have n5_ := Aside0.mk (hbox)
 have n6_ := Aside0.mk ((szX (below_size (bX2 HB.out GE124.out GE125.out)) hg : w.heap.size ≤ gb146))
 have n7_ := Aside0.mk ((szX (below_size (bX2 HB.out GE124.out GE125.out)) hg : w.heap.size ≤ gb146))
 have n8_ := Aside0.mk (neX BK124.out hg)
 have n9_ := Aside0.mk (nfX BK124.out hg)
 have n10_ := Aside0.mk (neX BK125.out hg)
 have n11_ := Aside0.mk (nfX BK125.out hg)
 clear HO130 HO142 BK124 BK125 HB
 have HO130 := n0_
 have HO142 := n1_
 have BK124 := n2_
 have BK125 := n3_
 have HB := n4_
 have BK146 := n5_
 have GW146 := n6_
 have GE146 := n7_
 have NB124_146 := n8_
 have NB146_124 := n9_
 have NB125_146 := n10_
 have NB146_125 := n11_
 clear n0_ n1_ n2_ n3_ n4_ n5_ n6_ n7_ n8_ n9_ n10_ n11_ hb hbox hg
 refine hK.out _ _ ⟨cz30 BK124.out, cz31 BK124.out, cz32 BK124.out⟩ (fun hHeld => ?_)
 clear hK K
 refine norm_ (a' := ?_) ?_ ?_
 rotate_left
 {
 show Act.put _ (some 6) _ = _
 simp only [Act.put, zA, zB, zC, i64_w, i32_w]
 rfl
 }
 exact nX (hJ0_8_13 (v129, v141, gb146) _ ⟨hHeld, (rX HO130.out), (rX HO142.out), (kX BK124.out), (kX BK125.out), (kX BK146.out), GW146.out, GE146.out, NB124_146.out, NB146_124.out, NB125_146.out, NB146_125.out, (bX3 HB.out GE124.out GE125.out GE146.out)⟩)
 }
 }
 }
 {
 skip
 rintro ⟨v129, v135⟩ w21 ⟨hS_, h0_, h1_, h2_, h3_, h4_⟩
 have n0_ : Aside0 (Kd.R (Kd.int .i64) 3 w21 w.heap.size (fun k_ => some k_ ≠ (v135 : Value).ownBlock) v129 y128) := ⟨h0_⟩
 have n1_ : Aside0 (Kd.R (Kd.int .i64) 3 w21 w.heap.size (fun k_ => some k_ ≠ (v129 : Value).ownBlock) v135 y134) := ⟨h1_⟩
 have n2_ : Aside0 (w21.heap[gb124]? = some (.cells #[.slice A0_0 l0_0.length c0_0, .slice (some ad126) l0_1.length c0_1, .slice (some ad127) l0_2.length c0_2] 26 (0, 0))) := ⟨h2_⟩
 have n3_ : Aside0 (w21.heap[gb125]? = some (.cells #[.slice none 0 0, .slice none 0 0, .slice none 0 0] 26 (0, 0))) := ⟨h3_⟩
 have n4_ : Aside0 (Below w.heap.size w w21) := ⟨h4_⟩
 clear BK124 BK125 HB h0_ h1_ h2_ h3_ h4_
 have HO130 := n0_
 have HO136 := n1_
 have BK124 := n2_
 have BK125 := n3_
 have HB := n4_
 clear n0_ n1_ n2_ n3_ n4_
 have hHeld : w21.cell? ⟨gb124, 0, none⟩ = some (.slice A0_0 l0_0.length c0_0) ∧ w21.cell? ⟨gb124, 1, none⟩ = some (.slice (some ad126) l0_1.length c0_1) ∧ w21.cell? ⟨gb124, 2, none⟩ = some (.slice (some ad127) l0_2.length c0_2) := hS_
 refine norm_ (a' := ?_) ?_ ?_
 rotate_left
 {
 simp only [putAll, Act.put, List.setIfInBounds_toArray, List.set_cons_zero, List.set_cons_succ]
 rfl
 }
 refine three_ (i := 3) (j := 8) (k := 13) (Ni := some 26) (Nj := some 31) (Nk := some 6) #[tt,tt,tt,tt,tt,tt,tt,ff,ff,tt,tt,ff,ff,ff,ff] #[tt,tt,tt,ff,tt,tt,tt,ff,tt,tt,tt,ff,ff,ff,ff] #[tt,tt,tt,ff,tt,tt,tt,ff,ff,tt,tt,ff,ff,tt,ff] rfl rfl rfl rfl rfl rfl (three_of HT_.out (by kernel_rfl)) (by decide) (by decide) (by decide) (fun K hK => ?_) (fun K hK => ?_) (fun K hK => ?_)
 {
 skip
 refine Kd.R_append_rows_step (Kd.int .i64) (w0 := w) w.heap.size (by rfl) (.tmp 23) (.tmp 25) 22 3 (.int .i64 0) 8 rfl Try.underlying22 info3 rfl (by decide) (by omega) v129 y128 l0_0 _ _ _ (fun k_ => some k_ ≠ (v135 : Value).ownBlock) (fun _ => False) rfl rfl ?aO ?aR (fun _ _ h => h) (fun _ h => h.elim) ?aF ?aB ?aS ?aL ?_
 (case aR => exact cX (Kd.C_below HR0_0.out HB.out))
 (case aB => exact (bX2 HB.out GE124.out GE125.out))
 (case aF => exact (fun k_ hk => Kd.fresh' (Kd.R_lt (rX HO136.out)) k_ hk))
 (case aO => exact (rX HO130.out))
 (case aS => exact (below_size (bX2 HB.out GE124.out GE125.out)))
 (case aL => have := LMc8.out; omega)
 intro v132 w22 ho hb hg hat
 rw [← Ny131.out] at ho
 have n0_ := Aside0.mk (bgX BK124.out hg (Kd.R_ne HO130.out BK124.out (by decide)))
 have n1_ := Aside0.mk (bgX BK125.out hg (Kd.R_ne HO130.out BK125.out (by decide)))
 have n2_ := Aside0.mk (Kd.R_after (ok := (fun _ => True)) (rM HO136.out (fun _ hk => ⟨trivial, hk⟩)) hg hat)
 have n3_ := Aside0.mk (hb)
 have n4_ := Aside0.mk (ho)
 clear BK124 BK125 HO136 HB HO130
 have BK124 := n0_
 have BK125 := n1_
 have HO136 := n2_
 have HB := n3_
 have HO133 := n4_
 clear n0_ n1_ n2_ n3_ n4_ ho hb hg hat
 refine hK.out _ _ ⟨cz30 BK124.out, cz31 BK124.out, cz32 BK124.out⟩ (fun hHeld => ?_)
 clear hK K
 refine norm_ (a' := ?_) ?_ ?_
 rotate_left
 {
 show Act.put _ (some 26) _ = _
 simp only [Act.put, zA, zB, zC, i64_w, i32_w]
 rfl
 }
 exact nX (hJ0_3_4 (v129, v132, v135) _ ⟨hHeld, (rX HO133.out), (rM HO136.out (fun _ hk => hk.2)), (kX BK124.out), (kX BK125.out), (bX2 HB.out GE124.out GE125.out)⟩)
 }
 {
 skip
 refine Kd.R_lit_step (Kd.int .i64) _ 3 ?hg (N := 31) ?hd (xs := ([] : List Int)) (inner := []) (ok := fun _ => True) (okp := fun _ => True) ?hr ?hp (fun _ hk => hk) trivial (Below.refl _ _) (Nat.le_refl _) (by simp) ?_; (case hd => rfl); (case hg => rfl); (case hr => first | (go_simp; done) | (go_simp; rfl)); (case hp => exact (Reps.none _ _))
 intro v141 w22 ho23 hb hg_ hnew_
 clear hg_ hnew_
 (first | rw [← Ny140.out] at ho23 | (simp only [Int.reduceToNat] at ho23; rw [← Ny140.out] at ho23))
 have n0_ := Aside0.mk (Kd.R_elder' (rX HO130.out) (Kd.R_base ho23) hb)
 have n1_ := Aside0.mk (Kd.R_elder' (rX HO136.out) (Kd.R_base ho23) hb)
 have n2_ := Aside0.mk (Kd.R_lower (Kd.R_new' (Kd.R_new' ho23 (Kd.R_lt (rX HO130.out))) (Kd.R_lt (rX HO136.out))) (below_size (bX2 HB.out GE124.out GE125.out)))
 have n3_ := Aside0.mk (bbX BK124.out hb)
 have n4_ := Aside0.mk (bbX BK125.out hb)
 have n5_ := Aside0.mk (below_step (bX2 HB.out GE124.out GE125.out) hb)
 clear HO130 HO136 BK124 BK125 HB
 have HO130 := n0_
 have HO136 := n1_
 have HO142 := n2_
 have BK124 := n3_
 have BK125 := n4_
 have HB := n5_
 clear n0_ n1_ n2_ n3_ n4_ n5_ hb ho23
 refine hK.out _ _ ⟨cz30 BK124.out, cz31 BK124.out, cz32 BK124.out⟩ (fun hHeld => ?_)
 clear hK K
 refine norm_ (a' := ?_) ?_ ?_
 rotate_left
 {
 show Act.put _ (some 31) _ = _
 simp only [Act.put, zA, zB, zC, i64_w, i32_w]
 rfl
 }
 exact nX (hJ0_4_8 (v129, v135, v141) _ ⟨hHeld, (rX HO130.out), (rX HO136.out), (rM HO142.out (fun _ hk => ⟨hk.1.2, hk.2⟩)), (kX BK124.out), (kX BK125.out), (bX2 HB.out GE124.out GE125.out)⟩)
 }
 {
 skip
 refine box_step ?hg (N := 6) ?hd (cs := #[.slice none 0 0, .slice none 0 0, .slice none 0 0]) (t := 26) ?hr ?_; (case hd => rfl); (case hg => rfl); (case hr => first | (go_simp; done) | (go_simp; rfl))
 intro gb146 hg w22 hbox hb
 have n0_ := Aside0.mk (Kd.R_below (rX HO130.out) hb)
 have n1_ := Aside0.mk (Kd.R_below (rX HO136.out) hb)
 have n2_ := Aside0.mk (bbX BK124.out hb)
 have n3_ := Aside0.mk (bbX BK125.out hb)
 have n4_ := Aside0.mk (below_step (bX2 HB.out GE124.out GE125.out) hb)
 have n5_ := Aside0.mk (hbox)
 have n6_ := Aside0.mk ((szX (below_size (bX2 HB.out GE124.out GE125.out)) hg : w.heap.size ≤ gb146))
 have n7_ := Aside0.mk ((szX (below_size (bX2 HB.out GE124.out GE125.out)) hg : w.heap.size ≤ gb146))
 have n8_ := Aside0.mk (neX BK124.out hg)
 have n9_ := Aside0.mk (nfX BK124.out hg)
 have n10_ := Aside0.mk (neX BK125.out hg)
 have n11_ := Aside0.mk (nfX BK125.out hg)
 clear HO130 HO136 BK124 BK125 HB
 have HO130 := n0_
 have HO136 := n1_
 have BK124 := n2_
 have BK125 := n3_
 have HB := n4_
 have BK146 := n5_
 have GW146 := n6_
 have GE146 := n7_
 have NB124_146 := n8_
 have NB146_124 := n9_
 have NB125_146 := n10_
 have NB146_125 := n11_
 clear n0_ n1_ n2_ n3_ n4_ n5_ n6_ n7_ n8_ n9_ n10_ n11_ hb hbox hg
 refine hK.out _ _ ⟨cz30 BK124.out, cz31 BK124.out, cz32 BK124.out⟩ (fun hHeld => ?_)
 clear hK K
 refine norm_ (a' := ?_) ?_ ?_
 rotate_left
 {
 show Act.put _ (some 6) _ = _
 simp only [Act.put, zA, zB, zC, i64_w, i32_w]
 rfl
 }
 exact nX (hJ0_4_13 (v129, v135, gb146) _ ⟨hHeld, (rX HO130.out), (rX HO136.out), (kX BK124.out), (kX BK125.out), (kX BK146.out), GW146.out, GE146.out, NB124_146.out, NB146_124.out, NB125_146.out, NB146_125.out, (bX3 HB.out GE124.out GE125.out GE146.out)⟩)
 }
 }
 }
 {
 skip
 rintro ⟨v129, v132⟩ w20 ⟨hS_, h0_, h1_, h2_, h3_⟩
 have n0_ : Aside0 (Kd.R (Kd.int .i64) 3 w20 w.heap.size (fun _ => True) v132 y131) := ⟨h0_⟩
 have n1_ : Aside0 (w20.heap[gb124]? = some (.cells #[.slice A0_0 l0_0.length c0_0, .slice (some ad126) l0_1.length c0_1, .slice (some ad127) l0_2.length c0_2] 26 (0, 0))) := ⟨h1_⟩
 have n2_ : Aside0 (w20.heap[gb125]? = some (.cells #[.slice none 0 0, .slice none 0 0, .slice none 0 0] 26 (0, 0))) := ⟨h2_⟩
 have n3_ : Aside0 (Below w.heap.size w w20) := ⟨h3_⟩
 clear BK124 BK125 HB h0_ h1_ h2_ h3_
 have HO133 := n0_
 have BK124 := n1_
 have BK125 := n2_
 have HB := n3_
 clear n0_ n1_ n2_ n3_
 have hHeld : w20.cell? ⟨gb124, 0, none⟩ = some (.slice A0_0 l0_0.length c0_0) ∧ w20.cell? ⟨gb124, 1, none⟩ = some (.slice (some ad126) l0_1.length c0_1) ∧ w20.cell? ⟨gb124, 2, none⟩ = some (.slice (some ad127) l0_2.length c0_2) := hS_
 refine norm_ (a' := ?_) ?_ ?_
 rotate_left
 {
 simp only [putAll, Act.put, List.setIfInBounds_toArray, List.set_cons_zero, List.set_cons_succ]
 rfl
 }
 refine three_ (i := 4) (j := 8) (k := 13) (Ni := some 27) (Nj := some 31) (Nk := some 6) #[tt,tt,tt,tt,tt,tt,tt,ff,ff,tt,tt,ff,ff,ff,ff] #[tt,tt,tt,tt,ff,tt,tt,ff,tt,tt,tt,ff,ff,ff,ff] #[tt,tt,tt,tt,ff,tt,tt,ff,ff,tt,tt,ff,ff,tt,ff] rfl rfl rfl rfl rfl rfl (three_of HT_.out (by kernel_rfl)) (by decide) (by decide) (by decide) (fun K hK => ?_) (fun K hK => ?_) (fun K hK => ?_)
 {
 skip
 refine Kd.R_lit_step (Kd.int .i64) _ 3 ?hg (N := 27) ?hd (xs := ([] : List Int)) (inner := []) (ok := fun _ => True) (okp := fun _ => True) ?hr ?hp (fun _ hk => hk) trivial (Below.refl _ _) (Nat.le_refl _) (by simp) ?_; (case hd => rfl); (case hg => rfl); (case hr => first | (go_simp; done) | (go_simp; rfl)); (case hp => exact (Reps.none _ _))
 intro v135 w21 ho22 hb hg_ hnew_
 clear hg_ hnew_
 (first | rw [← Ny134.out] at ho22 | (simp only [Int.reduceToNat] at ho22; rw [← Ny134.out] at ho22))
 have n0_ := Aside0.mk (Kd.R_elder' (rX HO133.out) (Kd.R_base ho22) hb)
 have n1_ := Aside0.mk (Kd.R_lower (Kd.R_new' ho22 (Kd.R_lt (rX HO133.out))) (below_size (bX2 HB.out GE124.out GE125.out)))
 have n2_ := Aside0.mk (bbX BK124.out hb)
 have n3_ := Aside0.mk (bbX BK125.out hb)
 have n4_ := Aside0.mk (below_step (bX2 HB.out GE124.out GE125.out) hb)
 clear HO133 BK124 BK125 HB
 have HO133 := n0_
 have HO136 := n1_
 have BK124 := n2_
 have BK125 := n3_
 have HB := n4_
 clear n0_ n1_ n2_ n3_ n4_ hb ho22
 refine hK.out _ _ ⟨cz30 BK124.out, cz31 BK124.out, cz32 BK124.out⟩ (fun hHeld => ?_)
 clear hK K
 refine norm_ (a' := ?_) ?_ ?_
 rotate_left
 {
 show Act.put _ (some 27) _ = _
 simp only [Act.put, zA, zB, zC, i64_w, i32_w]
 rfl
 }
 exact nX (hJ0_3_4 (v129, v132, v135) _ ⟨hHeld, (rM HO133.out (fun _ hk => hk.2)), (rM HO136.out (fun _ hk => hk.2)), (kX BK124.out), (kX BK125.out), (bX2 HB.out GE124.out GE125.out)⟩)
 }
 {
 skip
 refine Kd.R_lit_step (Kd.int .i64) _ 3 ?hg (N := 31) ?hd (xs := ([] : List Int)) (inner := []) (ok := fun _ => True) (okp := fun _ => True) ?hr ?hp (fun _ hk => hk) trivial (Below.refl _ _) (Nat.le_refl _) (by simp) ?_; (case hd => rfl); (case hg => rfl); (case hr => first | (go_simp; done) | (go_simp; rfl)); (case hp => exact (Reps.none _ _))
 intro v141 w21 ho22 hb hg_ hnew_
 clear hg_ hnew_
 (first | rw [← Ny140.out] at ho22 | (simp only [Int.reduceToNat] at ho22; rw [← Ny140.out] at ho22))
 have n0_ := Aside0.mk (Kd.R_elder' (rX HO133.out) (Kd.R_base ho22) hb)
 have n1_ := Aside0.mk (Kd.R_lower (Kd.R_new' ho22 (Kd.R_lt (rX HO133.out))) (below_size (bX2 HB.out GE124.out GE125.out)))
 have n2_ := Aside0.mk (bbX BK124.out hb)
 have n3_ := Aside0.mk (bbX BK125.out hb)
 have n4_ := Aside0.mk (below_step (bX2 HB.out GE124.out GE125.out) hb)
 clear HO133 BK124 BK125 HB
 have HO133 := n0_
 have HO142 := n1_
 have BK124 := n2_
 have BK125 := n3_
 have HB := n4_
 clear n0_ n1_ n2_ n3_ n4_ hb ho22
 refine hK.out _ _ ⟨cz30 BK124.out, cz31 BK124.out, cz32 BK124.out⟩ (fun hHeld => ?_)
 clear hK K
 refine norm_ (a' := ?_) ?_ ?_
 rotate_left
 {
 show Act.put _ (some 31) _ = _
 simp only [Act.put, zA, zB, zC, i64_w, i32_w]
 rfl
 }
 exact nX (hJ0_3_8 (v129, v132, v141) _ ⟨hHeld, (rM HO133.out (fun _ hk => hk.2)), (rM HO142.out (fun _ hk => hk.2)), (kX BK124.out), (kX BK125.out), (bX2 HB.out GE124.out GE125.out)⟩)
 }
 {
 skip
 refine box_step ?hg (N := 6) ?hd (cs := #[.slice none 0 0, .slice none 0 0, .slice none 0 0]) (t := 26) ?hr ?_; (case hd => rfl); (case hg => rfl); (case hr => first | (go_simp; done) | (go_simp; rfl))
 intro gb146 hg w21 hbox hb
 have n0_ := Aside0.mk (Kd.R_below (rX HO133.out) hb)
 have n1_ := Aside0.mk (bbX BK124.out hb)
 have n2_ := Aside0.mk (bbX BK125.out hb)
 have n3_ := Aside0.mk (below_step (bX2 HB.out GE124.out GE125.out) hb)
 have n4_ := Aside0.mk (hbox)
 have n5_ := Aside0.mk ((szX (below_size (bX2 HB.out GE124.out GE125.out)) hg : w.heap.size ≤ gb146))
 have n6_ := Aside0.mk ((szX (below_size (bX2 HB.out GE124.out GE125.out)) hg : w.heap.size ≤ gb146))
 have n7_ := Aside0.mk (neX BK124.out hg)
 have n8_ := Aside0.mk (nfX BK124.out hg)
 have n9_ := Aside0.mk (neX BK125.out hg)
 have n10_ := Aside0.mk (nfX BK125.out hg)
 clear HO133 BK124 BK125 HB
 have HO133 := n0_
 have BK124 := n1_
 have BK125 := n2_
 have HB := n3_
 have BK146 := n4_
 have GW146 := n5_
 have GE146 := n6_
 have NB124_146 := n7_
 have NB146_124 := n8_
 have NB125_146 := n9_
 have NB146_125 := n10_
 clear n0_ n1_ n2_ n3_ n4_ n5_ n6_ n7_ n8_ n9_ n10_ hb hbox hg
 refine hK.out _ _ ⟨cz30 BK124.out, cz31 BK124.out, cz32 BK124.out⟩ (fun hHeld => ?_)
 clear hK K
 refine norm_ (a' := ?_) ?_ ?_
 rotate_left
 {
 show Act.put _ (some 6) _ = _
 simp only [Act.put, zA, zB, zC, i64_w, i32_w]
 rfl
 }
 exact nX (hJ0_3_13 (v129, v132, gb146) _ ⟨hHeld, (rX HO133.out), (kX BK124.out), (kX BK125.out), (kX BK146.out), GW146.out, GE146.out, NB124_146.out, NB146_124.out, NB125_146.out, NB146_125.out, (bX3 HB.out GE124.out GE125.out GE146.out)⟩)
 }
 }
 }
 {
 skip
 rintro ⟨v135, v141, gb146⟩ w22 ⟨hS_, h0_, h1_, h2_, h3_, h4_, h5_, h6_, h7_, h8_, h9_, h10_, h11_⟩
 have n0_ : Aside0 (Kd.R (Kd.int .i64) 3 w22 w.heap.size (fun k_ => some k_ ≠ (v141 : Value).ownBlock) v135 y134) := ⟨h0_⟩
 have n1_ : Aside0 (Kd.R (Kd.int .i64) 3 w22 w.heap.size (fun k_ => some k_ ≠ (v135 : Value).ownBlock) v141 y140) := ⟨h1_⟩
 have n2_ : Aside0 (w22.heap[gb124]? = some (.cells #[.slice A0_0 l0_0.length c0_0, .slice (some ad126) l0_1.length c0_1, .slice (some ad127) l0_2.length c0_2] 26 (0, 0))) := ⟨h2_⟩
 have n3_ : Aside0 (w22.heap[gb125]? = some (.cells #[.slice none 0 0, .slice none 0 0, .slice none 0 0] 26 (0, 0))) := ⟨h3_⟩
 have n4_ : Aside0 (w22.heap[gb146]? = some (.cells #[.slice none 0 0, .slice none 0 0, .slice none 0 0] 26 (0, 0))) := ⟨h4_⟩
 have n5_ : Aside0 (w.heap.size ≤ gb146) := ⟨h5_⟩
 have n6_ : Aside0 (w.heap.size ≤ gb146) := ⟨h6_⟩
 have n7_ : Aside0 (gb124 ≠ gb146) := ⟨h7_⟩
 have n8_ : Aside0 (gb146 ≠ gb124) := ⟨h8_⟩
 have n9_ : Aside0 (gb125 ≠ gb146) := ⟨h9_⟩
 have n10_ : Aside0 (gb146 ≠ gb125) := ⟨h10_⟩
 have n11_ : Aside0 (Below w.heap.size w w22) := ⟨h11_⟩
 clear BK124 BK125 HB h0_ h1_ h2_ h3_ h4_ h5_ h6_ h7_ h8_ h9_ h10_ h11_
 have HO136 := n0_
 have HO142 := n1_
 have BK124 := n2_
 have BK125 := n3_
 have BK146 := n4_
 have GW146 := n5_
 have GE146 := n6_
 have NB124_146 := n7_
 have NB146_124 := n8_
 have NB125_146 := n9_
 have NB146_125 := n10_
 have HB := n11_
 clear n0_ n1_ n2_ n3_ n4_ n5_ n6_ n7_ n8_ n9_ n10_ n11_
 have hHeld : w22.cell? ⟨gb124, 0, none⟩ = some (.slice A0_0 l0_0.length c0_0) ∧ w22.cell? ⟨gb124, 1, none⟩ = some (.slice (some ad126) l0_1.length c0_1) ∧ w22.cell? ⟨gb124, 2, none⟩ = some (.slice (some ad127) l0_2.length c0_2) := hS_
 refine norm_ (a' := ?_) ?_ ?_
 rotate_left
 {
 simp only [putAll, Act.put, List.setIfInBounds_toArray, List.set_cons_zero, List.set_cons_succ]
 rfl
 }
 refine one_ (i := 0) (N := some 23) #[tt,tt,tt,ff,tt,tt,tt,ff,tt,tt,tt,ff,ff,tt,ff] rfl rfl (one_of HT_.out (by kernel_rfl)) (by decide) (fun K hK => ?_)
 refine Kd.R_lit_step (Kd.int .i64) _ 3 ?hg (N := 23) ?hd (xs := ([] : List Int)) (inner := []) (ok := fun _ => True) (okp := fun _ => True) ?hr ?hp (fun _ hk => hk) trivial (Below.refl _ _) (Nat.le_refl _) (by simp) ?_; (case hd => rfl); (case hg => rfl); (case hr => first | (go_simp; done) | (go_simp; rfl)); (case hp => exact (Reps.none _ _))
 intro v129 w23 ho24 hb hg_ hnew_
 clear hg_ hnew_
 (first | rw [← Ny128.out] at ho24 | (simp only [Int.reduceToNat] at ho24; rw [← Ny128.out] at ho24))
 have n0_ := Aside0.mk (Kd.R_elder' (rX HO136.out) (Kd.R_base ho24) hb)
 have n1_ := Aside0.mk (Kd.R_elder' (rX HO142.out) (Kd.R_base ho24) hb)
 have n2_ := Aside0.mk (Kd.R_lower (Kd.R_new' (Kd.R_new' ho24 (Kd.R_lt (rX HO136.out))) (Kd.R_lt (rX HO142.out))) (below_size (bX3 HB.out GE124.out GE125.out GE146.out)))
 have n3_ := Aside0.mk (bbX BK124.out hb)
 have n4_ := Aside0.mk (bbX BK125.out hb)
 have n5_ := Aside0.mk (bbX BK146.out hb)
 have n6_ := Aside0.mk (below_step (bX3 HB.out GE124.out GE125.out GE146.out) hb)
 clear HO136 HO142 BK124 BK125 BK146 HB
 have HO136 := n0_
 have HO142 := n1_
 have HO130 := n2_
 have BK124 := n3_
 have BK125 := n4_
 have BK146 := n5_
 have HB := n6_
 clear n0_ n1_ n2_ n3_ n4_ n5_ n6_ hb ho24
 refine hK.out _ _ ⟨cz30 BK124.out, cz31 BK124.out, cz32 BK124.out⟩ (fun hHeld => ?_)
 clear hK K
 refine norm_ (a' := ?_) ?_ ?_
 rotate_left
 {
 show Act.put _ (some 23) _ = _
 simp only [Act.put, zA, zB, zC, i64_w, i32_w]
 rfl
 }
 exact nX (hJ0_4_8_13 (v129, v135, v141, gb146) _ ⟨hHeld, (rM HO130.out (fun _ hk => ⟨hk.1.2, hk.2⟩)), (rM HO136.out (fun _ hk => ⟨hk.2, hk.1⟩)), (rM HO142.out (fun _ hk => ⟨hk.2, hk.1⟩)), (kX BK124.out), (kX BK125.out), (kX BK146.out), GW146.out, GE146.out, NB124_146.out, NB146_124.out, NB125_146.out, NB146_125.out, (bX3 HB.out GE124.out GE125.out GE146.out)⟩)
 }
 }
 {
 skip
 rintro ⟨v129, v141, gb146⟩ w22 ⟨hS_, h0_, h1_, h2_, h3_, h4_, h5_, h6_, h7_, h8_, h9_, h10_, h11_⟩
 have n0_ : Aside0 (Kd.R (Kd.int .i64) 3 w22 w.heap.size (fun k_ => some k_ ≠ (v141 : Value).ownBlock) v129 y128) := ⟨h0_⟩
 have n1_ : Aside0 (Kd.R (Kd.int .i64) 3 w22 w.heap.size (fun k_ => some k_ ≠ (v129 : Value).ownBlock) v141 y140) := ⟨h1_⟩
 have n2_ : Aside0 (w22.heap[gb124]? = some (.cells #[.slice A0_0 l0_0.length c0_0, .slice (some ad126) l0_1.length c0_1, .slice (some ad127) l0_2.length c0_2] 26 (0, 0))) := ⟨h2_⟩
 have n3_ : Aside0 (w22.heap[gb125]? = some (.cells #[.slice none 0 0, .slice none 0 0, .slice none 0 0] 26 (0, 0))) := ⟨h3_⟩
 have n4_ : Aside0 (w22.heap[gb146]? = some (.cells #[.slice none 0 0, .slice none 0 0, .slice none 0 0] 26 (0, 0))) := ⟨h4_⟩
 have n5_ : Aside0 (w.heap.size ≤ gb146) := ⟨h5_⟩
 have n6_ : Aside0 (w.heap.size ≤ gb146) := ⟨h6_⟩
 have n7_ : Aside0 (gb124 ≠ gb146) := ⟨h7_⟩
 have n8_ : Aside0 (gb146 ≠ gb124) := ⟨h8_⟩
 have n9_ : Aside0 (gb125 ≠ gb146) := ⟨h9_⟩
 have n10_ : Aside0 (gb146 ≠ gb125) := ⟨h10_⟩
 have n11_ : Aside0 (Below w.heap.size w w22) := ⟨h11_⟩
 clear BK124 BK125 HB h0_ h1_ h2_ h3_ h4_ h5_ h6_ h7_ h8_ h9_ h10_ h11_
 have HO130 := n0_
 have HO142 := n1_
 have BK124 := n2_
 have BK125 := n3_
 have BK146 := n4_
 have GW146 := n5_
 have GE146 := n6_
 have NB124_146 := n7_
 have NB146_124 := n8_
 have NB125_146 := n9_
 have NB146_125 := n10_
 have HB := n11_
 clear n0_ n1_ n2_ n3_ n4_ n5_ n6_ n7_ n8_ n9_ n10_ n11_
 have hHeld : w22.cell? ⟨gb124, 0, none⟩ = some (.slice A0_0 l0_0.length c0_0) ∧ w22.cell? ⟨gb124, 1, none⟩ = some (.slice (some ad126) l0_1.length c0_1) ∧ w22.cell? ⟨gb124, 2, none⟩ = some (.slice (some ad127) l0_2.length c0_2) := hS_
 refine norm_ (a' := ?_) ?_ ?_
 rotate_left
 {
 simp only [putAll, Act.put, List.setIfInBounds_toArray, List.set_cons_zero, List.set_cons_succ]
 rfl
 }
 refine two_ (i := 3) (j := 4) (Ni := some 26) (Nj := some 27) #[tt,tt,tt,tt,ff,tt,tt,ff,tt,tt,tt,ff,ff,tt,ff] #[tt,tt,tt,ff,tt,tt,tt,ff,tt,tt,tt,ff,ff,tt,ff] rfl rfl rfl rfl (two_of HT_.out (by kernel_rfl)) (by decide) (by decide) (fun K hK => ?_) (fun K hK => ?_)
 {
 skip
 refine Kd.R_append_rows_step (Kd.int .i64) (w0 := w) w.heap.size (by rfl) (.tmp 23) (.tmp 25) 22 3 (.int .i64 0) 8 rfl Try.underlying22 info3 rfl (by decide) (by omega) v129 y128 l0_0 _ _ _ (fun k_ => some k_ ≠ (v141 : Value).ownBlock) (fun _ => False) rfl rfl ?aO ?aR (fun _ _ h => h) (fun _ h => h.elim) ?aF ?aB ?aS ?aL ?_
 (case aR => exact cX (Kd.C_below HR0_0.out HB.out))
 (case aB => exact (bX3 HB.out GE124.out GE125.out GE146.out))
 (case aF => exact (fun k_ hk => Kd.fresh' (Kd.R_lt (rX HO142.out)) k_ hk))
 (case aO => exact (rX HO130.out))
 (case aS => exact (below_size (bX3 HB.out GE124.out GE125.out GE146.out)))
 (case aL => have := LMc8.out; omega)
 intro v132 w23 ho hb hg hat
 rw [← Ny131.out] at ho
 have n0_ := Aside0.mk (bgX BK124.out hg (Kd.R_ne HO130.out BK124.out (by decide)))
 have n1_ := Aside0.mk (bgX BK125.out hg (Kd.R_ne HO130.out BK125.out (by decide)))
 have n2_ := Aside0.mk (Kd.R_after (ok := (fun _ => True)) (rM HO142.out (fun _ hk => ⟨trivial, hk⟩)) hg hat)
 have n3_ := Aside0.mk (bgX BK146.out hg (Kd.R_ne HO130.out BK146.out (by decide)))
 have n4_ := Aside0.mk (hb)
 have n5_ := Aside0.mk (ho)
 clear BK124 BK125 HO142 BK146 HB HO130
 have BK124 := n0_
 have BK125 := n1_
 have HO142 := n2_
 have BK146 := n3_
 have HB := n4_
 have HO133 := n5_
 clear n0_ n1_ n2_ n3_ n4_ n5_ ho hb hg hat
 refine hK.out _ _ ⟨cz30 BK124.out, cz31 BK124.out, cz32 BK124.out⟩ (fun hHeld => ?_)
 clear hK K
 refine norm_ (a' := ?_) ?_ ?_
 rotate_left
 {
 show Act.put _ (some 26) _ = _
 simp only [Act.put, zA, zB, zC, i64_w, i32_w]
 rfl
 }
 exact nX (hJ0_3_8_13 (v129, v132, v141, gb146) _ ⟨hHeld, (rX HO133.out), (rM HO142.out (fun _ hk => hk.2)), (kX BK124.out), (kX BK125.out), (kX BK146.out), GW146.out, GE146.out, NB124_146.out, NB146_124.out, NB125_146.out, NB146_125.out, (bX3 HB.out GE124.out GE125.out GE146.out)⟩)
 }
 {
 skip
 refine Kd.R_lit_step (Kd.int .i64) _ 3 ?hg (N := 27) ?hd (xs := ([] : List Int)) (inner := []) (ok := fun _ => True) (okp := fun _ => True) ?hr ?hp (fun _ hk => hk) trivial (Below.refl _ _) (Nat.le_refl _) (by simp) ?_; (case hd => rfl); (case hg => rfl); (case hr => first | (go_simp; done) | (go_simp; rfl)); (case hp => exact (Reps.none _ _))
 intro v135 w23 ho24 hb hg_ hnew_
 clear hg_ hnew_
 (first | rw [← Ny134.out] at ho24 | (simp only [Int.reduceToNat] at ho24; rw [← Ny134.out] at ho24))
 have n0_ := Aside0.mk (Kd.R_elder' (rX HO130.out) (Kd.R_base ho24) hb)
 have n1_ := Aside0.mk (Kd.R_elder' (rX HO142.out) (Kd.R_base ho24) hb)
 have n2_ := Aside0.mk (Kd.R_lower (Kd.R_new' (Kd.R_new' ho24 (Kd.R_lt (rX HO130.out))) (Kd.R_lt (rX HO142.out))) (below_size (bX3 HB.out GE124.out GE125.out GE146.out)))
 have n3_ := Aside0.mk (bbX BK124.out hb)
 have n4_ := Aside0.mk (bbX BK125.out hb)
 have n5_ := Aside0.mk (bbX BK146.out hb)
 have n6_ := Aside0.mk (below_step (bX3 HB.out GE124.out GE125.out GE146.out) hb)
 clear HO130 HO142 BK124 BK125 BK146 HB
 have HO130 := n0_
 have HO142 := n1_
 have HO136 := n2_
 have BK124 := n3_
 have BK125 := n4_
 have BK146 := n5_
 have HB := n6_
 clear n0_ n1_ n2_ n3_ n4_ n5_ n6_ hb ho24
 refine hK.out _ _ ⟨cz30 BK124.out, cz31 BK124.out, cz32 BK124.out⟩ (fun hHeld => ?_)
 clear hK K
 refine norm_ (a' := ?_) ?_ ?_
 rotate_left
 {
 show Act.put _ (some 27) _ = _
 simp only [Act.put, zA, zB, zC, i64_w, i32_w]
 rfl
 }
 exact nX (hJ0_4_8_13 (v129, v135, v141, gb146) _ ⟨hHeld, (rM HO130.out (fun _ hk => ⟨hk.2, hk.1⟩)), (rM HO136.out (fun _ hk => ⟨hk.1.2, hk.2⟩)), (rX HO142.out), (kX BK124.out), (kX BK125.out), (kX BK146.out), GW146.out, GE146.out, NB124_146.out, NB146_124.out, NB125_146.out, NB146_125.out, (bX3 HB.out GE124.out GE125.out GE146.out)⟩)
 }
 }
 }
 {
 skip
 rintro ⟨v129, v135, gb146⟩ w22 ⟨hS_, h0_, h1_, h2_, h3_, h4_, h5_, h6_, h7_, h8_, h9_, h10_, h11_⟩
 have n0_ : Aside0 (Kd.R (Kd.int .i64) 3 w22 w.heap.size (fun k_ => some k_ ≠ (v135 : Value).ownBlock) v129 y128) := ⟨h0_⟩
 have n1_ : Aside0 (Kd.R (Kd.int .i64) 3 w22 w.heap.size (fun k_ => some k_ ≠ (v129 : Value).ownBlock) v135 y134) := ⟨h1_⟩
 have n2_ : Aside0 (w22.heap[gb124]? = some (.cells #[.slice A0_0 l0_0.length c0_0, .slice (some ad126) l0_1.length c0_1, .slice (some ad127) l0_2.length c0_2] 26 (0, 0))) := ⟨h2_⟩
 have n3_ : Aside0 (w22.heap[gb125]? = some (.cells #[.slice none 0 0, .slice none 0 0, .slice none 0 0] 26 (0, 0))) := ⟨h3_⟩
 have n4_ : Aside0 (w22.heap[gb146]? = some (.cells #[.slice none 0 0, .slice none 0 0, .slice none 0 0] 26 (0, 0))) := ⟨h4_⟩
 have n5_ : Aside0 (w.heap.size ≤ gb146) := ⟨h5_⟩
 have n6_ : Aside0 (w.heap.size ≤ gb146) := ⟨h6_⟩
 have n7_ : Aside0 (gb124 ≠ gb146) := ⟨h7_⟩
 have n8_ : Aside0 (gb146 ≠ gb124) := ⟨h8_⟩
 have n9_ : Aside0 (gb125 ≠ gb146) := ⟨h9_⟩
 have n10_ : Aside0 (gb146 ≠ gb125) := ⟨h10_⟩
 have n11_ : Aside0 (Below w.heap.size w w22) := ⟨h11_⟩
 clear BK124 BK125 HB h0_ h1_ h2_ h3_ h4_ h5_ h6_ h7_ h8_ h9_ h10_ h11_
 have HO130 := n0_
 have HO136 := n1_
 have BK124 := n2_
 have BK125 := n3_
 have BK146 := n4_
 have GW146 := n5_
 have GE146 := n6_
 have NB124_146 := n7_
 have NB146_124 := n8_
 have NB125_146 := n9_
 have NB146_125 := n10_
 have HB := n11_
 clear n0_ n1_ n2_ n3_ n4_ n5_ n6_ n7_ n8_ n9_ n10_ n11_
 have hHeld : w22.cell? ⟨gb124, 0, none⟩ = some (.slice A0_0 l0_0.length c0_0) ∧ w22.cell? ⟨gb124, 1, none⟩ = some (.slice (some ad126) l0_1.length c0_1) ∧ w22.cell? ⟨gb124, 2, none⟩ = some (.slice (some ad127) l0_2.length c0_2) := hS_
 refine norm_ (a' := ?_) ?_ ?_
 rotate_left
 {
 simp only [putAll, Act.put, List.setIfInBounds_toArray, List.set_cons_zero, List.set_cons_succ]
 rfl
 }
 refine two_ (i := 3) (j := 8) (Ni := some 26) (Nj := some 31) #[tt,tt,tt,tt,tt,tt,tt,ff,ff,tt,tt,ff,ff,tt,ff] #[tt,tt,tt,ff,tt,tt,tt,ff,tt,tt,tt,ff,ff,tt,ff] rfl rfl rfl rfl (two_of HT_.out (by kernel_rfl)) (by decide) (by decide) (fun K hK => ?_) (fun K hK => ?_)
 {
 skip
 refine Kd.R_append_rows_step (Kd.int .i64) (w0 := w) w.heap.size (by rfl) (.tmp 23) (.tmp 25) 22 3 (.int .i64 0) 8 rfl Try.underlying22 info3 rfl (by decide) (by omega) v129 y128 l0_0 _ _ _ (fun k_ => some k_ ≠ (v135 : Value).ownBlock) (fun _ => False) rfl rfl ?aO ?aR (fun _ _ h => h) (fun _ h => h.elim) ?aF ?aB ?aS ?aL ?_
 (case aR => exact cX (Kd.C_below HR0_0.out HB.out))
 (case aB => exact (bX3 HB.out GE124.out GE125.out GE146.out))
 (case aF => exact (fun k_ hk => Kd.fresh' (Kd.R_lt (rX HO136.out)) k_ hk))
 (case aO => exact (rX HO130.out))
 (case aS => exact (below_size (bX3 HB.out GE124.out GE125.out GE146.out)))
 (case aL => have := LMc8.out; omega)
 intro v132 w23 ho hb hg hat
 rw [← Ny131.out] at ho
 have n0_ := Aside0.mk (bgX BK124.out hg (Kd.R_ne HO130.out BK124.out (by decide)))
 have n1_ := Aside0.mk (bgX BK125.out hg (Kd.R_ne HO130.out BK125.out (by decide)))
 have n2_ := Aside0.mk (Kd.R_after (ok := (fun _ => True)) (rM HO136.out (fun _ hk => ⟨trivial, hk⟩)) hg hat)
 have n3_ := Aside0.mk (bgX BK146.out hg (Kd.R_ne HO130.out BK146.out (by decide)))
 have n4_ := Aside0.mk (hb)
 have n5_ := Aside0.mk (ho)
 clear BK124 BK125 HO136 BK146 HB HO130
 have BK124 := n0_
 have BK125 := n1_
 have HO136 := n2_
 have BK146 := n3_
 have HB := n4_
 have HO133 := n5_
 clear n0_ n1_ n2_ n3_ n4_ n5_ ho hb hg hat
 refine hK.out _ _ ⟨cz30 BK124.out, cz31 BK124.out, cz32 BK124.out⟩ (fun hHeld => ?_)
 clear hK K
 refine norm_ (a' := ?_) ?_ ?_
 rotate_left
 {
 show Act.put _ (some 26) _ = _
 simp only [Act.put, zA, zB, zC, i64_w, i32_w]
 rfl
 }
 exact nX (hJ0_3_4_13 (v129, v132, v135, gb146) _ ⟨hHeld, (rX HO133.out), (rM HO136.out (fun _ hk => hk.2)), (kX BK124.out), (kX BK125.out), (kX BK146.out), GW146.out, GE146.out, NB124_146.out, NB146_124.out, NB125_146.out, NB146_125.out, (bX3 HB.out GE124.out GE125.out GE146.out)⟩)
 }
 {
 skip
 refine Kd.R_lit_step (Kd.int .i64) _ 3 ?hg (N := 31) ?hd (xs := ([] : List Int)) (inner := []) (ok := fun _ => True) (okp := fun _ => True) ?hr ?hp (fun _ hk => hk) trivial (Below.refl _ _) (Nat.le_refl _) (by simp) ?_; (case hd => rfl); (case hg => rfl); (case hr => first | (go_simp; done) | (go_simp; rfl)); (case hp => exact (Reps.none _ _))
 intro v141 w23 ho24 hb hg_ hnew_
 clear hg_ hnew_
 (first | rw [← Ny140.out] at ho24 | (simp only [Int.reduceToNat] at ho24; rw [← Ny140.out] at ho24))
 have n0_ := Aside0.mk (Kd.R_elder' (rX HO130.out) (Kd.R_base ho24) hb)
 have n1_ := Aside0.mk (Kd.R_elder' (rX HO136.out) (Kd.R_base ho24) hb)
 have n2_ := Aside0.mk (Kd.R_lower (Kd.R_new' (Kd.R_new' ho24 (Kd.R_lt (rX HO130.out))) (Kd.R_lt (rX HO136.out))) (below_size (bX3 HB.out GE124.out GE125.out GE146.out)))
 have n3_ := Aside0.mk (bbX BK124.out hb)
 have n4_ := Aside0.mk (bbX BK125.out hb)
 have n5_ := Aside0.mk (bbX BK146.out hb)
 have n6_ := Aside0.mk (below_step (bX3 HB.out GE124.out GE125.out GE146.out) hb)
 clear HO130 HO136 BK124 BK125 BK146 HB
 have HO130 := n0_
 have HO136 := n1_
 have HO142 := n2_
 have BK124 := n3_
 have BK125 := n4_
 have BK146 := n5_
 have HB := n6_
 clear n0_ n1_ n2_ n3_ n4_ n5_ n6_ hb ho24
 refine hK.out _ _ ⟨cz30 BK124.out, cz31 BK124.out, cz32 BK124.out⟩ (fun hHeld => ?_)
 clear hK K
 refine norm_ (a' := ?_) ?_ ?_
 rotate_left
 {
 show Act.put _ (some 31) _ = _
 simp only [Act.put, zA, zB, zC, i64_w, i32_w]
 rfl
 }
 exact nX (hJ0_4_8_13 (v129, v135, v141, gb146) _ ⟨hHeld, (rX HO130.out), (rX HO136.out), (rM HO142.out (fun _ hk => ⟨hk.1.2, hk.2⟩)), (kX BK124.out), (kX BK125.out), (kX BK146.out), GW146.out, GE146.out, NB124_146.out, NB146_124.out, NB125_146.out, NB146_125.out, (bX3 HB.out GE124.out GE125.out GE146.out)⟩)
 }
 }
 }
 {
 skip
 rintro ⟨v129, v135, v141⟩ w23 ⟨hS_, h0_, h1_, h2_, h3_, h4_, h5_⟩
 have n0_ : Aside0 (Kd.R (Kd.int .i64) 3 w23 w.heap.size (fun k_ => some k_ ≠ (v135 : Value).ownBlock ∧ some k_ ≠ (v141 : Value).ownBlock) v129 y128) := ⟨h0_⟩
 have n1_ : Aside0 (Kd.R (Kd.int .i64) 3 w23 w.heap.size (fun k_ => some k_ ≠ (v129 : Value).ownBlock ∧ some k_ ≠ (v141 : Value).ownBlock) v135 y134) := ⟨h1_⟩
 have n2_ : Aside0 (Kd.R (Kd.int .i64) 3 w23 w.heap.size (fun k_ => some k_ ≠ (v129 : Value).ownBlock ∧ some k_ ≠ (v135 : Value).ownBlock) v141 y140) := ⟨h2_⟩
 have n3_ : Aside0 (w23.heap[gb124]? = some (.cells #[.slice A0_0 l0_0.length c0_0, .slice (some ad126) l0_1.length c0_1, .slice (some ad127) l0_2.length c0_2] 26 (0, 0))) := ⟨h3_⟩
 have n4_ : Aside0 (w23.heap[gb125]? = some (.cells #[.slice none 0 0, .slice none 0 0, .slice none 0 0] 26 (0, 0))) := ⟨h4_⟩
 have n5_ : Aside0 (Below w.heap.size w w23) := ⟨h5_⟩
 clear BK124 BK125 HB h0_ h1_ h2_ h3_ h4_ h5_
 have HO130 := n0_
 have HO136 := n1_
 have HO142 := n2_
 have BK124 := n3_
 have BK125 := n4_
 have HB := n5_
 clear n0_ n1_ n2_ n3_ n4_ n5_
 have hHeld : w23.cell? ⟨gb124, 0, none⟩ = some (.slice A0_0 l0_0.length c0_0) ∧ w23.cell? ⟨gb124, 1, none⟩ = some (.slice (some ad126) l0_1.length c0_1) ∧ w23.cell? ⟨gb124, 2, none⟩ = some (.slice (some ad127) l0_2.length c0_2) := hS_
 refine norm_ (a' := ?_) ?_ ?_
 rotate_left
 {
 simp only [putAll, Act.put, List.setIfInBounds_toArray, List.set_cons_zero, List.set_cons_succ]
 rfl
 }
 refine two_ (i := 3) (j := 13) (Ni := some 26) (Nj := some 6) #[tt,tt,tt,tt,tt,tt,tt,ff,tt,tt,tt,ff,ff,ff,ff] #[tt,tt,tt,ff,tt,tt,tt,ff,tt,tt,tt,ff,ff,tt,ff] rfl rfl rfl rfl (two_of HT_.out (by kernel_rfl)) (by decide) (by decide) (fun K hK => ?_) (fun K hK => ?_)
 {
 skip
 refine Kd.R_append_rows_step (Kd.int .i64) (w0 := w) w.heap.size (by rfl) (.tmp 23) (.tmp 25) 22 3 (.int .i64 0) 8 rfl Try.underlying22 info3 rfl (by decide) (by omega) v129 y128 l0_0 _ _ _ (fun k_ => some k_ ≠ (v135 : Value).ownBlock ∧ some k_ ≠ (v141 : Value).ownBlock) (fun _ => False) rfl rfl ?aO ?aR (fun _ _ h => h) (fun _ h => h.elim) ?aF ?aB ?aS ?aL ?_
 (case aR => exact cX (Kd.C_below HR0_0.out HB.out))
 (case aB => exact (bX2 HB.out GE124.out GE125.out))
 (case aF => exact (fun k_ hk => ⟨Kd.fresh' (Kd.R_lt (rX HO136.out)) k_ hk, Kd.fresh' (Kd.R_lt (rX HO142.out)) k_ hk⟩))
 (case aO => exact (rX HO130.out))
 (case aS => exact (below_size (bX2 HB.out GE124.out GE125.out)))
 (case aL => have := LMc8.out; omega)
 intro v132 w24 ho hb hg hat
 rw [← Ny131.out] at ho
 have n0_ := Aside0.mk (bgX BK124.out hg (Kd.R_ne HO130.out BK124.out (by decide)))
 have n1_ := Aside0.mk (bgX BK125.out hg (Kd.R_ne HO130.out BK125.out (by decide)))
 have n2_ := Aside0.mk (Kd.R_after (ok := (fun k_ => some k_ ≠ (v141 : Value).ownBlock)) (rM HO136.out (fun _ hk => ⟨hk.2, hk.1⟩)) hg hat)
 have n3_ := Aside0.mk (Kd.R_after (ok := (fun k_ => some k_ ≠ (v135 : Value).ownBlock)) (rM HO142.out (fun _ hk => ⟨hk.2, hk.1⟩)) hg hat)
 have n4_ := Aside0.mk (hb)
 have n5_ := Aside0.mk (ho)
 clear BK124 BK125 HO136 HO142 HB HO130
 have BK124 := n0_
 have BK125 := n1_
 have HO136 := n2_
 have HO142 := n3_
 have HB := n4_
 have HO133 := n5_
 clear n0_ n1_ n2_ n3_ n4_ n5_ ho hb hg hat
 refine hK.out _ _ ⟨cz30 BK124.out, cz31 BK124.out, cz32 BK124.out⟩ (fun hHeld => ?_)
 clear hK K
 refine norm_ (a' := ?_) ?_ ?_
 rotate_left
 {
 show Act.put _ (some 26) _ = _
 simp only [Act.put, zA, zB, zC, i64_w, i32_w]
 rfl
 }
 exact nX (hJ0_3_4_8 (v129, v132, v135, v141) _ ⟨hHeld, (rX HO133.out), (rM HO136.out (fun _ hk => ⟨hk.2, hk.1⟩)), (rM HO142.out (fun _ hk => ⟨hk.2, hk.1⟩)), (kX BK124.out), (kX BK125.out), (bX2 HB.out GE124.out GE125.out)⟩)
 }
 {
 skip
 refine box_step ?hg (N := 6) ?hd (cs := #[.slice none 0 0, .slice none 0 0, .slice none 0 0]) (t := 26) ?hr ?_; (case hd => rfl); (case hg => rfl); (case hr => first | (go_simp; done) | (go_simp; rfl))
 intro gb146 hg w24 hbox hb
 have n0_ := Aside0.mk (Kd.R_below (rX HO130.out) hb)
 have n1_ := Aside0.mk (Kd.R_below (rX HO136.out) hb)
 have n2_ := Aside0.mk (Kd.R_below (rX HO142.out) hb)
 have n3_ := Aside0.mk (bbX BK124.out hb)
 have n4_ := Aside0.mk (bbX BK125.out hb)
 have n5_ := Aside0.mk (below_step (bX2 HB.out GE124.out GE125.out) hb)
 have n6_ := Aside0.mk (hbox)
 have n7_ := Aside0.mk ((szX (below_size (bX2 HB.out GE124.out GE125.out)) hg : w.heap.size ≤ gb146))
 have n8_ := Aside0.mk ((szX (below_size (bX2 HB.out GE124.out GE125.out)) hg : w.heap.size ≤ gb146))
 have n9_ := Aside0.mk (neX BK124.out hg)
 have n10_ := Aside0.mk (nfX BK124.out hg)
 have n11_ := Aside0.mk (neX BK125.out hg)
 have n12_ := Aside0.mk (nfX BK125.out hg)
 clear HO130 HO136 HO142 BK124 BK125 HB
 have HO130 := n0_
 have HO136 := n1_
 have HO142 := n2_
 have BK124 := n3_
 have BK125 := n4_
 have HB := n5_
 have BK146 := n6_
 have GW146 := n7_
 have GE146 := n8_
 have NB124_146 := n9_
 have NB146_124 := n10_
 have NB125_146 := n11_
 have NB146_125 := n12_
 clear n0_ n1_ n2_ n3_ n4_ n5_ n6_ n7_ n8_ n9_ n10_ n11_ n12_ hb hbox hg
 refine hK.out _ _ ⟨cz30 BK124.out, cz31 BK124.out, cz32 BK124.out⟩ (fun hHeld => ?_)
 clear hK K
 refine norm_ (a' := ?_) ?_ ?_
 rotate_left
 {
 show Act.put _ (some 6) _ = _
 simp only [Act.put, zA, zB, zC, i64_w, i32_w]
 rfl
 }
 exact nX (hJ0_4_8_13 (v129, v135, v141, gb146) _ ⟨hHeld, (rX HO130.out), (rX HO136.out), (rX HO142.out), (kX BK124.out), (kX BK125.out), (kX BK146.out), GW146.out, GE146.out, NB124_146.out, NB146_124.out, NB125_146.out, NB146_125.out, (bX3 HB.out GE124.out GE125.out GE146.out)⟩)
 }
 }
 }
 {
 skip
 rintro ⟨v129, v132, gb146⟩ w21 ⟨hS_, h0_, h1_, h2_, h3_, h4_, h5_, h6_, h7_, h8_, h9_, h10_⟩
 have n0_ : Aside0 (Kd.R (Kd.int .i64) 3 w21 w.heap.size (fun _ => True) v132 y131) := ⟨h0_⟩
 have n1_ : Aside0 (w21.heap[gb124]? = some (.cells #[.slice A0_0 l0_0.length c0_0, .slice (some ad126) l0_1.length c0_1, .slice (some ad127) l0_2.length c0_2] 26 (0, 0))) := ⟨h1_⟩
 have n2_ : Aside0 (w21.heap[gb125]? = some (.cells #[.slice none 0 0, .slice none 0 0, .slice none 0 0] 26 (0, 0))) := ⟨h2_⟩
 have n3_ : Aside0 (w21.heap[gb146]? = some (.cells #[.slice none 0 0, .slice none 0 0, .slice none 0 0] 26 (0, 0))) := ⟨h3_⟩
 have n4_ : Aside0 (w.heap.size ≤ gb146) := ⟨h4_⟩
 have n5_ : Aside0 (w.heap.size ≤ gb146) := ⟨h5_⟩
 have n6_ : Aside0 (gb124 ≠ gb146) := ⟨h6_⟩
 have n7_ : Aside0 (gb146 ≠ gb124) := ⟨h7_⟩
 have n8_ : Aside0 (gb125 ≠ gb146) := ⟨h8_⟩
 have n9_ : Aside0 (gb146 ≠ gb125) := ⟨h9_⟩
 have n10_ : Aside0 (Below w.heap.size w w21) := ⟨h10_⟩
 clear BK124 BK125 HB h0_ h1_ h2_ h3_ h4_ h5_ h6_ h7_ h8_ h9_ h10_
 have HO133 := n0_
 have BK124 := n1_
 have BK125 := n2_
 have BK146 := n3_
 have GW146 := n4_
 have GE146 := n5_
 have NB124_146 := n6_
 have NB146_124 := n7_
 have NB125_146 := n8_
 have NB146_125 := n9_
 have HB := n10_
 clear n0_ n1_ n2_ n3_ n4_ n5_ n6_ n7_ n8_ n9_ n10_
 have hHeld : w21.cell? ⟨gb124, 0, none⟩ = some (.slice A0_0 l0_0.length c0_0) ∧ w21.cell? ⟨gb124, 1, none⟩ = some (.slice (some ad126) l0_1.length c0_1) ∧ w21.cell? ⟨gb124, 2, none⟩ = some (.slice (some ad127) l0_2.length c0_2) := hS_
 refine norm_ (a' := ?_) ?_ ?_
 rotate_left
 {
 simp only [putAll, Act.put, List.setIfInBounds_toArray, List.set_cons_zero, List.set_cons_succ]
 rfl
 }
 refine two_ (i := 4) (j := 8) (Ni := some 27) (Nj := some 31) #[tt,tt,tt,tt,tt,tt,tt,ff,ff,tt,tt,ff,ff,tt,ff] #[tt,tt,tt,tt,ff,tt,tt,ff,tt,tt,tt,ff,ff,tt,ff] rfl rfl rfl rfl (two_of HT_.out (by kernel_rfl)) (by decide) (by decide) (fun K hK => ?_) (fun K hK => ?_)
 {
 skip
 refine Kd.R_lit_step (Kd.int .i64) _ 3 ?hg (N := 27) ?hd (xs := ([] : List Int)) (inner := []) (ok := fun _ => True) (okp := fun _ => True) ?hr ?hp (fun _ hk => hk) trivial (Below.refl _ _) (Nat.le_refl _) (by simp) ?_; (case hd => rfl); (case hg => rfl); (case hr => first | (go_simp; done) | (go_simp; rfl)); (case hp => exact (Reps.none _ _))
 intro v135 w22 ho23 hb hg_ hnew_
 clear hg_ hnew_
 (first | rw [← Ny134.out] at ho23 | (simp only [Int.reduceToNat] at ho23; rw [← Ny134.out] at ho23))
 have n0_ := Aside0.mk (Kd.R_elder' (rX HO133.out) (Kd.R_base ho23) hb)
 have n1_ := Aside0.mk (Kd.R_lower (Kd.R_new' ho23 (Kd.R_lt (rX HO133.out))) (below_size (bX3 HB.out GE124.out GE125.out GE146.out)))
 have n2_ := Aside0.mk (bbX BK124.out hb)
 have n3_ := Aside0.mk (bbX BK125.out hb)
 have n4_ := Aside0.mk (bbX BK146.out hb)
 have n5_ := Aside0.mk (below_step (bX3 HB.out GE124.out GE125.out GE146.out) hb)
 clear HO133 BK124 BK125 BK146 HB
 have HO133 := n0_
 have HO136 := n1_
 have BK124 := n2_
 have BK125 := n3_
 have BK146 := n4_
 have HB := n5_
 clear n0_ n1_ n2_ n3_ n4_ n5_ hb ho23
 refine hK.out _ _ ⟨cz30 BK124.out, cz31 BK124.out, cz32 BK124.out⟩ (fun hHeld => ?_)
 clear hK K
 refine norm_ (a' := ?_) ?_ ?_
 rotate_left
 {
 show Act.put _ (some 27) _ = _
 simp only [Act.put, zA, zB, zC, i64_w, i32_w]
 rfl
 }
 exact nX (hJ0_3_4_13 (v129, v132, v135, gb146) _ ⟨hHeld, (rM HO133.out (fun _ hk => hk.2)), (rM HO136.out (fun _ hk => hk.2)), (kX BK124.out), (kX BK125.out), (kX BK146.out), GW146.out, GE146.out, NB124_146.out, NB146_124.out, NB125_146.out, NB146_125.out, (bX3 HB.out GE124.out GE125.out GE146.out)⟩)
 }
 {
 skip
 refine Kd.R_lit_step (Kd.int .i64) _ 3 ?hg (N := 31) ?hd (xs := ([] : List Int)) (inner := []) (ok := fun _ => True) (okp := fun _ => True) ?hr ?hp (fun _ hk => hk) trivial (Below.refl _ _) (Nat.le_refl _) (by simp) ?_; (case hd => rfl); (case hg => rfl); (case hr => first | (go_simp; done) | (go_simp; rfl)); (case hp => exact (Reps.none _ _))
 intro v141 w22 ho23 hb hg_ hnew_
 clear hg_ hnew_
 (first | rw [← Ny140.out] at ho23 | (simp only [Int.reduceToNat] at ho23; rw [← Ny140.out] at ho23))
 have n0_ := Aside0.mk (Kd.R_elder' (rX HO133.out) (Kd.R_base ho23) hb)
 have n1_ := Aside0.mk (Kd.R_lower (Kd.R_new' ho23 (Kd.R_lt (rX HO133.out))) (below_size (bX3 HB.out GE124.out GE125.out GE146.out)))
 have n2_ := Aside0.mk (bbX BK124.out hb)
 have n3_ := Aside0.mk (bbX BK125.out hb)
 have n4_ := Aside0.mk (bbX BK146.out hb)
 have n5_ := Aside0.mk (below_step (bX3 HB.out GE124.out GE125.out GE146.out) hb)
 clear HO133 BK124 BK125 BK146 HB
 have HO133 := n0_
 have HO142 := n1_
 have BK124 := n2_
 have BK125 := n3_
 have BK146 := n4_
 have HB := n5_
 clear n0_ n1_ n2_ n3_ n4_ n5_ hb ho23
 refine hK.out _ _ ⟨cz30 BK124.out, cz31 BK124.out, cz32 BK124.out⟩ (fun hHeld => ?_)
 clear hK K
 refine norm_ (a' := ?_) ?_ ?_
 rotate_left
 {
 show Act.put _ (some 31) _ = _
 simp only [Act.put, zA, zB, zC, i64_w, i32_w]
 rfl
 }
 exact nX (hJ0_3_8_13 (v129, v132, v141, gb146) _ ⟨hHeld, (rM HO133.out (fun _ hk => hk.2)), (rM HO142.out (fun _ hk => hk.2)), (kX BK124.out), (kX BK125.out), (kX BK146.out), GW146.out, GE146.out, NB124_146.out, NB146_124.out, NB125_146.out, NB146_125.out, (bX3 HB.out GE124.out GE125.out GE146.out)⟩)
 }
 }
 }
 {
 skip
 rintro ⟨v129, v132, v141⟩ w22 ⟨hS_, h0_, h1_, h2_, h3_, h4_⟩
 have n0_ : Aside0 (Kd.R (Kd.int .i64) 3 w22 w.heap.size (fun k_ => some k_ ≠ (v141 : Value).ownBlock) v132 y131) := ⟨h0_⟩
 have n1_ : Aside0 (Kd.R (Kd.int .i64) 3 w22 w.heap.size (fun k_ => some k_ ≠ (v132 : Value).ownBlock) v141 y140) := ⟨h1_⟩
 have n2_ : Aside0 (w22.heap[gb124]? = some (.cells #[.slice A0_0 l0_0.length c0_0, .slice (some ad126) l0_1.length c0_1, .slice (some ad127) l0_2.length c0_2] 26 (0, 0))) := ⟨h2_⟩
 have n3_ : Aside0 (w22.heap[gb125]? = some (.cells #[.slice none 0 0, .slice none 0 0, .slice none 0 0] 26 (0, 0))) := ⟨h3_⟩
 have n4_ : Aside0 (Below w.heap.size w w22) := ⟨h4_⟩
 clear BK124 BK125 HB h0_ h1_ h2_ h3_ h4_
 have HO133 := n0_
 have HO142 := n1_
 have BK124 := n2_
 have BK125 := n3_
 have HB := n4_
 clear n0_ n1_ n2_ n3_ n4_
 have hHeld : w22.cell? ⟨gb124, 0, none⟩ = some (.slice A0_0 l0_0.length c0_0) ∧ w22.cell? ⟨gb124, 1, none⟩ = some (.slice (some ad126) l0_1.length c0_1) ∧ w22.cell? ⟨gb124, 2, none⟩ = some (.slice (some ad127) l0_2.length c0_2) := hS_
 refine norm_ (a' := ?_) ?_ ?_
 rotate_left
 {
 simp only [putAll, Act.put, List.setIfInBounds_toArray, List.set_cons_zero, List.set_cons_succ]
 rfl
 }
 refine two_ (i := 4) (j := 13) (Ni := some 27) (Nj := some 6) #[tt,tt,tt,tt,tt,tt,tt,ff,tt,tt,tt,ff,ff,ff,ff] #[tt,tt,tt,tt,ff,tt,tt,ff,tt,tt,tt,ff,ff,tt,ff] rfl rfl rfl rfl (two_of HT_.out (by kernel_rfl)) (by decide) (by decide) (fun K hK => ?_) (fun K hK => ?_)
 {
 skip
 refine Kd.R_lit_step (Kd.int .i64) _ 3 ?hg (N := 27) ?hd (xs := ([] : List Int)) (inner := []) (ok := fun _ => True) (okp := fun _ => True) ?hr ?hp (fun _ hk => hk) trivial (Below.refl _ _) (Nat.le_refl _) (by simp) ?_; (case hd => rfl); (case hg => rfl); (case hr => first | (go_simp; done) | (go_simp; rfl)); (case hp => exact (Reps.none _ _))
 intro v135 w23 ho24 hb hg_ hnew_
 clear hg_ hnew_
 (first | rw [← Ny134.out] at ho24 | (simp only [Int.reduceToNat] at ho24; rw [← Ny134.out] at ho24))
 have n0_ := Aside0.mk (Kd.R_elder' (rX HO133.out) (Kd.R_base ho24) hb)
 have n1_ := Aside0.mk (Kd.R_elder' (rX HO142.out) (Kd.R_base ho24) hb)
 have n2_ := Aside0.mk (Kd.R_lower (Kd.R_new' (Kd.R_new' ho24 (Kd.R_lt (rX HO133.out))) (Kd.R_lt (rX HO142.out))) (below_size (bX2 HB.out GE124.out GE125.out)))
 have n3_ := Aside0.mk (bbX BK124.out hb)
 have n4_ := Aside0.mk (bbX BK125.out hb)
 have n5_ := Aside0.mk (below_step (bX2 HB.out GE124.out GE125.out) hb)
 clear HO133 HO142 BK124 BK125 HB
 have HO133 := n0_
 have HO142 := n1_
 have HO136 := n2_
 have BK124 := n3_
 have BK125 := n4_
 have HB := n5_
 clear n0_ n1_ n2_ n3_ n4_ n5_ hb ho24
 refine hK.out _ _ ⟨cz30 BK124.out, cz31 BK124.out, cz32 BK124.out⟩ (fun hHeld => ?_)
 clear hK K
 refine norm_ (a' := ?_) ?_ ?_
 rotate_left
 {
 show Act.put _ (some 27) _ = _
 simp only [Act.put, zA, zB, zC, i64_w, i32_w]
 rfl
 }
 exact nX (hJ0_3_4_8 (v129, v132, v135, v141) _ ⟨hHeld, (rM HO133.out (fun _ hk => ⟨hk.2, hk.1⟩)), (rM HO136.out (fun _ hk => ⟨hk.1.2, hk.2⟩)), (rX HO142.out), (kX BK124.out), (kX BK125.out), (bX2 HB.out GE124.out GE125.out)⟩)
 }
 {
 skip
 refine box_step ?hg (N := 6) ?hd (cs := #[.slice none 0 0, .slice none 0 0, .slice none 0 0]) (t := 26) ?hr ?_; (case hd => rfl); (case hg => rfl); (case hr => first | (go_simp; done) | (go_simp; rfl))
 intro gb146 hg w23 hbox hb
 have n0_ := Aside0.mk (Kd.R_below (rX HO133.out) hb)
 have n1_ := Aside0.mk (Kd.R_below (rX HO142.out) hb)
 have n2_ := Aside0.mk (bbX BK124.out hb)
 have n3_ := Aside0.mk (bbX BK125.out hb)
 have n4_ := Aside0.mk (below_step (bX2 HB.out GE124.out GE125.out) hb)
 have n5_ := Aside0.mk (hbox)
 have n6_ := Aside0.mk ((szX (below_size (bX2 HB.out GE124.out GE125.out)) hg : w.heap.size ≤ gb146))
 have n7_ := Aside0.mk ((szX (below_size (bX2 HB.out GE124.out GE125.out)) hg : w.heap.size ≤ gb146))
 have n8_ := Aside0.mk (neX BK124.out hg)
 have n9_ := Aside0.mk (nfX BK124.out hg)
 have n10_ := Aside0.mk (neX BK125.out hg)
 have n11_ := Aside0.mk (nfX BK125.out hg)
 clear HO133 HO142 BK124 BK125 HB
 have HO133 := n0_
 have HO142 := n1_
 have BK124 := n2_
 have BK125 := n3_
 have HB := n4_
 have BK146 := n5_
 have GW146 := n6_
 have GE146 := n7_
 have NB124_146 := n8_
 have NB146_124 := n9_
 have NB125_146 := n10_
 have NB146_125 := n11_
 clear n0_ n1_ n2_ n3_ n4_ n5_ n6_ n7_ n8_ n9_ n10_ n11_ hb hbox hg
 refine hK.out _ _ ⟨cz30 BK124.out, cz31 BK124.out, cz32 BK124.out⟩ (fun hHeld => ?_)
 clear hK K
 refine norm_ (a' := ?_) ?_ ?_
 rotate_left
 {
 show Act.put _ (some 6) _ = _
 simp only [Act.put, zA, zB, zC, i64_w, i32_w]
 rfl
 }
 exact nX (hJ0_3_8_13 (v129, v132, v141, gb146) _ ⟨hHeld, (rX HO133.out), (rX HO142.out), (kX BK124.out), (kX BK125.out), (kX BK146.out), GW146.out, GE146.out, NB124_146.out, NB146_124.out, NB125_146.out, NB146_125.out, (bX3 HB.out GE124.out GE125.out GE146.out)⟩)
 }
 }
 }
 {
 skip
 rintro ⟨v129, v132, v135⟩ w22 ⟨hS_, h0_, h1_, h2_, h3_, h4_⟩
 have n0_ : Aside0 (Kd.R (Kd.int .i64) 3 w22 w.heap.size (fun k_ => some k_ ≠ (v135 : Value).ownBlock) v132 y131) := ⟨h0_⟩
 have n1_ : Aside0 (Kd.R (Kd.int .i64) 3 w22 w.heap.size (fun k_ => some k_ ≠ (v132 : Value).ownBlock) v135 y134) := ⟨h1_⟩
 have n2_ : Aside0 (w22.heap[gb124]? = some (.cells #[.slice A0_0 l0_0.length c0_0, .slice (some ad126) l0_1.length c0_1, .slice (some ad127) l0_2.length c0_2] 26 (0, 0))) := ⟨h2_⟩
 have n3_ : Aside0 (w22.heap[gb125]? = some (.cells #[.slice none 0 0, .slice none 0 0, .slice none 0 0] 26 (0, 0))) := ⟨h3_⟩
 have n4_ : Aside0 (Below w.heap.size w w22) := ⟨h4_⟩
 clear BK124 BK125 HB h0_ h1_ h2_ h3_ h4_
 have HO133 := n0_
 have HO136 := n1_
 have BK124 := n2_
 have BK125 := n3_
 have HB := n4_
 clear n0_ n1_ n2_ n3_ n4_
 have hHeld : w22.cell? ⟨gb124, 0, none⟩ = some (.slice A0_0 l0_0.length c0_0) ∧ w22.cell? ⟨gb124, 1, none⟩ = some (.slice (some ad126) l0_1.length c0_1) ∧ w22.cell? ⟨gb124, 2, none⟩ = some (.slice (some ad127) l0_2.length c0_2) := hS_
 refine norm_ (a' := ?_) ?_ ?_
 rotate_left
 {
 simp only [putAll, Act.put, List.setIfInBounds_toArray, List.set_cons_zero, List.set_cons_succ]
 rfl
 }
 refine three_ (i := 7) (j := 8) (k := 13) (Ni := some 30) (Nj := some 31) (Nk := some 6) #[tt,tt,tt,tt,tt,tt,tt,tt,ff,tt,tt,ff,ff,ff,ff] #[tt,tt,tt,tt,tt,tt,tt,ff,tt,tt,tt,ff,ff,ff,ff] #[tt,tt,tt,tt,tt,tt,tt,ff,ff,tt,tt,ff,ff,tt,ff] rfl rfl rfl rfl rfl rfl (three_of HT_.out (by kernel_rfl)) (by decide) (by decide) (by decide) (fun K hK => ?_) (fun K hK => ?_) (fun K hK => ?_)
 {
 skip
 refine Kd.R_append_rows_step (Kd.int .i64) (w0 := w) w.heap.size (by rfl) (.tmp 27) (.tmp 29) 22 3 (.int .i64 0) 8 rfl Try.underlying22 info3 rfl (by decide) (by omega) v135 y134 l0_1 _ _ _ (fun k_ => some k_ ≠ (v132 : Value).ownBlock) (fun _ => False) rfl rfl ?aO ?aR (fun _ _ h => h) (fun _ h => h.elim) ?aF ?aB ?aS ?aL ?_
 (case aR => exact cX (Kd.C_below HR0_1.out HB.out))
 (case aB => exact (bX2 HB.out GE124.out GE125.out))
 (case aF => exact (fun k_ hk => Kd.fresh' (Kd.R_lt (rX HO133.out)) k_ hk))
 (case aO => exact (rX HO136.out))
 (case aS => exact (below_size (bX2 HB.out GE124.out GE125.out)))
 (case aL => have := LMc9.out; omega)
 intro v138 w23 ho hb hg hat
 rw [← Ny137.out] at ho
 have n0_ := Aside0.mk (bgX BK124.out hg (Kd.R_ne HO136.out BK124.out (by decide)))
 have n1_ := Aside0.mk (bgX BK125.out hg (Kd.R_ne HO136.out BK125.out (by decide)))
 have n2_ := Aside0.mk (Kd.R_after (ok := (fun _ => True)) (rM HO133.out (fun _ hk => ⟨trivial, hk⟩)) hg hat)
 have n3_ := Aside0.mk (hb)
 have n4_ := Aside0.mk (ho)
 clear BK124 BK125 HO133 HB HO136
 have BK124 := n0_
 have BK125 := n1_
 have HO133 := n2_
 have HB := n3_
 have HO139 := n4_
 clear n0_ n1_ n2_ n3_ n4_ ho hb hg hat
 refine hK.out _ _ ⟨cz30 BK124.out, cz31 BK124.out, cz32 BK124.out⟩ (fun hHeld => ?_)
 clear hK K
 refine norm_ (a' := ?_) ?_ ?_
 rotate_left
 {
 show Act.put _ (some 30) _ = _
 simp only [Act.put, zA, zB, zC, i64_w, i32_w]
 rfl
 }
 exact nX (hJ0_3_4_7 (v129, v132, v135, v138) _ ⟨hHeld, (rM HO133.out (fun _ hk => hk.2)), (rX HO139.out), (kX BK124.out), (kX BK125.out), (bX2 HB.out GE124.out GE125.out)⟩)
 }
 {
 skip
 refine Kd.R_lit_step (Kd.int .i64) _ 3 ?hg (N := 31) ?hd (xs := ([] : List Int)) (inner := []) (ok := fun _ => True) (okp := fun _ => True) ?hr ?hp (fun _ hk => hk) trivial (Below.refl _ _) (Nat.le_refl _) (by simp) ?_; (case hd => rfl); (case hg => rfl); (case hr => first | (go_simp; done) | (go_simp; rfl)); (case hp => exact (Reps.none _ _))
 intro v141 w23 ho24 hb hg_ hnew_
 clear hg_ hnew_
 (first | rw [← Ny140.out] at ho24 | (simp only [Int.reduceToNat] at ho24; rw [← Ny140.out] at ho24))
 have n0_ := Aside0.mk (Kd.R_elder' (rX HO133.out) (Kd.R_base ho24) hb)
 have n1_ := Aside0.mk (Kd.R_elder' (rX HO136.out) (Kd.R_base ho24) hb)
 have n2_ := Aside0.mk (Kd.R_lower (Kd.R_new' (Kd.R_new' ho24 (Kd.R_lt (rX HO133.out))) (Kd.R_lt (rX HO136.out))) (below_size (bX2 HB.out GE124.out GE125.out)))
 have n3_ := Aside0.mk (bbX BK124.out hb)
 have n4_ := Aside0.mk (bbX BK125.out hb)
 have n5_ := Aside0.mk (below_step (bX2 HB.out GE124.out GE125.out) hb)
 clear HO133 HO136 BK124 BK125 HB
 have HO133 := n0_
 have HO136 := n1_
 have HO142 := n2_
 have BK124 := n3_
 have BK125 := n4_
 have HB := n5_
 clear n0_ n1_ n2_ n3_ n4_ n5_ hb ho24
 refine hK.out _ _ ⟨cz30 BK124.out, cz31 BK124.out, cz32 BK124.out⟩ (fun hHeld => ?_)
 clear hK K
 refine norm_ (a' := ?_) ?_ ?_
 rotate_left
 {
 show Act.put _ (some 31) _ = _
 simp only [Act.put, zA, zB, zC, i64_w, i32_w]
 rfl
 }
 exact nX (hJ0_3_4_8 (v129, v132, v135, v141) _ ⟨hHeld, (rX HO133.out), (rX HO136.out), (rM HO142.out (fun _ hk => ⟨hk.1.2, hk.2⟩)), (kX BK124.out), (kX BK125.out), (bX2 HB.out GE124.out GE125.out)⟩)
 }
 {
 skip
 refine box_step ?hg (N := 6) ?hd (cs := #[.slice none 0 0, .slice none 0 0, .slice none 0 0]) (t := 26) ?hr ?_; (case hd => rfl); (case hg => rfl); (case hr => first | (go_simp; done) | (go_simp; rfl))
 intro gb146 hg w23 hbox hb
 have n0_ := Aside0.mk (Kd.R_below (rX HO133.out) hb)
 have n1_ := Aside0.mk (Kd.R_below (rX HO136.out) hb)
 have n2_ := Aside0.mk (bbX BK124.out hb)
 have n3_ := Aside0.mk (bbX BK125.out hb)
 have n4_ := Aside0.mk (below_step (bX2 HB.out GE124.out GE125.out) hb)
 have n5_ := Aside0.mk (hbox)
 have n6_ := Aside0.mk ((szX (below_size (bX2 HB.out GE124.out GE125.out)) hg : w.heap.size ≤ gb146))
 have n7_ := Aside0.mk ((szX (below_size (bX2 HB.out GE124.out GE125.out)) hg : w.heap.size ≤ gb146))
 have n8_ := Aside0.mk (neX BK124.out hg)
 have n9_ := Aside0.mk (nfX BK124.out hg)
 have n10_ := Aside0.mk (neX BK125.out hg)
 have n11_ := Aside0.mk (nfX BK125.out hg)
 clear HO133 HO136 BK124 BK125 HB
 have HO133 := n0_
 have HO136 := n1_
 have BK124 := n2_
 have BK125 := n3_
 have HB := n4_
 have BK146 := n5_
 have GW146 := n6_
 have GE146 := n7_
 have NB124_146 := n8_
 have NB146_124 := n9_
 have NB125_146 := n10_
 have NB146_125 := n11_
 clear n0_ n1_ n2_ n3_ n4_ n5_ n6_ n7_ n8_ n9_ n10_ n11_ hb hbox hg
 refine hK.out _ _ ⟨cz30 BK124.out, cz31 BK124.out, cz32 BK124.out⟩ (fun hHeld => ?_)
 clear hK K
 refine norm_ (a' := ?_) ?_ ?_
 rotate_left
 {
 show Act.put _ (some 6) _ = _
 simp only [Act.put, zA, zB, zC, i64_w, i32_w]
 rfl
 }
 exact nX (hJ0_3_4_13 (v129, v132, v135, gb146) _ ⟨hHeld, (rX HO133.out), (rX HO136.out), (kX BK124.out), (kX BK125.out), (kX BK146.out), GW146.out, GE146.out, NB124_146.out, NB146_124.out, NB125_146.out, NB146_125.out, (bX3 HB.out GE124.out GE125.out GE146.out)⟩)
 }
 }
 }
 {
 skip
 rintro ⟨v129, v135, v141, gb146⟩ w24 ⟨hS_, h0_, h1_, h2_, h3_, h4_, h5_, h6_, h7_, h8_, h9_, h10_, h11_, h12_⟩
 have n0_ : Aside0 (Kd.R (Kd.int .i64) 3 w24 w.heap.size (fun k_ => some k_ ≠ (v135 : Value).ownBlock ∧ some k_ ≠ (v141 : Value).ownBlock) v129 y128) := ⟨h0_⟩
 have n1_ : Aside0 (Kd.R (Kd.int .i64) 3 w24 w.heap.size (fun k_ => some k_ ≠ (v129 : Value).ownBlock ∧ some k_ ≠ (v141 : Value).ownBlock) v135 y134) := ⟨h1_⟩
 have n2_ : Aside0 (Kd.R (Kd.int .i64) 3 w24 w.heap.size (fun k_ => some k_ ≠ (v129 : Value).ownBlock ∧ some k_ ≠ (v135 : Value).ownBlock) v141 y140) := ⟨h2_⟩
 have n3_ : Aside0 (w24.heap[gb124]? = some (.cells #[.slice A0_0 l0_0.length c0_0, .slice (some ad126) l0_1.length c0_1, .slice (some ad127) l0_2.length c0_2] 26 (0, 0))) := ⟨h3_⟩
 have n4_ : Aside0 (w24.heap[gb125]? = some (.cells #[.slice none 0 0, .slice none 0 0, .slice none 0 0] 26 (0, 0))) := ⟨h4_⟩
 have n5_ : Aside0 (w24.heap[gb146]? = some (.cells #[.slice none 0 0, .slice none 0 0, .slice none 0 0] 26 (0, 0))) := ⟨h5_⟩
 have n6_ : Aside0 (w.heap.size ≤ gb146) := ⟨h6_⟩
 have n7_ : Aside0 (w.heap.size ≤ gb146) := ⟨h7_⟩
 have n8_ : Aside0 (gb124 ≠ gb146) := ⟨h8_⟩
 have n9_ : Aside0 (gb146 ≠ gb124) := ⟨h9_⟩
 have n10_ : Aside0 (gb125 ≠ gb146) := ⟨h10_⟩
 have n11_ : Aside0 (gb146 ≠ gb125) := ⟨h11_⟩
 have n12_ : Aside0 (Below w.heap.size w w24) := ⟨h12_⟩
 clear BK124 BK125 HB h0_ h1_ h2_ h3_ h4_ h5_ h6_ h7_ h8_ h9_ h10_ h11_ h12_
 have HO130 := n0_
 have HO136 := n1_
 have HO142 := n2_
 have BK124 := n3_
 have BK125 := n4_
 have BK146 := n5_
 have GW146 := n6_
 have GE146 := n7_
 have NB124_146 := n8_
 have NB146_124 := n9_
 have NB125_146 := n10_
 have NB146_125 := n11_
 have HB := n12_
 clear n0_ n1_ n2_ n3_ n4_ n5_ n6_ n7_ n8_ n9_ n10_ n11_ n12_
 have hHeld : w24.cell? ⟨gb124, 0, none⟩ = some (.slice A0_0 l0_0.length c0_0) ∧ w24.cell? ⟨gb124, 1, none⟩ = some (.slice (some ad126) l0_1.length c0_1) ∧ w24.cell? ⟨gb124, 2, none⟩ = some (.slice (some ad127) l0_2.length c0_2) := hS_
 refine norm_ (a' := ?_) ?_ ?_
 rotate_left
 {
 simp only [putAll, Act.put, List.setIfInBounds_toArray, List.set_cons_zero, List.set_cons_succ]
 rfl
 }
 refine one_ (i := 3) (N := some 26) #[tt,tt,tt,tt,tt,tt,tt,ff,tt,tt,tt,ff,ff,tt,ff] rfl rfl (one_of HT_.out (by kernel_rfl)) (by decide) (fun K hK => ?_)
 refine Kd.R_append_rows_step (Kd.int .i64) (w0 := w) w.heap.size (by rfl) (.tmp 23) (.tmp 25) 22 3 (.int .i64 0) 8 rfl Try.underlying22 info3 rfl (by decide) (by omega) v129 y128 l0_0 _ _ _ (fun k_ => some k_ ≠ (v135 : Value).ownBlock ∧ some k_ ≠ (v141 : Value).ownBlock) (fun _ => False) rfl rfl ?aO ?aR (fun _ _ h => h) (fun _ h => h.elim) ?aF ?aB ?aS ?aL ?_
 (case aR => exact cX (Kd.C_below HR0_0.out HB.out))
 (case aB => exact (bX3 HB.out GE124.out GE125.out GE146.out))
 (case aF => exact (fun k_ hk => ⟨Kd.fresh' (Kd.R_lt (rX HO136.out)) k_ hk, Kd.fresh' (Kd.R_lt (rX HO142.out)) k_ hk⟩))
 (case aO => exact (rX HO130.out))
 (case aS => exact (below_size (bX3 HB.out GE124.out GE125.out GE146.out)))
 (case aL => have := LMc8.out; omega)
 intro v132 w25 ho hb hg hat
 rw [← Ny131.out] at ho
 have n0_ := Aside0.mk (bgX BK124.out hg (Kd.R_ne HO130.out BK124.out (by decide)))
 have n1_ := Aside0.mk (bgX BK125.out hg (Kd.R_ne HO130.out BK125.out (by decide)))
 have n2_ := Aside0.mk (Kd.R_after (ok := (fun k_ => some k_ ≠ (v141 : Value).ownBlock)) (rM HO136.out (fun _ hk => ⟨hk.2, hk.1⟩)) hg hat)
 have n3_ := Aside0.mk (Kd.R_after (ok := (fun k_ => some k_ ≠ (v135 : Value).ownBlock)) (rM HO142.out (fun _ hk => ⟨hk.2, hk.1⟩)) hg hat)
 have n4_ := Aside0.mk (bgX BK146.out hg (Kd.R_ne HO130.out BK146.out (by decide)))
 have n5_ := Aside0.mk (hb)
 have n6_ := Aside0.mk (ho)
 clear BK124 BK125 HO136 HO142 BK146 HB HO130
 have BK124 := n0_
 have BK125 := n1_
 have HO136 := n2_
 have HO142 := n3_
 have BK146 := n4_
 have HB := n5_
 have HO133 := n6_
 clear n0_ n1_ n2_ n3_ n4_ n5_ n6_ ho hb hg hat
 refine hK.out _ _ ⟨cz30 BK124.out, cz31 BK124.out, cz32 BK124.out⟩ (fun hHeld => ?_)
 clear hK K
 refine norm_ (a' := ?_) ?_ ?_
 rotate_left
 {
 show Act.put _ (some 26) _ = _
 simp only [Act.put, zA, zB, zC, i64_w, i32_w]
 rfl
 }
 exact nX (hJ0_3_4_8_13 (v129, v132, v135, v141, gb146) _ ⟨hHeld, (rX HO133.out), (rM HO136.out (fun _ hk => ⟨hk.2, hk.1⟩)), (rM HO142.out (fun _ hk => ⟨hk.2, hk.1⟩)), (kX BK124.out), (kX BK125.out), (kX BK146.out), GW146.out, GE146.out, NB124_146.out, NB146_124.out, NB125_146.out, NB146_125.out, (bX3 HB.out GE124.out GE125.out GE146.out)⟩)
 }
 }
 {
 skip
 rintro ⟨v129, v132, v141, gb146⟩ w23 ⟨hS_, h0_, h1_, h2_, h3_, h4_, h5_, h6_, h7_, h8_, h9_, h10_, h11_⟩
 have n0_ : Aside0 (Kd.R (Kd.int .i64) 3 w23 w.heap.size (fun k_ => some k_ ≠ (v141 : Value).ownBlock) v132 y131) := ⟨h0_⟩
 have n1_ : Aside0 (Kd.R (Kd.int .i64) 3 w23 w.heap.size (fun k_ => some k_ ≠ (v132 : Value).ownBlock) v141 y140) := ⟨h1_⟩
 have n2_ : Aside0 (w23.heap[gb124]? = some (.cells #[.slice A0_0 l0_0.length c0_0, .slice (some ad126) l0_1.length c0_1, .slice (some ad127) l0_2.length c0_2] 26 (0, 0))) := ⟨h2_⟩
 have n3_ : Aside0 (w23.heap[gb125]? = some (.cells #[.slice none 0 0, .slice none 0 0, .slice none 0 0] 26 (0, 0))) := ⟨h3_⟩
 have n4_ : Aside0 (w23.heap[gb146]? = some (.cells #[.slice none 0 0, .slice none 0 0, .slice none 0 0] 26 (0, 0))) := ⟨h4_⟩
 have n5_ : Aside0 (w.heap.size ≤ gb146) := ⟨h5_⟩
 have n6_ : Aside0 (w.heap.size ≤ gb146) := ⟨h6_⟩
 have n7_ : Aside0 (gb124 ≠ gb146) := ⟨h7_⟩
 have n8_ : Aside0 (gb146 ≠ gb124) := ⟨h8_⟩
 have n9_ : Aside0 (gb125 ≠ gb146) := ⟨h9_⟩
 have n10_ : Aside0 (gb146 ≠ gb125) := ⟨h10_⟩
 have n11_ : Aside0 (Below w.heap.size w w23) := ⟨h11_⟩
 clear BK124 BK125 HB h0_ h1_ h2_ h3_ h4_ h5_ h6_ h7_ h8_ h9_ h10_ h11_
 have HO133 := n0_
 have HO142 := n1_
 have BK124 := n2_
 have BK125 := n3_
 have BK146 := n4_
 have GW146 := n5_
 have GE146 := n6_
 have NB124_146 := n7_
 have NB146_124 := n8_
 have NB125_146 := n9_
 have NB146_125 := n10_
 have HB := n11_
 clear n0_ n1_ n2_ n3_ n4_ n5_ n6_ n7_ n8_ n9_ n10_ n11_
 have hHeld : w23.cell? ⟨gb124, 0, none⟩ = some (.slice A0_0 l0_0.length c0_0) ∧ w23.cell? ⟨gb124, 1, none⟩ = some (.slice (some ad126) l0_1.length c0_1) ∧ w23.cell? ⟨gb124, 2, none⟩ = some (.slice (some ad127) l0_2.length c0_2) := hS_
 refine norm_ (a' := ?_) ?_ ?_
 rotate_left
 {
 simp only [putAll, Act.put, List.setIfInBounds_toArray, List.set_cons_zero, List.set_cons_succ]
 rfl
 }
 refine one_ (i := 4) (N := some 27) #[tt,tt,tt,tt,tt,tt,tt,ff,tt,tt,tt,ff,ff,tt,ff] rfl rfl (one_of HT_.out (by kernel_rfl)) (by decide) (fun K hK => ?_)
 refine Kd.R_lit_step (Kd.int .i64) _ 3 ?hg (N := 27) ?hd (xs := ([] : List Int)) (inner := []) (ok := fun _ => True) (okp := fun _ => True) ?hr ?hp (fun _ hk => hk) trivial (Below.refl _ _) (Nat.le_refl _) (by simp) ?_; (case hd => rfl); (case hg => rfl); (case hr => first | (go_simp; done) | (go_simp; rfl)); (case hp => exact (Reps.none _ _))
 intro v135 w24 ho25 hb hg_ hnew_
 clear hg_ hnew_
 (first | rw [← Ny134.out] at ho25 | (simp only [Int.reduceToNat] at ho25; rw [← Ny134.out] at ho25))
 have n0_ := Aside0.mk (Kd.R_elder' (rX HO133.out) (Kd.R_base ho25) hb)
 have n1_ := Aside0.mk (Kd.R_elder' (rX HO142.out) (Kd.R_base ho25) hb)
 have n2_ := Aside0.mk (Kd.R_lower (Kd.R_new' (Kd.R_new' ho25 (Kd.R_lt (rX HO133.out))) (Kd.R_lt (rX HO142.out))) (below_size (bX3 HB.out GE124.out GE125.out GE146.out)))
 have n3_ := Aside0.mk (bbX BK124.out hb)
 have n4_ := Aside0.mk (bbX BK125.out hb)
 have n5_ := Aside0.mk (bbX BK146.out hb)
 have n6_ := Aside0.mk (below_step (bX3 HB.out GE124.out GE125.out GE146.out) hb)
 clear HO133 HO142 BK124 BK125 BK146 HB
 have HO133 := n0_
 have HO142 := n1_
 have HO136 := n2_
 have BK124 := n3_
 have BK125 := n4_
 have BK146 := n5_
 have HB := n6_
 clear n0_ n1_ n2_ n3_ n4_ n5_ n6_ hb ho25
 refine hK.out _ _ ⟨cz30 BK124.out, cz31 BK124.out, cz32 BK124.out⟩ (fun hHeld => ?_)
 clear hK K
 refine norm_ (a' := ?_) ?_ ?_
 rotate_left
 {
 show Act.put _ (some 27) _ = _
 simp only [Act.put, zA, zB, zC, i64_w, i32_w]
 rfl
 }
 exact nX (hJ0_3_4_8_13 (v129, v132, v135, v141, gb146) _ ⟨hHeld, (rM HO133.out (fun _ hk => ⟨hk.2, hk.1⟩)), (rM HO136.out (fun _ hk => ⟨hk.1.2, hk.2⟩)), (rX HO142.out), (kX BK124.out), (kX BK125.out), (kX BK146.out), GW146.out, GE146.out, NB124_146.out, NB146_124.out, NB125_146.out, NB146_125.out, (bX3 HB.out GE124.out GE125.out GE146.out)⟩)
 }
 }
 {
 skip
 rintro ⟨v129, v132, v135, gb146⟩ w23 ⟨hS_, h0_, h1_, h2_, h3_, h4_, h5_, h6_, h7_, h8_, h9_, h10_, h11_⟩
 have n0_ : Aside0 (Kd.R (Kd.int .i64) 3 w23 w.heap.size (fun k_ => some k_ ≠ (v135 : Value).ownBlock) v132 y131) := ⟨h0_⟩
 have n1_ : Aside0 (Kd.R (Kd.int .i64) 3 w23 w.heap.size (fun k_ => some k_ ≠ (v132 : Value).ownBlock) v135 y134) := ⟨h1_⟩
 have n2_ : Aside0 (w23.heap[gb124]? = some (.cells #[.slice A0_0 l0_0.length c0_0, .slice (some ad126) l0_1.length c0_1, .slice (some ad127) l0_2.length c0_2] 26 (0, 0))) := ⟨h2_⟩
 have n3_ : Aside0 (w23.heap[gb125]? = some (.cells #[.slice none 0 0, .slice none 0 0, .slice none 0 0] 26 (0, 0))) := ⟨h3_⟩
 have n4_ : Aside0 (w23.heap[gb146]? = some (.cells #[.slice none 0 0, .slice none 0 0, .slice none 0 0] 26 (0, 0))) := ⟨h4_⟩
 have n5_ : Aside0 (w.heap.size ≤ gb146) := ⟨h5_⟩
 have n6_ : Aside0 (w.heap.size ≤ gb146) := ⟨h6_⟩
 have n7_ : Aside0 (gb124 ≠ gb146) := ⟨h7_⟩
 have n8_ : Aside0 (gb146 ≠ gb124) := ⟨h8_⟩
 have n9_ : Aside0 (gb125 ≠ gb146) := ⟨h9_⟩
 have n10_ : Aside0 (gb146 ≠ gb125) := ⟨h10_⟩
 have n11_ : Aside0 (Below w.heap.size w w23) := ⟨h11_⟩
 clear BK124 BK125 HB h0_ h1_ h2_ h3_ h4_ h5_ h6_ h7_ h8_ h9_ h10_ h11_
 have HO133 := n0_
 have HO136 := n1_
 have BK124 := n2_
 have BK125 := n3_
 have BK146 := n4_
 have GW146 := n5_
 have GE146 := n6_
 have NB124_146 := n7_
 have NB146_124 := n8_
 have NB125_146 := n9_
 have NB146_125 := n10_
 have HB := n11_
 clear n0_ n1_ n2_ n3_ n4_ n5_ n6_ n7_ n8_ n9_ n10_ n11_
 have hHeld : w23.cell? ⟨gb124, 0, none⟩ = some (.slice A0_0 l0_0.length c0_0) ∧ w23.cell? ⟨gb124, 1, none⟩ = some (.slice (some ad126) l0_1.length c0_1) ∧ w23.cell? ⟨gb124, 2, none⟩ = some (.slice (some ad127) l0_2.length c0_2) := hS_
 refine norm_ (a' := ?_) ?_ ?_
 rotate_left
 {
 simp only [putAll, Act.put, List.setIfInBounds_toArray, List.set_cons_zero, List.set_cons_succ]
 rfl
 }
 refine two_ (i := 7) (j := 8) (Ni := some 30) (Nj := some 31) #[tt,tt,tt,tt,tt,tt,tt,tt,ff,tt,tt,ff,ff,tt,ff] #[tt,tt,tt,tt,tt,tt,tt,ff,tt,tt,tt,ff,ff,tt,ff] rfl rfl rfl rfl (two_of HT_.out (by kernel_rfl)) (by decide) (by decide) (fun K hK => ?_) (fun K hK => ?_)
 {
 skip
 refine Kd.R_append_rows_step (Kd.int .i64) (w0 := w) w.heap.size (by rfl) (.tmp 27) (.tmp 29) 22 3 (.int .i64 0) 8 rfl Try.underlying22 info3 rfl (by decide) (by omega) v135 y134 l0_1 _ _ _ (fun k_ => some k_ ≠ (v132 : Value).ownBlock) (fun _ => False) rfl rfl ?aO ?aR (fun _ _ h => h) (fun _ h => h.elim) ?aF ?aB ?aS ?aL ?_
 (case aR => exact cX (Kd.C_below HR0_1.out HB.out))
 (case aB => exact (bX3 HB.out GE124.out GE125.out GE146.out))
 (case aF => exact (fun k_ hk => Kd.fresh' (Kd.R_lt (rX HO133.out)) k_ hk))
 (case aO => exact (rX HO136.out))
 (case aS => exact (below_size (bX3 HB.out GE124.out GE125.out GE146.out)))
 (case aL => have := LMc9.out; omega)
 intro v138 w24 ho hb hg hat
 rw [← Ny137.out] at ho
 have n0_ := Aside0.mk (bgX BK124.out hg (Kd.R_ne HO136.out BK124.out (by decide)))
 have n1_ := Aside0.mk (bgX BK125.out hg (Kd.R_ne HO136.out BK125.out (by decide)))
 have n2_ := Aside0.mk (Kd.R_after (ok := (fun _ => True)) (rM HO133.out (fun _ hk => ⟨trivial, hk⟩)) hg hat)
 have n3_ := Aside0.mk (bgX BK146.out hg (Kd.R_ne HO136.out BK146.out (by decide)))
 have n4_ := Aside0.mk (hb)
 have n5_ := Aside0.mk (ho)
 clear BK124 BK125 HO133 BK146 HB HO136
 have BK124 := n0_
 have BK125 := n1_
 have HO133 := n2_
 have BK146 := n3_
 have HB := n4_
 have HO139 := n5_
 clear n0_ n1_ n2_ n3_ n4_ n5_ ho hb hg hat
 refine hK.out _ _ ⟨cz30 BK124.out, cz31 BK124.out, cz32 BK124.out⟩ (fun hHeld => ?_)
 clear hK K
 refine norm_ (a' := ?_) ?_ ?_
 rotate_left
 {
 show Act.put _ (some 30) _ = _
 simp only [Act.put, zA, zB, zC, i64_w, i32_w]
 rfl
 }
 exact nX (hJ0_3_4_7_13 (v129, v132, v135, v138, gb146) _ ⟨hHeld, (rM HO133.out (fun _ hk => hk.2)), (rX HO139.out), (kX BK124.out), (kX BK125.out), (kX BK146.out), GW146.out, GE146.out, NB124_146.out, NB146_124.out, NB125_146.out, NB146_125.out, (bX3 HB.out GE124.out GE125.out GE146.out)⟩)
 }
 {
 skip
 refine Kd.R_lit_step (Kd.int .i64) _ 3 ?hg (N := 31) ?hd (xs := ([] : List Int)) (inner := []) (ok := fun _ => True) (okp := fun _ => True) ?hr ?hp (fun _ hk => hk) trivial (Below.refl _ _) (Nat.le_refl _) (by simp) ?_; (case hd => rfl); (case hg => rfl); (case hr => first | (go_simp; done) | (go_simp; rfl)); (case hp => exact (Reps.none _ _))
 intro v141 w24 ho25 hb hg_ hnew_
 clear hg_ hnew_
 (first | rw [← Ny140.out] at ho25 | (simp only [Int.reduceToNat] at ho25; rw [← Ny140.out] at ho25))
 have n0_ := Aside0.mk (Kd.R_elder' (rX HO133.out) (Kd.R_base ho25) hb)
 have n1_ := Aside0.mk (Kd.R_elder' (rX HO136.out) (Kd.R_base ho25) hb)
 have n2_ := Aside0.mk (Kd.R_lower (Kd.R_new' (Kd.R_new' ho25 (Kd.R_lt (rX HO133.out))) (Kd.R_lt (rX HO136.out))) (below_size (bX3 HB.out GE124.out GE125.out GE146.out)))
 have n3_ := Aside0.mk (bbX BK124.out hb)
 have n4_ := Aside0.mk (bbX BK125.out hb)
 have n5_ := Aside0.mk (bbX BK146.out hb)
 have n6_ := Aside0.mk (below_step (bX3 HB.out GE124.out GE125.out GE146.out) hb)
 clear HO133 HO136 BK124 BK125 BK146 HB
 have HO133 := n0_
 have HO136 := n1_
 have HO142 := n2_
 have BK124 := n3_
 have BK125 := n4_
 have BK146 := n5_
 have HB := n6_
 clear n0_ n1_ n2_ n3_ n4_ n5_ n6_ hb ho25
 refine hK.out _ _ ⟨cz30 BK124.out, cz31 BK124.out, cz32 BK124.out⟩ (fun hHeld => ?_)
 clear hK K
 refine norm_ (a' := ?_) ?_ ?_
 rotate_left
 {
 show Act.put _ (some 31) _ = _
 simp only [Act.put, zA, zB, zC, i64_w, i32_w]
 rfl
 }
 exact nX (hJ0_3_4_8_13 (v129, v132, v135, v141, gb146) _ ⟨hHeld, (rX HO133.out), (rX HO136.out), (rM HO142.out (fun _ hk => ⟨hk.1.2, hk.2⟩)), (kX BK124.out), (kX BK125.out), (kX BK146.out), GW146.out, GE146.out, NB124_146.out, NB146_124.out, NB125_146.out, NB146_125.out, (bX3 HB.out GE124.out GE125.out GE146.out)⟩)
 }
 }
 }
 {
 skip
 rintro ⟨v129, v132, v135, v141⟩ w24 ⟨hS_, h0_, h1_, h2_, h3_, h4_, h5_⟩
 have n0_ : Aside0 (Kd.R (Kd.int .i64) 3 w24 w.heap.size (fun k_ => some k_ ≠ (v135 : Value).ownBlock ∧ some k_ ≠ (v141 : Value).ownBlock) v132 y131) := ⟨h0_⟩
 have n1_ : Aside0 (Kd.R (Kd.int .i64) 3 w24 w.heap.size (fun k_ => some k_ ≠ (v132 : Value).ownBlock ∧ some k_ ≠ (v141 : Value).ownBlock) v135 y134) := ⟨h1_⟩
 have n2_ : Aside0 (Kd.R (Kd.int .i64) 3 w24 w.heap.size (fun k_ => some k_ ≠ (v132 : Value).ownBlock ∧ some k_ ≠ (v135 : Value).ownBlock) v141 y140) := ⟨h2_⟩
 have n3_ : Aside0 (w24.heap[gb124]? = some (.cells #[.slice A0_0 l0_0.length c0_0, .slice (some ad126) l0_1.length c0_1, .slice (some ad127) l0_2.length c0_2] 26 (0, 0))) := ⟨h3_⟩
 have n4_ : Aside0 (w24.heap[gb125]? = some (.cells #[.slice none 0 0, .slice none 0 0, .slice none 0 0] 26 (0, 0))) := ⟨h4_⟩
 have n5_ : Aside0 (Below w.heap.size w w24) := ⟨h5_⟩
 clear BK124 BK125 HB h0_ h1_ h2_ h3_ h4_ h5_
 have HO133 := n0_
 have HO136 := n1_
 have HO142 := n2_
 have BK124 := n3_
 have BK125 := n4_
 have HB := n5_
 clear n0_ n1_ n2_ n3_ n4_ n5_
 have hHeld : w24.cell? ⟨gb124, 0, none⟩ = some (.slice A0_0 l0_0.length c0_0) ∧ w24.cell? ⟨gb124, 1, none⟩ = some (.slice (some ad126) l0_1.length c0_1) ∧ w24.cell? ⟨gb124, 2, none⟩ = some (.slice (some ad127) l0_2.length c0_2) := hS_
 refine norm_ (a' := ?_) ?_ ?_
 rotate_left
 {
 simp only [putAll, Act.put, List.setIfInBounds_toArray, List.set_cons_zero, List.set_cons_succ]
 rfl
 }
 refine two_ (i := 7) (j := 13) (Ni := some 30) (Nj := some 6) #[tt,tt,tt,tt,tt,tt,tt,tt,tt,tt,tt,ff,ff,ff,ff] #[tt,tt,tt,tt,tt,tt,tt,ff,tt,tt,tt,ff,ff,tt,ff] rfl rfl rfl rfl (two_of HT_.out (by kernel_rfl)) (by decide) (by decide) (fun K hK => ?_) (fun K hK => ?_)
 {
 skip
 refine Kd.R_append_rows_step (Kd.int .i64) (w0 := w) w.heap.size (by rfl) (.tmp 27) (.tmp 29) 22 3 (.int .i64 0) 8 rfl Try.underlying22 info3 rfl (by decide) (by omega) v135 y134 l0_1 _ _ _ (fun k_ => some k_ ≠ (v132 : Value).ownBlock ∧ some k_ ≠ (v141 : Value).ownBlock) (fun _ => False) rfl rfl ?aO ?aR (fun _ _ h => h) (fun _ h => h.elim) ?aF ?aB ?aS ?aL ?_
 (case aR => exact cX (Kd.C_below HR0_1.out HB.out))
 (case aB => exact (bX2 HB.out GE124.out GE125.out))
 (case aF => exact (fun k_ hk => ⟨Kd.fresh' (Kd.R_lt (rX HO133.out)) k_ hk, Kd.fresh' (Kd.R_lt (rX HO142.out)) k_ hk⟩))
 (case aO => exact (rX HO136.out))
 (case aS => exact (below_size (bX2 HB.out GE124.out GE125.out)))
 (case aL => have := LMc9.out; omega)
 intro v138 w25 ho hb hg hat
 rw [← Ny137.out] at ho
 have n0_ := Aside0.mk (bgX BK124.out hg (Kd.R_ne HO136.out BK124.out (by decide)))
 have n1_ := Aside0.mk (bgX BK125.out hg (Kd.R_ne HO136.out BK125.out (by decide)))
 have n2_ := Aside0.mk (Kd.R_after (ok := (fun k_ => some k_ ≠ (v141 : Value).ownBlock)) (rM HO133.out (fun _ hk => ⟨hk.2, hk.1⟩)) hg hat)
 have n3_ := Aside0.mk (Kd.R_after (ok := (fun k_ => some k_ ≠ (v132 : Value).ownBlock)) (rX HO142.out) hg hat)
 have n4_ := Aside0.mk (hb)
 have n5_ := Aside0.mk (ho)
 clear BK124 BK125 HO133 HO142 HB HO136
 have BK124 := n0_
 have BK125 := n1_
 have HO133 := n2_
 have HO142 := n3_
 have HB := n4_
 have HO139 := n5_
 clear n0_ n1_ n2_ n3_ n4_ n5_ ho hb hg hat
 refine hK.out _ _ ⟨cz30 BK124.out, cz31 BK124.out, cz32 BK124.out⟩ (fun hHeld => ?_)
 clear hK K
 refine norm_ (a' := ?_) ?_ ?_
 rotate_left
 {
 show Act.put _ (some 30) _ = _
 simp only [Act.put, zA, zB, zC, i64_w, i32_w]
 rfl
 }
 exact nX (hJ0_3_4_7_8 (v129, v132, v135, v138, v141) _ ⟨hHeld, (rM HO133.out (fun _ hk => ⟨hk.2, hk.1⟩)), (rX HO139.out), (rX HO142.out), (kX BK124.out), (kX BK125.out), (bX2 HB.out GE124.out GE125.out)⟩)
 }
 {
 skip
 refine box_step ?hg (N := 6) ?hd (cs := #[.slice none 0 0, .slice none 0 0, .slice none 0 0]) (t := 26) ?hr ?_; (case hd => rfl); (case hg => rfl); (case hr => first | (go_simp; done) | (go_simp; rfl))
 intro gb146 hg w25 hbox hb
 have n0_ := Aside0.mk (Kd.R_below (rX HO133.out) hb)
 have n1_ := Aside0.mk (Kd.R_below (rX HO136.out) hb)
 have n2_ := Aside0.mk (Kd.R_below (rX HO142.out) hb)
 have n3_ := Aside0.mk (bbX BK124.out hb)
 have n4_ := Aside0.mk (bbX BK125.out hb)
 have n5_ := Aside0.mk (below_step (bX2 HB.out GE124.out GE125.out) hb)
 have n6_ := Aside0.mk (hbox)
 have n7_ := Aside0.mk ((szX (below_size (bX2 HB.out GE124.out GE125.out)) hg : w.heap.size ≤ gb146))
 have n8_ := Aside0.mk ((szX (below_size (bX2 HB.out GE124.out GE125.out)) hg : w.heap.size ≤ gb146))
 have n9_ := Aside0.mk (neX BK124.out hg)
 have n10_ := Aside0.mk (nfX BK124.out hg)
 have n11_ := Aside0.mk (neX BK125.out hg)
 have n12_ := Aside0.mk (nfX BK125.out hg)
 clear HO133 HO136 HO142 BK124 BK125 HB
 have HO133 := n0_
 have HO136 := n1_
 have HO142 := n2_
 have BK124 := n3_
 have BK125 := n4_
 have HB := n5_
 have BK146 := n6_
 have GW146 := n7_
 have GE146 := n8_
 have NB124_146 := n9_
 have NB146_124 := n10_
 have NB125_146 := n11_
 have NB146_125 := n12_
 clear n0_ n1_ n2_ n3_ n4_ n5_ n6_ n7_ n8_ n9_ n10_ n11_ n12_ hb hbox hg
 refine hK.out _ _ ⟨cz30 BK124.out, cz31 BK124.out, cz32 BK124.out⟩ (fun hHeld => ?_)
 clear hK K
 refine norm_ (a' := ?_) ?_ ?_
 rotate_left
 {
 show Act.put _ (some 6) _ = _
 simp only [Act.put, zA, zB, zC, i64_w, i32_w]
 rfl
 }
 exact nX (hJ0_3_4_8_13 (v129, v132, v135, v141, gb146) _ ⟨hHeld, (rX HO133.out), (rX HO136.out), (rX HO142.out), (kX BK124.out), (kX BK125.out), (kX BK146.out), GW146.out, GE146.out, NB124_146.out, NB146_124.out, NB125_146.out, NB146_125.out, (bX3 HB.out GE124.out GE125.out GE146.out)⟩)
 }
 }
 }
 {
 skip
 rintro ⟨v129, v132, v135, v138⟩ w23 ⟨hS_, h0_, h1_, h2_, h3_, h4_⟩
 have n0_ : Aside0 (Kd.R (Kd.int .i64) 3 w23 w.heap.size (fun k_ => some k_ ≠ (v138 : Value).ownBlock) v132 y131) := ⟨h0_⟩
 have n1_ : Aside0 (Kd.R (Kd.int .i64) 3 w23 w.heap.size (fun k_ => some k_ ≠ (v132 : Value).ownBlock) v138 y137) := ⟨h1_⟩
 have n2_ : Aside0 (w23.heap[gb124]? = some (.cells #[.slice A0_0 l0_0.length c0_0, .slice (some ad126) l0_1.length c0_1, .slice (some ad127) l0_2.length c0_2] 26 (0, 0))) := ⟨h2_⟩
 have n3_ : Aside0 (w23.heap[gb125]? = some (.cells #[.slice none 0 0, .slice none 0 0, .slice none 0 0] 26 (0, 0))) := ⟨h3_⟩
 have n4_ : Aside0 (Below w.heap.size w w23) := ⟨h4_⟩
 clear BK124 BK125 HB h0_ h1_ h2_ h3_ h4_
 have HO133 := n0_
 have HO139 := n1_
 have BK124 := n2_
 have BK125 := n3_
 have HB := n4_
 clear n0_ n1_ n2_ n3_ n4_
 have hHeld : w23.cell? ⟨gb124, 0, none⟩ = some (.slice A0_0 l0_0.length c0_0) ∧ w23.cell? ⟨gb124, 1, none⟩ = some (.slice (some ad126) l0_1.length c0_1) ∧ w23.cell? ⟨gb124, 2, none⟩ = some (.slice (some ad127) l0_2.length c0_2) := hS_
 refine norm_ (a' := ?_) ?_ ?_
 rotate_left
 {
 simp only [putAll, Act.put, List.setIfInBounds_toArray, List.set_cons_zero, List.set_cons_succ]
 rfl
 }
 refine two_ (i := 8) (j := 13) (Ni := some 31) (Nj := some 6) #[tt,tt,tt,tt,tt,tt,tt,tt,tt,tt,tt,ff,ff,ff,ff] #[tt,tt,tt,tt,tt,tt,tt,tt,ff,tt,tt,ff,ff,tt,ff] rfl rfl rfl rfl (two_of HT_.out (by kernel_rfl)) (by decide) (by decide) (fun K hK => ?_) (fun K hK => ?_)
 {
 skip
 refine Kd.R_lit_step (Kd.int .i64) _ 3 ?hg (N := 31) ?hd (xs := ([] : List Int)) (inner := []) (ok := fun _ => True) (okp := fun _ => True) ?hr ?hp (fun _ hk => hk) trivial (Below.refl _ _) (Nat.le_refl _) (by simp) ?_; (case hd => rfl); (case hg => rfl); (case hr => first | (go_simp; done) | (go_simp; rfl)); (case hp => exact (Reps.none _ _))
 intro v141 w24 ho25 hb hg_ hnew_
 clear hg_ hnew_
 (first | rw [← Ny140.out] at ho25 | (simp only [Int.reduceToNat] at ho25; rw [← Ny140.out] at ho25))
 have n0_ := Aside0.mk (Kd.R_elder' (rX HO133.out) (Kd.R_base ho25) hb)
 have n1_ := Aside0.mk (Kd.R_elder' (rX HO139.out) (Kd.R_base ho25) hb)
 have n2_ := Aside0.mk (Kd.R_lower (Kd.R_new' (Kd.R_new' ho25 (Kd.R_lt (rX HO133.out))) (Kd.R_lt (rX HO139.out))) (below_size (bX2 HB.out GE124.out GE125.out)))
 have n3_ := Aside0.mk (bbX BK124.out hb)
 have n4_ := Aside0.mk (bbX BK125.out hb)
 have n5_ := Aside0.mk (below_step (bX2 HB.out GE124.out GE125.out) hb)
 clear HO133 HO139 BK124 BK125 HB
 have HO133 := n0_
 have HO139 := n1_
 have HO142 := n2_
 have BK124 := n3_
 have BK125 := n4_
 have HB := n5_
 clear n0_ n1_ n2_ n3_ n4_ n5_ hb ho25
 refine hK.out _ _ ⟨cz30 BK124.out, cz31 BK124.out, cz32 BK124.out⟩ (fun hHeld => ?_)
 clear hK K
 refine norm_ (a' := ?_) ?_ ?_
 rotate_left
 {
 show Act.put _ (some 31) _ = _
 simp only [Act.put, zA, zB, zC, i64_w, i32_w]
 rfl
 }
 exact nX (hJ0_3_4_7_8 (v129, v132, v135, v138, v141) _ ⟨hHeld, (rX HO133.out), (rX HO139.out), (rM HO142.out (fun _ hk => ⟨hk.1.2, hk.2⟩)), (kX BK124.out), (kX BK125.out), (bX2 HB.out GE124.out GE125.out)⟩)
 }
 {
 skip
 refine box_step ?hg (N := 6) ?hd (cs := #[.slice none 0 0, .slice none 0 0, .slice none 0 0]) (t := 26) ?hr ?_; (case hd => rfl); (case hg => rfl); (case hr => first | (go_simp; done) | (go_simp; rfl))
 intro gb146 hg w24 hbox hb
 have n0_ := Aside0.mk (Kd.R_below (rX HO133.out) hb)
 have n1_ := Aside0.mk (Kd.R_below (rX HO139.out) hb)
 have n2_ := Aside0.mk (bbX BK124.out hb)
 have n3_ := Aside0.mk (bbX BK125.out hb)
 have n4_ := Aside0.mk (below_step (bX2 HB.out GE124.out GE125.out) hb)
 have n5_ := Aside0.mk (hbox)
 have n6_ := Aside0.mk ((szX (below_size (bX2 HB.out GE124.out GE125.out)) hg : w.heap.size ≤ gb146))
 have n7_ := Aside0.mk ((szX (below_size (bX2 HB.out GE124.out GE125.out)) hg : w.heap.size ≤ gb146))
 have n8_ := Aside0.mk (neX BK124.out hg)
 have n9_ := Aside0.mk (nfX BK124.out hg)
 have n10_ := Aside0.mk (neX BK125.out hg)
 have n11_ := Aside0.mk (nfX BK125.out hg)
 clear HO133 HO139 BK124 BK125 HB
 have HO133 := n0_
 have HO139 := n1_
 have BK124 := n2_
 have BK125 := n3_
 have HB := n4_
 have BK146 := n5_
 have GW146 := n6_
 have GE146 := n7_
 have NB124_146 := n8_
 have NB146_124 := n9_
 have NB125_146 := n10_
 have NB146_125 := n11_
 clear n0_ n1_ n2_ n3_ n4_ n5_ n6_ n7_ n8_ n9_ n10_ n11_ hb hbox hg
 refine hK.out _ _ ⟨cz30 BK124.out, cz31 BK124.out, cz32 BK124.out⟩ (fun hHeld => ?_)
 clear hK K
 refine norm_ (a' := ?_) ?_ ?_
 rotate_left
 {
 show Act.put _ (some 6) _ = _
 simp only [Act.put, zA, zB, zC, i64_w, i32_w]
 rfl
 }
 exact nX (hJ0_3_4_7_13 (v129, v132, v135, v138, gb146) _ ⟨hHeld, (rX HO133.out), (rX HO139.out), (kX BK124.out), (kX BK125.out), (kX BK146.out), GW146.out, GE146.out, NB124_146.out, NB146_124.out, NB125_146.out, NB146_125.out, (bX3 HB.out GE124.out GE125.out GE146.out)⟩)
 }
 }
 }
 {
 skip
 rintro ⟨v129, v132, v135, v141, gb146⟩ w25 ⟨hS_, h0_, h1_, h2_, h3_, h4_, h5_, h6_, h7_, h8_, h9_, h10_, h11_, h12_⟩
 have n0_ : Aside0 (Kd.R (Kd.int .i64) 3 w25 w.heap.size (fun k_ => some k_ ≠ (v135 : Value).ownBlock ∧ some k_ ≠ (v141 : Value).ownBlock) v132 y131) := ⟨h0_⟩
 have n1_ : Aside0 (Kd.R (Kd.int .i64) 3 w25 w.heap.size (fun k_ => some k_ ≠ (v132 : Value).ownBlock ∧ some k_ ≠ (v141 : Value).ownBlock) v135 y134) := ⟨h1_⟩
 have n2_ : Aside0 (Kd.R (Kd.int .i64) 3 w25 w.heap.size (fun k_ => some k_ ≠ (v132 : Value).ownBlock ∧ some k_ ≠ (v135 : Value).ownBlock) v141 y140) := ⟨h2_⟩
 have n3_ : Aside0 (w25.heap[gb124]? = some (.cells #[.slice A0_0 l0_0.length c0_0, .slice (some ad126) l0_1.length c0_1, .slice (some ad127) l0_2.length c0_2] 26 (0, 0))) := ⟨h3_⟩
 have n4_ : Aside0 (w25.heap[gb125]? = some (.cells #[.slice none 0 0, .slice none 0 0, .slice none 0 0] 26 (0, 0))) := ⟨h4_⟩
 have n5_ : Aside0 (w25.heap[gb146]? = some (.cells #[.slice none 0 0, .slice none 0 0, .slice none 0 0] 26 (0, 0))) := ⟨h5_⟩
 have n6_ : Aside0 (w.heap.size ≤ gb146) := ⟨h6_⟩
 have n7_ : Aside0 (w.heap.size ≤ gb146) := ⟨h7_⟩
 have n8_ : Aside0 (gb124 ≠ gb146) := ⟨h8_⟩
 have n9_ : Aside0 (gb146 ≠ gb124) := ⟨h9_⟩
 have n10_ : Aside0 (gb125 ≠ gb146) := ⟨h10_⟩
 have n11_ : Aside0 (gb146 ≠ gb125) := ⟨h11_⟩
 have n12_ : Aside0 (Below w.heap.size w w25) := ⟨h12_⟩
 clear BK124 BK125 HB h0_ h1_ h2_ h3_ h4_ h5_ h6_ h7_ h8_ h9_ h10_ h11_ h12_
 have HO133 := n0_
 have HO136 := n1_
 have HO142 := n2_
 have BK124 := n3_
 have BK125 := n4_
 have BK146 := n5_
 have GW146 := n6_
 have GE146 := n7_
 have NB124_146 := n8_
 have NB146_124 := n9_
 have NB125_146 := n10_
 have NB146_125 := n11_
 have HB := n12_
 clear n0_ n1_ n2_ n3_ n4_ n5_ n6_ n7_ n8_ n9_ n10_ n11_ n12_
 have hHeld : w25.cell? ⟨gb124, 0, none⟩ = some (.slice A0_0 l0_0.length c0_0) ∧ w25.cell? ⟨gb124, 1, none⟩ = some (.slice (some ad126) l0_1.length c0_1) ∧ w25.cell? ⟨gb124, 2, none⟩ = some (.slice (some ad127) l0_2.length c0_2) := hS_
 refine norm_ (a' := ?_) ?_ ?_
 rotate_left
 {
 simp only [putAll, Act.put, List.setIfInBounds_toArray, List.set_cons_zero, List.set_cons_succ]
 rfl
 }
 refine one_ (i := 7) (N := some 30) #[tt,tt,tt,tt,tt,tt,tt,tt,tt,tt,tt,ff,ff,tt,ff] rfl rfl (one_of HT_.out (by kernel_rfl)) (by decide) (fun K hK => ?_)
 refine Kd.R_append_rows_step (Kd.int .i64) (w0 := w) w.heap.size (by rfl) (.tmp 27) (.tmp 29) 22 3 (.int .i64 0) 8 rfl Try.underlying22 info3 rfl (by decide) (by omega) v135 y134 l0_1 _ _ _ (fun k_ => some k_ ≠ (v132 : Value).ownBlock ∧ some k_ ≠ (v141 : Value).ownBlock) (fun _ => False) rfl rfl ?aO ?aR (fun _ _ h => h) (fun _ h => h.elim) ?aF ?aB ?aS ?aL ?_
 (case aR => exact cX (Kd.C_below HR0_1.out HB.out))
 (case aB => exact (bX3 HB.out GE124.out GE125.out GE146.out))
 (case aF => exact (fun k_ hk => ⟨Kd.fresh' (Kd.R_lt (rX HO133.out)) k_ hk, Kd.fresh' (Kd.R_lt (rX HO142.out)) k_ hk⟩))
 (case aO => exact (rX HO136.out))
 (case aS => exact (below_size (bX3 HB.out GE124.out GE125.out GE146.out)))
 (case aL => have := LMc9.out; omega)
 intro v138 w26 ho hb hg hat
 rw [← Ny137.out] at ho
 have n0_ := Aside0.mk (bgX BK124.out hg (Kd.R_ne HO136.out BK124.out (by decide)))
 have n1_ := Aside0.mk (bgX BK125.out hg (Kd.R_ne HO136.out BK125.out (by decide)))
 have n2_ := Aside0.mk (Kd.R_after (ok := (fun k_ => some k_ ≠ (v141 : Value).ownBlock)) (rM HO133.out (fun _ hk => ⟨hk.2, hk.1⟩)) hg hat)
 have n3_ := Aside0.mk (Kd.R_after (ok := (fun k_ => some k_ ≠ (v132 : Value).ownBlock)) (rX HO142.out) hg hat)
 have n4_ := Aside0.mk (bgX BK146.out hg (Kd.R_ne HO136.out BK146.out (by decide)))
 have n5_ := Aside0.mk (hb)
 have n6_ := Aside0.mk (ho)
 clear BK124 BK125 HO133 HO142 BK146 HB HO136
 have BK124 := n0_
 have BK125 := n1_
 have HO133 := n2_
 have HO142 := n3_
 have BK146 := n4_
 have HB := n5_
 have HO139 := n6_
 clear n0_ n1_ n2_ n3_ n4_ n5_ n6_ ho hb hg hat
 refine hK.out _ _ ⟨cz30 BK124.out, cz31 BK124.out, cz32 BK124.out⟩ (fun hHeld => ?_)
 clear hK K
 refine norm_ (a' := ?_) ?_ ?_
 rotate_left
 {
 show Act.put _ (some 30) _ = _
 simp only [Act.put, zA, zB, zC, i64_w, i32_w]
 rfl
 }
 exact nX (hJ0_3_4_7_8_13 (v129, v132, v135, v138, v141, gb146) _ ⟨hHeld, (rM HO133.out (fun _ hk => ⟨hk.2, hk.1⟩)), (rX HO139.out), (rX HO142.out), (kX BK124.out), (kX BK125.out), (kX BK146.out), GW146.out, GE146.out, NB124_146.out, NB146_124.out, NB125_146.out, NB146_125.out, (bX3 HB.out GE124.out GE125.out GE146.out)⟩)
 }
 }
 {
 skip
 rintro ⟨v129, v132, v135, v138, gb146⟩ w24 ⟨hS_, h0_, h1_, h2_, h3_, h4_, h5_, h6_, h7_, h8_, h9_, h10_, h11_⟩
 have n0_ : Aside0 (Kd.R (Kd.int .i64) 3 w24 w.heap.size (fun k_ => some k_ ≠ (v138 : Value).ownBlock) v132 y131) := ⟨h0_⟩
 have n1_ : Aside0 (Kd.R (Kd.int .i64) 3 w24 w.heap.size (fun k_ => some k_ ≠ (v132 : Value).ownBlock) v138 y137) := ⟨h1_⟩
 have n2_ : Aside0 (w24.heap[gb124]? = some (.cells #[.slice A0_0 l0_0.length c0_0, .slice (some ad126) l0_1.length c0_1, .slice (some ad127) l0_2.length c0_2] 26 (0, 0))) := ⟨h2_⟩
 have n3_ : Aside0 (w24.heap[gb125]? = some (.cells #[.slice none 0 0, .slice none 0 0, .slice none 0 0] 26 (0, 0))) := ⟨h3_⟩
 have n4_ : Aside0 (w24.heap[gb146]? = some (.cells #[.slice none 0 0, .slice none 0 0, .slice none 0 0] 26 (0, 0))) := ⟨h4_⟩
 have n5_ : Aside0 (w.heap.size ≤ gb146) := ⟨h5_⟩
 have n6_ : Aside0 (w.heap.size ≤ gb146) := ⟨h6_⟩
 have n7_ : Aside0 (gb124 ≠ gb146) := ⟨h7_⟩
 have n8_ : Aside0 (gb146 ≠ gb124) := ⟨h8_⟩
 have n9_ : Aside0 (gb125 ≠ gb146) := ⟨h9_⟩
 have n10_ : Aside0 (gb146 ≠ gb125) := ⟨h10_⟩
 have n11_ : Aside0 (Below w.heap.size w w24) := ⟨h11_⟩
 clear BK124 BK125 HB h0_ h1_ h2_ h3_ h4_ h5_ h6_ h7_ h8_ h9_ h10_ h11_
 have HO133 := n0_
 have HO139 := n1_
 have BK124 := n2_
 have BK125 := n3_
 have BK146 := n4_
 have GW146 := n5_
 have GE146 := n6_
 have NB124_146 := n7_
 have NB146_124 := n8_
 have NB125_146 := n9_
 have NB146_125 := n10_
 have HB := n11_
 clear n0_ n1_ n2_ n3_ n4_ n5_ n6_ n7_ n8_ n9_ n10_ n11_
 have hHeld : w24.cell? ⟨gb124, 0, none⟩ = some (.slice A0_0 l0_0.length c0_0) ∧ w24.cell? ⟨gb124, 1, none⟩ = some (.slice (some ad126) l0_1.length c0_1) ∧ w24.cell? ⟨gb124, 2, none⟩ = some (.slice (some ad127) l0_2.length c0_2) := hS_
 refine norm_ (a' := ?_) ?_ ?_
 rotate_left
 {
 simp only [putAll, Act.put, List.setIfInBounds_toArray, List.set_cons_zero, List.set_cons_succ]
 rfl
 }
 refine one_ (i := 8) (N := some 31) #[tt,tt,tt,tt,tt,tt,tt,tt,tt,tt,tt,ff,ff,tt,ff] rfl rfl (one_of HT_.out (by kernel_rfl)) (by decide) (fun K hK => ?_)
 refine Kd.R_lit_step (Kd.int .i64) _ 3 ?hg (N := 31) ?hd (xs := ([] : List Int)) (inner := []) (ok := fun _ => True) (okp := fun _ => True) ?hr ?hp (fun _ hk => hk) trivial (Below.refl _ _) (Nat.le_refl _) (by simp) ?_; (case hd => rfl); (case hg => rfl); (case hr => first | (go_simp; done) | (go_simp; rfl)); (case hp => exact (Reps.none _ _))
 intro v141 w25 ho26 hb hg_ hnew_
 clear hg_ hnew_
 (first | rw [← Ny140.out] at ho26 | (simp only [Int.reduceToNat] at ho26; rw [← Ny140.out] at ho26))
 have n0_ := Aside0.mk (Kd.R_elder' (rX HO133.out) (Kd.R_base ho26) hb)
 have n1_ := Aside0.mk (Kd.R_elder' (rX HO139.out) (Kd.R_base ho26) hb)
 have n2_ := Aside0.mk (Kd.R_lower (Kd.R_new' (Kd.R_new' ho26 (Kd.R_lt (rX HO133.out))) (Kd.R_lt (rX HO139.out))) (below_size (bX3 HB.out GE124.out GE125.out GE146.out)))
 have n3_ := Aside0.mk (bbX BK124.out hb)
 have n4_ := Aside0.mk (bbX BK125.out hb)
 have n5_ := Aside0.mk (bbX BK146.out hb)
 have n6_ := Aside0.mk (below_step (bX3 HB.out GE124.out GE125.out GE146.out) hb)
 clear HO133 HO139 BK124 BK125 BK146 HB
 have HO133 := n0_
 have HO139 := n1_
 have HO142 := n2_
 have BK124 := n3_
 have BK125 := n4_
 have BK146 := n5_
 have HB := n6_
 clear n0_ n1_ n2_ n3_ n4_ n5_ n6_ hb ho26
 refine hK.out _ _ ⟨cz30 BK124.out, cz31 BK124.out, cz32 BK124.out⟩ (fun hHeld => ?_)
 clear hK K
 refine norm_ (a' := ?_) ?_ ?_
 rotate_left
 {
 show Act.put _ (some 31) _ = _
 simp only [Act.put, zA, zB, zC, i64_w, i32_w]
 rfl
 }
 exact nX (hJ0_3_4_7_8_13 (v129, v132, v135, v138, v141, gb146) _ ⟨hHeld, (rX HO133.out), (rX HO139.out), (rM HO142.out (fun _ hk => ⟨hk.1.2, hk.2⟩)), (kX BK124.out), (kX BK125.out), (kX BK146.out), GW146.out, GE146.out, NB124_146.out, NB146_124.out, NB125_146.out, NB146_125.out, (bX3 HB.out GE124.out GE125.out GE146.out)⟩)
 }
 }
 {
 skip
 rintro ⟨v129, v132, v135, v138, v141⟩ w25 ⟨hS_, h0_, h1_, h2_, h3_, h4_, h5_⟩
 have n0_ : Aside0 (Kd.R (Kd.int .i64) 3 w25 w.heap.size (fun k_ => some k_ ≠ (v138 : Value).ownBlock ∧ some k_ ≠ (v141 : Value).ownBlock) v132 y131) := ⟨h0_⟩
 have n1_ : Aside0 (Kd.R (Kd.int .i64) 3 w25 w.heap.size (fun k_ => some k_ ≠ (v132 : Value).ownBlock ∧ some k_ ≠ (v141 : Value).ownBlock) v138 y137) := ⟨h1_⟩
 have n2_ : Aside0 (Kd.R (Kd.int .i64) 3 w25 w.heap.size (fun k_ => some k_ ≠ (v132 : Value).ownBlock ∧ some k_ ≠ (v138 : Value).ownBlock) v141 y140) := ⟨h2_⟩
 have n3_ : Aside0 (w25.heap[gb124]? = some (.cells #[.slice A0_0 l0_0.length c0_0, .slice (some ad126) l0_1.length c0_1, .slice (some ad127) l0_2.length c0_2] 26 (0, 0))) := ⟨h3_⟩
 have n4_ : Aside0 (w25.heap[gb125]? = some (.cells #[.slice none 0 0, .slice none 0 0, .slice none 0 0] 26 (0, 0))) := ⟨h4_⟩
 have n5_ : Aside0 (Below w.heap.size w w25) := ⟨h5_⟩
 clear BK124 BK125 HB h0_ h1_ h2_ h3_ h4_ h5_
 have HO133 := n0_
 have HO139 := n1_
 have HO142 := n2_
 have BK124 := n3_
 have BK125 := n4_
 have HB := n5_
 clear n0_ n1_ n2_ n3_ n4_ n5_
 have hHeld : w25.cell? ⟨gb124, 0, none⟩ = some (.slice A0_0 l0_0.length c0_0) ∧ w25.cell? ⟨gb124, 1, none⟩ = some (.slice (some ad126) l0_1.length c0_1) ∧ w25.cell? ⟨gb124, 2, none⟩ = some (.slice (some ad127) l0_2.length c0_2) := hS_
 refine norm_ (a' := ?_) ?_ ?_
 rotate_left
 {
 simp only [putAll, Act.put, List.setIfInBounds_toArray, List.set_cons_zero, List.set_cons_succ]
 rfl
 }
 refine two_ (i := 11) (j := 13) (Ni := some 34) (Nj := some 6) #[tt,tt,tt,tt,tt,tt,tt,tt,tt,tt,tt,tt,ff,ff,ff] #[tt,tt,tt,tt,tt,tt,tt,tt,tt,tt,tt,ff,ff,tt,ff] rfl rfl rfl rfl (two_of HT_.out (by kernel_rfl)) (by decide) (by decide) (fun K hK => ?_) (fun K hK => ?_)
 {
 skip
 refine Kd.R_append_rows_step (Kd.int .i64) (w0 := w) w.heap.size (by rfl) (.tmp 31) (.tmp 33) 22 3 (.int .i64 0) 8 rfl Try.underlying22 info3 rfl (by decide) (by omega) v141 y140 l0_2 _ _ _ (fun k_ => some k_ ≠ (v132 : Value).ownBlock ∧ some k_ ≠ (v138 : Value).ownBlock) (fun _ => False) rfl rfl ?aO ?aR (fun _ _ h => h) (fun _ h => h.elim) ?aF ?aB ?aS ?aL ?_
 (case aR => exact cX (Kd.C_below HR0_2.out HB.out))
 (case aB => exact (bX2 HB.out GE124.out GE125.out))
 (case aF => exact (fun k_ hk => ⟨Kd.fresh' (Kd.R_lt (rX HO133.out)) k_ hk, Kd.fresh' (Kd.R_lt (rX HO139.out)) k_ hk⟩))
 (case aO => exact (rX HO142.out))
 (case aS => exact (below_size (bX2 HB.out GE124.out GE125.out)))
 (case aL => have := LMc10.out; omega)
 intro v144 w26 ho hb hg hat
 rw [← Ny143.out] at ho
 have n0_ := Aside0.mk (bgX BK124.out hg (Kd.R_ne HO142.out BK124.out (by decide)))
 have n1_ := Aside0.mk (bgX BK125.out hg (Kd.R_ne HO142.out BK125.out (by decide)))
 have n2_ := Aside0.mk (Kd.R_after (ok := (fun k_ => some k_ ≠ (v138 : Value).ownBlock)) (rX HO133.out) hg hat)
 have n3_ := Aside0.mk (Kd.R_after (ok := (fun k_ => some k_ ≠ (v132 : Value).ownBlock)) (rX HO139.out) hg hat)
 have n4_ := Aside0.mk (hb)
 have n5_ := Aside0.mk (ho)
 clear BK124 BK125 HO133 HO139 HB HO142
 have BK124 := n0_
 have BK125 := n1_
 have HO133 := n2_
 have HO139 := n3_
 have HB := n4_
 have HO145 := n5_
 clear n0_ n1_ n2_ n3_ n4_ n5_ ho hb hg hat
 obtain ⟨Ao27, co27, eo27⟩ := Kd.R_slice HO145.out
 (first | subst eo27 | (injection eo27 with f1_ f2_ f3_; have f4_ := f1_.symm; have f5_ := f3_.symm; clear f1_ f2_ f3_; subst f4_; subst f5_))
 obtain ⟨Ao28, co28, eo28⟩ := Kd.R_slice HO139.out
 (first | subst eo28 | (injection eo28 with f1_ f2_ f3_; have f4_ := f1_.symm; have f5_ := f3_.symm; clear f1_ f2_ f3_; subst f4_; subst f5_))
 obtain ⟨Ao29, co29, eo29⟩ := Kd.R_slice HO133.out
 (first | subst eo29 | (injection eo29 with f1_ f2_ f3_; have f4_ := f1_.symm; have f5_ := f3_.symm; clear f1_ f2_ f3_; subst f4_; subst f5_))
 refine hK.out _ _ ⟨cz30 BK124.out, cz31 BK124.out, cz32 BK124.out⟩ (fun hHeld => ?_)
 clear hK K
 refine norm_ (a' := ?_) ?_ ?_
 rotate_left
 {
 show Act.put _ (some 34) _ = _
 simp only [Act.put, zA, zB, zC, i64_w, i32_w]
 rfl
 }
 refine pX 12 35 (fl 15 8191) rfl rfl HT_.out ?_
 exact nX (hJ0_3_4_7_8_11 (v129, .slice Ao29 y131.length co29, v135, .slice Ao28 y137.length co28, v141, .slice Ao27 y143.length co27) _ ⟨hHeld, (rX HO133.out), (rX HO139.out), (rX HO145.out), (kX BK124.out), (kX BK125.out), (bX2 HB.out GE124.out GE125.out)⟩)
 }
 {
 skip
 refine box_step ?hg (N := 6) ?hd (cs := #[.slice none 0 0, .slice none 0 0, .slice none 0 0]) (t := 26) ?hr ?_; (case hd => rfl); (case hg => rfl); (case hr => first | (go_simp; done) | (go_simp; rfl))
 intro gb146 hg w26 hbox hb
 have n0_ := Aside0.mk (Kd.R_below (rX HO133.out) hb)
 have n1_ := Aside0.mk (Kd.R_below (rX HO139.out) hb)
 have n2_ := Aside0.mk (Kd.R_below (rX HO142.out) hb)
 have n3_ := Aside0.mk (bbX BK124.out hb)
 have n4_ := Aside0.mk (bbX BK125.out hb)
 have n5_ := Aside0.mk (below_step (bX2 HB.out GE124.out GE125.out) hb)
 have n6_ := Aside0.mk (hbox)
 have n7_ := Aside0.mk ((szX (below_size (bX2 HB.out GE124.out GE125.out)) hg : w.heap.size ≤ gb146))
 have n8_ := Aside0.mk ((szX (below_size (bX2 HB.out GE124.out GE125.out)) hg : w.heap.size ≤ gb146))
 have n9_ := Aside0.mk (neX BK124.out hg)
 have n10_ := Aside0.mk (nfX BK124.out hg)
 have n11_ := Aside0.mk (neX BK125.out hg)
 have n12_ := Aside0.mk (nfX BK125.out hg)
 clear HO133 HO139 HO142 BK124 BK125 HB
 have HO133 := n0_
 have HO139 := n1_
 have HO142 := n2_
 have BK124 := n3_
 have BK125 := n4_
 have HB := n5_
 have BK146 := n6_
 have GW146 := n7_
 have GE146 := n8_
 have NB124_146 := n9_
 have NB146_124 := n10_
 have NB125_146 := n11_
 have NB146_125 := n12_
 clear n0_ n1_ n2_ n3_ n4_ n5_ n6_ n7_ n8_ n9_ n10_ n11_ n12_ hb hbox hg
 refine hK.out _ _ ⟨cz30 BK124.out, cz31 BK124.out, cz32 BK124.out⟩ (fun hHeld => ?_)
 clear hK K
 refine norm_ (a' := ?_) ?_ ?_
 rotate_left
 {
 show Act.put _ (some 6) _ = _
 simp only [Act.put, zA, zB, zC, i64_w, i32_w]
 rfl
 }
 exact nX (hJ0_3_4_7_8_13 (v129, v132, v135, v138, v141, gb146) _ ⟨hHeld, (rX HO133.out), (rX HO139.out), (rX HO142.out), (kX BK124.out), (kX BK125.out), (kX BK146.out), GW146.out, GE146.out, NB124_146.out, NB146_124.out, NB125_146.out, NB146_125.out, (bX3 HB.out GE124.out GE125.out GE146.out)⟩)
 }
 }
 }
 {
 skip
 rintro ⟨v129, v132, v135, v138, v141, gb146⟩ w26 ⟨hS_, h0_, h1_, h2_, h3_, h4_, h5_, h6_, h7_, h8_, h9_, h10_, h11_, h12_⟩
 have n0_ : Aside0 (Kd.R (Kd.int .i64) 3 w26 w.heap.size (fun k_ => some k_ ≠ (v138 : Value).ownBlock ∧ some k_ ≠ (v141 : Value).ownBlock) v132 y131) := ⟨h0_⟩
 have n1_ : Aside0 (Kd.R (Kd.int .i64) 3 w26 w.heap.size (fun k_ => some k_ ≠ (v132 : Value).ownBlock ∧ some k_ ≠ (v141 : Value).ownBlock) v138 y137) := ⟨h1_⟩
 have n2_ : Aside0 (Kd.R (Kd.int .i64) 3 w26 w.heap.size (fun k_ => some k_ ≠ (v132 : Value).ownBlock ∧ some k_ ≠ (v138 : Value).ownBlock) v141 y140) := ⟨h2_⟩
 have n3_ : Aside0 (w26.heap[gb124]? = some (.cells #[.slice A0_0 l0_0.length c0_0, .slice (some ad126) l0_1.length c0_1, .slice (some ad127) l0_2.length c0_2] 26 (0, 0))) := ⟨h3_⟩
 have n4_ : Aside0 (w26.heap[gb125]? = some (.cells #[.slice none 0 0, .slice none 0 0, .slice none 0 0] 26 (0, 0))) := ⟨h4_⟩
 have n5_ : Aside0 (w26.heap[gb146]? = some (.cells #[.slice none 0 0, .slice none 0 0, .slice none 0 0] 26 (0, 0))) := ⟨h5_⟩
 have n6_ : Aside0 (w.heap.size ≤ gb146) := ⟨h6_⟩
 have n7_ : Aside0 (w.heap.size ≤ gb146) := ⟨h7_⟩
 have n8_ : Aside0 (gb124 ≠ gb146) := ⟨h8_⟩
 have n9_ : Aside0 (gb146 ≠ gb124) := ⟨h9_⟩
 have n10_ : Aside0 (gb125 ≠ gb146) := ⟨h10_⟩
 have n11_ : Aside0 (gb146 ≠ gb125) := ⟨h11_⟩
 have n12_ : Aside0 (Below w.heap.size w w26) := ⟨h12_⟩
 clear BK124 BK125 HB h0_ h1_ h2_ h3_ h4_ h5_ h6_ h7_ h8_ h9_ h10_ h11_ h12_
 have HO133 := n0_
 have HO139 := n1_
 have HO142 := n2_
 have BK124 := n3_
 have BK125 := n4_
 have BK146 := n5_
 have GW146 := n6_
 have GE146 := n7_
 have NB124_146 := n8_
 have NB146_124 := n9_
 have NB125_146 := n10_
 have NB146_125 := n11_
 have HB := n12_
 clear n0_ n1_ n2_ n3_ n4_ n5_ n6_ n7_ n8_ n9_ n10_ n11_ n12_
 have hHeld : w26.cell? ⟨gb124, 0, none⟩ = some (.slice A0_0 l0_0.length c0_0) ∧ w26.cell? ⟨gb124, 1, none⟩ = some (.slice (some ad126) l0_1.length c0_1) ∧ w26.cell? ⟨gb124, 2, none⟩ = some (.slice (some ad127) l0_2.length c0_2) := hS_
 refine norm_ (a' := ?_) ?_ ?_
 rotate_left
 {
 simp only [putAll, Act.put, List.setIfInBounds_toArray, List.set_cons_zero, List.set_cons_succ]
 rfl
 }
 refine one_ (i := 11) (N := some 34) #[tt,tt,tt,tt,tt,tt,tt,tt,tt,tt,tt,tt,ff,tt,ff] rfl rfl (one_of HT_.out (by kernel_rfl)) (by decide) (fun K hK => ?_)
 refine Kd.R_append_rows_step (Kd.int .i64) (w0 := w) w.heap.size (by rfl) (.tmp 31) (.tmp 33) 22 3 (.int .i64 0) 8 rfl Try.underlying22 info3 rfl (by decide) (by omega) v141 y140 l0_2 _ _ _ (fun k_ => some k_ ≠ (v132 : Value).ownBlock ∧ some k_ ≠ (v138 : Value).ownBlock) (fun _ => False) rfl rfl ?aO ?aR (fun _ _ h => h) (fun _ h => h.elim) ?aF ?aB ?aS ?aL ?_
 (case aR => exact cX (Kd.C_below HR0_2.out HB.out))
 (case aB => exact (bX3 HB.out GE124.out GE125.out GE146.out))
 (case aF => exact (fun k_ hk => ⟨Kd.fresh' (Kd.R_lt (rX HO133.out)) k_ hk, Kd.fresh' (Kd.R_lt (rX HO139.out)) k_ hk⟩))
 (case aO => exact (rX HO142.out))
 (case aS => exact (below_size (bX3 HB.out GE124.out GE125.out GE146.out)))
 (case aL => have := LMc10.out; omega)
 intro v144 w27 ho hb hg hat
 rw [← Ny143.out] at ho
 have n0_ := Aside0.mk (bgX BK124.out hg (Kd.R_ne HO142.out BK124.out (by decide)))
 have n1_ := Aside0.mk (bgX BK125.out hg (Kd.R_ne HO142.out BK125.out (by decide)))
 have n2_ := Aside0.mk (Kd.R_after (ok := (fun k_ => some k_ ≠ (v138 : Value).ownBlock)) (rX HO133.out) hg hat)
 have n3_ := Aside0.mk (Kd.R_after (ok := (fun k_ => some k_ ≠ (v132 : Value).ownBlock)) (rX HO139.out) hg hat)
 have n4_ := Aside0.mk (bgX BK146.out hg (Kd.R_ne HO142.out BK146.out (by decide)))
 have n5_ := Aside0.mk (hb)
 have n6_ := Aside0.mk (ho)
 clear BK124 BK125 HO133 HO139 BK146 HB HO142
 have BK124 := n0_
 have BK125 := n1_
 have HO133 := n2_
 have HO139 := n3_
 have BK146 := n4_
 have HB := n5_
 have HO145 := n6_
 clear n0_ n1_ n2_ n3_ n4_ n5_ n6_ ho hb hg hat
 obtain ⟨Ao28, co28, eo28⟩ := Kd.R_slice HO145.out
 (first | subst eo28 | (injection eo28 with f1_ f2_ f3_; have f4_ := f1_.symm; have f5_ := f3_.symm; clear f1_ f2_ f3_; subst f4_; subst f5_))
 obtain ⟨Ao29, co29, eo29⟩ := Kd.R_slice HO139.out
 (first | subst eo29 | (injection eo29 with f1_ f2_ f3_; have f4_ := f1_.symm; have f5_ := f3_.symm; clear f1_ f2_ f3_; subst f4_; subst f5_))
 obtain ⟨Ao30, co30, eo30⟩ := Kd.R_slice HO133.out
 (first | subst eo30 | (injection eo30 with f1_ f2_ f3_; have f4_ := f1_.symm; have f5_ := f3_.symm; clear f1_ f2_ f3_; subst f4_; subst f5_))
 refine hK.out _ _ ⟨cz30 BK124.out, cz31 BK124.out, cz32 BK124.out⟩ (fun hHeld => ?_)
 clear hK K
 refine norm_ (a' := ?_) ?_ ?_
 rotate_left
 {
 show Act.put _ (some 34) _ = _
 simp only [Act.put, zA, zB, zC, i64_w, i32_w]
 rfl
 }
 refine pX 12 35 (fl 15 16383) rfl rfl HT_.out ?_
 exact nX (hJ0_3_4_7_8_11_13 (v129, .slice Ao30 y131.length co30, v135, .slice Ao29 y137.length co29, v141, .slice Ao28 y143.length co28, gb146) _ ⟨hHeld, (rX HO133.out), (rX HO139.out), (rX HO145.out), (kX BK124.out), (kX BK125.out), (kX BK146.out), GW146.out, GE146.out, NB124_146.out, NB146_124.out, NB125_146.out, NB146_125.out, (bX3 HB.out GE124.out GE125.out GE146.out)⟩)
 }
 }
 {
 skip
 rintro ⟨v129, v132, v135, v138, v141, v144⟩ w29 ⟨hS_, h0_, h1_, h2_, h3_, h4_, h5_⟩
 have n0_ : Aside0 (Kd.R (Kd.int .i64) 3 w29 w.heap.size (fun k_ => some k_ ≠ (v138 : Value).ownBlock ∧ some k_ ≠ (v144 : Value).ownBlock) v132 y131) := ⟨h0_⟩
 have n1_ : Aside0 (Kd.R (Kd.int .i64) 3 w29 w.heap.size (fun k_ => some k_ ≠ (v132 : Value).ownBlock ∧ some k_ ≠ (v144 : Value).ownBlock) v138 y137) := ⟨h1_⟩
 have n2_ : Aside0 (Kd.R (Kd.int .i64) 3 w29 w.heap.size (fun k_ => some k_ ≠ (v132 : Value).ownBlock ∧ some k_ ≠ (v138 : Value).ownBlock) v144 y143) := ⟨h2_⟩
 have n3_ : Aside0 (w29.heap[gb124]? = some (.cells #[.slice A0_0 l0_0.length c0_0, .slice (some ad126) l0_1.length c0_1, .slice (some ad127) l0_2.length c0_2] 26 (0, 0))) := ⟨h3_⟩
 have n4_ : Aside0 (w29.heap[gb125]? = some (.cells #[.slice none 0 0, .slice none 0 0, .slice none 0 0] 26 (0, 0))) := ⟨h4_⟩
 have n5_ : Aside0 (Below w.heap.size w w29) := ⟨h5_⟩
 clear BK124 BK125 HB h0_ h1_ h2_ h3_ h4_ h5_
 have HO133 := n0_
 have HO139 := n1_
 have HO145 := n2_
 have BK124 := n3_
 have BK125 := n4_
 have HB := n5_
 clear n0_ n1_ n2_ n3_ n4_ n5_
 have hHeld : w29.cell? ⟨gb124, 0, none⟩ = some (.slice A0_0 l0_0.length c0_0) ∧ w29.cell? ⟨gb124, 1, none⟩ = some (.slice (some ad126) l0_1.length c0_1) ∧ w29.cell? ⟨gb124, 2, none⟩ = some (.slice (some ad127) l0_2.length c0_2) := hS_
 obtain ⟨Ao30, co30, eo30⟩ := Kd.R_slice HO145.out
 (first | subst eo30 | (injection eo30 with f1_ f2_ f3_; have f4_ := f1_.symm; have f5_ := f3_.symm; clear f1_ f2_ f3_; subst f4_; subst f5_))
 obtain ⟨Ao31, co31, eo31⟩ := Kd.R_slice HO139.out
 (first | subst eo31 | (injection eo31 with f1_ f2_ f3_; have f4_ := f1_.symm; have f5_ := f3_.symm; clear f1_ f2_ f3_; subst f4_; subst f5_))
 obtain ⟨Ao32, co32, eo32⟩ := Kd.R_slice HO133.out
 (first | subst eo32 | (injection eo32 with f1_ f2_ f3_; have f4_ := f1_.symm; have f5_ := f3_.symm; clear f1_ f2_ f3_; subst f4_; subst f5_))
 refine norm_ (a' := ?_) ?_ ?_
 rotate_left
 {
 simp only [putAll, Act.put, List.setIfInBounds_toArray, List.set_cons_zero, List.set_cons_succ]
 rfl
 }
 refine one_ (i := 13) (N := some 6) #[tt,tt,tt,tt,tt,tt,tt,tt,tt,tt,tt,tt,tt,tt,ff] rfl rfl (one_of HT_.out (by kernel_rfl)) (by decide) (fun K hK => ?_)
 refine box_step ?hg (N := 6) ?hd (cs := #[.slice none 0 0, .slice none 0 0, .slice none 0 0]) (t := 26) ?hr ?_; (case hd => rfl); (case hg => rfl); (case hr => first | (go_simp; done) | (go_simp; rfl))
 intro gb146 hg w33 hbox hb
 have n0_ := Aside0.mk (Kd.R_below (rX HO133.out) hb)
 have n1_ := Aside0.mk (Kd.R_below (rX HO139.out) hb)
 have n2_ := Aside0.mk (Kd.R_below (rX HO145.out) hb)
 have n3_ := Aside0.mk (bbX BK124.out hb)
 have n4_ := Aside0.mk (bbX BK125.out hb)
 have n5_ := Aside0.mk (below_step (bX2 HB.out GE124.out GE125.out) hb)
 have n6_ := Aside0.mk (hbox)
 have n7_ := Aside0.mk ((szX (below_size (bX2 HB.out GE124.out GE125.out)) hg : w.heap.size ≤ gb146))
 have n8_ := Aside0.mk ((szX (below_size (bX2 HB.out GE124.out GE125.out)) hg : w.heap.size ≤ gb146))
 have n9_ := Aside0.mk (neX BK124.out hg)
 have n10_ := Aside0.mk (nfX BK124.out hg)
 have n11_ := Aside0.mk (neX BK125.out hg)
 have n12_ := Aside0.mk (nfX BK125.out hg)
 clear HO133 HO139 HO145 BK124 BK125 HB
 have HO133 := n0_
 have HO139 := n1_
 have HO145 := n2_
 have BK124 := n3_
 have BK125 := n4_
 have HB := n5_
 have BK146 := n6_
 have GW146 := n7_
 have GE146 := n8_
 have NB124_146 := n9_
 have NB146_124 := n10_
 have NB125_146 := n11_
 have NB146_125 := n12_
 clear n0_ n1_ n2_ n3_ n4_ n5_ n6_ n7_ n8_ n9_ n10_ n11_ n12_ hb hbox hg
 refine hK.out _ _ ⟨cz30 BK124.out, cz31 BK124.out, cz32 BK124.out⟩ (fun hHeld => ?_)
 clear hK K
 refine norm_ (a' := ?_) ?_ ?_
 rotate_left
 {
 show Act.put _ (some 6) _ = _
 simp only [Act.put, zA, zB, zC, i64_w, i32_w]
 rfl
 }
 exact nX (hJ0_3_4_7_8_11_13 (v129, .slice Ao32 y131.length co32, v135, .slice Ao31 y137.length co31, v141, .slice Ao30 y143.length co30, gb146) _ ⟨hHeld, (rX HO133.out), (rX HO139.out), (rX HO145.out), (kX BK124.out), (kX BK125.out), (kX BK146.out), GW146.out, GE146.out, NB124_146.out, NB146_124.out, NB125_146.out, NB146_125.out, (bX3 HB.out GE124.out GE125.out GE146.out)⟩)
 }
 }
 rintro ⟨v129, v132, v135, v138, v141, v144, gb146⟩ w30 ⟨hS_, h0_, h1_, h2_, h3_, h4_, h5_, h6_, h7_, h8_, h9_, h10_, h11_, h12_⟩
 have n0_ : Aside0 (Kd.R (Kd.int .i64) 3 w30 w.heap.size (fun k_ => some k_ ≠ (v138 : Value).ownBlock ∧ some k_ ≠ (v144 : Value).ownBlock) v132 y131) := ⟨h0_⟩
 have n1_ : Aside0 (Kd.R (Kd.int .i64) 3 w30 w.heap.size (fun k_ => some k_ ≠ (v132 : Value).ownBlock ∧ some k_ ≠ (v144 : Value).ownBlock) v138 y137) := ⟨h1_⟩
 have n2_ : Aside0 (Kd.R (Kd.int .i64) 3 w30 w.heap.size (fun k_ => some k_ ≠ (v132 : Value).ownBlock ∧ some k_ ≠ (v138 : Value).ownBlock) v144 y143) := ⟨h2_⟩
 have n3_ : Aside0 (w30.heap[gb124]? = some (.cells #[.slice A0_0 l0_0.length c0_0, .slice (some ad126) l0_1.length c0_1, .slice (some ad127) l0_2.length c0_2] 26 (0, 0))) := ⟨h3_⟩
 have n4_ : Aside0 (w30.heap[gb125]? = some (.cells #[.slice none 0 0, .slice none 0 0, .slice none 0 0] 26 (0, 0))) := ⟨h4_⟩
 have n5_ : Aside0 (w30.heap[gb146]? = some (.cells #[.slice none 0 0, .slice none 0 0, .slice none 0 0] 26 (0, 0))) := ⟨h5_⟩
 have n6_ : Aside0 (w.heap.size ≤ gb146) := ⟨h6_⟩
 have n7_ : Aside0 (w.heap.size ≤ gb146) := ⟨h7_⟩
 have n8_ : Aside0 (gb124 ≠ gb146) := ⟨h8_⟩
 have n9_ : Aside0 (gb146 ≠ gb124) := ⟨h9_⟩
 have n10_ : Aside0 (gb125 ≠ gb146) := ⟨h10_⟩
 have n11_ : Aside0 (gb146 ≠ gb125) := ⟨h11_⟩
 have n12_ : Aside0 (Below w.heap.size w w30) := ⟨h12_⟩
 clear BK124 BK125 HB h0_ h1_ h2_ h3_ h4_ h5_ h6_ h7_ h8_ h9_ h10_ h11_ h12_
 have HO133 := n0_
 have HO139 := n1_
 have HO145 := n2_
 have BK124 := n3_
 have BK125 := n4_
 have BK146 := n5_
 have GW146 := n6_
 have GE146 := n7_
 have NB124_146 := n8_
 have NB146_124 := n9_
 have NB125_146 := n10_
 have NB146_125 := n11_
 have HB := n12_
 clear n0_ n1_ n2_ n3_ n4_ n5_ n6_ n7_ n8_ n9_ n10_ n11_ n12_
 have hHeld : w30.cell? ⟨gb124, 0, none⟩ = some (.slice A0_0 l0_0.length c0_0) ∧ w30.cell? ⟨gb124, 1, none⟩ = some (.slice (some ad126) l0_1.length c0_1) ∧ w30.cell? ⟨gb124, 2, none⟩ = some (.slice (some ad127) l0_2.length c0_2) := hS_
 obtain ⟨Ao31, co31, eo31⟩ := Kd.R_slice HO145.out
 (first | subst eo31 | (injection eo31 with f1_ f2_ f3_; have f4_ := f1_.symm; have f5_ := f3_.symm; clear f1_ f2_ f3_; subst f4_; subst f5_))
 obtain ⟨Ao32, co32, eo32⟩ := Kd.R_slice HO139.out
 (first | subst eo32 | (injection eo32 with f1_ f2_ f3_; have f4_ := f1_.symm; have f5_ := f3_.symm; clear f1_ f2_ f3_; subst f4_; subst f5_))
 obtain ⟨Ao33, co33, eo33⟩ := Kd.R_slice HO133.out
 (first | subst eo33 | (injection eo33 with f1_ f2_ f3_; have f4_ := f1_.symm; have f5_ := f3_.symm; clear f1_ f2_ f3_; subst f4_; subst f5_))
 refine norm_ (a' := ?_) ?_ ?_
 rotate_left
 {
 simp only [putAll, Act.put, List.setIfInBounds_toArray, List.set_cons_zero, List.set_cons_succ]
 rfl
 }
 refine one_ (i := 14) (N := none) #[tt,tt,tt,tt,tt,tt,tt,tt,tt,tt,tt,tt,tt,tt,tt] rfl rfl (one_of HT_.out (by kernel_rfl)) (by decide) (fun K hK => ?_)
 have hs34 : w30.cell? ⟨gb146, 0, none⟩ = some (.slice none 0 0) := cz30 BK146.out
 have hfs34 := blk_frozen BK146.out 0
 have hns34_0 := NB124_146.out
 have hns34_1 := NB125_146.out
 have hms34_0 := NB146_124.out
 have hms34_1 := NB146_125.out
 have hs35 : w30.cell? ⟨gb146, 1, none⟩ = some (.slice none 0 0) := cz31 BK146.out
 have hfs35 := blk_frozen BK146.out 1
 have hns35_0 := NB124_146.out
 have hns35_1 := NB125_146.out
 have hms35_0 := NB146_124.out
 have hms35_1 := NB146_125.out
 have hs36 : w30.cell? ⟨gb146, 2, none⟩ = some (.slice none 0 0) := cz32 BK146.out
 have hfs36 := blk_frozen BK146.out 2
 have hns36_0 := NB124_146.out
 have hns36_1 := NB125_146.out
 have hms36_0 := NB146_124.out
 have hms36_1 := NB146_125.out
 refine skip_ (w1 := ?_) (by rfl) rfl ?_ ?_
 rotate_left
 {
 go_simp
 rfl
 }
 refine hK.out _ _ ⟨((cell_far (p := ⟨gb146, _, none⟩) NB124_146.out _).trans (((cell_far (p := ⟨gb146, _, none⟩) NB124_146.out _).trans (((cell_far (p := ⟨gb146, _, none⟩) NB124_146.out _).trans (hHeld.1)))))), ((cell_far (p := ⟨gb146, _, none⟩) NB124_146.out _).trans (((cell_far (p := ⟨gb146, _, none⟩) NB124_146.out _).trans (((cell_far (p := ⟨gb146, _, none⟩) NB124_146.out _).trans (hHeld.2.1)))))), ((cell_far (p := ⟨gb146, _, none⟩) NB124_146.out _).trans (((cell_far (p := ⟨gb146, _, none⟩) NB124_146.out _).trans (((cell_far (p := ⟨gb146, _, none⟩) NB124_146.out _).trans (hHeld.2.2))))))⟩ (fun hHeld => ?_)
 clear hK K
 refine done_ (done_of HT_.out (by kernel_rfl)) ?_
 go_upto_region 6 with (fail)
 go_cut [56] (fun v56 wc => ∃ (kq : Nat) (x56_10 : Bool), v56 = .bool x56_10 ∧ Aside0 (spec_l16Once.j0 kq (rd l0_1 (ji2)) (rd l0_2 (ji5)) x56_10 l0_0 l0_1 l0_2 y131 y137 y143 = some (r1, r2, r3, r4)) ∧ Aside0 (kq ≤ k) ∧ Aside0 (Kd.R (Kd.int .i64) 3 wc w.heap.size (fun k_ => some k_ ≠ ((.slice Ao32 y137.length co32) : Value).ownBlock ∧ some k_ ≠ ((.slice Ao31 y143.length co31) : Value).ownBlock) (.slice Ao33 y131.length co33) y131) ∧ Aside0 (Kd.R (Kd.int .i64) 3 wc w.heap.size (fun k_ => some k_ ≠ ((.slice Ao33 y131.length co33) : Value).ownBlock ∧ some k_ ≠ ((.slice Ao31 y143.length co31) : Value).ownBlock) (.slice Ao32 y137.length co32) y137) ∧ Aside0 (Kd.R (Kd.int .i64) 3 wc w.heap.size (fun k_ => some k_ ≠ ((.slice Ao33 y131.length co33) : Value).ownBlock ∧ some k_ ≠ ((.slice Ao32 y137.length co32) : Value).ownBlock) (.slice Ao31 y143.length co31) y143) ∧ Aside0 (wc.heap[gb124]? = some (.cells #[(.slice A0_0 l0_0.length c0_0), (.slice (some ad126) l0_1.length c0_1), (.slice (some ad127) l0_2.length c0_2)] 26 (0, 0))) ∧ Aside0 (wc.heap[gb125]? = some (.cells #[(.slice none 0 0), (.slice none 0 0), (.slice none 0 0)] 26 (0, 0))) ∧ Aside0 (wc.heap[gb146]? = some (.cells #[(.slice Ao33 y131.length co33), (.slice Ao32 y137.length co32), (.slice Ao31 y143.length co31)] 26 (0, 0))) ∧ Aside0 (Below w.heap.size w wc))
 case first =>
  have H := HC11.out
  clear HC11
  by_cases c37 : (rd l0_1 (ji2)) = (rd l0_2 (ji5))
  {
  rw [if_pos c37] at H
  have c37b0 : ((rd l0_1 (ji2)) == (rd l0_2 (ji5))) = true := beq_iff_eq.mpr c37
  have c37b1 : ((rd l0_1 (ji2)) != (rd l0_2 (ji5))) = false := bne_eq_false_iff_eq.mpr c37
  clear c37
  (first | rw [c37b0] | (simp only [i64_w, i32_w]; rw [c37b0]) | skip)
  have H' := Aside0.mk H
  clear H
  try go_wp2
  have n0_ : Aside0 (Kd.R (Kd.int .i64) 3 (((w30.setCell ⟨gb146, 0, none⟩ (.slice Ao33 y131.length co33)).setCell ⟨gb146, 1, none⟩ (.slice Ao32 y137.length co32)).setCell ⟨gb146, 2, none⟩ (.slice Ao31 y143.length co31)) w.heap.size (fun k_ => some k_ ≠ (.slice Ao32 y137.length co32 : Value).ownBlock ∧ some k_ ≠ (.slice Ao31 y143.length co31 : Value).ownBlock) (.slice Ao33 y131.length co33) y131) := ⟨by (with_reducible repeat (first|apply rA|apply rN|apply rD)); exact Kd.R_mono (Kd.R_far (p := ⟨gb146, 2, none⟩) (Kd.R_far (p := ⟨gb146, 1, none⟩) (Kd.R_far (p := ⟨gb146, 0, none⟩) (Kd.R_types HO133.out BK146.out (by decide)) (fun _ hk => hk.2) (.slice Ao33 y131.length co33)) (fun _ hk => hk.2) (.slice Ao32 y137.length co32)) (fun _ hk => hk.2) (.slice Ao31 y143.length co31)) (fun _ hk => ⟨hk.1.1, hk.1.2⟩)⟩
  have n1_ : Aside0 (Kd.R (Kd.int .i64) 3 (((w30.setCell ⟨gb146, 0, none⟩ (.slice Ao33 y131.length co33)).setCell ⟨gb146, 1, none⟩ (.slice Ao32 y137.length co32)).setCell ⟨gb146, 2, none⟩ (.slice Ao31 y143.length co31)) w.heap.size (fun k_ => some k_ ≠ (.slice Ao33 y131.length co33 : Value).ownBlock ∧ some k_ ≠ (.slice Ao31 y143.length co31 : Value).ownBlock) (.slice Ao32 y137.length co32) y137) := ⟨by (with_reducible repeat (first|apply rA|apply rN|apply rD)); exact Kd.R_mono (Kd.R_far (p := ⟨gb146, 2, none⟩) (Kd.R_far (p := ⟨gb146, 1, none⟩) (Kd.R_far (p := ⟨gb146, 0, none⟩) (Kd.R_types HO139.out BK146.out (by decide)) (fun _ hk => hk.2) (.slice Ao33 y131.length co33)) (fun _ hk => hk.2) (.slice Ao32 y137.length co32)) (fun _ hk => hk.2) (.slice Ao31 y143.length co31)) (fun _ hk => ⟨hk.1.1, hk.1.2⟩)⟩
  have n2_ : Aside0 (Kd.R (Kd.int .i64) 3 (((w30.setCell ⟨gb146, 0, none⟩ (.slice Ao33 y131.length co33)).setCell ⟨gb146, 1, none⟩ (.slice Ao32 y137.length co32)).setCell ⟨gb146, 2, none⟩ (.slice Ao31 y143.length co31)) w.heap.size (fun k_ => some k_ ≠ (.slice Ao33 y131.length co33 : Value).ownBlock ∧ some k_ ≠ (.slice Ao32 y137.length co32 : Value).ownBlock) (.slice Ao31 y143.length co31) y143) := ⟨by (with_reducible repeat (first|apply rA|apply rN|apply rD)); exact Kd.R_mono (Kd.R_far (p := ⟨gb146, 2, none⟩) (Kd.R_far (p := ⟨gb146, 1, none⟩) (Kd.R_far (p := ⟨gb146, 0, none⟩) (Kd.R_types HO145.out BK146.out (by decide)) (fun _ hk => hk.2) (.slice Ao33 y131.length co33)) (fun _ hk => hk.2) (.slice Ao32 y137.length co32)) (fun _ hk => hk.2) (.slice Ao31 y143.length co31)) (fun _ hk => ⟨hk.1.1, hk.1.2⟩)⟩
  have n3_ : Aside0 ((((w30.setCell ⟨gb146, 0, none⟩ (.slice Ao33 y131.length co33)).setCell ⟨gb146, 1, none⟩ (.slice Ao32 y137.length co32)).setCell ⟨gb146, 2, none⟩ (.slice Ao31 y143.length co31)).heap[gb124]? = some (.cells #[.slice A0_0 l0_0.length c0_0, .slice (some ad126) l0_1.length c0_1, .slice (some ad127) l0_2.length c0_2] 26 (0, 0))) := ⟨by (with_reducible repeat (first|refine kN ?_ _|refine kD ?_|refine kA ?_ _)); refine blk_far ?_ NB124_146.out _; (with_reducible repeat (first|refine kN ?_ _|refine kD ?_|refine kA ?_ _)); refine blk_far ?_ NB124_146.out _; (with_reducible repeat (first|refine kN ?_ _|refine kD ?_|refine kA ?_ _)); refine blk_far ?_ NB124_146.out _; (with_reducible repeat (first|refine kN ?_ _|refine kD ?_|refine kA ?_ _)); exact BK124.out⟩
  have n4_ : Aside0 ((((w30.setCell ⟨gb146, 0, none⟩ (.slice Ao33 y131.length co33)).setCell ⟨gb146, 1, none⟩ (.slice Ao32 y137.length co32)).setCell ⟨gb146, 2, none⟩ (.slice Ao31 y143.length co31)).heap[gb125]? = some (.cells #[.slice none 0 0, .slice none 0 0, .slice none 0 0] 26 (0, 0))) := ⟨by (with_reducible repeat (first|refine kN ?_ _|refine kD ?_|refine kA ?_ _)); refine blk_far ?_ NB125_146.out _; (with_reducible repeat (first|refine kN ?_ _|refine kD ?_|refine kA ?_ _)); refine blk_far ?_ NB125_146.out _; (with_reducible repeat (first|refine kN ?_ _|refine kD ?_|refine kA ?_ _)); refine blk_far ?_ NB125_146.out _; (with_reducible repeat (first|refine kN ?_ _|refine kD ?_|refine kA ?_ _)); exact BK125.out⟩
  have n5_ : Aside0 ((((w30.setCell ⟨gb146, 0, none⟩ (.slice Ao33 y131.length co33)).setCell ⟨gb146, 1, none⟩ (.slice Ao32 y137.length co32)).setCell ⟨gb146, 2, none⟩ (.slice Ao31 y143.length co31)).heap[gb146]? = some (.cells #[.slice Ao33 y131.length co33, .slice Ao32 y137.length co32, .slice Ao31 y143.length co31] 26 (0, 0))) := ⟨by (with_reducible repeat (first|refine kN ?_ _|refine kD ?_|refine kA ?_ _)); refine blk_put (cs := #[.slice Ao33 y131.length co33, .slice Ao32 y137.length co32, .slice none 0 0]) ?_ 2 _ rfl; (with_reducible repeat (first|refine kN ?_ _|refine kD ?_|refine kA ?_ _)); refine blk_put (cs := #[.slice Ao33 y131.length co33, .slice none 0 0, .slice none 0 0]) ?_ 1 _ rfl; (with_reducible repeat (first|refine kN ?_ _|refine kD ?_|refine kA ?_ _)); refine blk_put (cs := #[.slice none 0 0, .slice none 0 0, .slice none 0 0]) ?_ 0 _ rfl; (with_reducible repeat (first|refine kN ?_ _|refine kD ?_|refine kA ?_ _)); exact BK146.out⟩
  have n6_ : Aside0 (Below w.heap.size w (((w30.setCell ⟨gb146, 0, none⟩ (.slice Ao33 y131.length co33)).setCell ⟨gb146, 1, none⟩ (.slice Ao32 y137.length co32)).setCell ⟨gb146, 2, none⟩ (.slice Ao31 y143.length co31))) := ⟨bX3 HB.out GE124.out GE125.out GE146.out⟩
  (try clear HO133)
  (try clear HO139)
  (try clear HO145)
  (try clear BK124)
  (try clear BK125)
  (try clear BK146)
  (try clear HB)
  generalize (((w30.setCell ⟨gb146, 0, none⟩ (.slice Ao33 y131.length co33)).setCell ⟨gb146, 1, none⟩ (.slice Ao32 y137.length co32)).setCell ⟨gb146, 2, none⟩ (.slice Ao31 y143.length co31)) = w38 at n0_ n1_ n2_ n3_ n4_ n5_ n6_ ⊢
  have HO133 := n0_
  have HO139 := n1_
  have HO145 := n2_
  have BK124 := n3_
  have BK125 := n4_
  have BK146 := n5_
  have HB := n6_
  clear n0_ n1_ n2_ n3_ n4_ n5_ n6_
  have n0_ := Aside0.mk (Kd.R_drew HO133.out)
  have n1_ := Aside0.mk (Kd.R_drew HO139.out)
  have n2_ := Aside0.mk (Kd.R_drew HO145.out)
  have n3_ := Aside0.mk (blk_drew BK124.out)
  have n4_ := Aside0.mk (blk_drew BK125.out)
  have n5_ := Aside0.mk (blk_drew BK146.out)
  have n6_ := Aside0.mk (below_drew1 HB.out)
  clear HO133 HO139 HO145 BK124 BK125 BK146 HB
  have HO133 := n0_
  have HO139 := n1_
  have HO145 := n2_
  have BK124 := n3_
  have BK125 := n4_
  have BK146 := n5_
  have HB := n6_
  clear n0_ n1_ n2_ n3_ n4_ n5_ n6_
  refine start_ (n := 17) (S := fun w' => True) (ds := []) #[ff,ff,ff,ff,ff,ff,ff,ff,ff,ff,ff,ff,ff,ff,ff,ff,ff] (by kernel_rfl) rfl rfl trivial (fun hHeld => ?_); refine with_tabW spec_l16Once.tab6 spec_l16Once.bits6 (fun HT_ HW_ => ?_)
  generalize w38.drew = w39 at HO133 HO139 HO145 BK124 BK125 BK146 HB hHeld ⊢
  refine pX 0 57 (fl 17 1) rfl rfl HT_.out ?_
  refine pX 1 58 (fl 17 3) rfl rfl HT_.out ?_
  refine pX 2 59 (fl 17 7) rfl rfl HT_.out ?_
  refine pX 3 60 (fl 17 15) rfl rfl HT_.out ?_
  refine uX 4 61 (fl 17 31) rfl rfl HT_.out ?_
  refine uX 5 62 (fl 17 63) rfl rfl HT_.out ?_
  refine uX 6 63 (fl 17 127) rfl rfl HT_.out ?_
  refine uX 7 64 (fl 17 255) rfl rfl HT_.out ?_
  refine uX 8 65 (fl 17 511) rfl rfl HT_.out ?_
  refine uX 9 66 (fl 17 1023) rfl rfl HT_.out ?_
  refine uX 10 67 (fl 17 2047) rfl rfl HT_.out ?_
  refine uX 11 68 (fl 17 4095) rfl rfl HT_.out ?_
  refine uX 12 69 (fl 17 8191) rfl rfl HT_.out ?_
  refine uX 13 70 (fl 17 16383) rfl rfl HT_.out ?_
  refine uX 14 71 (fl 17 32767) rfl rfl HT_.out ?_
  refine pX 15 72 (fl 17 65535) rfl rfl HT_.out ?_
  refine pX 16 56 (fl 17 131071) rfl rfl HT_.out ?_
  refine done_ (done_of HT_.out (by kernel_rfl)) ?_
  try go_wp2
  go_meet
  case rel => exact ⟨_, (true), vX, H', ⟨by first | omega | exact Nat.le_refl _⟩, ⟨rX HO133.out⟩, ⟨rX HO139.out⟩, ⟨rX HO145.out⟩, ⟨kX BK124.out⟩, ⟨kX BK125.out⟩, ⟨kX BK146.out⟩, ⟨bX3 HB.out GE124.out GE125.out GE146.out⟩⟩
  }
  {
  rw [if_neg c37] at H
  have c37b0 : ((rd l0_1 (ji2)) == (rd l0_2 (ji5))) = false := beq_eq_false_iff_ne.mpr c37
  have c37b1 : ((rd l0_1 (ji2)) != (rd l0_2 (ji5))) = true := bne_iff_ne.mpr c37
  (first | rw [c37b0] | (simp only [i64_w, i32_w]; rw [c37b0]) | skip)
  by_cases c40 : 0 ≤ (rd l0_1 (ji2))
  {
  rw [if_pos c40] at H
  have c40b0 : decide (0 ≤ (rd l0_1 (ji2))) = true := decide_eq_true c40
  clear c40
  by_cases c41 : (rd l0_1 (ji2)) < (l0_0.length : Int)
  {
  rw [if_pos c41] at H
  have c41b0 : decide ((rd l0_1 (ji2)) < (l0_0.length : Int)) = true := decide_eq_true c41
  clear c41
  by_cases c42 : 0 ≤ (rd l0_2 (ji5))
  {
  rw [if_pos c42] at H
  have c42b0 : decide (0 ≤ (rd l0_2 (ji5))) = true := decide_eq_true c42
  clear c42
  by_cases c43 : (rd l0_2 (ji5)) < (l0_0.length : Int)
  {
  rw [if_pos c43] at H
  have c43b0 : decide ((rd l0_2 (ji5)) < (l0_0.length : Int)) = true := decide_eq_true c43
  clear c43
  have H' := Aside0.mk H
  clear H
  try go_wp2
  have n0_ : Aside0 (Kd.R (Kd.int .i64) 3 (((w30.setCell ⟨gb146, 0, none⟩ (.slice Ao33 y131.length co33)).setCell ⟨gb146, 1, none⟩ (.slice Ao32 y137.length co32)).setCell ⟨gb146, 2, none⟩ (.slice Ao31 y143.length co31)) w.heap.size (fun k_ => some k_ ≠ (.slice Ao32 y137.length co32 : Value).ownBlock ∧ some k_ ≠ (.slice Ao31 y143.length co31 : Value).ownBlock) (.slice Ao33 y131.length co33) y131) := ⟨by (with_reducible repeat (first|apply rA|apply rN|apply rD)); exact Kd.R_mono (Kd.R_far (p := ⟨gb146, 2, none⟩) (Kd.R_far (p := ⟨gb146, 1, none⟩) (Kd.R_far (p := ⟨gb146, 0, none⟩) (Kd.R_types HO133.out BK146.out (by decide)) (fun _ hk => hk.2) (.slice Ao33 y131.length co33)) (fun _ hk => hk.2) (.slice Ao32 y137.length co32)) (fun _ hk => hk.2) (.slice Ao31 y143.length co31)) (fun _ hk => ⟨hk.1.1, hk.1.2⟩)⟩
  have n1_ : Aside0 (Kd.R (Kd.int .i64) 3 (((w30.setCell ⟨gb146, 0, none⟩ (.slice Ao33 y131.length co33)).setCell ⟨gb146, 1, none⟩ (.slice Ao32 y137.length co32)).setCell ⟨gb146, 2, none⟩ (.slice Ao31 y143.length co31)) w.heap.size (fun k_ => some k_ ≠ (.slice Ao33 y131.length co33 : Value).ownBlock ∧ some k_ ≠ (.slice Ao31 y143.length co31 : Value).ownBlock) (.slice Ao32 y137.length co32) y137) := ⟨by (with_reducible repeat (first|apply rA|apply rN|apply rD)); exact Kd.R_mono (Kd.R_far (p := ⟨gb146, 2, none⟩) (Kd.R_far (p := ⟨gb146, 1, none⟩) (Kd.R_far (p := ⟨gb146, 0, none⟩) (Kd.R_types HO139.out BK146.out (by decide)) (fun _ hk => hk.2) (.slice Ao33 y131.length co33)) (fun _ hk => hk.2) (.slice Ao32 y137.length co32)) (fun _ hk => hk.2) (.slice Ao31 y143.length co31)) (fun _ hk => ⟨hk.1.1, hk.1.2⟩)⟩
  have n2_ : Aside0 (Kd.R (Kd.int .i64) 3 (((w30.setCell ⟨gb146, 0, none⟩ (.slice Ao33 y131.length co33)).setCell ⟨gb146, 1, none⟩ (.slice Ao32 y137.length co32)).setCell ⟨gb146, 2, none⟩ (.slice Ao31 y143.length co31)) w.heap.size (fun k_ => some k_ ≠ (.slice Ao33 y131.length co33 : Value).ownBlock ∧ some k_ ≠ (.slice Ao32 y137.length co32 : Value).ownBlock) (.slice Ao31 y143.length co31) y143) := ⟨by (with_reducible repeat (first|apply rA|apply rN|apply rD)); exact Kd.R_mono (Kd.R_far (p := ⟨gb146, 2, none⟩) (Kd.R_far (p := ⟨gb146, 1, none⟩) (Kd.R_far (p := ⟨gb146, 0, none⟩) (Kd.R_types HO145.out BK146.out (by decide)) (fun _ hk => hk.2) (.slice Ao33 y131.length co33)) (fun _ hk => hk.2) (.slice Ao32 y137.length co32)) (fun _ hk => hk.2) (.slice Ao31 y143.length co31)) (fun _ hk => ⟨hk.1.1, hk.1.2⟩)⟩
  have n3_ : Aside0 ((((w30.setCell ⟨gb146, 0, none⟩ (.slice Ao33 y131.length co33)).setCell ⟨gb146, 1, none⟩ (.slice Ao32 y137.length co32)).setCell ⟨gb146, 2, none⟩ (.slice Ao31 y143.length co31)).heap[gb124]? = some (.cells #[.slice A0_0 l0_0.length c0_0, .slice (some ad126) l0_1.length c0_1, .slice (some ad127) l0_2.length c0_2] 26 (0, 0))) := ⟨by (with_reducible repeat (first|refine kN ?_ _|refine kD ?_|refine kA ?_ _)); refine blk_far ?_ NB124_146.out _; (with_reducible repeat (first|refine kN ?_ _|refine kD ?_|refine kA ?_ _)); refine blk_far ?_ NB124_146.out _; (with_reducible repeat (first|refine kN ?_ _|refine kD ?_|refine kA ?_ _)); refine blk_far ?_ NB124_146.out _; (with_reducible repeat (first|refine kN ?_ _|refine kD ?_|refine kA ?_ _)); exact BK124.out⟩
  have n4_ : Aside0 ((((w30.setCell ⟨gb146, 0, none⟩ (.slice Ao33 y131.length co33)).setCell ⟨gb146, 1, none⟩ (.slice Ao32 y137.length co32)).setCell ⟨gb146, 2, none⟩ (.slice Ao31 y143.length co31)).heap[gb125]? = some (.cells #[.slice none 0 0, .slice none 0 0, .slice none 0 0] 26 (0, 0))) := ⟨by (with_reducible repeat (first|refine kN ?_ _|refine kD ?_|refine kA ?_ _)); refine blk_far ?_ NB125_146.out _; (with_reducible repeat (first|refine kN ?_ _|refine kD ?_|refine kA ?_ _)); refine blk_far ?_ NB125_146.out _; (with_reducible repeat (first|refine kN ?_ _|refine kD ?_|refine kA ?_ _)); refine blk_far ?_ NB125_146.out _; (with_reducible repeat (first|refine kN ?_ _|refine kD ?_|refine kA ?_ _)); exact BK125.out⟩
  have n5_ : Aside0 ((((w30.setCell ⟨gb146, 0, none⟩ (.slice Ao33 y131.length co33)).setCell ⟨gb146, 1, none⟩ (.slice Ao32 y137.length co32)).setCell ⟨gb146, 2, none⟩ (.slice Ao31 y143.length co31)).heap[gb146]? = some (.cells #[.slice Ao33 y131.length co33, .slice Ao32 y137.length co32, .slice Ao31 y143.length co31] 26 (0, 0))) := ⟨by (with_reducible repeat (first|refine kN ?_ _|refine kD ?_|refine kA ?_ _)); refine blk_put (cs := #[.slice Ao33 y131.length co33, .slice Ao32 y137.length co32, .slice none 0 0]) ?_ 2 _ rfl; (with_reducible repeat (first|refine kN ?_ _|refine kD ?_|refine kA ?_ _)); refine blk_put (cs := #[.slice Ao33 y131.length co33, .slice none 0 0, .slice none 0 0]) ?_ 1 _ rfl; (with_reducible repeat (first|refine kN ?_ _|refine kD ?_|refine kA ?_ _)); refine blk_put (cs := #[.slice none 0 0, .slice none 0 0, .slice none 0 0]) ?_ 0 _ rfl; (with_reducible repeat (first|refine kN ?_ _|refine kD ?_|refine kA ?_ _)); exact BK146.out⟩
  have n6_ : Aside0 (Below w.heap.size w (((w30.setCell ⟨gb146, 0, none⟩ (.slice Ao33 y131.length co33)).setCell ⟨gb146, 1, none⟩ (.slice Ao32 y137.length co32)).setCell ⟨gb146, 2, none⟩ (.slice Ao31 y143.length co31))) := ⟨bX3 HB.out GE124.out GE125.out GE146.out⟩
  (try clear HO133)
  (try clear HO139)
  (try clear HO145)
  (try clear BK124)
  (try clear BK125)
  (try clear BK146)
  (try clear HB)
  generalize (((w30.setCell ⟨gb146, 0, none⟩ (.slice Ao33 y131.length co33)).setCell ⟨gb146, 1, none⟩ (.slice Ao32 y137.length co32)).setCell ⟨gb146, 2, none⟩ (.slice Ao31 y143.length co31)) = w44 at n0_ n1_ n2_ n3_ n4_ n5_ n6_ ⊢
  have HO133 := n0_
  have HO139 := n1_
  have HO145 := n2_
  have BK124 := n3_
  have BK125 := n4_
  have BK146 := n5_
  have HB := n6_
  clear n0_ n1_ n2_ n3_ n4_ n5_ n6_
  have n0_ := Aside0.mk (Kd.R_drew HO133.out)
  have n1_ := Aside0.mk (Kd.R_drew HO139.out)
  have n2_ := Aside0.mk (Kd.R_drew HO145.out)
  have n3_ := Aside0.mk (blk_drew BK124.out)
  have n4_ := Aside0.mk (blk_drew BK125.out)
  have n5_ := Aside0.mk (blk_drew BK146.out)
  have n6_ := Aside0.mk (below_drew1 HB.out)
  clear HO133 HO139 HO145 BK124 BK125 BK146 HB
  have HO133 := n0_
  have HO139 := n1_
  have HO145 := n2_
  have BK124 := n3_
  have BK125 := n4_
  have BK146 := n5_
  have HB := n6_
  clear n0_ n1_ n2_ n3_ n4_ n5_ n6_
  have p147 : 0 ≤ ((rd l0_1 (ji2)) : Int) := dX
  have q147 : (rd l0_1 (ji2)) < (l0_0.length : Int) := dX
  obtain ⟨ad147, e147, hx147_0⟩ := Kd.at_int HR0_0.out (rd l0_1 (ji2)) p147 q147
  have hw147_0 := hx147_0
  cases e147
  replace hx147_0 := (HB.out.cell (World.block_lt_of_cell? w _ hx147_0)).trans hx147_0
  replace p147 := eq_true p147
  replace q147 := eq_true q147
  have p148 : 0 ≤ ((rd l0_2 (ji5)) : Int) := dX
  have q148 : (rd l0_2 (ji5)) < (l0_0.length : Int) := dX
  obtain ⟨ad148, e148, hx148_0⟩ := Kd.at_int HR0_0.out (rd l0_2 (ji5)) p148 q148
  have hw148_0 := hx148_0
  obtain rfl : ad147 = ad148 := (by injection e148)
  replace hx148_0 := (HB.out.cell (World.block_lt_of_cell? w _ hx148_0)).trans hx148_0
  replace p148 := eq_true p148
  replace q148 := eq_true q148
  refine start_ (n := 17) (S := fun w' => w'.cell? ⟨gb124, 0, none⟩ = some (.slice (some ad147) l0_0.length c0_0) ∧ w'.cell? ⟨gb124, 1, none⟩ = some (.slice (some ad126) l0_1.length c0_1) ∧ w'.cell? ⟨gb124, 2, none⟩ = some (.slice (some ad127) l0_2.length c0_2) ∧ w'.cell? (ad147.add ((rd l0_1 (ji2))).toNat) = some (.int .i64 (rd l0_0 (rd l0_1 (ji2)))) ∧ w'.cell? (ad147.add ((rd l0_2 (ji5))).toNat) = some (.int .i64 (rd l0_0 (rd l0_2 (ji5))))) (ds := []) #[ff,ff,ff,ff,ff,ff,ff,ff,ff,ff,ff,ff,ff,ff,ff,ff,ff] (by kernel_rfl) rfl rfl ⟨cz30 BK124.out, cz31 BK124.out, cz32 BK124.out, ((HB.out.cell (World.block_lt_of_cell? w _ hw147_0)).trans hw147_0), ((HB.out.cell (World.block_lt_of_cell? w _ hw148_0)).trans hw148_0)⟩ (fun hHeld => ?_); refine with_tabW spec_l16Once.tab6 spec_l16Once.bits6 (fun HT_ HW_ => ?_)
  generalize w44.drew = w45 at HO133 HO139 HO145 BK124 BK125 BK146 HB hx147_0 hx148_0 hHeld ⊢
  refine pX 0 57 (fl 17 1) rfl rfl HT_.out ?_
  refine pX 1 58 (fl 17 3) rfl rfl HT_.out ?_
  refine pX 2 59 (fl 17 7) rfl rfl HT_.out ?_
  refine pX 3 60 (fl 17 15) rfl rfl HT_.out ?_
  refine pX 4 61 (fl 17 31) rfl rfl HT_.out ?_
  refine pX 6 63 (fl 17 95) rfl rfl HT_.out ?_
  refine pX 9 66 (fl 17 607) rfl rfl HT_.out ?_
  refine pX 11 68 (fl 17 2655) rfl rfl HT_.out ?_
  refine tX5 5 62 (fl 17 2687) rfl rfl HT_.out HW_.out hHeld ?_
  refine pX 7 64 (fl 17 2815) rfl rfl HT_.out ?_
  refine tX5 8 65 (fl 17 3071) rfl rfl HT_.out HW_.out hHeld ?_
  refine tX5 10 67 (fl 17 4095) rfl rfl HT_.out HW_.out hHeld ?_
  refine pX 12 69 (fl 17 8191) rfl rfl HT_.out ?_
  refine tX5 13 70 (fl 17 16383) rfl rfl HT_.out HW_.out hHeld ?_
  refine pX 14 71 (fl 17 32767) rfl rfl HT_.out ?_
  refine pX 15 72 (fl 17 65535) rfl rfl HT_.out ?_
  refine pX 16 56 (fl 17 131071) rfl rfl HT_.out ?_
  refine done_ (done_of HT_.out (by kernel_rfl)) ?_
  try go_wp2
  go_meet
  case rel => exact ⟨_, (((rd l0_0 (rd l0_1 (ji2))) == (rd l0_0 (rd l0_2 (ji5))))), (by first | rfl | (simp; done) | (simp only [← hji2, ← hji5] <;> (first | rfl | simp)) | (simp [*]; done)), H', ⟨by first | omega | exact Nat.le_refl _⟩, ⟨rX HO133.out⟩, ⟨rX HO139.out⟩, ⟨rX HO145.out⟩, ⟨kX BK124.out⟩, ⟨kX BK125.out⟩, ⟨kX BK146.out⟩, ⟨bX3 HB.out GE124.out GE125.out GE146.out⟩⟩
  }
  {
  rw [if_neg c43] at H
  exact absurd H (by simp)
  }
  }
  {
  rw [if_neg c42] at H
  exact absurd H (by simp)
  }
  }
  {
  rw [if_neg c41] at H
  exact absurd H (by simp)
  }
  }
  {
  rw [if_neg c40] at H
  exact absurd H (by simp)
  }
  }
 case rest =>
 clear HC11
 try clear c1
 try clear p1
 try clear q1
 try clear hx1
 try clear p2
 try clear c3
 try clear c4
 try clear c10
 try clear p14
 try clear q14
 try clear hx14
 try clear c37
 try clear c37b0
 try clear c37b1
 try clear c40
 try clear c40b0
 try clear c41
 try clear c41b0
 try clear c42
 try clear c42b0
 try clear c43
 try clear c43b0
 try clear hx147_0
 try clear hx148_0
 try clear p147
 try clear p148
 try clear q147
 try clear q148
 obtain ⟨kq, x56_10, rfl, HA, HJ10, HO_147000, HO_147001, HO_147002, BK124, BK125, BK146, HB⟩ := hcut
 cases kq with
 | zero => exact absurd HA.out (by simp [spec_l16Once.j0])
 | succ kj10 =>
 have H := HA.out
 clear HA
 simp only [spec_l16Once.j0] at H
 by_cases c46 : x56_10 = true
 {
 subst c46
 have H1 : (some (([] : List Int), ([] : List Int), ([] : List Int), false)) = some (r1, r2, r3, r4) := by rw [if_pos rfl] at H; exact H
 clear H
 have H := H1
 clear H1
 simp only [Option.some.injEq, Prod.mk.injEq] at H
 obtain ⟨rfl, rfl, rfl, rfl⟩ := H
 have hnb47 := NB125_124.out
 have hnc47 := NB124_125.out
 have hnb48 := NB125_146.out
 have hnc48 := NB146_125.out
 have hcz49_0 := cz30 BK125.out
 have hcz49_1 := cz31 BK125.out
 have hcz49_2 := cz32 BK125.out
 have hfz49_0 := blk_frozen BK125.out 0
 have hfz49_1 := blk_frozen BK125.out 1
 have hfz49_2 := blk_frozen BK125.out 2
 go_wp2
 refine bodyPost_ret (results_ct rfl _ _ gb125 26 #[.slice none 0 0, .slice none 0 0, .slice none 0 0] (0, 0) _ rfl (by (with_reducible repeat (first|refine kN ?_ _|refine kD ?_|refine kA ?_ _)); refine blk_put (cs := #[.slice none 0 0, .slice none 0 0, .slice none 0 0]) ?_ 2 _ rfl; (with_reducible repeat (first|refine kN ?_ _|refine kD ?_|refine kA ?_ _)); refine blk_put (cs := #[.slice none 0 0, .slice none 0 0, .slice none 0 0]) ?_ 1 _ rfl; (with_reducible repeat (first|refine kN ?_ _|refine kD ?_|refine kA ?_ _)); refine blk_put (cs := #[.slice none 0 0, .slice none 0 0, .slice none 0 0]) ?_ 0 _ rfl; (with_reducible repeat (first|refine kN ?_ _|refine kD ?_|refine kA ?_ _)); exact BK125.out) Try.underlying26 rfl (by kernel_rfl)) rfl ?_
 exact ⟨_, _, _, by first | rfl | (simp [errW_none, errW_some] <;> rfl) | (simp only [← hji2, ← hji5]; first | rfl | (simp [errW_none, errW_some] <;> rfl)) | (simp [*, errW_none, errW_some] <;> rfl), by first | exact Kd.R_nil _ _ _ _ _ | exact Kd.N_nil _ _ _ _ _ | exact Kd.V_nil _ _ _ _ _ | exact Kd.Q_nil _ _ _ _ _ | exact Kd.S_nil _ _ _ _ _, by first | exact Kd.R_nil _ _ _ _ _ | exact Kd.N_nil _ _ _ _ _ | exact Kd.V_nil _ _ _ _ _ | exact Kd.Q_nil _ _ _ _ _ | exact Kd.S_nil _ _ _ _ _, by first | exact Kd.R_nil _ _ _ _ _ | exact Kd.N_nil _ _ _ _ _ | exact Kd.V_nil _ _ _ _ _ | exact Kd.Q_nil _ _ _ _ _ | exact Kd.S_nil _ _ _ _ _, bX3 HB.out GE124.out GE125.out GE146.out⟩
 }
 {
 replace c46 := Bool.eq_false_iff.mpr c46
 subst c46
 have H1 : (if 0 ≤ (rd l0_1 (ji2)) then (if (rd l0_1 (ji2)) < (l0_0.length : Int) then (if 0 ≤ (rd l0_2 (ji5)) then (if (rd l0_2 (ji5)) < (l0_0.length : Int) then (if (rd l0_0 (rd l0_1 (ji2))) > (rd l0_0 (rd l0_2 (ji5))) then (if (rd l0_1 (ji2)) < (y131.length : Int) then ((spec_l16After.f kj10 l0_2 (rd l0_1 (ji2))).bind fun t154 => (some ((y131.set ((rd l0_1 (ji2)) : Int).toNat (wrap64 ((rd l0_0 (rd l0_1 (ji2))) - (rd l0_0 (rd l0_2 (ji5)))))), y137, t154, true))) else (none)) else (if (rd l0_2 (ji5)) < (y131.length : Int) then ((spec_l16After.f kj10 l0_1 (rd l0_2 (ji5))).bind fun t160 => (some ((y131.set ((rd l0_2 (ji5)) : Int).toNat (wrap64 ((rd l0_0 (rd l0_2 (ji5))) - (rd l0_0 (rd l0_1 (ji2)))))), t160, y143, true))) else (none))) else (none)) else (none)) else (none)) else (none)) = some (r1, r2, r3, r4) := by rw [if_neg (show ¬ (false = true) by decide)] at H; exact H
 clear H
 have H := H1
 clear H1
 by_cases c50 : 0 ≤ (rd l0_1 (ji2))
 {
 rw [if_pos c50] at H
 have c50b0 : decide (0 ≤ (rd l0_1 (ji2))) = true := decide_eq_true c50
 clear c50
 by_cases c51 : (rd l0_1 (ji2)) < (l0_0.length : Int)
 {
 rw [if_pos c51] at H
 have c51b0 : decide ((rd l0_1 (ji2)) < (l0_0.length : Int)) = true := decide_eq_true c51
 clear c51
 by_cases c52 : 0 ≤ (rd l0_2 (ji5))
 {
 rw [if_pos c52] at H
 have c52b0 : decide (0 ≤ (rd l0_2 (ji5))) = true := decide_eq_true c52
 clear c52
 by_cases c53 : (rd l0_2 (ji5)) < (l0_0.length : Int)
 {
 rw [if_pos c53] at H
 have c53b0 : decide ((rd l0_2 (ji5)) < (l0_0.length : Int)) = true := decide_eq_true c53
 clear c53
 by_cases c54 : (rd l0_0 (rd l0_1 (ji2))) > (rd l0_0 (rd l0_2 (ji5)))
 {
 rw [if_pos c54] at H
 have c54b0 : decide ((rd l0_0 (rd l0_2 (ji5))) < (rd l0_0 (rd l0_1 (ji2)))) = true := decide_eq_true c54
 clear c54
 by_cases c55 : (rd l0_1 (ji2)) < (y131.length : Int)
 {
 rw [if_pos c55] at H
 have c55b0 : decide ((rd l0_1 (ji2)) < (y131.length : Int)) = true := decide_eq_true c55
 clear c55
 obtain ⟨y153, hy153⟩ : ∃ y_ : List Int, y_ = (y131.set ((rd l0_1 (ji2)) : Int).toNat (wrap64 ((rd l0_0 (rd l0_1 (ji2))) - (rd l0_0 (rd l0_2 (ji5)))))) := ⟨_, rfl⟩
 replace H : ((spec_l16After.f kj10 l0_2 (rd l0_1 (ji2))).bind fun t154 => (some (y153, y137, t154, true))) = some (r1, r2, r3, r4) := by first | (rw [hy153]; with_reducible exact H) | (have H2_ := (Option.bind_some _ _).symm.trans H; rw [hy153]; with_reducible exact H2_) | (have H2_ := (Option.bind_some _ _).symm.trans H; with_reducible exact H2_) | with_reducible exact H | (rw [hy153]; exact H) | exact H
 have Ny153 := Aside0.mk hy153
 clear hy153
 replace H := Option.bind_eq_some_iff.mp H
 obtain ⟨t154, A570, H⟩ := H
 replace H : (some (y153, y137, t154, true)) = some (r1, r2, r3, r4) := H
 have A57 := Aside0.mk A570
 clear A570
 simp only [Option.some.injEq, Prod.mk.injEq] at H
 obtain ⟨rfl, rfl, rfl, rfl⟩ := H
 try go_wp2
 have n0_ := Aside0.mk (Kd.R_drew HO_147000.out)
 have n1_ := Aside0.mk (Kd.R_drew HO_147001.out)
 have n2_ := Aside0.mk (Kd.R_drew HO_147002.out)
 have n3_ := Aside0.mk (blk_drew BK124.out)
 have n4_ := Aside0.mk (blk_drew BK125.out)
 have n5_ := Aside0.mk (blk_drew BK146.out)
 have n6_ := Aside0.mk (below_drew1 HB.out)
 clear HO_147000 HO_147001 HO_147002 BK124 BK125 BK146 HB
 have HO_147000 := n0_
 have HO_147001 := n1_
 have HO_147002 := n2_
 have BK124 := n3_
 have BK125 := n4_
 have BK146 := n5_
 have HB := n6_
 clear n0_ n1_ n2_ n3_ n4_ n5_ n6_
 have p149 : 0 ≤ ((rd l0_1 (ji2)) : Int) := dX
 have q149 : (rd l0_1 (ji2)) < (l0_0.length : Int) := dX
 obtain ⟨ad149, e149, hx149_0⟩ := Kd.at_int HR0_0.out (rd l0_1 (ji2)) p149 q149
 have hw149_0 := hx149_0
 cases e149
 replace hx149_0 := (HB.out.cell (World.block_lt_of_cell? w _ hx149_0)).trans hx149_0
 replace p149 := eq_true p149
 replace q149 := eq_true q149
 have p150 : 0 ≤ ((rd l0_2 (ji5)) : Int) := dX
 have q150 : (rd l0_2 (ji5)) < (l0_0.length : Int) := dX
 obtain ⟨ad150, e150, hx150_0⟩ := Kd.at_int HR0_0.out (rd l0_2 (ji5)) p150 q150
 have hw150_0 := hx150_0
 obtain rfl : ad149 = ad150 := (by injection e150)
 replace hx150_0 := (HB.out.cell (World.block_lt_of_cell? w _ hx150_0)).trans hx150_0
 replace p150 := eq_true p150
 replace q150 := eq_true q150
 refine start_ (n := 12) (S := fun w' => w'.cell? ⟨gb124, 0, none⟩ = some (.slice (some ad149) l0_0.length c0_0) ∧ w'.cell? ⟨gb124, 1, none⟩ = some (.slice (some ad126) l0_1.length c0_1) ∧ w'.cell? ⟨gb124, 2, none⟩ = some (.slice (some ad127) l0_2.length c0_2) ∧ w'.cell? (ad149.add ((rd l0_1 (ji2))).toNat) = some (.int .i64 (rd l0_0 (rd l0_1 (ji2)))) ∧ w'.cell? (ad149.add ((rd l0_2 (ji5))).toNat) = some (.int .i64 (rd l0_0 (rd l0_2 (ji5))))) (ds := []) #[ff,ff,ff,ff,ff,ff,ff,ff,ff,ff,ff,ff] (by kernel_rfl) rfl rfl ⟨cz30 BK124.out, cz31 BK124.out, cz32 BK124.out, ((HB.out.cell (World.block_lt_of_cell? w _ hw149_0)).trans hw149_0), ((HB.out.cell (World.block_lt_of_cell? w _ hw150_0)).trans hw150_0)⟩ (fun hHeld => ?_); refine with_tabW spec_l16Once.tab8 spec_l16Once.bits8 (fun HT_ HW_ => ?_)
 generalize wc.drew = w58 at HO_147000 HO_147001 HO_147002 BK124 BK125 BK146 HB hx149_0 hx150_0 hHeld ⊢
 refine pX 0 75 (fl 12 1) rfl rfl HT_.out ?_
 refine pX 2 77 (fl 12 5) rfl rfl HT_.out ?_
 refine pX 5 80 (fl 12 37) rfl rfl HT_.out ?_
 refine pX 7 82 (fl 12 165) rfl rfl HT_.out ?_
 refine tX5 1 76 (fl 12 167) rfl rfl HT_.out HW_.out hHeld ?_
 refine pX 3 78 (fl 12 175) rfl rfl HT_.out ?_
 refine tX5 4 79 (fl 12 191) rfl rfl HT_.out HW_.out hHeld ?_
 refine tX5 6 81 (fl 12 255) rfl rfl HT_.out HW_.out hHeld ?_
 refine pX 8 83 (fl 12 511) rfl rfl HT_.out ?_
 refine tX5 9 84 (fl 12 1023) rfl rfl HT_.out HW_.out hHeld ?_
 refine pX 10 85 (fl 12 2047) rfl rfl HT_.out ?_
 refine pX 11 74 (fl 12 4095) rfl rfl HT_.out ?_
 refine done_ (done_of HT_.out (by kernel_rfl)) ?_
 try go_wp2
 have n0_ := Aside0.mk (Kd.R_drew HO_147000.out)
 have n1_ := Aside0.mk (Kd.R_drew HO_147001.out)
 have n2_ := Aside0.mk (Kd.R_drew HO_147002.out)
 have n3_ := Aside0.mk (blk_drew BK124.out)
 have n4_ := Aside0.mk (blk_drew BK125.out)
 have n5_ := Aside0.mk (blk_drew BK146.out)
 have n6_ := Aside0.mk (below_drew1 HB.out)
 clear HO_147000 HO_147001 HO_147002 BK124 BK125 BK146 HB
 have HO_147000 := n0_
 have HO_147001 := n1_
 have HO_147002 := n2_
 have BK124 := n3_
 have BK125 := n4_
 have BK146 := n5_
 have HB := n6_
 clear n0_ n1_ n2_ n3_ n4_ n5_ n6_
 have p151 : 0 ≤ ((rd l0_1 (ji2)) : Int) := dX
 have q151 : (rd l0_1 (ji2)) < (l0_0.length : Int) := dX
 obtain ⟨ad151, e151, hx151_0⟩ := Kd.at_int HR0_0.out (rd l0_1 (ji2)) p151 q151
 have hw151_0 := hx151_0
 obtain rfl : ad149 = ad151 := (by injection e151)
 replace hx151_0 := (HB.out.cell (World.block_lt_of_cell? w _ hx151_0)).trans hx151_0
 replace p151 := eq_true p151
 replace q151 := eq_true q151
 have p152 : 0 ≤ ((rd l0_2 (ji5)) : Int) := dX
 have q152 : (rd l0_2 (ji5)) < (l0_0.length : Int) := dX
 obtain ⟨ad152, e152, hx152_0⟩ := Kd.at_int HR0_0.out (rd l0_2 (ji5)) p152 q152
 have hw152_0 := hx152_0
 obtain rfl : ad149 = ad152 := (by injection e152)
 replace hx152_0 := (HB.out.cell (World.block_lt_of_cell? w _ hx152_0)).trans hx152_0
 replace p152 := eq_true p152
 replace q152 := eq_true q152
 have p56 : 0 ≤ ((rd l0_1 (ji2)) : Int) := dX
 have q56 : ((rd l0_1 (ji2)) : Int) < ((y131.length : Int) : Int) := dX
 obtain ⟨go56, co56, eo56, gb56, gl56, cl56, HG56⟩ := Kd.R_form HO_147000.out (by omega)
 (first | cases eo56 | (injection eo56 with ea_ en_ ec_; (first | subst ea_ | (injection ea_ with ea_; subst ea_)); subst ec_; clear en_))
 have GB56 := Aside0.mk gb56
 have GG56 := Aside0.mk HG56
 clear gb56 gl56 HG56
 obtain ⟨hx56_0, hf56_0⟩ := Kd.R_celln 0 HO_147000.out ((rd l0_1 (ji2)) : Int) p56 q56
 replace p56 := eq_true p56
 replace q56 := eq_true q56
 have HP60 := Kd.R_putn HO_147000.out ((rd l0_1 (ji2)) : Int) (wrap64 ((rd l0_0 (rd l0_1 (ji2))) - (rd l0_0 (rd l0_2 (ji5)))))
 rw [← Ny153.out] at HP60
 have HQ60 := Aside0.mk HP60
 clear HP60
 refine start_ (n := 16) (S := fun w' => w'.cell? ⟨gb146, 0, none⟩ = some (.slice (some ⟨go56, 0, none⟩) y131.length co33) ∧ w'.cell? ⟨gb146, 1, none⟩ = some (.slice Ao32 y137.length co32) ∧ w'.cell? ⟨gb146, 2, none⟩ = some (.slice Ao31 y143.length co31) ∧ w'.cell? ⟨gb124, 0, none⟩ = some (.slice (some ad149) l0_0.length c0_0) ∧ w'.cell? ⟨gb124, 1, none⟩ = some (.slice (some ad126) l0_1.length c0_1) ∧ w'.cell? ⟨gb124, 2, none⟩ = some (.slice (some ad127) l0_2.length c0_2) ∧ w'.cell? (ad149.add ((rd l0_1 (ji2))).toNat) = some (.int .i64 (rd l0_0 (rd l0_1 (ji2)))) ∧ w'.cell? (ad149.add ((rd l0_2 (ji5))).toNat) = some (.int .i64 (rd l0_0 (rd l0_2 (ji5))))) (ds := [15]) #[ff,ff,ff,ff,ff,ff,ff,ff,ff,ff,ff,ff,ff,ff,ff,ff] (by kernel_rfl) rfl rfl ⟨cz30 BK146.out, cz31 BK146.out, cz32 BK146.out, cz30 BK124.out, cz31 BK124.out, cz32 BK124.out, ((HB.out.cell (World.block_lt_of_cell? w _ hw151_0)).trans hw151_0), ((HB.out.cell (World.block_lt_of_cell? w _ hw152_0)).trans hw152_0)⟩ (fun hHeld => ?_); refine with_tabW spec_l16Once.tab9 spec_l16Once.bits9 (fun HT_ HW_ => ?_)
 generalize w58.drew = w59 at HO_147000 HO_147001 HO_147002 BK124 BK125 BK146 HB GG56 HQ60 hf56_0 hx151_0 hx152_0 hx56_0 hHeld ⊢
 refine pX 0 86 (fl 16 1) rfl rfl HT_.out ?_
 refine pX 2 88 (fl 16 5) rfl rfl HT_.out ?_
 refine pX 3 89 (fl 16 13) rfl rfl HT_.out ?_
 refine pX 5 91 (fl 16 45) rfl rfl HT_.out ?_
 refine pX 8 94 (fl 16 301) rfl rfl HT_.out ?_
 refine pX 10 96 (fl 16 1325) rfl rfl HT_.out ?_
 refine tX8 1 87 (fl 16 1327) rfl rfl HT_.out HW_.out hHeld ?_
 refine tX8 4 90 (fl 16 1343) rfl rfl HT_.out HW_.out hHeld ?_
 refine pX 6 92 (fl 16 1407) rfl rfl HT_.out ?_
 refine tX8 7 93 (fl 16 1535) rfl rfl HT_.out HW_.out hHeld ?_
 refine tX8 9 95 (fl 16 2047) rfl rfl HT_.out HW_.out hHeld ?_
 refine pX 11 97 (fl 16 4095) rfl rfl HT_.out ?_
 refine tX8 12 98 (fl 16 8191) rfl rfl HT_.out HW_.out hHeld ?_
 refine pX 13 99 (fl 16 16383) rfl rfl HT_.out ?_
 refine pX 14 100 (fl 16 32767) rfl rfl HT_.out ?_
 refine last_ (i := 15) (N := none) #[tt,tt,tt,tt,tt,tt,tt,tt,tt,tt,tt,tt,tt,tt,tt,tt] rfl rfl (one_of HT_.out (by kernel_rfl)) (by decide) (fun K hK => ?_)
 refine skip_ (w1 := ?_) (by rfl) rfl ?_ ?_
 rotate_left
 {
 go_simp
 rfl
 }
 refine hK.out _ _ ?_
 clear hK K
 refine done_ (done_of HT_.out (by kernel_rfl)) ?_
 have n0_ : Aside0 (Kd.R (Kd.int .i64) 3 (w59.setCell ⟨go56, ((rd l0_1 (ji2)) : Int).toNat, none⟩ (.int .i64 (wrap64 ((rd l0_0 (rd l0_1 (ji2))) - (rd l0_0 (rd l0_2 (ji5))))))) w.heap.size (fun k_ => some k_ ≠ (.slice Ao32 y137.length co32 : Value).ownBlock ∧ some k_ ≠ (.slice Ao31 y143.length co31 : Value).ownBlock) (.slice (some ⟨go56, 0, none⟩) y131.length co33) y153) := ⟨rX HQ60.out⟩
 have n1_ : Aside0 (Kd.R (Kd.int .i64) 3 (w59.setCell ⟨go56, ((rd l0_1 (ji2)) : Int).toNat, none⟩ (.int .i64 (wrap64 ((rd l0_0 (rd l0_1 (ji2))) - (rd l0_0 (rd l0_2 (ji5))))))) w.heap.size (fun k_ => some k_ ≠ (.slice (some ⟨go56, 0, none⟩) y131.length co33 : Value).ownBlock ∧ some k_ ≠ (.slice Ao31 y143.length co31 : Value).ownBlock) (.slice Ao32 y137.length co32) y137) := ⟨by (with_reducible repeat (first|apply rA|apply rN|apply rD)); exact Kd.R_mono (Kd.R_far (p := ⟨go56, ((rd l0_1 (ji2)) : Int).toNat, none⟩) (Kd.R_mono HO_147001.out (fun k_ hk => (⟨hk, fun e_ => hk.1 (by rw [e_]; rfl)⟩ : _ ∧ k_ ≠ go56))) (fun _ hk => hk.2) (.int .i64 (wrap64 ((rd l0_0 (rd l0_1 (ji2))) - (rd l0_0 (rd l0_2 (ji5))))))) (fun _ hk => ⟨hk.1.1, hk.1.2⟩)⟩
 have n2_ : Aside0 (Kd.R (Kd.int .i64) 3 (w59.setCell ⟨go56, ((rd l0_1 (ji2)) : Int).toNat, none⟩ (.int .i64 (wrap64 ((rd l0_0 (rd l0_1 (ji2))) - (rd l0_0 (rd l0_2 (ji5))))))) w.heap.size (fun k_ => some k_ ≠ (.slice (some ⟨go56, 0, none⟩) y131.length co33 : Value).ownBlock ∧ some k_ ≠ (.slice Ao32 y137.length co32 : Value).ownBlock) (.slice Ao31 y143.length co31) y143) := ⟨by (with_reducible repeat (first|apply rA|apply rN|apply rD)); exact Kd.R_mono (Kd.R_far (p := ⟨go56, ((rd l0_1 (ji2)) : Int).toNat, none⟩) (Kd.R_mono HO_147002.out (fun k_ hk => (⟨hk, fun e_ => hk.1 (by rw [e_]; rfl)⟩ : _ ∧ k_ ≠ go56))) (fun _ hk => hk.2) (.int .i64 (wrap64 ((rd l0_0 (rd l0_1 (ji2))) - (rd l0_0 (rd l0_2 (ji5))))))) (fun _ hk => ⟨hk.1.1, hk.1.2⟩)⟩
 have n3_ : Aside0 ((w59.setCell ⟨go56, ((rd l0_1 (ji2)) : Int).toNat, none⟩ (.int .i64 (wrap64 ((rd l0_0 (rd l0_1 (ji2))) - (rd l0_0 (rd l0_2 (ji5))))))).heap[gb124]? = some (.cells #[.slice (some ad149) l0_0.length c0_0, .slice (some ad126) l0_1.length c0_1, .slice (some ad127) l0_2.length c0_2] 26 (0, 0))) := ⟨by (with_reducible repeat (first|refine kN ?_ _|refine kD ?_|refine kA ?_ _)); refine blk_far ?_ (by have h_ := Kd.R_ne HO_147000.out BK124.out (by decide); intro e_; exact h_ (by rw [e_]; rfl)) _; (with_reducible repeat (first|refine kN ?_ _|refine kD ?_|refine kA ?_ _)); exact BK124.out⟩
 have n4_ : Aside0 ((w59.setCell ⟨go56, ((rd l0_1 (ji2)) : Int).toNat, none⟩ (.int .i64 (wrap64 ((rd l0_0 (rd l0_1 (ji2))) - (rd l0_0 (rd l0_2 (ji5))))))).heap[gb125]? = some (.cells #[.slice none 0 0, .slice none 0 0, .slice none 0 0] 26 (0, 0))) := ⟨by (with_reducible repeat (first|refine kN ?_ _|refine kD ?_|refine kA ?_ _)); refine blk_far ?_ (by have h_ := Kd.R_ne HO_147000.out BK125.out (by decide); intro e_; exact h_ (by rw [e_]; rfl)) _; (with_reducible repeat (first|refine kN ?_ _|refine kD ?_|refine kA ?_ _)); exact BK125.out⟩
 have n5_ : Aside0 ((w59.setCell ⟨go56, ((rd l0_1 (ji2)) : Int).toNat, none⟩ (.int .i64 (wrap64 ((rd l0_0 (rd l0_1 (ji2))) - (rd l0_0 (rd l0_2 (ji5))))))).heap[gb146]? = some (.cells #[.slice (some ⟨go56, 0, none⟩) y131.length co33, .slice Ao32 y137.length co32, .slice Ao31 y143.length co31] 26 (0, 0))) := ⟨by (with_reducible repeat (first|refine kN ?_ _|refine kD ?_|refine kA ?_ _)); refine blk_far ?_ (by have h_ := Kd.R_ne HO_147000.out BK146.out (by decide); intro e_; exact h_ (by rw [e_]; rfl)) _; (with_reducible repeat (first|refine kN ?_ _|refine kD ?_|refine kA ?_ _)); exact BK146.out⟩
 have n6_ : Aside0 (Below w.heap.size w (w59.setCell ⟨go56, ((rd l0_1 (ji2)) : Int).toNat, none⟩ (.int .i64 (wrap64 ((rd l0_0 (rd l0_1 (ji2))) - (rd l0_0 (rd l0_2 (ji5)))))))) := ⟨by repeat (first | (with_reducible first | exact HB.out|apply bA|apply bN|apply bD | refine below_set ?_ GB56.out | refine below_set ?_ GE124.out | refine below_set ?_ GE125.out | refine below_set ?_ GE146.out) | exact HB.out)⟩
 (try clear HO_147000)
 (try clear HO_147001)
 (try clear HO_147002)
 (try clear BK124)
 (try clear BK125)
 (try clear BK146)
 (try clear HB)
 generalize (w59.setCell ⟨go56, ((rd l0_1 (ji2)) : Int).toNat, none⟩ (.int .i64 (wrap64 ((rd l0_0 (rd l0_1 (ji2))) - (rd l0_0 (rd l0_2 (ji5))))))) = w61 at n0_ n1_ n2_ n3_ n4_ n5_ n6_ ⊢
 have HO_147000 := n0_
 have HO_147001 := n1_
 have HO_147002 := n2_
 have BK124 := n3_
 have BK125 := n4_
 have BK146 := n5_
 have HB := n6_
 clear n0_ n1_ n2_ n3_ n4_ n5_ n6_
 have hnb62 := NB124_125.out
 have hnc62 := NB125_124.out
 have hnb63 := NB124_146.out
 have hnc63 := NB146_124.out
 have hcz64_0 := cz30 BK124.out
 have hcz64_1 := cz31 BK124.out
 have hcz64_2 := cz32 BK124.out
 have hfz64_0 := blk_frozen BK124.out 0
 have hfz64_1 := blk_frozen BK124.out 1
 have hfz64_2 := blk_frozen BK124.out 2
 try go_wp2_with (first | ((with_reducible refine gate_callee (f := 48) rfl ?_); refine goesL_ (some 104) rfl rfl Try.func48 (by kernel_rfl) rfl #[.slice (some ad127) l0_2.length c0_2, .int .i64 (rd l0_1 (ji2))] rfl (by (try simp only [List.map_toArray, List.map_cons, List.map_nil]); first | done | (simp only [hji2]; rfl) | rfl | (simp only [List.length_drop, List.length_take]; rfl)) ?_; (with_reducible refine (spec_l16After.calls kj10 _ _ l0_2 (rd l0_1 (ji2)) t154 _ ?side1 ?side2 A57.out).mono ?_); (case side1 => exact cX (Kd.C_below HR0_2.out HB.out)); (case side2 => exact HC0_2.out); rintro e w65 ⟨v155, rfl, ho0, hb⟩; refine ⟨_, rfl, ?_⟩; have n0_ := Aside0.mk (Kd.R_elder' (rX HO_147000.out) (Kd.R_base ho0) hb); have n1_ := Aside0.mk (Kd.R_elder' (rX HO_147001.out) (Kd.R_base ho0) hb); have n2_ := Aside0.mk (Kd.R_elder' (rX HO_147002.out) (Kd.R_base ho0) hb); have n3_ := Aside0.mk (Kd.R_lower (Kd.R_new' (Kd.R_new' (Kd.R_new' ho0 (Kd.R_lt (rX HO_147000.out))) (Kd.R_lt (rX HO_147001.out))) (Kd.R_lt (rX HO_147002.out))) (below_size (bX3 HB.out GE124.out GE125.out GE146.out))); have n4_ := Aside0.mk (bbX BK124.out hb); have n5_ := Aside0.mk (bbX BK125.out hb); have n6_ := Aside0.mk (bbX BK146.out hb); have n7_ := Aside0.mk (below_step (bX3 HB.out GE124.out GE125.out GE146.out) hb); clear HO_147000 HO_147001 HO_147002 BK124 BK125 BK146 HB; have HO_147000 := n0_; have HO_147001 := n1_; have HO_147002 := n2_; have HO156 := n3_; have BK124 := n4_; have BK125 := n5_; have BK146 := n6_; have HB := n7_; clear n0_ n1_ n2_ n3_ n4_ n5_ n6_ n7_; (try clear hb); (try clear hb2); (try clear hk); (try clear hi); (try clear ho0); obtain ⟨Ao66, co66, eo66⟩ := Kd.R_slice HO156.out; subst eo66; have hnb67 := NB146_125.out; have hnc67 := NB125_146.out; have hcz68_0 := cz30 BK146.out; have hcz68_1 := cz31 BK146.out; have hcz68_2 := cz32 BK146.out; have hfz68_0 := blk_frozen BK146.out 0; have hfz68_1 := blk_frozen BK146.out 1; have hfz68_2 := blk_frozen BK146.out 2; have hcz69_0 := cz30 BK125.out; have hcz69_1 := cz31 BK125.out; have hcz69_2 := cz32 BK125.out; have hfz69_0 := blk_frozen BK125.out 0; have hfz69_1 := blk_frozen BK125.out 1; have hfz69_2 := blk_frozen BK125.out 2))
 refine bodyPost_ret (results_ct rfl _ _ gb125 26 #[.slice (some ⟨go56, 0, none⟩) y131.length co33, .slice Ao32 y137.length co32, .slice Ao66 t154.length co66] (0, 0) _ rfl (by (with_reducible repeat (first|refine kN ?_ _|refine kD ?_|refine kA ?_ _)); refine blk_put (cs := #[.slice (some ⟨go56, 0, none⟩) y131.length co33, .slice Ao32 y137.length co32, .slice none 0 0]) ?_ 2 _ rfl; (with_reducible repeat (first|refine kN ?_ _|refine kD ?_|refine kA ?_ _)); refine blk_put (cs := #[.slice (some ⟨go56, 0, none⟩) y131.length co33, .slice none 0 0, .slice none 0 0]) ?_ 1 _ rfl; (with_reducible repeat (first|refine kN ?_ _|refine kD ?_|refine kA ?_ _)); refine blk_put (cs := #[.slice none 0 0, .slice none 0 0, .slice none 0 0]) ?_ 0 _ rfl; (with_reducible repeat (first|refine kN ?_ _|refine kD ?_|refine kA ?_ _)); refine blk_far ?_ NB125_146.out _; (with_reducible repeat (first|refine kN ?_ _|refine kD ?_|refine kA ?_ _)); exact BK125.out) Try.underlying26 rfl (by kernel_rfl)) rfl ?_
 exact ⟨_, _, _, by first | rfl | (simp [errW_none, errW_some] <;> rfl) | (simp only [← hji2, ← hji5]; first | rfl | (simp [errW_none, errW_some] <;> rfl)) | (simp [*, errW_none, errW_some] <;> rfl), by (with_reducible repeat (first|apply rA|apply rN|apply rD)); exact Kd.R_mono (Kd.R_far (p := ⟨gb125, 2, none⟩) (Kd.R_far (p := ⟨gb125, 1, none⟩) (Kd.R_far (p := ⟨gb125, 0, none⟩) (Kd.R_far (p := ⟨gb146, 2, none⟩) (Kd.R_types (Kd.R_types HO_147000.out BK146.out (by decide)) BK125.out (by decide)) (fun _ hk => hk.1.2) (.slice Ao66 t154.length co66)) (fun _ hk => hk.2) (.slice (some ⟨go56, 0, none⟩) y131.length co33)) (fun _ hk => hk.2) (.slice Ao32 y137.length co32)) (fun _ hk => hk.2) (.slice Ao66 t154.length co66)) (fun _ hk => ⟨hk.1.1.1.1, hk.1.1.2⟩), by (with_reducible repeat (first|apply rA|apply rN|apply rD)); exact Kd.R_mono (Kd.R_far (p := ⟨gb125, 2, none⟩) (Kd.R_far (p := ⟨gb125, 1, none⟩) (Kd.R_far (p := ⟨gb125, 0, none⟩) (Kd.R_far (p := ⟨gb146, 2, none⟩) (Kd.R_types (Kd.R_types HO_147001.out BK146.out (by decide)) BK125.out (by decide)) (fun _ hk => hk.1.2) (.slice Ao66 t154.length co66)) (fun _ hk => hk.2) (.slice (some ⟨go56, 0, none⟩) y131.length co33)) (fun _ hk => hk.2) (.slice Ao32 y137.length co32)) (fun _ hk => hk.2) (.slice Ao66 t154.length co66)) (fun _ hk => ⟨hk.1.1.1.1, hk.1.1.2⟩), by (with_reducible repeat (first|apply rA|apply rN|apply rD)); exact Kd.R_mono (Kd.R_far (p := ⟨gb125, 2, none⟩) (Kd.R_far (p := ⟨gb125, 1, none⟩) (Kd.R_far (p := ⟨gb125, 0, none⟩) (Kd.R_far (p := ⟨gb146, 2, none⟩) (Kd.R_types (Kd.R_types HO156.out BK146.out (by decide)) BK125.out (by decide)) (fun _ hk => hk.1.2) (.slice Ao66 t154.length co66)) (fun _ hk => hk.2) (.slice (some ⟨go56, 0, none⟩) y131.length co33)) (fun _ hk => hk.2) (.slice Ao32 y137.length co32)) (fun _ hk => hk.2) (.slice Ao66 t154.length co66)) (fun _ hk => ⟨hk.1.1.1.1.2, hk.1.1.1.2⟩), bX3 HB.out GE124.out GE125.out GE146.out⟩
 }
 {
 rw [if_neg c55] at H
 exact absurd H (by simp)
 }
 }
 {
 rw [if_neg c54] at H
 have c54b0 : decide ((rd l0_0 (rd l0_2 (ji5))) < (rd l0_0 (rd l0_1 (ji2)))) = false := decide_eq_false c54
 clear c54
 by_cases c70 : (rd l0_2 (ji5)) < (y131.length : Int)
 {
 rw [if_pos c70] at H
 have c70b0 : decide ((rd l0_2 (ji5)) < (y131.length : Int)) = true := decide_eq_true c70
 clear c70
 obtain ⟨y159, hy159⟩ : ∃ y_ : List Int, y_ = (y131.set ((rd l0_2 (ji5)) : Int).toNat (wrap64 ((rd l0_0 (rd l0_2 (ji5))) - (rd l0_0 (rd l0_1 (ji2)))))) := ⟨_, rfl⟩
 replace H : ((spec_l16After.f kj10 l0_1 (rd l0_2 (ji5))).bind fun t160 => (some (y159, t160, y143, true))) = some (r1, r2, r3, r4) := by first | (rw [hy159]; with_reducible exact H) | (have H2_ := (Option.bind_some _ _).symm.trans H; rw [hy159]; with_reducible exact H2_) | (have H2_ := (Option.bind_some _ _).symm.trans H; with_reducible exact H2_) | with_reducible exact H | (rw [hy159]; exact H) | exact H
 have Ny159 := Aside0.mk hy159
 clear hy159
 replace H := Option.bind_eq_some_iff.mp H
 obtain ⟨t160, A720, H⟩ := H
 replace H : (some (y159, t160, y143, true)) = some (r1, r2, r3, r4) := H
 have A72 := Aside0.mk A720
 clear A720
 simp only [Option.some.injEq, Prod.mk.injEq] at H
 obtain ⟨rfl, rfl, rfl, rfl⟩ := H
 try go_wp2
 have n0_ := Aside0.mk (Kd.R_drew HO_147000.out)
 have n1_ := Aside0.mk (Kd.R_drew HO_147001.out)
 have n2_ := Aside0.mk (Kd.R_drew HO_147002.out)
 have n3_ := Aside0.mk (blk_drew BK124.out)
 have n4_ := Aside0.mk (blk_drew BK125.out)
 have n5_ := Aside0.mk (blk_drew BK146.out)
 have n6_ := Aside0.mk (below_drew1 HB.out)
 clear HO_147000 HO_147001 HO_147002 BK124 BK125 BK146 HB
 have HO_147000 := n0_
 have HO_147001 := n1_
 have HO_147002 := n2_
 have BK124 := n3_
 have BK125 := n4_
 have BK146 := n5_
 have HB := n6_
 clear n0_ n1_ n2_ n3_ n4_ n5_ n6_
 have p149 : 0 ≤ ((rd l0_1 (ji2)) : Int) := dX
 have q149 : (rd l0_1 (ji2)) < (l0_0.length : Int) := dX
 obtain ⟨ad149, e149, hx149_0⟩ := Kd.at_int HR0_0.out (rd l0_1 (ji2)) p149 q149
 have hw149_0 := hx149_0
 cases e149
 replace hx149_0 := (HB.out.cell (World.block_lt_of_cell? w _ hx149_0)).trans hx149_0
 replace p149 := eq_true p149
 replace q149 := eq_true q149
 have p150 : 0 ≤ ((rd l0_2 (ji5)) : Int) := dX
 have q150 : (rd l0_2 (ji5)) < (l0_0.length : Int) := dX
 obtain ⟨ad150, e150, hx150_0⟩ := Kd.at_int HR0_0.out (rd l0_2 (ji5)) p150 q150
 have hw150_0 := hx150_0
 obtain rfl : ad149 = ad150 := (by injection e150)
 replace hx150_0 := (HB.out.cell (World.block_lt_of_cell? w _ hx150_0)).trans hx150_0
 replace p150 := eq_true p150
 replace q150 := eq_true q150
 refine start_ (n := 12) (S := fun w' => w'.cell? ⟨gb124, 0, none⟩ = some (.slice (some ad149) l0_0.length c0_0) ∧ w'.cell? ⟨gb124, 1, none⟩ = some (.slice (some ad126) l0_1.length c0_1) ∧ w'.cell? ⟨gb124, 2, none⟩ = some (.slice (some ad127) l0_2.length c0_2) ∧ w'.cell? (ad149.add ((rd l0_1 (ji2))).toNat) = some (.int .i64 (rd l0_0 (rd l0_1 (ji2)))) ∧ w'.cell? (ad149.add ((rd l0_2 (ji5))).toNat) = some (.int .i64 (rd l0_0 (rd l0_2 (ji5))))) (ds := []) #[ff,ff,ff,ff,ff,ff,ff,ff,ff,ff,ff,ff] (by kernel_rfl) rfl rfl ⟨cz30 BK124.out, cz31 BK124.out, cz32 BK124.out, ((HB.out.cell (World.block_lt_of_cell? w _ hw149_0)).trans hw149_0), ((HB.out.cell (World.block_lt_of_cell? w _ hw150_0)).trans hw150_0)⟩ (fun hHeld => ?_); refine with_tabW spec_l16Once.tab8 spec_l16Once.bits8 (fun HT_ HW_ => ?_)
 generalize wc.drew = w73 at HO_147000 HO_147001 HO_147002 BK124 BK125 BK146 HB hx149_0 hx150_0 hHeld ⊢
 refine pX 0 75 (fl 12 1) rfl rfl HT_.out ?_
 refine pX 2 77 (fl 12 5) rfl rfl HT_.out ?_
 refine pX 5 80 (fl 12 37) rfl rfl HT_.out ?_
 refine pX 7 82 (fl 12 165) rfl rfl HT_.out ?_
 refine tX5 1 76 (fl 12 167) rfl rfl HT_.out HW_.out hHeld ?_
 refine pX 3 78 (fl 12 175) rfl rfl HT_.out ?_
 refine tX5 4 79 (fl 12 191) rfl rfl HT_.out HW_.out hHeld ?_
 refine tX5 6 81 (fl 12 255) rfl rfl HT_.out HW_.out hHeld ?_
 refine pX 8 83 (fl 12 511) rfl rfl HT_.out ?_
 refine tX5 9 84 (fl 12 1023) rfl rfl HT_.out HW_.out hHeld ?_
 refine pX 10 85 (fl 12 2047) rfl rfl HT_.out ?_
 refine pX 11 74 (fl 12 4095) rfl rfl HT_.out ?_
 refine done_ (done_of HT_.out (by kernel_rfl)) ?_
 try go_wp2
 have n0_ := Aside0.mk (Kd.R_drew HO_147000.out)
 have n1_ := Aside0.mk (Kd.R_drew HO_147001.out)
 have n2_ := Aside0.mk (Kd.R_drew HO_147002.out)
 have n3_ := Aside0.mk (blk_drew BK124.out)
 have n4_ := Aside0.mk (blk_drew BK125.out)
 have n5_ := Aside0.mk (blk_drew BK146.out)
 have n6_ := Aside0.mk (below_drew1 HB.out)
 clear HO_147000 HO_147001 HO_147002 BK124 BK125 BK146 HB
 have HO_147000 := n0_
 have HO_147001 := n1_
 have HO_147002 := n2_
 have BK124 := n3_
 have BK125 := n4_
 have BK146 := n5_
 have HB := n6_
 clear n0_ n1_ n2_ n3_ n4_ n5_ n6_
 have p157 : 0 ≤ ((rd l0_2 (ji5)) : Int) := dX
 have q157 : (rd l0_2 (ji5)) < (l0_0.length : Int) := dX
 obtain ⟨ad157, e157, hx157_0⟩ := Kd.at_int HR0_0.out (rd l0_2 (ji5)) p157 q157
 have hw157_0 := hx157_0
 obtain rfl : ad149 = ad157 := (by injection e157)
 replace hx157_0 := (HB.out.cell (World.block_lt_of_cell? w _ hx157_0)).trans hx157_0
 replace p157 := eq_true p157
 replace q157 := eq_true q157
 have p158 : 0 ≤ ((rd l0_1 (ji2)) : Int) := dX
 have q158 : (rd l0_1 (ji2)) < (l0_0.length : Int) := dX
 obtain ⟨ad158, e158, hx158_0⟩ := Kd.at_int HR0_0.out (rd l0_1 (ji2)) p158 q158
 have hw158_0 := hx158_0
 obtain rfl : ad149 = ad158 := (by injection e158)
 replace hx158_0 := (HB.out.cell (World.block_lt_of_cell? w _ hx158_0)).trans hx158_0
 replace p158 := eq_true p158
 replace q158 := eq_true q158
 have p71 : 0 ≤ ((rd l0_2 (ji5)) : Int) := dX
 have q71 : ((rd l0_2 (ji5)) : Int) < ((y131.length : Int) : Int) := dX
 obtain ⟨go71, co71, eo71, gb71, gl71, cl71, HG71⟩ := Kd.R_form HO_147000.out (by omega)
 (first | cases eo71 | (injection eo71 with ea_ en_ ec_; (first | subst ea_ | (injection ea_ with ea_; subst ea_)); subst ec_; clear en_))
 have GB71 := Aside0.mk gb71
 have GG71 := Aside0.mk HG71
 clear gb71 gl71 HG71
 obtain ⟨hx71_0, hf71_0⟩ := Kd.R_celln 0 HO_147000.out ((rd l0_2 (ji5)) : Int) p71 q71
 replace p71 := eq_true p71
 replace q71 := eq_true q71
 have HP75 := Kd.R_putn HO_147000.out ((rd l0_2 (ji5)) : Int) (wrap64 ((rd l0_0 (rd l0_2 (ji5))) - (rd l0_0 (rd l0_1 (ji2)))))
 rw [← Ny159.out] at HP75
 have HQ75 := Aside0.mk HP75
 clear HP75
 refine start_ (n := 16) (S := fun w' => w'.cell? ⟨gb146, 0, none⟩ = some (.slice (some ⟨go71, 0, none⟩) y131.length co33) ∧ w'.cell? ⟨gb146, 1, none⟩ = some (.slice Ao32 y137.length co32) ∧ w'.cell? ⟨gb146, 2, none⟩ = some (.slice Ao31 y143.length co31) ∧ w'.cell? ⟨gb124, 0, none⟩ = some (.slice (some ad149) l0_0.length c0_0) ∧ w'.cell? ⟨gb124, 1, none⟩ = some (.slice (some ad126) l0_1.length c0_1) ∧ w'.cell? ⟨gb124, 2, none⟩ = some (.slice (some ad127) l0_2.length c0_2) ∧ w'.cell? (ad149.add ((rd l0_2 (ji5))).toNat) = some (.int .i64 (rd l0_0 (rd l0_2 (ji5)))) ∧ w'.cell? (ad149.add ((rd l0_1 (ji2))).toNat) = some (.int .i64 (rd l0_0 (rd l0_1 (ji2))))) (ds := [15]) #[ff,ff,ff,ff,ff,ff,ff,ff,ff,ff,ff,ff,ff,ff,ff,ff] (by kernel_rfl) rfl rfl ⟨cz30 BK146.out, cz31 BK146.out, cz32 BK146.out, cz30 BK124.out, cz31 BK124.out, cz32 BK124.out, ((HB.out.cell (World.block_lt_of_cell? w _ hw157_0)).trans hw157_0), ((HB.out.cell (World.block_lt_of_cell? w _ hw158_0)).trans hw158_0)⟩ (fun hHeld => ?_); refine with_tabW spec_l16Once.tab4 spec_l16Once.bits4 (fun HT_ HW_ => ?_)
 generalize w73.drew = w74 at HO_147000 HO_147001 HO_147002 BK124 BK125 BK146 HB GG71 HQ75 hf71_0 hx157_0 hx158_0 hx71_0 hHeld ⊢
 refine pX 0 36 (fl 16 1) rfl rfl HT_.out ?_
 refine pX 2 38 (fl 16 5) rfl rfl HT_.out ?_
 refine pX 3 39 (fl 16 13) rfl rfl HT_.out ?_
 refine pX 5 41 (fl 16 45) rfl rfl HT_.out ?_
 refine pX 8 44 (fl 16 301) rfl rfl HT_.out ?_
 refine pX 10 46 (fl 16 1325) rfl rfl HT_.out ?_
 refine tX8 1 37 (fl 16 1327) rfl rfl HT_.out HW_.out hHeld ?_
 refine tX8 4 40 (fl 16 1343) rfl rfl HT_.out HW_.out hHeld ?_
 refine pX 6 42 (fl 16 1407) rfl rfl HT_.out ?_
 refine tX8 7 43 (fl 16 1535) rfl rfl HT_.out HW_.out hHeld ?_
 refine tX8 9 45 (fl 16 2047) rfl rfl HT_.out HW_.out hHeld ?_
 refine pX 11 47 (fl 16 4095) rfl rfl HT_.out ?_
 refine tX8 12 48 (fl 16 8191) rfl rfl HT_.out HW_.out hHeld ?_
 refine pX 13 49 (fl 16 16383) rfl rfl HT_.out ?_
 refine pX 14 50 (fl 16 32767) rfl rfl HT_.out ?_
 refine last_ (i := 15) (N := none) #[tt,tt,tt,tt,tt,tt,tt,tt,tt,tt,tt,tt,tt,tt,tt,tt] rfl rfl (one_of HT_.out (by kernel_rfl)) (by decide) (fun K hK => ?_)
 refine skip_ (w1 := ?_) (by rfl) rfl ?_ ?_
 rotate_left
 {
 go_simp
 rfl
 }
 refine hK.out _ _ ?_
 clear hK K
 refine done_ (done_of HT_.out (by kernel_rfl)) ?_
 have n0_ : Aside0 (Kd.R (Kd.int .i64) 3 (w74.setCell ⟨go71, ((rd l0_2 (ji5)) : Int).toNat, none⟩ (.int .i64 (wrap64 ((rd l0_0 (rd l0_2 (ji5))) - (rd l0_0 (rd l0_1 (ji2))))))) w.heap.size (fun k_ => some k_ ≠ (.slice Ao32 y137.length co32 : Value).ownBlock ∧ some k_ ≠ (.slice Ao31 y143.length co31 : Value).ownBlock) (.slice (some ⟨go71, 0, none⟩) y131.length co33) y159) := ⟨rX HQ75.out⟩
 have n1_ : Aside0 (Kd.R (Kd.int .i64) 3 (w74.setCell ⟨go71, ((rd l0_2 (ji5)) : Int).toNat, none⟩ (.int .i64 (wrap64 ((rd l0_0 (rd l0_2 (ji5))) - (rd l0_0 (rd l0_1 (ji2))))))) w.heap.size (fun k_ => some k_ ≠ (.slice (some ⟨go71, 0, none⟩) y131.length co33 : Value).ownBlock ∧ some k_ ≠ (.slice Ao31 y143.length co31 : Value).ownBlock) (.slice Ao32 y137.length co32) y137) := ⟨by (with_reducible repeat (first|apply rA|apply rN|apply rD)); exact Kd.R_mono (Kd.R_far (p := ⟨go71, ((rd l0_2 (ji5)) : Int).toNat, none⟩) (Kd.R_mono HO_147001.out (fun k_ hk => (⟨hk, fun e_ => hk.1 (by rw [e_]; rfl)⟩ : _ ∧ k_ ≠ go71))) (fun _ hk => hk.2) (.int .i64 (wrap64 ((rd l0_0 (rd l0_2 (ji5))) - (rd l0_0 (rd l0_1 (ji2))))))) (fun _ hk => ⟨hk.1.1, hk.1.2⟩)⟩
 have n2_ : Aside0 (Kd.R (Kd.int .i64) 3 (w74.setCell ⟨go71, ((rd l0_2 (ji5)) : Int).toNat, none⟩ (.int .i64 (wrap64 ((rd l0_0 (rd l0_2 (ji5))) - (rd l0_0 (rd l0_1 (ji2))))))) w.heap.size (fun k_ => some k_ ≠ (.slice (some ⟨go71, 0, none⟩) y131.length co33 : Value).ownBlock ∧ some k_ ≠ (.slice Ao32 y137.length co32 : Value).ownBlock) (.slice Ao31 y143.length co31) y143) := ⟨by (with_reducible repeat (first|apply rA|apply rN|apply rD)); exact Kd.R_mono (Kd.R_far (p := ⟨go71, ((rd l0_2 (ji5)) : Int).toNat, none⟩) (Kd.R_mono HO_147002.out (fun k_ hk => (⟨hk, fun e_ => hk.1 (by rw [e_]; rfl)⟩ : _ ∧ k_ ≠ go71))) (fun _ hk => hk.2) (.int .i64 (wrap64 ((rd l0_0 (rd l0_2 (ji5))) - (rd l0_0 (rd l0_1 (ji2))))))) (fun _ hk => ⟨hk.1.1, hk.1.2⟩)⟩
 have n3_ : Aside0 ((w74.setCell ⟨go71, ((rd l0_2 (ji5)) : Int).toNat, none⟩ (.int .i64 (wrap64 ((rd l0_0 (rd l0_2 (ji5))) - (rd l0_0 (rd l0_1 (ji2))))))).heap[gb124]? = some (.cells #[.slice (some ad149) l0_0.length c0_0, .slice (some ad126) l0_1.length c0_1, .slice (some ad127) l0_2.length c0_2] 26 (0, 0))) := ⟨by (with_reducible repeat (first|refine kN ?_ _|refine kD ?_|refine kA ?_ _)); refine blk_far ?_ (by have h_ := Kd.R_ne HO_147000.out BK124.out (by decide); intro e_; exact h_ (by rw [e_]; rfl)) _; (with_reducible repeat (first|refine kN ?_ _|refine kD ?_|refine kA ?_ _)); exact BK124.out⟩
 have n4_ : Aside0 ((w74.setCell ⟨go71, ((rd l0_2 (ji5)) : Int).toNat, none⟩ (.int .i64 (wrap64 ((rd l0_0 (rd l0_2 (ji5))) - (rd l0_0 (rd l0_1 (ji2))))))).heap[gb125]? = some (.cells #[.slice none 0 0, .slice none 0 0, .slice none 0 0] 26 (0, 0))) := ⟨by (with_reducible repeat (first|refine kN ?_ _|refine kD ?_|refine kA ?_ _)); refine blk_far ?_ (by have h_ := Kd.R_ne HO_147000.out BK125.out (by decide); intro e_; exact h_ (by rw [e_]; rfl)) _; (with_reducible repeat (first|refine kN ?_ _|refine kD ?_|refine kA ?_ _)); exact BK125.out⟩
 have n5_ : Aside0 ((w74.setCell ⟨go71, ((rd l0_2 (ji5)) : Int).toNat, none⟩ (.int .i64 (wrap64 ((rd l0_0 (rd l0_2 (ji5))) - (rd l0_0 (rd l0_1 (ji2))))))).heap[gb146]? = some (.cells #[.slice (some ⟨go71, 0, none⟩) y131.length co33, .slice Ao32 y137.length co32, .slice Ao31 y143.length co31] 26 (0, 0))) := ⟨by (with_reducible repeat (first|refine kN ?_ _|refine kD ?_|refine kA ?_ _)); refine blk_far ?_ (by have h_ := Kd.R_ne HO_147000.out BK146.out (by decide); intro e_; exact h_ (by rw [e_]; rfl)) _; (with_reducible repeat (first|refine kN ?_ _|refine kD ?_|refine kA ?_ _)); exact BK146.out⟩
 have n6_ : Aside0 (Below w.heap.size w (w74.setCell ⟨go71, ((rd l0_2 (ji5)) : Int).toNat, none⟩ (.int .i64 (wrap64 ((rd l0_0 (rd l0_2 (ji5))) - (rd l0_0 (rd l0_1 (ji2)))))))) := ⟨by repeat (first | (with_reducible first | exact HB.out|apply bA|apply bN|apply bD | refine below_set ?_ GB71.out | refine below_set ?_ GE124.out | refine below_set ?_ GE125.out | refine below_set ?_ GE146.out) | exact HB.out)⟩
 (try clear HO_147000)
 (try clear HO_147001)
 (try clear HO_147002)
 (try clear BK124)
 (try clear BK125)
 (try clear BK146)
 (try clear HB)
 generalize (w74.setCell ⟨go71, ((rd l0_2 (ji5)) : Int).toNat, none⟩ (.int .i64 (wrap64 ((rd l0_0 (rd l0_2 (ji5))) - (rd l0_0 (rd l0_1 (ji2))))))) = w76 at n0_ n1_ n2_ n3_ n4_ n5_ n6_ ⊢
 have HO_147000 := n0_
 have HO_147001 := n1_
 have HO_147002 := n2_
 have BK124 := n3_
 have BK125 := n4_
 have BK146 := n5_
 have HB := n6_
 clear n0_ n1_ n2_ n3_ n4_ n5_ n6_
 have hnb77 := NB124_125.out
 have hnc77 := NB125_124.out
 have hnb78 := NB124_146.out
 have hnc78 := NB146_124.out
 have hcz79_0 := cz30 BK124.out
 have hcz79_1 := cz31 BK124.out
 have hcz79_2 := cz32 BK124.out
 have hfz79_0 := blk_frozen BK124.out 0
 have hfz79_1 := blk_frozen BK124.out 1
 have hfz79_2 := blk_frozen BK124.out 2
 try go_wp2_with (first | ((with_reducible refine gate_callee (f := 48) rfl ?_); refine goesL_ (some 54) rfl rfl Try.func48 (by kernel_rfl) rfl #[.slice (some ad126) l0_1.length c0_1, .int .i64 (rd l0_2 (ji5))] rfl (by (try simp only [List.map_toArray, List.map_cons, List.map_nil]); first | done | (simp only [hji5]; rfl) | rfl | (simp only [List.length_drop, List.length_take]; rfl)) ?_; (with_reducible refine (spec_l16After.calls kj10 _ _ l0_1 (rd l0_2 (ji5)) t160 _ ?side1 ?side2 A72.out).mono ?_); (case side1 => exact cX (Kd.C_below HR0_1.out HB.out)); (case side2 => exact HC0_1.out); rintro e w80 ⟨v161, rfl, ho0, hb⟩; refine ⟨_, rfl, ?_⟩; have n0_ := Aside0.mk (Kd.R_elder' (rX HO_147000.out) (Kd.R_base ho0) hb); have n1_ := Aside0.mk (Kd.R_elder' (rX HO_147001.out) (Kd.R_base ho0) hb); have n2_ := Aside0.mk (Kd.R_elder' (rX HO_147002.out) (Kd.R_base ho0) hb); have n3_ := Aside0.mk (Kd.R_lower (Kd.R_new' (Kd.R_new' (Kd.R_new' ho0 (Kd.R_lt (rX HO_147000.out))) (Kd.R_lt (rX HO_147001.out))) (Kd.R_lt (rX HO_147002.out))) (below_size (bX3 HB.out GE124.out GE125.out GE146.out))); have n4_ := Aside0.mk (bbX BK124.out hb); have n5_ := Aside0.mk (bbX BK125.out hb); have n6_ := Aside0.mk (bbX BK146.out hb); have n7_ := Aside0.mk (below_step (bX3 HB.out GE124.out GE125.out GE146.out) hb); clear HO_147000 HO_147001 HO_147002 BK124 BK125 BK146 HB; have HO_147000 := n0_; have HO_147001 := n1_; have HO_147002 := n2_; have HO162 := n3_; have BK124 := n4_; have BK125 := n5_; have BK146 := n6_; have HB := n7_; clear n0_ n1_ n2_ n3_ n4_ n5_ n6_ n7_; (try clear hb); (try clear hb2); (try clear hk); (try clear hi); (try clear ho0); obtain ⟨Ao81, co81, eo81⟩ := Kd.R_slice HO162.out; subst eo81; have hnb82 := NB146_125.out; have hnc82 := NB125_146.out; have hcz83_0 := cz30 BK146.out; have hcz83_1 := cz31 BK146.out; have hcz83_2 := cz32 BK146.out; have hfz83_0 := blk_frozen BK146.out 0; have hfz83_1 := blk_frozen BK146.out 1; have hfz83_2 := blk_frozen BK146.out 2; have hcz84_0 := cz30 BK125.out; have hcz84_1 := cz31 BK125.out; have hcz84_2 := cz32 BK125.out; have hfz84_0 := blk_frozen BK125.out 0; have hfz84_1 := blk_frozen BK125.out 1; have hfz84_2 := blk_frozen BK125.out 2))
 refine bodyPost_ret (results_ct rfl _ _ gb125 26 #[.slice (some ⟨go71, 0, none⟩) y131.length co33, .slice Ao81 t160.length co81, .slice Ao31 y143.length co31] (0, 0) _ rfl (by (with_reducible repeat (first|refine kN ?_ _|refine kD ?_|refine kA ?_ _)); refine blk_put (cs := #[.slice (some ⟨go71, 0, none⟩) y131.length co33, .slice Ao81 t160.length co81, .slice none 0 0]) ?_ 2 _ rfl; (with_reducible repeat (first|refine kN ?_ _|refine kD ?_|refine kA ?_ _)); refine blk_put (cs := #[.slice (some ⟨go71, 0, none⟩) y131.length co33, .slice none 0 0, .slice none 0 0]) ?_ 1 _ rfl; (with_reducible repeat (first|refine kN ?_ _|refine kD ?_|refine kA ?_ _)); refine blk_put (cs := #[.slice none 0 0, .slice none 0 0, .slice none 0 0]) ?_ 0 _ rfl; (with_reducible repeat (first|refine kN ?_ _|refine kD ?_|refine kA ?_ _)); refine blk_far ?_ NB125_146.out _; (with_reducible repeat (first|refine kN ?_ _|refine kD ?_|refine kA ?_ _)); exact BK125.out) Try.underlying26 rfl (by kernel_rfl)) rfl ?_
 exact ⟨_, _, _, by first | rfl | (simp [errW_none, errW_some] <;> rfl) | (simp only [← hji2, ← hji5]; first | rfl | (simp [errW_none, errW_some] <;> rfl)) | (simp [*, errW_none, errW_some] <;> rfl), by (with_reducible repeat (first|apply rA|apply rN|apply rD)); exact Kd.R_mono (Kd.R_far (p := ⟨gb125, 2, none⟩) (Kd.R_far (p := ⟨gb125, 1, none⟩) (Kd.R_far (p := ⟨gb125, 0, none⟩) (Kd.R_far (p := ⟨gb146, 1, none⟩) (Kd.R_types (Kd.R_types HO_147000.out BK146.out (by decide)) BK125.out (by decide)) (fun _ hk => hk.1.2) (.slice Ao81 t160.length co81)) (fun _ hk => hk.2) (.slice (some ⟨go71, 0, none⟩) y131.length co33)) (fun _ hk => hk.2) (.slice Ao81 t160.length co81)) (fun _ hk => hk.2) (.slice Ao31 y143.length co31)) (fun _ hk => ⟨hk.1.1.2, hk.1.1.1.2⟩), by (with_reducible repeat (first|apply rA|apply rN|apply rD)); exact Kd.R_mono (Kd.R_far (p := ⟨gb125, 2, none⟩) (Kd.R_far (p := ⟨gb125, 1, none⟩) (Kd.R_far (p := ⟨gb125, 0, none⟩) (Kd.R_far (p := ⟨gb146, 1, none⟩) (Kd.R_types (Kd.R_types HO162.out BK146.out (by decide)) BK125.out (by decide)) (fun _ hk => hk.1.2) (.slice Ao81 t160.length co81)) (fun _ hk => hk.2) (.slice (some ⟨go71, 0, none⟩) y131.length co33)) (fun _ hk => hk.2) (.slice Ao81 t160.length co81)) (fun _ hk => hk.2) (.slice Ao31 y143.length co31)) (fun _ hk => ⟨hk.1.1.1.1.2, hk.1.1.2⟩), by (with_reducible repeat (first|apply rA|apply rN|apply rD)); exact Kd.R_mono (Kd.R_far (p := ⟨gb125, 2, none⟩) (Kd.R_far (p := ⟨gb125, 1, none⟩) (Kd.R_far (p := ⟨gb125, 0, none⟩) (Kd.R_far (p := ⟨gb146, 1, none⟩) (Kd.R_types (Kd.R_types HO_147002.out BK146.out (by decide)) BK125.out (by decide)) (fun _ hk => hk.1.2) (.slice Ao81 t160.length co81)) (fun _ hk => hk.2) (.slice (some ⟨go71, 0, none⟩) y131.length co33)) (fun _ hk => hk.2) (.slice Ao81 t160.length co81)) (fun _ hk => hk.2) (.slice Ao31 y143.length co31)) (fun _ hk => ⟨hk.1.1.1.1, hk.1.1.2⟩), bX3 HB.out GE124.out GE125.out GE146.out⟩
 }
 {
 rw [if_neg c70] at H
 exact absurd H (by simp)
 }
 }
 }
 {
 rw [if_neg c53] at H
 exact absurd H (by simp)
 }
 }
 {
 rw [if_neg c52] at H
 exact absurd H (by simp)
 }
 }
 {
 rw [if_neg c51] at H
 exact absurd H (by simp)
 }
 }
 {
 rw [if_neg c50] at H
 exact absurd H (by simp)
 }
 }
 }
 {
 rw [if_neg c10] at H
 exact absurd H (by simp)
 }
 }
 {
 rw [if_neg c9] at H
 exact absurd H (by simp)
 }
 }
 {
 rw [if_neg c8] at H
 exact absurd H (by simp)
 }
 }
 {
 rw [if_neg c7] at H
 exact absurd H (by simp)
 }
 }
 {
 rw [if_neg c6] at H
 exact absurd H (by simp)
 }
 }
 {
 rw [if_neg c4] at H
 exact absurd H (by simp)
 }
 }
 {
 rw [if_neg c3] at H
 exact absurd H (by simp)
 }

end Go.Proofs.Ytfomhkfgdggngaa.S
