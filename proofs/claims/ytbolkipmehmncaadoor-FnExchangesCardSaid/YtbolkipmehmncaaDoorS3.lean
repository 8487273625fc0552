-- PRINTED by print.py (a twelfth state) out of the translation. Not trusted: Lean checks it.
import Derived.Test.YtbolkipmehmncaaDoorS0
import Derived.Test.YtbolkipmehmncaaDoorS1
import Derived.Test.YtbolkipmehmncaaDoorS2
namespace Go.Proofs.YtbolkipmehmncaaDoor.S
open Go.RowKit Go.Proofs.YtbolkipmehmncaaDoorW.PrintWords Go.Proofs.YtbolkipmehmncaaDoorW.PrintLast Go.Proofs.YtbolkipmehmncaaDoorW.PrintMore
attribute [local go_sem] max2_int min2_int max_two min_two max_three min_three max_four min_four   -- for this text's walks alone
set_option linter.unusedVariables false
set_option linter.unusedSimpArgs false

/-! ### impl_InduceOnce: function 19 -/
def impl_InduceOnce.j0 : Nat → Int → Int → Bool → List Int → List Int → List Int → Option (List Int × List Int × List Int × Bool)
 | 0, _, _, _, _, _, _ => none
 | k + 1, x5, x6, x42, x246000, x246001, x246002 => if x42 = true then (some (([] : List Int), ([] : List Int), ([] : List Int), false)) else ((impl_copyExchange.f x246000 x246001 x246002).bind fun bt252 => (if 0 ≤ x5 then (if x5 < (x246000.length : Int) then (if 0 ≤ x6 then (if x6 < (x246000.length : Int) then (if (rd x246000 x5) > (rd x246000 x6) then (if x5 < (bt252.1.length : Int) then ((impl_putBehind.f k x246002 x5).bind fun t267 => (some ((bt252.1.set (x5 : Int).toNat (wrap64 ((rd bt252.1 x5) - (rd x246000 x6)))), bt252.2.1, t267, true))) else (none)) else (if x6 < (bt252.1.length : Int) then ((impl_putBehind.f k x246001 x6).bind fun t273 => (some ((bt252.1.set (x6 : Int).toNat (wrap64 ((rd bt252.1 x6) - (rd x246000 x5)))), t273, bt252.2.2, true))) else (none))) else (none)) else (none)) else (none)) else (none)))
def impl_InduceOnce.f (k : Nat) (l0_0 : List Int) (l0_1 : List Int) (l0_2 : List Int) : Option (List Int × List Int × List Int × Bool) := (impl_ExchangeOk.f k l0_0 l0_1 l0_2).bind fun t247 => (if t247 = true then (if 0 ≤ (wrap64 ((l0_1.length : Int) - 1)) then (if (wrap64 ((l0_1.length : Int) - 1)) < (l0_1.length : Int) then (if (wrap64 ((l0_1.length : Int) - 1)) < (l0_2.length : Int) then (if (rd l0_1 (wrap64 ((l0_1.length : Int) - 1))) = (rd l0_2 (wrap64 ((l0_1.length : Int) - 1))) then (impl_InduceOnce.j0 k (rd l0_1 (wrap64 ((l0_1.length : Int) - 1))) (rd l0_2 (wrap64 ((l0_1.length : Int) - 1))) true l0_0 l0_1 l0_2) else (if 0 ≤ (rd l0_1 (wrap64 ((l0_1.length : Int) - 1))) then (if (rd l0_1 (wrap64 ((l0_1.length : Int) - 1))) < (l0_0.length : Int) then (if 0 ≤ (rd l0_2 (wrap64 ((l0_1.length : Int) - 1))) then (if (rd l0_2 (wrap64 ((l0_1.length : Int) - 1))) < (l0_0.length : Int) then (impl_InduceOnce.j0 k (rd l0_1 (wrap64 ((l0_1.length : Int) - 1))) (rd l0_2 (wrap64 ((l0_1.length : Int) - 1))) ((rd l0_0 (rd l0_1 (wrap64 ((l0_1.length : Int) - 1)))) == (rd l0_0 (rd l0_2 (wrap64 ((l0_1.length : Int) - 1))))) l0_0 l0_1 l0_2) else (none)) else (none)) else (none)) else (none))) else (none)) else (none)) else (none)) else (some (([] : List Int), ([] : List Int), ([] : List Int), false)))
def impl_InduceOnce.T6 : Bool × List (List Nat × List Nat) := (true, [([], []), ([], []), ([0, 1], [0, 1]), ([2], [2]), ([3], [3]), ([4, 3], [3, 4]), ([3], [3]), ([5, 6, 3], [3, 5, 6]), ([7, 3], [3, 7]), ([3], [3]), ([9, 3], [3, 9]), ([3], [3]), ([10, 11, 3], [3, 10, 11]), ([12, 3], [3, 12]), ([8, 13, 3], [3, 8, 13]), ([3, 14], [3, 14])])
def impl_InduceOnce.B6 : List Nat := [0, 0, 3, 7, 15, 31, 15, 127, 255, 15, 527, 15, 3599, 7695, 16383, 32767]
theorem impl_InduceOnce.tab6 : rtab .any (opsOf Tryd.f19 6) = impl_InduceOnce.T6 := by kernel_rfl
theorem impl_InduceOnce.bits6 : waitsOk impl_InduceOnce.T6.2 impl_InduceOnce.B6 = true := by kernel_rfl
def impl_InduceOnce.T9 : Bool × List (List Nat × List Nat) := (true, [([], []), ([0], [0]), ([], []), ([1, 2], [1, 2]), ([3], [3]), ([], []), ([5], [5]), ([], []), ([6, 7], [6, 7]), ([8], [8]), ([4, 9], [4, 9])])
def impl_InduceOnce.B9 : List Nat := [0, 1, 0, 7, 15, 0, 32, 0, 224, 480, 1023]
theorem impl_InduceOnce.tab9 : rtab .any (opsOf Tryd.f19 9) = impl_InduceOnce.T9 := by kernel_rfl
theorem impl_InduceOnce.bits9 : waitsOk impl_InduceOnce.T9.2 impl_InduceOnce.B9 = true := by kernel_rfl
def impl_InduceOnce.T10 : Bool × List (List Nat × List Nat) := (true, [([], []), ([0], [0]), ([], []), ([1, 2], [1, 2]), ([3], [3]), ([], []), ([5], [5]), ([], []), ([6, 7], [6, 7]), ([8], [8]), ([4, 9], [4, 9]), ([1, 2, 0, 1, 2, 3, 4, 5, 6, 7, 8, 9, 10], [1, 2]), ([11, 10, 0, 1, 2, 3, 4, 5, 6, 7, 8, 9, 10], [10, 11])])
def impl_InduceOnce.B10 : List Nat := [0, 1, 0, 7, 15, 0, 32, 0, 224, 480, 1023, 2047, 4095]
theorem impl_InduceOnce.tab10 : rtab .any (opsOf Tryd.f19 10) = impl_InduceOnce.T10 := by kernel_rfl
theorem impl_InduceOnce.bits10 : waitsOk impl_InduceOnce.T10.2 impl_InduceOnce.B10 = true := by kernel_rfl
def impl_InduceOnce.T12 : Bool × List (List Nat × List Nat) := (true, [([], []), ([0], [0]), ([], []), ([1, 2], [1, 2]), ([3], [3]), ([], []), ([5], [5]), ([], []), ([6, 7], [6, 7]), ([8], [8]), ([4, 9], [4, 9]), ([1, 2, 0, 1, 2, 3, 4, 5, 6, 7, 8, 9, 10], [1, 2]), ([11, 10, 0, 1, 2, 3, 4, 5, 6, 7, 8, 9, 10], [10, 11])])
def impl_InduceOnce.B12 : List Nat := [0, 1, 0, 7, 15, 0, 32, 0, 224, 480, 1023, 2047, 4095]
theorem impl_InduceOnce.tab12 : rtab .any (opsOf Tryd.f19 12) = impl_InduceOnce.T12 := by kernel_rfl
theorem impl_InduceOnce.bits12 : waitsOk impl_InduceOnce.T12.2 impl_InduceOnce.B12 = true := by kernel_rfl
set_option maxHeartbeats 8000000 in
set_option maxRecDepth 100000 in
theorem impl_InduceOnce.calls (k : Nat) (A0_0 : Option Addr) (c0_0 : Nat) (l0_0 : List Int) (A0_1 : Option Addr) (c0_1 : Nat) (l0_1 : List Int) (A0_2 : Option Addr) (c0_2 : Nat) (l0_2 : List Int) (r1 : List Int) (r2 : List Int) (r3 : List Int) (r4 : Bool) (w : World) (hr0_0 : Kd.C (Kd.int .i64) w A0_0 l0_0.length l0_0) (hc0_0 : l0_0.length ≤ c0_0) (hr0_1 : Kd.C (Kd.int .i64) w A0_1 l0_1.length l0_1) (hc0_1 : l0_1.length ≤ c0_1) (hr0_2 : Kd.C (Kd.int .i64) w A0_2 l0_2.length l0_2) (hc0_2 : l0_2.length ≤ c0_2) (h : impl_InduceOnce.f k l0_0 l0_1 l0_2 = some (r1, r2, r3, r4)) :
  Calls Tryd.prog 19 #[.agg #[.slice A0_0 l0_0.length c0_0, .slice A0_1 l0_1.length c0_1, .slice A0_2 l0_2.length c0_2]] w fun e w' => ∃ v0_ v1_ v2_ : Value, e = .returned (.tuple #[.agg #[v0_, v1_, v2_], .bool r4]) ∧ Kd.R (Kd.int .i64) 3 w' w.heap.size (fun k_ => some k_ ≠ (v1_ : Value).ownBlock ∧ some k_ ≠ (v2_ : Value).ownBlock) v0_ r1 ∧ Kd.R (Kd.int .i64) 3 w' w.heap.size (fun k_ => some k_ ≠ (v0_ : Value).ownBlock ∧ some k_ ≠ (v2_ : Value).ownBlock) v1_ r2 ∧ Kd.R (Kd.int .i64) 3 w' w.heap.size (fun k_ => some k_ ≠ (v0_ : Value).ownBlock ∧ some k_ ≠ (v1_ : Value).ownBlock) v2_ r3 ∧ Below w.heap.size w w' := by
 have hu27 := Tryd.underlying27
 have HR0_0 := Aside0.mk hr0_0
 have HC0_0 := Aside0.mk hc0_0
 clear hr0_0 hc0_0
 have HR0_1 := Aside0.mk hr0_1
 have HC0_1 := Aside0.mk hc0_1
 clear hr0_1 hc0_1
 have HR0_2 := Aside0.mk hr0_2
 have HC0_2 := Aside0.mk hc0_2
 clear hr0_2 hc0_2
 have HB := Aside0.mk (Below.refl w.heap.size w)
 have H : ((impl_ExchangeOk.f k l0_0 l0_1 l0_2).bind fun t247 => (if t247 = true then (if 0 ≤ (wrap64 ((l0_1.length : Int) - 1)) then (if (wrap64 ((l0_1.length : Int) - 1)) < (l0_1.length : Int) then (if (wrap64 ((l0_1.length : Int) - 1)) < (l0_2.length : Int) then (if (rd l0_1 (wrap64 ((l0_1.length : Int) - 1))) = (rd l0_2 (wrap64 ((l0_1.length : Int) - 1))) then (impl_InduceOnce.j0 k (rd l0_1 (wrap64 ((l0_1.length : Int) - 1))) (rd l0_2 (wrap64 ((l0_1.length : Int) - 1))) true l0_0 l0_1 l0_2) else (if 0 ≤ (rd l0_1 (wrap64 ((l0_1.length : Int) - 1))) then (if (rd l0_1 (wrap64 ((l0_1.length : Int) - 1))) < (l0_0.length : Int) then (if 0 ≤ (rd l0_2 (wrap64 ((l0_1.length : Int) - 1))) then (if (rd l0_2 (wrap64 ((l0_1.length : Int) - 1))) < (l0_0.length : Int) then (impl_InduceOnce.j0 k (rd l0_1 (wrap64 ((l0_1.length : Int) - 1))) (rd l0_2 (wrap64 ((l0_1.length : Int) - 1))) ((rd l0_0 (rd l0_1 (wrap64 ((l0_1.length : Int) - 1)))) == (rd l0_0 (rd l0_2 (wrap64 ((l0_1.length : Int) - 1))))) l0_0 l0_1 l0_2) else (none)) else (none)) else (none)) else (none))) else (none)) else (none)) else (none)) else (some (([] : List Int), ([] : List Int), ([] : List Int), false)))) = some (r1, r2, r3, r4) := h
 clear h
 replace H := Option.bind_eq_some_iff.mp H
 obtain ⟨t247, A20, H⟩ := H
 replace H : (if t247 = true then (if 0 ≤ (wrap64 ((l0_1.length : Int) - 1)) then (if (wrap64 ((l0_1.length : Int) - 1)) < (l0_1.length : Int) then (if (wrap64 ((l0_1.length : Int) - 1)) < (l0_2.length : Int) then (if (rd l0_1 (wrap64 ((l0_1.length : Int) - 1))) = (rd l0_2 (wrap64 ((l0_1.length : Int) - 1))) then (impl_InduceOnce.j0 k (rd l0_1 (wrap64 ((l0_1.length : Int) - 1))) (rd l0_2 (wrap64 ((l0_1.length : Int) - 1))) true l0_0 l0_1 l0_2) else (if 0 ≤ (rd l0_1 (wrap64 ((l0_1.length : Int) - 1))) then (if (rd l0_1 (wrap64 ((l0_1.length : Int) - 1))) < (l0_0.length : Int) then (if 0 ≤ (rd l0_2 (wrap64 ((l0_1.length : Int) - 1))) then (if (rd l0_2 (wrap64 ((l0_1.length : Int) - 1))) < (l0_0.length : Int) then (impl_InduceOnce.j0 k (rd l0_1 (wrap64 ((l0_1.length : Int) - 1))) (rd l0_2 (wrap64 ((l0_1.length : Int) - 1))) ((rd l0_0 (rd l0_1 (wrap64 ((l0_1.length : Int) - 1)))) == (rd l0_0 (rd l0_2 (wrap64 ((l0_1.length : Int) - 1))))) l0_0 l0_1 l0_2) else (none)) else (none)) else (none)) else (none))) else (none)) else (none)) else (none)) else (some (([] : List Int), ([] : List Int), ([] : List Int), false))) = some (r1, r2, r3, r4) := H
 have A2 := Aside0.mk A20
 clear A20
 by_cases c3 : t247 = true
 ·subst c3
  have H1 : (if 0 ≤ (wrap64 ((l0_1.length : Int) - 1)) then (if (wrap64 ((l0_1.length : Int) - 1)) < (l0_1.length : Int) then (if (wrap64 ((l0_1.length : Int) - 1)) < (l0_2.length : Int) then (if (rd l0_1 (wrap64 ((l0_1.length : Int) - 1))) = (rd l0_2 (wrap64 ((l0_1.length : Int) - 1))) then (impl_InduceOnce.j0 k (rd l0_1 (wrap64 ((l0_1.length : Int) - 1))) (rd l0_2 (wrap64 ((l0_1.length : Int) - 1))) true l0_0 l0_1 l0_2) else (if 0 ≤ (rd l0_1 (wrap64 ((l0_1.length : Int) - 1))) then (if (rd l0_1 (wrap64 ((l0_1.length : Int) - 1))) < (l0_0.length : Int) then (if 0 ≤ (rd l0_2 (wrap64 ((l0_1.length : Int) - 1))) then (if (rd l0_2 (wrap64 ((l0_1.length : Int) - 1))) < (l0_0.length : Int) then (impl_InduceOnce.j0 k (rd l0_1 (wrap64 ((l0_1.length : Int) - 1))) (rd l0_2 (wrap64 ((l0_1.length : Int) - 1))) ((rd l0_0 (rd l0_1 (wrap64 ((l0_1.length : Int) - 1)))) == (rd l0_0 (rd l0_2 (wrap64 ((l0_1.length : Int) - 1))))) l0_0 l0_1 l0_2) else (none)) else (none)) else (none)) else (none))) else (none)) else (none)) else (none)) = some (r1, r2, r3, r4) := by rw [if_pos rfl] at H; exact H
  clear H
  have H := H1
  clear H1
  obtain ⟨ji4, hji4⟩ : ∃ j_ : Int, (wrap64 ((l0_1.length : Int) - 1)) = j_ := ⟨_, rfl⟩
  replace H : (if 0 ≤ (ji4) then (if (ji4) < (l0_1.length : Int) then (if (ji4) < (l0_2.length : Int) then (if (rd l0_1 (ji4)) = (rd l0_2 (ji4)) then (impl_InduceOnce.j0 k (rd l0_1 (ji4)) (rd l0_2 (ji4)) true l0_0 l0_1 l0_2) else (if 0 ≤ (rd l0_1 (ji4)) then (if (rd l0_1 (ji4)) < (l0_0.length : Int) then (if 0 ≤ (rd l0_2 (ji4)) then (if (rd l0_2 (ji4)) < (l0_0.length : Int) then (impl_InduceOnce.j0 k (rd l0_1 (ji4)) (rd l0_2 (ji4)) ((rd l0_0 (rd l0_1 (ji4))) == (rd l0_0 (rd l0_2 (ji4)))) l0_0 l0_1 l0_2) else (none)) else (none)) else (none)) else (none))) else (none)) else (none)) else (none)) = some (r1, r2, r3, r4) := by first | (rw [hji4] at H; exact H) | (simp only [hji4] at H ⊢; exact H)
  (try rw [hji4] at A2)
  have hji4w : (IntKind.i64.wrap ((l0_1.length : Int) - 1)) = ji4 := (i64_w _).trans hji4
  by_cases c5 : 0 ≤ (ji4)
  ·rw [if_pos c5] at H
   have c5b0 : decide (0 ≤ (ji4)) = true := decide_eq_true c5
   clear c5
   by_cases c6 : (ji4) < (l0_1.length : Int)
   ·rw [if_pos c6] at H
    have c6b0 : decide ((ji4) < (l0_1.length : Int)) = true := decide_eq_true c6
    clear c6
    by_cases c7 : (ji4) < (l0_2.length : Int)
    ·rw [if_pos c7] at H
     have c7b0 : decide ((ji4) < (l0_2.length : Int)) = true := decide_eq_true c7
     clear c7
     have HC8 := Aside0.mk H
     clear H
     go_enter Tryd.func19, Tryd.ntmps19
     go_upto_region 6 with (first | ((with_reducible refine gate_dst (N := 1) rfl ?_); refine box_event ?hg (N := 1) ?hd (cs := #[.slice A0_0 l0_0.length c0_0, .slice A0_1 l0_1.length c0_1, .slice A0_2 l0_2.length c0_2]) (t := 27) ?hr ?_; (case hd => rfl); (case hg => rfl); (case hr => first | (go_simp; done) | (go_simp; rfl)); intro gb245 hg w9 hbox hb; have n0_ := Aside0.mk (below_step (by repeat (first | (with_reducible first | exact HB.out|apply bA|apply bN|apply bD) | exact HB.out)) hb); have n1_ := Aside0.mk (hbox); have n2_ := Aside0.mk ((by rw [hg]; exact (below_size (by repeat (first | (with_reducible first | exact HB.out|apply bA|apply bN|apply bD) | exact HB.out))) : w.heap.size ≤ gb245)); have n3_ := Aside0.mk ((by rw [hg]; exact (below_size (by repeat (first | (with_reducible first | exact HB.out|apply bA|apply bN|apply bD) | exact HB.out))) : w.heap.size ≤ gb245)); clear HB; have HB := n0_; have BK245 := n1_; have GW245 := n2_; have GE245 := n3_; clear n0_ n1_ n2_ n3_; clear hb hbox hg) | ((with_reducible refine gate_dst (N := 2) rfl ?_); refine box_event ?hg (N := 2) ?hd (cs := #[.slice none 0 0, .slice none 0 0, .slice none 0 0]) (t := 27) ?hr ?_; (case hd => rfl); (case hg => rfl); (case hr => first | (go_simp; done) | (go_simp; rfl)); intro gb246 hg w10 hbox hb; have n0_ := Aside0.mk (blk_below (g := gb245) (o := .cells #[.slice A0_0 l0_0.length c0_0, .slice A0_1 l0_1.length c0_1, .slice A0_2 l0_2.length c0_2] 27 (0, 0)) (by (with_reducible repeat (first|refine kN ?_ _|refine kD ?_|refine kA ?_ _)); exact BK245.out) hb); have n1_ := Aside0.mk (below_step (by repeat (first | (with_reducible first | exact HB.out|apply bA|apply bN|apply bD | refine below_set ?_ GE245.out) | exact HB.out)) hb); have n2_ := Aside0.mk (hbox); have n3_ := Aside0.mk ((by rw [hg]; exact (below_size (by repeat (first | (with_reducible first | exact HB.out|apply bA|apply bN|apply bD | refine below_set ?_ GE245.out) | exact HB.out))) : w.heap.size ≤ gb246)); have n4_ := Aside0.mk ((by rw [hg]; exact (below_size (by repeat (first | (with_reducible first | exact HB.out|apply bA|apply bN|apply bD | refine below_set ?_ GE245.out) | exact HB.out))) : w.heap.size ≤ gb246)); have n5_ := Aside0.mk ((by rw [hg]; exact Nat.ne_of_lt (blk_lt (g := gb245) (o := .cells #[.slice A0_0 l0_0.length c0_0, .slice A0_1 l0_1.length c0_1, .slice A0_2 l0_2.length c0_2] 27 (0, 0)) (by (with_reducible repeat (first|refine kN ?_ _|refine kD ?_|refine kA ?_ _)); exact BK245.out)) : gb245 ≠ gb246)); have n6_ := Aside0.mk ((by rw [hg]; exact Nat.ne_of_gt (blk_lt (g := gb245) (o := .cells #[.slice A0_0 l0_0.length c0_0, .slice A0_1 l0_1.length c0_1, .slice A0_2 l0_2.length c0_2] 27 (0, 0)) (by (with_reducible repeat (first|refine kN ?_ _|refine kD ?_|refine kA ?_ _)); exact BK245.out)) : gb246 ≠ gb245)); clear BK245; clear HB; have BK245 := n0_; have HB := n1_; have BK246 := n2_; have GW246 := n3_; have GE246 := n4_; have NB245_246 := n5_; have NB246_245 := n6_; clear n0_ n1_ n2_ n3_ n4_ n5_ n6_; clear hb hbox hg; have hnb11 := NB245_246.out; have hnc11 := NB246_245.out; have hcz12_0 : w10.cell? ⟨gb245, 0, none⟩ = some (.slice A0_0 l0_0.length c0_0) := (blk_cell BK245.out 0).trans rfl; have hcz12_1 : w10.cell? ⟨gb245, 1, none⟩ = some (.slice A0_1 l0_1.length c0_1) := (blk_cell BK245.out 1).trans rfl; have hcz12_2 : w10.cell? ⟨gb245, 2, none⟩ = some (.slice A0_2 l0_2.length c0_2) := (blk_cell BK245.out 2).trans rfl; have hfz12_0 := blk_frozen BK245.out 0; have hfz12_1 := blk_frozen BK245.out 1; have hfz12_2 := blk_frozen BK245.out 2) | ((with_reducible refine gate_callee (f := 15) rfl ?_); refine goesL_ (some 9) rfl rfl Tryd.func15 (by kernel_rfl) rfl #[.agg #[.slice A0_0 l0_0.length c0_0, .slice A0_1 l0_1.length c0_1, .slice A0_2 l0_2.length c0_2]] rfl (by (try simp only [zE,zF,zG]); first|done|rfl|(simp only [zH,zI]; rfl)) ?_; (with_reducible refine (impl_ExchangeOk.calls k _ _ l0_0 _ _ l0_1 _ _ l0_2 true _ ?side1 ?side2 ?side3 ?side4 ?side5 ?side6 A2.out).mono ?_); (case side1 => repeat (first | exact (Kd.C_below HR0_0.out HB.out) | (with_reducible refine Kd.C_alloc ?_ _) | (with_reducible refine Kd.C_drewN ?_ _) | (with_reducible refine Kd.C_drew ?_))); (case side2 => exact HC0_0.out); (case side3 => repeat (first | exact (Kd.C_below HR0_1.out HB.out) | (with_reducible refine Kd.C_alloc ?_ _) | (with_reducible refine Kd.C_drewN ?_ _) | (with_reducible refine Kd.C_drew ?_))); (case side4 => exact HC0_1.out); (case side5 => repeat (first | exact (Kd.C_below HR0_2.out HB.out) | (with_reducible refine Kd.C_alloc ?_ _) | (with_reducible refine Kd.C_drewN ?_ _) | (with_reducible refine Kd.C_drew ?_))); (case side6 => exact HC0_2.out); rintro e w13 ⟨rfl, hb⟩; refine ⟨_, rfl, ?_⟩; have n0_ := Aside0.mk (blk_below (g := gb245) (o := .cells #[.slice A0_0 l0_0.length c0_0, .slice A0_1 l0_1.length c0_1, .slice A0_2 l0_2.length c0_2] 27 (0, 0)) (by (with_reducible repeat (first|refine kN ?_ _|refine kD ?_|refine kA ?_ _)); exact BK245.out) hb); have n1_ := Aside0.mk (blk_below (g := gb246) (o := .cells #[.slice none 0 0, .slice none 0 0, .slice none 0 0] 27 (0, 0)) (by (with_reducible repeat (first|refine kN ?_ _|refine kD ?_|refine kA ?_ _)); exact BK246.out) hb); have n2_ := Aside0.mk (below_step (by repeat (first | (with_reducible first | exact HB.out|apply bA|apply bN|apply bD | refine below_set ?_ GE245.out | refine below_set ?_ GE246.out) | exact HB.out)) hb); clear BK245; clear BK246; clear HB; have BK245 := n0_; have BK246 := n1_; have HB := n2_; clear n0_ n1_ n2_; (try clear hb); (try clear hb2); (try clear hk); (try clear hi); have hcz14_0 : w13.cell? ⟨gb245, 0, none⟩ = some (.slice A0_0 l0_0.length c0_0) := (blk_cell BK245.out 0).trans rfl; have hcz14_1 : w13.cell? ⟨gb245, 1, none⟩ = some (.slice A0_1 l0_1.length c0_1) := (blk_cell BK245.out 1).trans rfl; have hcz14_2 : w13.cell? ⟨gb245, 2, none⟩ = some (.slice A0_2 l0_2.length c0_2) := (blk_cell BK245.out 2).trans rfl; have hfz14_0 := blk_frozen BK245.out 0; have hfz14_1 := blk_frozen BK245.out 1; have hfz14_2 := blk_frozen BK245.out 2; have p248 : 0 ≤ ((ji4) : Int) := of_decide_eq_true (by first | (with_reducible assumption) | assumption); have q248 : (ji4) < (l0_1.length : Int) := of_decide_eq_true (by first | (with_reducible assumption) | assumption); obtain ⟨ad248, e248, hx248_0⟩ := Kd.at_int HR0_1.out (ji4) p248 q248; cases e248; replace hx248_0 := (HB.out.cell (World.block_lt_of_cell? w _ hx248_0)).trans hx248_0; replace p248 := eq_true p248; replace q248 := eq_true q248; have p249 : 0 ≤ ((ji4) : Int) := of_decide_eq_true (by first | (with_reducible assumption) | assumption); have q249 : (ji4) < (l0_2.length : Int) := of_decide_eq_true (by first | (with_reducible assumption) | assumption); obtain ⟨ad249, e249, hx249_0⟩ := Kd.at_int HR0_2.out (ji4) p249 q249; cases e249; replace hx249_0 := (HB.out.cell (World.block_lt_of_cell? w _ hx249_0)).trans hx249_0; replace p249 := eq_true p249; replace q249 := eq_true q249))
     (try simp only [Act.put, List.setIfInBounds_toArray, List.set_cons_zero, List.set_cons_succ])
     go_cut [42] (fun v42 wc => ∃ (kq : Nat) (x42_7 : Bool), v42 = .bool x42_7 ∧ Aside0 (impl_InduceOnce.j0 kq (rd l0_1 (ji4)) (rd l0_2 (ji4)) x42_7 l0_0 l0_1 l0_2 = some (r1, r2, r3, r4)) ∧ Aside0 (kq ≤ k) ∧ Aside0 (wc.heap[gb245]? = some (.cells #[(.slice A0_0 l0_0.length c0_0), (.slice (some ad248) l0_1.length c0_1), (.slice (some ad249) l0_2.length c0_2)] 27 (0, 0))) ∧ Aside0 (wc.heap[gb246]? = some (.cells #[(.slice none 0 0), (.slice none 0 0), (.slice none 0 0)] 27 (0, 0))) ∧ Aside0 (Below w.heap.size w wc))
     case first =>
      have H := HC8.out
      clear HC8
      by_cases c15 : (rd l0_1 (ji4)) = (rd l0_2 (ji4))
      ·rw [if_pos c15] at H
       have c15b0 : ((rd l0_1 (ji4)) == (rd l0_2 (ji4))) = true := beq_iff_eq.mpr c15
       have c15b1 : ((rd l0_1 (ji4)) != (rd l0_2 (ji4))) = false := bne_eq_false_iff_eq.mpr c15
       clear c15
       (first | rw [c15b0] | (simp only [i64_w, i32_w]; rw [c15b0]) | skip)
       have H' := Aside0.mk H
       clear H
       try go_wp2
       have n0_ := Aside0.mk (blk_drew BK245.out)
       have n1_ := Aside0.mk (blk_drew BK246.out)
       have n2_ := Aside0.mk (below_drew1 HB.out)
       clear BK245
       clear BK246
       clear HB
       have BK245 := n0_
       have BK246 := n1_
       have HB := n2_
       clear n0_ n1_ n2_
       refine start_ (n := 16) (S := fun w' => True) (ds := []) #[ff,ff,ff,ff,ff,ff,ff,ff,ff,ff,ff,ff,ff,ff,ff,ff] (by kernel_rfl) rfl rfl trivial (fun hHeld => ?_); refine with_tabW impl_InduceOnce.tab6 impl_InduceOnce.bits6 (fun HT_ HW_ => ?_)
       generalize w13.drew = w16 at BK245 BK246 HB hHeld ⊢
       refine pure_ (i := 0) (N := some 27) (v := ?_) (a' := ?_) (fl 16 1) rfl rfl (any_of HT_.out (by kernel_rfl)) (fun _ _ _ h => h) (Or.inl ⟨by kernel_rfl, ?_⟩) ?_ ?_
       rotate_left
       ·intro w'
        go_simp
        with_reducible rfl
       rotate_left
       ·simp only [Act.put, zA, zB, zC, i64_w, i32_w]
        rfl
       refine pure_ (i := 1) (N := some 28) (v := ?_) (a' := ?_) (fl 16 3) rfl rfl (any_of HT_.out (by kernel_rfl)) (fun _ _ _ h => h) (Or.inl ⟨by kernel_rfl, ?_⟩) ?_ ?_
       rotate_left
       ·intro w'
        go_simp
        with_reducible rfl
       rotate_left
       ·simp only [Act.put, zA, zB, zC, i64_w, i32_w]
        rfl
       refine pure_ (i := 2) (N := some 29) (v := ?_) (a' := ?_) (fl 16 7) rfl rfl (any_of HT_.out (by kernel_rfl)) (fun _ _ _ h => h) (Or.inl ⟨by kernel_rfl, ?_⟩) ?_ ?_
       rotate_left
       ·intro w'
        go_simp
        with_reducible rfl
       rotate_left
       ·simp only [Act.put, zA, zB, zC, i64_w, i32_w]
        rfl
       refine pure_ (i := 3) (N := some 30) (v := ?_) (a' := ?_) (fl 16 15) rfl rfl (any_of HT_.out (by kernel_rfl)) (fun _ _ _ h => h) (Or.inl ⟨by kernel_rfl, ?_⟩) ?_ ?_
       rotate_left
       ·intro w'
        go_simp
        with_reducible rfl
       rotate_left
       ·simp only [Act.put, zA, zB, zC, i64_w, i32_w]
        rfl
       refine pure_ (i := 4) (N := some 31) (v := undef) (a' := ?_) (fl 16 31) rfl rfl (any_of HT_.out (by kernel_rfl)) (fun _ _ _ h => h) (Or.inr ⟨by rfl, rfl⟩) ?_ ?_
       rotate_left
       ·simp only [Act.put, zA, zB, zC, i64_w, i32_w]
        rfl
       refine pure_ (i := 5) (N := some 32) (v := undef) (a' := ?_) (fl 16 63) rfl rfl (any_of HT_.out (by kernel_rfl)) (fun _ _ _ h => h) (Or.inr ⟨by rfl, rfl⟩) ?_ ?_
       rotate_left
       ·simp only [Act.put, zA, zB, zC, i64_w, i32_w]
        rfl
       refine pure_ (i := 6) (N := some 33) (v := undef) (a' := ?_) (fl 16 127) rfl rfl (any_of HT_.out (by kernel_rfl)) (fun _ _ _ h => h) (Or.inr ⟨by rfl, rfl⟩) ?_ ?_
       rotate_left
       ·simp only [Act.put, zA, zB, zC, i64_w, i32_w]
        rfl
       refine pure_ (i := 7) (N := some 34) (v := undef) (a' := ?_) (fl 16 255) rfl rfl (any_of HT_.out (by kernel_rfl)) (fun _ _ _ h => h) (Or.inr ⟨by rfl, rfl⟩) ?_ ?_
       rotate_left
       ·simp only [Act.put, zA, zB, zC, i64_w, i32_w]
        rfl
       refine pure_ (i := 8) (N := some 35) (v := undef) (a' := ?_) (fl 16 511) rfl rfl (any_of HT_.out (by kernel_rfl)) (fun _ _ _ h => h) (Or.inr ⟨by rfl, rfl⟩) ?_ ?_
       rotate_left
       ·simp only [Act.put, zA, zB, zC, i64_w, i32_w]
        rfl
       refine pure_ (i := 9) (N := some 36) (v := undef) (a' := ?_) (fl 16 1023) rfl rfl (any_of HT_.out (by kernel_rfl)) (fun _ _ _ h => h) (Or.inr ⟨by rfl, rfl⟩) ?_ ?_
       rotate_left
       ·simp only [Act.put, zA, zB, zC, i64_w, i32_w]
        rfl
       refine pure_ (i := 10) (N := some 37) (v := undef) (a' := ?_) (fl 16 2047) rfl rfl (any_of HT_.out (by kernel_rfl)) (fun _ _ _ h => h) (Or.inr ⟨by rfl, rfl⟩) ?_ ?_
       rotate_left
       ·simp only [Act.put, zA, zB, zC, i64_w, i32_w]
        rfl
       refine pure_ (i := 11) (N := some 38) (v := undef) (a' := ?_) (fl 16 4095) rfl rfl (any_of HT_.out (by kernel_rfl)) (fun _ _ _ h => h) (Or.inr ⟨by rfl, rfl⟩) ?_ ?_
       rotate_left
       ·simp only [Act.put, zA, zB, zC, i64_w, i32_w]
        rfl
       refine pure_ (i := 12) (N := some 39) (v := undef) (a' := ?_) (fl 16 8191) rfl rfl (any_of HT_.out (by kernel_rfl)) (fun _ _ _ h => h) (Or.inr ⟨by rfl, rfl⟩) ?_ ?_
       rotate_left
       ·simp only [Act.put, zA, zB, zC, i64_w, i32_w]
        rfl
       refine pure_ (i := 13) (N := some 40) (v := undef) (a' := ?_) (fl 16 16383) rfl rfl (any_of HT_.out (by kernel_rfl)) (fun _ _ _ h => h) (Or.inr ⟨by rfl, rfl⟩) ?_ ?_
       rotate_left
       ·simp only [Act.put, zA, zB, zC, i64_w, i32_w]
        rfl
       refine pure_ (i := 14) (N := some 41) (v := undef) (a' := ?_) (fl 16 32767) rfl rfl (any_of HT_.out (by kernel_rfl)) (fun _ _ _ h => h) (Or.inr ⟨by rfl, rfl⟩) ?_ ?_
       rotate_left
       ·simp only [Act.put, zA, zB, zC, i64_w, i32_w]
        rfl
       refine pure_ (i := 15) (N := some 42) (v := ?_) (a' := ?_) (fl 16 65535) rfl rfl (any_of HT_.out (by kernel_rfl)) (fun _ _ _ h => h) (Or.inl ⟨by kernel_rfl, ?_⟩) ?_ ?_
       rotate_left
       ·intro w'
        go_simp
        with_reducible rfl
       rotate_left
       ·simp only [Act.put, zA, zB, zC, i64_w, i32_w]
        rfl
       refine done_ (done_of HT_.out (by kernel_rfl)) ?_
       try go_wp2
       go_meet
       case rel => exact ⟨_, (true), (by first | rfl | (simp; done) | (simp [*]; done)), H', ⟨by first | omega | exact Nat.le_refl _⟩, ⟨by (with_reducible repeat (first|refine kN ?_ _|refine kD ?_|refine kA ?_ _)); exact BK245.out⟩, ⟨by (with_reducible repeat (first|refine kN ?_ _|refine kD ?_|refine kA ?_ _)); exact BK246.out⟩, ⟨by repeat (first | (with_reducible first | exact HB.out|apply bA|apply bN|apply bD | refine below_set ?_ GE245.out | refine below_set ?_ GE246.out) | exact HB.out)⟩⟩
      ·rw [if_neg c15] at H
       have c15b0 : ((rd l0_1 (ji4)) == (rd l0_2 (ji4))) = false := beq_eq_false_iff_ne.mpr c15
       have c15b1 : ((rd l0_1 (ji4)) != (rd l0_2 (ji4))) = true := bne_iff_ne.mpr c15
       (first | rw [c15b0] | (simp only [i64_w, i32_w]; rw [c15b0]) | skip)
       by_cases c17 : 0 ≤ (rd l0_1 (ji4))
       ·rw [if_pos c17] at H
        have c17b0 : decide (0 ≤ (rd l0_1 (ji4))) = true := decide_eq_true c17
        clear c17
        by_cases c18 : (rd l0_1 (ji4)) < (l0_0.length : Int)
        ·rw [if_pos c18] at H
         have c18b0 : decide ((rd l0_1 (ji4)) < (l0_0.length : Int)) = true := decide_eq_true c18
         clear c18
         by_cases c19 : 0 ≤ (rd l0_2 (ji4))
         ·rw [if_pos c19] at H
          have c19b0 : decide (0 ≤ (rd l0_2 (ji4))) = true := decide_eq_true c19
          clear c19
          by_cases c20 : (rd l0_2 (ji4)) < (l0_0.length : Int)
          ·rw [if_pos c20] at H
           have c20b0 : decide ((rd l0_2 (ji4)) < (l0_0.length : Int)) = true := decide_eq_true c20
           clear c20
           have H' := Aside0.mk H
           clear H
           try go_wp2
           have n0_ := Aside0.mk (blk_drew BK245.out)
           have n1_ := Aside0.mk (blk_drew BK246.out)
           have n2_ := Aside0.mk (below_drew1 HB.out)
           clear BK245
           clear BK246
           clear HB
           have BK245 := n0_
           have BK246 := n1_
           have HB := n2_
           clear n0_ n1_ n2_
           have p250 : 0 ≤ ((rd l0_1 (ji4)) : Int) := of_decide_eq_true (by first | (with_reducible assumption) | assumption)
           have q250 : (rd l0_1 (ji4)) < (l0_0.length : Int) := of_decide_eq_true (by first | (with_reducible assumption) | assumption)
           obtain ⟨ad250, e250, hx250_0⟩ := Kd.at_int HR0_0.out (rd l0_1 (ji4)) p250 q250
           have hw250_0 := hx250_0
           cases e250
           replace hx250_0 := (HB.out.cell (World.block_lt_of_cell? w _ hx250_0)).trans hx250_0
           replace p250 := eq_true p250
           replace q250 := eq_true q250
           have p251 : 0 ≤ ((rd l0_2 (ji4)) : Int) := of_decide_eq_true (by first | (with_reducible assumption) | assumption)
           have q251 : (rd l0_2 (ji4)) < (l0_0.length : Int) := of_decide_eq_true (by first | (with_reducible assumption) | assumption)
           obtain ⟨ad251, e251, hx251_0⟩ := Kd.at_int HR0_0.out (rd l0_2 (ji4)) p251 q251
           have hw251_0 := hx251_0
           obtain rfl : ad250 = ad251 := (by injection e251)
           replace hx251_0 := (HB.out.cell (World.block_lt_of_cell? w _ hx251_0)).trans hx251_0
           replace p251 := eq_true p251
           replace q251 := eq_true q251
           refine start_ (n := 16) (S := fun w' => w'.cell? ⟨gb245, 0, none⟩ = some (.slice (some ad250) l0_0.length c0_0) ∧ w'.cell? ⟨gb245, 1, none⟩ = some (.slice (some ad248) l0_1.length c0_1) ∧ w'.cell? ⟨gb245, 2, none⟩ = some (.slice (some ad249) l0_2.length c0_2) ∧ w'.cell? (ad250.add ((rd l0_1 (ji4))).toNat) = some (.int .i64 (rd l0_0 (rd l0_1 (ji4)))) ∧ w'.cell? (ad250.add ((rd l0_2 (ji4))).toNat) = some (.int .i64 (rd l0_0 (rd l0_2 (ji4))))) (ds := []) #[ff,ff,ff,ff,ff,ff,ff,ff,ff,ff,ff,ff,ff,ff,ff,ff] (by kernel_rfl) rfl rfl ⟨(blk_cell BK245.out 0).trans rfl, (blk_cell BK245.out 1).trans rfl, (blk_cell BK245.out 2).trans rfl, ((HB.out.cell (World.block_lt_of_cell? w _ hw250_0)).trans hw250_0), ((HB.out.cell (World.block_lt_of_cell? w _ hw251_0)).trans hw251_0)⟩ (fun hHeld => ?_); refine with_tabW impl_InduceOnce.tab6 impl_InduceOnce.bits6 (fun HT_ HW_ => ?_)
           generalize w13.drew = w21 at BK245 BK246 HB hx250_0 hx251_0 hHeld ⊢
           refine pure_ (i := 0) (N := some 27) (v := ?_) (a' := ?_) (fl 16 1) rfl rfl (any_of HT_.out (by kernel_rfl)) (fun _ _ _ h => h) (Or.inl ⟨by kernel_rfl, ?_⟩) ?_ ?_
           rotate_left
           ·intro w'
            go_simp
            with_reducible rfl
           rotate_left
           ·simp only [Act.put, zA, zB, zC, i64_w, i32_w]
            rfl
           refine pure_ (i := 1) (N := some 28) (v := ?_) (a' := ?_) (fl 16 3) rfl rfl (any_of HT_.out (by kernel_rfl)) (fun _ _ _ h => h) (Or.inl ⟨by kernel_rfl, ?_⟩) ?_ ?_
           rotate_left
           ·intro w'
            go_simp
            with_reducible rfl
           rotate_left
           ·simp only [Act.put, zA, zB, zC, i64_w, i32_w]
            rfl
           refine pure_ (i := 2) (N := some 29) (v := ?_) (a' := ?_) (fl 16 7) rfl rfl (any_of HT_.out (by kernel_rfl)) (fun _ _ _ h => h) (Or.inl ⟨by kernel_rfl, ?_⟩) ?_ ?_
           rotate_left
           ·intro w'
            go_simp
            with_reducible rfl
           rotate_left
           ·simp only [Act.put, zA, zB, zC, i64_w, i32_w]
            rfl
           refine pure_ (i := 3) (N := some 30) (v := ?_) (a' := ?_) (fl 16 15) rfl rfl (any_of HT_.out (by kernel_rfl)) (fun _ _ _ h => h) (Or.inl ⟨by kernel_rfl, ?_⟩) ?_ ?_
           rotate_left
           ·intro w'
            go_simp
            with_reducible rfl
           rotate_left
           ·simp only [Act.put, zA, zB, zC, i64_w, i32_w]
            rfl
           refine pure_ (i := 4) (N := some 31) (v := ?_) (a' := ?_) (fl 16 31) rfl rfl (any_of HT_.out (by kernel_rfl)) (fun _ _ _ h => h) (Or.inl ⟨by kernel_rfl, ?_⟩) ?_ ?_
           rotate_left
           ·intro w'
            go_simp
            with_reducible rfl
           rotate_left
           ·simp only [Act.put, zA, zB, zC, i64_w, i32_w]
            rfl
           refine pure_ (i := 6) (N := some 33) (v := ?_) (a' := ?_) (fl 16 95) rfl rfl (any_of HT_.out (by kernel_rfl)) (fun _ _ _ h => h) (Or.inl ⟨by kernel_rfl, ?_⟩) ?_ ?_
           rotate_left
           ·intro w'
            go_simp
            with_reducible rfl
           rotate_left
           ·simp only [Act.put, zA, zB, zC, i64_w, i32_w]
            rfl
           refine pure_ (i := 9) (N := some 36) (v := ?_) (a' := ?_) (fl 16 607) rfl rfl (any_of HT_.out (by kernel_rfl)) (fun _ _ _ h => h) (Or.inl ⟨by kernel_rfl, ?_⟩) ?_ ?_
           rotate_left
           ·intro w'
            go_simp
            with_reducible rfl
           rotate_left
           ·simp only [Act.put, zA, zB, zC, i64_w, i32_w]
            rfl
           refine pure_ (i := 11) (N := some 38) (v := ?_) (a' := ?_) (fl 16 2655) rfl rfl (any_of HT_.out (by kernel_rfl)) (fun _ _ _ h => h) (Or.inl ⟨by kernel_rfl, ?_⟩) ?_ ?_
           rotate_left
           ·intro w'
            go_simp
            with_reducible rfl
           rotate_left
           ·simp only [Act.put, zA, zB, zC, i64_w, i32_w]
            rfl
           refine take_ (i := 5) (N := some 32) (v := ?_) (a' := ?_) (fl 16 2687) rfl rfl (take_ofW HT_.out HW_.out (by kernel_rfl)) (fun _ _ _ h => h) (Or.inl ⟨by kernel_rfl, ?_⟩) hHeld ?_ ?_
           rotate_left
           ·rintro w' ⟨s0, s1, s2, s3, s4⟩
            go_simp
            with_reducible rfl
           rotate_left
           ·simp only [Act.put, zA, zB, zC, i64_w, i32_w]
            rfl
           refine pure_ (i := 7) (N := some 34) (v := ?_) (a' := ?_) (fl 16 2815) rfl rfl (any_of HT_.out (by kernel_rfl)) (fun _ _ _ h => h) (Or.inl ⟨by kernel_rfl, ?_⟩) ?_ ?_
           rotate_left
           ·intro w'
            go_simp
            with_reducible rfl
           rotate_left
           ·simp only [Act.put, zA, zB, zC, i64_w, i32_w]
            rfl
           refine take_ (i := 8) (N := some 35) (v := ?_) (a' := ?_) (fl 16 3071) rfl rfl (take_ofW HT_.out HW_.out (by kernel_rfl)) (fun _ _ _ h => h) (Or.inl ⟨by kernel_rfl, ?_⟩) hHeld ?_ ?_
           rotate_left
           ·rintro w' ⟨s0, s1, s2, s3, s4⟩
            go_simp
            with_reducible rfl
           rotate_left
           ·simp only [Act.put, zA, zB, zC, i64_w, i32_w]
            rfl
           refine take_ (i := 10) (N := some 37) (v := ?_) (a' := ?_) (fl 16 4095) rfl rfl (take_ofW HT_.out HW_.out (by kernel_rfl)) (fun _ _ _ h => h) (Or.inl ⟨by kernel_rfl, ?_⟩) hHeld ?_ ?_
           rotate_left
           ·rintro w' ⟨s0, s1, s2, s3, s4⟩
            go_simp
            with_reducible rfl
           rotate_left
           ·simp only [Act.put, zA, zB, zC, i64_w, i32_w]
            rfl
           refine pure_ (i := 12) (N := some 39) (v := ?_) (a' := ?_) (fl 16 8191) rfl rfl (any_of HT_.out (by kernel_rfl)) (fun _ _ _ h => h) (Or.inl ⟨by kernel_rfl, ?_⟩) ?_ ?_
           rotate_left
           ·intro w'
            go_simp
            with_reducible rfl
           rotate_left
           ·simp only [Act.put, zA, zB, zC, i64_w, i32_w]
            rfl
           refine take_ (i := 13) (N := some 40) (v := ?_) (a' := ?_) (fl 16 16383) rfl rfl (take_ofW HT_.out HW_.out (by kernel_rfl)) (fun _ _ _ h => h) (Or.inl ⟨by kernel_rfl, ?_⟩) hHeld ?_ ?_
           rotate_left
           ·rintro w' ⟨s0, s1, s2, s3, s4⟩
            go_simp
            with_reducible rfl
           rotate_left
           ·simp only [Act.put, zA, zB, zC, i64_w, i32_w]
            rfl
           refine pure_ (i := 14) (N := some 41) (v := ?_) (a' := ?_) (fl 16 32767) rfl rfl (any_of HT_.out (by kernel_rfl)) (fun _ _ _ h => h) (Or.inl ⟨by kernel_rfl, ?_⟩) ?_ ?_
           rotate_left
           ·intro w'
            go_simp
            with_reducible rfl
           rotate_left
           ·simp only [Act.put, zA, zB, zC, i64_w, i32_w]
            rfl
           refine pure_ (i := 15) (N := some 42) (v := ?_) (a' := ?_) (fl 16 65535) rfl rfl (any_of HT_.out (by kernel_rfl)) (fun _ _ _ h => h) (Or.inl ⟨by kernel_rfl, ?_⟩) ?_ ?_
           rotate_left
           ·intro w'
            go_simp
            with_reducible rfl
           rotate_left
           ·simp only [Act.put, zA, zB, zC, i64_w, i32_w]
            rfl
           refine done_ (done_of HT_.out (by kernel_rfl)) ?_
           try go_wp2
           go_meet
           case rel => exact ⟨_, (((rd l0_0 (rd l0_1 (ji4))) == (rd l0_0 (rd l0_2 (ji4))))), (by first | rfl | (simp; done) | (simp only [← hji4] <;> (first | rfl | simp)) | (simp [*]; done)), H', ⟨by first | omega | exact Nat.le_refl _⟩, ⟨by (with_reducible repeat (first|refine kN ?_ _|refine kD ?_|refine kA ?_ _)); exact BK245.out⟩, ⟨by (with_reducible repeat (first|refine kN ?_ _|refine kD ?_|refine kA ?_ _)); exact BK246.out⟩, ⟨by repeat (first | (with_reducible first | exact HB.out|apply bA|apply bN|apply bD | refine below_set ?_ GE245.out | refine below_set ?_ GE246.out) | exact HB.out)⟩⟩
          ·rw [if_neg c20] at H
           exact absurd H (by simp)
         ·rw [if_neg c19] at H
          exact absurd H (by simp)
        ·rw [if_neg c18] at H
         exact absurd H (by simp)
       ·rw [if_neg c17] at H
        exact absurd H (by simp)
     case rest =>
      clear HC8
      try clear c1
      try clear c2
      try clear p2
      try clear q2
      try clear hx2
      try clear c3
      try clear c5
      try clear c5b0
      try clear c6
      try clear c6b0
      try clear p6
      try clear c7
      try clear c7b0
      try clear c11
      try clear c15
      try clear c15b0
      try clear c15b1
      try clear c17
      try clear c17b0
      try clear c18
      try clear c18b0
      try clear c19
      try clear c19b0
      try clear c20
      try clear c20b0
      try clear hcz12_0
      try clear hcz12_1
      try clear hcz12_2
      try clear hcz14_0
      try clear hcz14_1
      try clear hcz14_2
      try clear hfz12_0
      try clear hfz12_1
      try clear hfz12_2
      try clear hfz14_0
      try clear hfz14_1
      try clear hfz14_2
      try clear hx248_0
      try clear hx249_0
      try clear hx250_0
      try clear hx251_0
      try clear p248
      try clear p249
      try clear p250
      try clear p251
      try clear q248
      try clear q249
      try clear q250
      try clear q251
      obtain ⟨kq, x42_7, rfl, HA, HJ7, BK245, BK246, HB⟩ := hcut
      cases kq with
      | zero => exact absurd HA.out (by simp [impl_InduceOnce.j0])
      | succ kj7 =>
       have H := HA.out
       clear HA
       simp only [impl_InduceOnce.j0] at H
       by_cases c22 : x42_7 = true
       ·subst c22
        have H1 : (some (([] : List Int), ([] : List Int), ([] : List Int), false)) = some (r1, r2, r3, r4) := by rw [if_pos rfl] at H; exact H
        clear H
        have H := H1
        clear H1
        simp only [Option.some.injEq, Prod.mk.injEq] at H
        obtain ⟨rfl, rfl, rfl, rfl⟩ := H
        have hnb23 := NB246_245.out
        have hnc23 := NB245_246.out
        have hcz24_0 : wc.cell? ⟨gb246, 0, none⟩ = some (.slice none 0 0) := (blk_cell BK246.out 0).trans rfl
        have hcz24_1 : wc.cell? ⟨gb246, 1, none⟩ = some (.slice none 0 0) := (blk_cell BK246.out 1).trans rfl
        have hcz24_2 : wc.cell? ⟨gb246, 2, none⟩ = some (.slice none 0 0) := (blk_cell BK246.out 2).trans rfl
        have hfz24_0 := blk_frozen BK246.out 0
        have hfz24_1 := blk_frozen BK246.out 1
        have hfz24_2 := blk_frozen BK246.out 2
        go_wp2
        refine bodyPost_ret (results_ct rfl _ _ gb246 27 #[.slice none 0 0, .slice none 0 0, .slice none 0 0] (0, 0) _ rfl (by (with_reducible repeat (first|refine kN ?_ _|refine kD ?_|refine kA ?_ _)); refine blk_put (cs := #[.slice none 0 0, .slice none 0 0, .slice none 0 0]) ?_ 2 _ rfl; (with_reducible repeat (first|refine kN ?_ _|refine kD ?_|refine kA ?_ _)); refine blk_put (cs := #[.slice none 0 0, .slice none 0 0, .slice none 0 0]) ?_ 1 _ rfl; (with_reducible repeat (first|refine kN ?_ _|refine kD ?_|refine kA ?_ _)); refine blk_put (cs := #[.slice none 0 0, .slice none 0 0, .slice none 0 0]) ?_ 0 _ rfl; (with_reducible repeat (first|refine kN ?_ _|refine kD ?_|refine kA ?_ _)); exact BK246.out) Tryd.underlying27 rfl (by kernel_rfl)) rfl ?_
        exact ⟨_, _, _, by first | rfl | (simp [errW_none, errW_some] <;> rfl) | (simp only [← hji4]; first | rfl | (simp [errW_none, errW_some] <;> rfl)) | (simp [*, errW_none, errW_some] <;> rfl), by first | exact Kd.R_nil _ _ _ _ _ | exact Kd.N_nil _ _ _ _ _ | exact Kd.V_nil _ _ _ _ _ | exact Kd.Q_nil _ _ _ _ _ | exact Kd.S_nil _ _ _ _ _, by first | exact Kd.R_nil _ _ _ _ _ | exact Kd.N_nil _ _ _ _ _ | exact Kd.V_nil _ _ _ _ _ | exact Kd.Q_nil _ _ _ _ _ | exact Kd.S_nil _ _ _ _ _, by first | exact Kd.R_nil _ _ _ _ _ | exact Kd.N_nil _ _ _ _ _ | exact Kd.V_nil _ _ _ _ _ | exact Kd.Q_nil _ _ _ _ _ | exact Kd.S_nil _ _ _ _ _, by repeat (first | (with_reducible first | exact HB.out|apply bA|apply bN|apply bD | refine below_set ?_ GE245.out | refine below_set ?_ GE246.out) | exact HB.out)⟩
       ·replace c22 := Bool.eq_false_iff.mpr c22
        subst c22
        have H1 : ((impl_copyExchange.f l0_0 l0_1 l0_2).bind fun bt252 => (if 0 ≤ (rd l0_1 (ji4)) then (if (rd l0_1 (ji4)) < (l0_0.length : Int) then (if 0 ≤ (rd l0_2 (ji4)) then (if (rd l0_2 (ji4)) < (l0_0.length : Int) then (if (rd l0_0 (rd l0_1 (ji4))) > (rd l0_0 (rd l0_2 (ji4))) then (if (rd l0_1 (ji4)) < (bt252.1.length : Int) then ((impl_putBehind.f kj7 l0_2 (rd l0_1 (ji4))).bind fun t267 => (some ((bt252.1.set ((rd l0_1 (ji4)) : Int).toNat (wrap64 ((rd bt252.1 (rd l0_1 (ji4))) - (rd l0_0 (rd l0_2 (ji4)))))), bt252.2.1, t267, true))) else (none)) else (if (rd l0_2 (ji4)) < (bt252.1.length : Int) then ((impl_putBehind.f kj7 l0_1 (rd l0_2 (ji4))).bind fun t273 => (some ((bt252.1.set ((rd l0_2 (ji4)) : Int).toNat (wrap64 ((rd bt252.1 (rd l0_2 (ji4))) - (rd l0_0 (rd l0_1 (ji4)))))), t273, bt252.2.2, true))) else (none))) else (none)) else (none)) else (none)) else (none))) = some (r1, r2, r3, r4) := by rw [if_neg (show ¬ (false = true) by decide)] at H; exact H
        clear H
        have H := H1
        clear H1
        replace H := Option.bind_eq_some_iff.mp H
        obtain ⟨⟨t252, t255, t258⟩, A250, H⟩ := H
        replace H : (if 0 ≤ (rd l0_1 (ji4)) then (if (rd l0_1 (ji4)) < (l0_0.length : Int) then (if 0 ≤ (rd l0_2 (ji4)) then (if (rd l0_2 (ji4)) < (l0_0.length : Int) then (if (rd l0_0 (rd l0_1 (ji4))) > (rd l0_0 (rd l0_2 (ji4))) then (if (rd l0_1 (ji4)) < (t252.length : Int) then ((impl_putBehind.f kj7 l0_2 (rd l0_1 (ji4))).bind fun t267 => (some ((t252.set ((rd l0_1 (ji4)) : Int).toNat (wrap64 ((rd t252 (rd l0_1 (ji4))) - (rd l0_0 (rd l0_2 (ji4)))))), t255, t267, true))) else (none)) else (if (rd l0_2 (ji4)) < (t252.length : Int) then ((impl_putBehind.f kj7 l0_1 (rd l0_2 (ji4))).bind fun t273 => (some ((t252.set ((rd l0_2 (ji4)) : Int).toNat (wrap64 ((rd t252 (rd l0_2 (ji4))) - (rd l0_0 (rd l0_1 (ji4)))))), t273, t258, true))) else (none))) else (none)) else (none)) else (none)) else (none)) = some (r1, r2, r3, r4) := H
        have A25 := Aside0.mk A250
        clear A250
        by_cases c26 : 0 ≤ (rd l0_1 (ji4))
        ·rw [if_pos c26] at H
         have c26b0 : decide (0 ≤ (rd l0_1 (ji4))) = true := decide_eq_true c26
         clear c26
         by_cases c27 : (rd l0_1 (ji4)) < (l0_0.length : Int)
         ·rw [if_pos c27] at H
          have c27b0 : decide ((rd l0_1 (ji4)) < (l0_0.length : Int)) = true := decide_eq_true c27
          clear c27
          by_cases c28 : 0 ≤ (rd l0_2 (ji4))
          ·rw [if_pos c28] at H
           have c28b0 : decide (0 ≤ (rd l0_2 (ji4))) = true := decide_eq_true c28
           clear c28
           by_cases c29 : (rd l0_2 (ji4)) < (l0_0.length : Int)
           ·rw [if_pos c29] at H
            have c29b0 : decide ((rd l0_2 (ji4)) < (l0_0.length : Int)) = true := decide_eq_true c29
            clear c29
            by_cases c30 : (rd l0_0 (rd l0_1 (ji4))) > (rd l0_0 (rd l0_2 (ji4)))
            ·rw [if_pos c30] at H
             have c30b0 : decide ((rd l0_0 (rd l0_2 (ji4))) < (rd l0_0 (rd l0_1 (ji4)))) = true := decide_eq_true c30
             clear c30
             by_cases c31 : (rd l0_1 (ji4)) < (t252.length : Int)
             ·rw [if_pos c31] at H
              have c31b0 : decide ((rd l0_1 (ji4)) < (t252.length : Int)) = true := decide_eq_true c31
              clear c31
              obtain ⟨y266, hy266⟩ : ∃ y_ : List Int, y_ = (t252.set ((rd l0_1 (ji4)) : Int).toNat (wrap64 ((rd t252 (rd l0_1 (ji4))) - (rd l0_0 (rd l0_2 (ji4)))))) := ⟨_, rfl⟩
              replace H : ((impl_putBehind.f kj7 l0_2 (rd l0_1 (ji4))).bind fun t267 => (some (y266, t255, t267, true))) = some (r1, r2, r3, r4) := by first | (rw [hy266]; with_reducible exact H) | (have H2_ := (Option.bind_some _ _).symm.trans H; rw [hy266]; with_reducible exact H2_) | (have H2_ := (Option.bind_some _ _).symm.trans H; with_reducible exact H2_) | with_reducible exact H | (rw [hy266]; exact H) | exact H
              have Ny266 := Aside0.mk hy266
              clear hy266
              replace H := Option.bind_eq_some_iff.mp H
              obtain ⟨t267, A330, H⟩ := H
              replace H : (some (y266, t255, t267, true)) = some (r1, r2, r3, r4) := H
              have A33 := Aside0.mk A330
              clear A330
              simp only [Option.some.injEq, Prod.mk.injEq] at H
              obtain ⟨rfl, rfl, rfl, rfl⟩ := H
              have hnb34 := NB245_246.out
              have hnc34 := NB246_245.out
              have hcz35_0 : wc.cell? ⟨gb245, 0, none⟩ = some (.slice A0_0 l0_0.length c0_0) := (blk_cell BK245.out 0).trans rfl
              have hcz35_1 : wc.cell? ⟨gb245, 1, none⟩ = some (.slice (some ad248) l0_1.length c0_1) := (blk_cell BK245.out 1).trans rfl
              have hcz35_2 : wc.cell? ⟨gb245, 2, none⟩ = some (.slice (some ad249) l0_2.length c0_2) := (blk_cell BK245.out 2).trans rfl
              have hfz35_0 := blk_frozen BK245.out 0
              have hfz35_1 := blk_frozen BK245.out 1
              have hfz35_2 := blk_frozen BK245.out 2
              try go_wp2_with (first | ((with_reducible refine gate_callee (f := 48) rfl ?_); refine goesL_ (some 45) rfl rfl Tryd.func48 (by kernel_rfl) rfl #[.agg #[.slice A0_0 l0_0.length c0_0, .slice (some ad248) l0_1.length c0_1, .slice (some ad249) l0_2.length c0_2]] rfl (by (try simp only [zE,zF,zG]); first|done|rfl|(simp only [zH,zI]; rfl)) ?_; (with_reducible refine (impl_copyExchange.calls _ _ l0_0 _ _ l0_1 _ _ l0_2 t252 t255 t258 _ ?side1 ?side2 ?side3 ?side4 ?side5 ?side6 A25.out).mono ?_); (case side1 => repeat (first | exact (Kd.C_below HR0_0.out HB.out) | (with_reducible refine Kd.C_alloc ?_ _) | (with_reducible refine Kd.C_drewN ?_ _) | (with_reducible refine Kd.C_drew ?_))); (case side2 => exact HC0_0.out); (case side3 => repeat (first | exact (Kd.C_below HR0_1.out HB.out) | (with_reducible refine Kd.C_alloc ?_ _) | (with_reducible refine Kd.C_drewN ?_ _) | (with_reducible refine Kd.C_drew ?_))); (case side4 => exact HC0_1.out); (case side5 => repeat (first | exact (Kd.C_below HR0_2.out HB.out) | (with_reducible refine Kd.C_alloc ?_ _) | (with_reducible refine Kd.C_drewN ?_ _) | (with_reducible refine Kd.C_drew ?_))); (case side6 => exact HC0_2.out); rintro e w36 ⟨v253, v256, v259, rfl, ho0, ho1, ho2, hb⟩; refine ⟨_, rfl, ?_⟩; have n0_ := Aside0.mk (Kd.R_lower ho0 (below_size (by repeat (first | (with_reducible first | exact HB.out|apply bA|apply bN|apply bD | refine below_set ?_ GE245.out | refine below_set ?_ GE246.out) | exact HB.out)))); have n1_ := Aside0.mk (Kd.R_lower ho1 (below_size (by repeat (first | (with_reducible first | exact HB.out|apply bA|apply bN|apply bD | refine below_set ?_ GE245.out | refine below_set ?_ GE246.out) | exact HB.out)))); have n2_ := Aside0.mk (Kd.R_lower ho2 (below_size (by repeat (first | (with_reducible first | exact HB.out|apply bA|apply bN|apply bD | refine below_set ?_ GE245.out | refine below_set ?_ GE246.out) | exact HB.out)))); have n3_ := Aside0.mk (blk_below (g := gb245) (o := .cells #[.slice A0_0 l0_0.length c0_0, .slice (some ad248) l0_1.length c0_1, .slice (some ad249) l0_2.length c0_2] 27 (0, 0)) (by (with_reducible repeat (first|refine kN ?_ _|refine kD ?_|refine kA ?_ _)); exact BK245.out) hb); have n4_ := Aside0.mk (blk_below (g := gb246) (o := .cells #[.slice none 0 0, .slice none 0 0, .slice none 0 0] 27 (0, 0)) (by (with_reducible repeat (first|refine kN ?_ _|refine kD ?_|refine kA ?_ _)); exact BK246.out) hb); have n5_ := Aside0.mk (below_step (by repeat (first | (with_reducible first | exact HB.out|apply bA|apply bN|apply bD | refine below_set ?_ GE245.out | refine below_set ?_ GE246.out) | exact HB.out)) hb); clear BK245; clear BK246; clear HB; have HO254 := n0_; have HO257 := n1_; have HO260 := n2_; have BK245 := n3_; have BK246 := n4_; have HB := n5_; clear n0_ n1_ n2_ n3_ n4_ n5_; (try clear hb); (try clear hb2); (try clear hk); (try clear hi); (try clear ho0); (try clear ho1); (try clear ho2)) | ((with_reducible refine gate_dst (N := 7) rfl ?_); refine box_event ?hg (N := 7) ?hd (cs := #[.slice none 0 0, .slice none 0 0, .slice none 0 0]) (t := 27) ?hr ?_; (case hd => rfl); (case hg => rfl); (case hr => first | (go_simp; done) | (go_simp; rfl)); intro gb261 hg w37 hbox hb; have n0_ := Aside0.mk (Kd.R_below (by (with_reducible repeat (first|apply rA|apply rN|apply rD)); exact HO254.out) hb); have n1_ := Aside0.mk (Kd.R_below (by (with_reducible repeat (first|apply rA|apply rN|apply rD)); exact HO257.out) hb); have n2_ := Aside0.mk (Kd.R_below (by (with_reducible repeat (first|apply rA|apply rN|apply rD)); exact HO260.out) hb); have n3_ := Aside0.mk (blk_below (g := gb245) (o := .cells #[.slice A0_0 l0_0.length c0_0, .slice (some ad248) l0_1.length c0_1, .slice (some ad249) l0_2.length c0_2] 27 (0, 0)) (by (with_reducible repeat (first|refine kN ?_ _|refine kD ?_|refine kA ?_ _)); exact BK245.out) hb); have n4_ := Aside0.mk (blk_below (g := gb246) (o := .cells #[.slice none 0 0, .slice none 0 0, .slice none 0 0] 27 (0, 0)) (by (with_reducible repeat (first|refine kN ?_ _|refine kD ?_|refine kA ?_ _)); exact BK246.out) hb); have n5_ := Aside0.mk (below_step (by repeat (first | (with_reducible first | exact HB.out|apply bA|apply bN|apply bD | refine below_set ?_ GE245.out | refine below_set ?_ GE246.out) | exact HB.out)) hb); have n6_ := Aside0.mk (hbox); have n7_ := Aside0.mk ((by rw [hg]; exact (below_size (by repeat (first | (with_reducible first | exact HB.out|apply bA|apply bN|apply bD | refine below_set ?_ GE245.out | refine below_set ?_ GE246.out) | exact HB.out))) : w.heap.size ≤ gb261)); have n8_ := Aside0.mk ((by rw [hg]; exact (below_size (by repeat (first | (with_reducible first | exact HB.out|apply bA|apply bN|apply bD | refine below_set ?_ GE245.out | refine below_set ?_ GE246.out) | exact HB.out))) : w.heap.size ≤ gb261)); have n9_ := Aside0.mk ((by rw [hg]; exact Nat.ne_of_lt (blk_lt (g := gb245) (o := .cells #[.slice A0_0 l0_0.length c0_0, .slice (some ad248) l0_1.length c0_1, .slice (some ad249) l0_2.length c0_2] 27 (0, 0)) (by (with_reducible repeat (first|refine kN ?_ _|refine kD ?_|refine kA ?_ _)); exact BK245.out)) : gb245 ≠ gb261)); have n10_ := Aside0.mk ((by rw [hg]; exact Nat.ne_of_gt (blk_lt (g := gb245) (o := .cells #[.slice A0_0 l0_0.length c0_0, .slice (some ad248) l0_1.length c0_1, .slice (some ad249) l0_2.length c0_2] 27 (0, 0)) (by (with_reducible repeat (first|refine kN ?_ _|refine kD ?_|refine kA ?_ _)); exact BK245.out)) : gb261 ≠ gb245)); have n11_ := Aside0.mk ((by rw [hg]; exact Nat.ne_of_lt (blk_lt (g := gb246) (o := .cells #[.slice none 0 0, .slice none 0 0, .slice none 0 0] 27 (0, 0)) (by (with_reducible repeat (first|refine kN ?_ _|refine kD ?_|refine kA ?_ _)); exact BK246.out)) : gb246 ≠ gb261)); have n12_ := Aside0.mk ((by rw [hg]; exact Nat.ne_of_gt (blk_lt (g := gb246) (o := .cells #[.slice none 0 0, .slice none 0 0, .slice none 0 0] 27 (0, 0)) (by (with_reducible repeat (first|refine kN ?_ _|refine kD ?_|refine kA ?_ _)); exact BK246.out)) : gb261 ≠ gb246)); clear HO254; clear HO257; clear HO260; clear BK245; clear BK246; clear HB; have HO254 := n0_; have HO257 := n1_; have HO260 := n2_; have BK245 := n3_; have BK246 := n4_; have HB := n5_; have BK261 := n6_; have GW261 := n7_; have GE261 := n8_; have NB245_261 := n9_; have NB261_245 := n10_; have NB246_261 := n11_; have NB261_246 := n12_; clear n0_ n1_ n2_ n3_ n4_ n5_ n6_ n7_ n8_ n9_ n10_ n11_ n12_; clear hb hbox hg; obtain ⟨Ao38, co38, eo38⟩ := Kd.R_slice HO254.out; subst eo38; have hnb39 := NB261_245.out; have hnc39 := NB245_261.out; have hnb40 := NB261_246.out; have hnc40 := NB246_261.out; have hcz41_0 : w37.cell? ⟨gb261, 0, none⟩ = some (.slice none 0 0) := (blk_cell BK261.out 0).trans rfl; have hcz41_1 : w37.cell? ⟨gb261, 1, none⟩ = some (.slice none 0 0) := (blk_cell BK261.out 1).trans rfl; have hcz41_2 : w37.cell? ⟨gb261, 2, none⟩ = some (.slice none 0 0) := (blk_cell BK261.out 2).trans rfl; have hfz41_0 := blk_frozen BK261.out 0; have hfz41_1 := blk_frozen BK261.out 1; have hfz41_2 := blk_frozen BK261.out 2; obtain ⟨Ao42, co42, eo42⟩ := Kd.R_slice HO257.out; subst eo42; obtain ⟨Ao43, co43, eo43⟩ := Kd.R_slice HO260.out; subst eo43))
              have n0_ : Aside0 (Kd.R (Kd.int .i64) 3 (((w37.setCell ⟨gb261, 0, none⟩ (.slice Ao38 t252.length co38)).setCell ⟨gb261, 1, none⟩ (.slice Ao42 t255.length co42)).setCell ⟨gb261, 2, none⟩ (.slice Ao43 t258.length co43)) w.heap.size (fun k_ => some k_ ≠ (.slice Ao42 t255.length co42 : Value).ownBlock ∧ some k_ ≠ (.slice Ao43 t258.length co43 : Value).ownBlock) (.slice Ao38 t252.length co38) t252) := ⟨by (with_reducible repeat (first|apply rA|apply rN|apply rD)); exact Kd.R_mono (Kd.R_far (p := ⟨gb261, 2, none⟩) (Kd.R_far (p := ⟨gb261, 1, none⟩) (Kd.R_far (p := ⟨gb261, 0, none⟩) (Kd.R_types HO254.out BK261.out (by decide)) (fun _ hk => hk.2) (.slice Ao38 t252.length co38)) (fun _ hk => hk.2) (.slice Ao42 t255.length co42)) (fun _ hk => hk.2) (.slice Ao43 t258.length co43)) (fun _ hk => ⟨hk.1.1, hk.1.2⟩)⟩
              have n1_ : Aside0 (Kd.R (Kd.int .i64) 3 (((w37.setCell ⟨gb261, 0, none⟩ (.slice Ao38 t252.length co38)).setCell ⟨gb261, 1, none⟩ (.slice Ao42 t255.length co42)).setCell ⟨gb261, 2, none⟩ (.slice Ao43 t258.length co43)) w.heap.size (fun k_ => some k_ ≠ (.slice Ao38 t252.length co38 : Value).ownBlock ∧ some k_ ≠ (.slice Ao43 t258.length co43 : Value).ownBlock) (.slice Ao42 t255.length co42) t255) := ⟨by (with_reducible repeat (first|apply rA|apply rN|apply rD)); exact Kd.R_mono (Kd.R_far (p := ⟨gb261, 2, none⟩) (Kd.R_far (p := ⟨gb261, 1, none⟩) (Kd.R_far (p := ⟨gb261, 0, none⟩) (Kd.R_types HO257.out BK261.out (by decide)) (fun _ hk => hk.2) (.slice Ao38 t252.length co38)) (fun _ hk => hk.2) (.slice Ao42 t255.length co42)) (fun _ hk => hk.2) (.slice Ao43 t258.length co43)) (fun _ hk => ⟨hk.1.1, hk.1.2⟩)⟩
              have n2_ : Aside0 (Kd.R (Kd.int .i64) 3 (((w37.setCell ⟨gb261, 0, none⟩ (.slice Ao38 t252.length co38)).setCell ⟨gb261, 1, none⟩ (.slice Ao42 t255.length co42)).setCell ⟨gb261, 2, none⟩ (.slice Ao43 t258.length co43)) w.heap.size (fun k_ => some k_ ≠ (.slice Ao38 t252.length co38 : Value).ownBlock ∧ some k_ ≠ (.slice Ao42 t255.length co42 : Value).ownBlock) (.slice Ao43 t258.length co43) t258) := ⟨by (with_reducible repeat (first|apply rA|apply rN|apply rD)); exact Kd.R_mono (Kd.R_far (p := ⟨gb261, 2, none⟩) (Kd.R_far (p := ⟨gb261, 1, none⟩) (Kd.R_far (p := ⟨gb261, 0, none⟩) (Kd.R_types HO260.out BK261.out (by decide)) (fun _ hk => hk.2) (.slice Ao38 t252.length co38)) (fun _ hk => hk.2) (.slice Ao42 t255.length co42)) (fun _ hk => hk.2) (.slice Ao43 t258.length co43)) (fun _ hk => ⟨hk.1.1, hk.1.2⟩)⟩
              have n3_ : Aside0 ((((w37.setCell ⟨gb261, 0, none⟩ (.slice Ao38 t252.length co38)).setCell ⟨gb261, 1, none⟩ (.slice Ao42 t255.length co42)).setCell ⟨gb261, 2, none⟩ (.slice Ao43 t258.length co43)).heap[gb245]? = some (.cells #[.slice A0_0 l0_0.length c0_0, .slice (some ad248) l0_1.length c0_1, .slice (some ad249) l0_2.length c0_2] 27 (0, 0))) := ⟨by (with_reducible repeat (first|refine kN ?_ _|refine kD ?_|refine kA ?_ _)); refine blk_far ?_ NB245_261.out _; (with_reducible repeat (first|refine kN ?_ _|refine kD ?_|refine kA ?_ _)); refine blk_far ?_ NB245_261.out _; (with_reducible repeat (first|refine kN ?_ _|refine kD ?_|refine kA ?_ _)); refine blk_far ?_ NB245_261.out _; (with_reducible repeat (first|refine kN ?_ _|refine kD ?_|refine kA ?_ _)); exact BK245.out⟩
              have n4_ : Aside0 ((((w37.setCell ⟨gb261, 0, none⟩ (.slice Ao38 t252.length co38)).setCell ⟨gb261, 1, none⟩ (.slice Ao42 t255.length co42)).setCell ⟨gb261, 2, none⟩ (.slice Ao43 t258.length co43)).heap[gb246]? = some (.cells #[.slice none 0 0, .slice none 0 0, .slice none 0 0] 27 (0, 0))) := ⟨by (with_reducible repeat (first|refine kN ?_ _|refine kD ?_|refine kA ?_ _)); refine blk_far ?_ NB246_261.out _; (with_reducible repeat (first|refine kN ?_ _|refine kD ?_|refine kA ?_ _)); refine blk_far ?_ NB246_261.out _; (with_reducible repeat (first|refine kN ?_ _|refine kD ?_|refine kA ?_ _)); refine blk_far ?_ NB246_261.out _; (with_reducible repeat (first|refine kN ?_ _|refine kD ?_|refine kA ?_ _)); exact BK246.out⟩
              have n5_ : Aside0 ((((w37.setCell ⟨gb261, 0, none⟩ (.slice Ao38 t252.length co38)).setCell ⟨gb261, 1, none⟩ (.slice Ao42 t255.length co42)).setCell ⟨gb261, 2, none⟩ (.slice Ao43 t258.length co43)).heap[gb261]? = some (.cells #[.slice Ao38 t252.length co38, .slice Ao42 t255.length co42, .slice Ao43 t258.length co43] 27 (0, 0))) := ⟨by (with_reducible repeat (first|refine kN ?_ _|refine kD ?_|refine kA ?_ _)); refine blk_put (cs := #[.slice Ao38 t252.length co38, .slice Ao42 t255.length co42, .slice none 0 0]) ?_ 2 _ rfl; (with_reducible repeat (first|refine kN ?_ _|refine kD ?_|refine kA ?_ _)); refine blk_put (cs := #[.slice Ao38 t252.length co38, .slice none 0 0, .slice none 0 0]) ?_ 1 _ rfl; (with_reducible repeat (first|refine kN ?_ _|refine kD ?_|refine kA ?_ _)); refine blk_put (cs := #[.slice none 0 0, .slice none 0 0, .slice none 0 0]) ?_ 0 _ rfl; (with_reducible repeat (first|refine kN ?_ _|refine kD ?_|refine kA ?_ _)); exact BK261.out⟩
              have n6_ : Aside0 (Below w.heap.size w (((w37.setCell ⟨gb261, 0, none⟩ (.slice Ao38 t252.length co38)).setCell ⟨gb261, 1, none⟩ (.slice Ao42 t255.length co42)).setCell ⟨gb261, 2, none⟩ (.slice Ao43 t258.length co43))) := ⟨by repeat (first | (with_reducible first | exact HB.out|apply bA|apply bN|apply bD | refine below_set ?_ GE245.out | refine below_set ?_ GE246.out | refine below_set ?_ GE261.out) | exact HB.out)⟩
              (try clear HO254)
              (try clear HO257)
              (try clear HO260)
              (try clear BK245)
              (try clear BK246)
              (try clear BK261)
              (try clear HB)
              generalize (((w37.setCell ⟨gb261, 0, none⟩ (.slice Ao38 t252.length co38)).setCell ⟨gb261, 1, none⟩ (.slice Ao42 t255.length co42)).setCell ⟨gb261, 2, none⟩ (.slice Ao43 t258.length co43)) = w44 at n0_ n1_ n2_ n3_ n4_ n5_ n6_ ⊢
              have HO254 := n0_
              have HO257 := n1_
              have HO260 := n2_
              have BK245 := n3_
              have BK246 := n4_
              have BK261 := n5_
              have HB := n6_
              clear n0_ n1_ n2_ n3_ n4_ n5_ n6_
              have n0_ := Aside0.mk (Kd.R_drew HO254.out)
              have n1_ := Aside0.mk (Kd.R_drew HO257.out)
              have n2_ := Aside0.mk (Kd.R_drew HO260.out)
              have n3_ := Aside0.mk (blk_drew BK245.out)
              have n4_ := Aside0.mk (blk_drew BK246.out)
              have n5_ := Aside0.mk (blk_drew BK261.out)
              have n6_ := Aside0.mk (below_drew1 HB.out)
              clear HO254
              clear HO257
              clear HO260
              clear BK245
              clear BK246
              clear BK261
              clear HB
              have HO254 := n0_
              have HO257 := n1_
              have HO260 := n2_
              have BK245 := n3_
              have BK246 := n4_
              have BK261 := n5_
              have HB := n6_
              clear n0_ n1_ n2_ n3_ n4_ n5_ n6_
              have p262 : 0 ≤ ((rd l0_1 (ji4)) : Int) := of_decide_eq_true (by first | (with_reducible assumption) | assumption)
              have q262 : (rd l0_1 (ji4)) < (l0_0.length : Int) := of_decide_eq_true (by first | (with_reducible assumption) | assumption)
              obtain ⟨ad262, e262, hx262_0⟩ := Kd.at_int HR0_0.out (rd l0_1 (ji4)) p262 q262
              have hw262_0 := hx262_0
              cases e262
              replace hx262_0 := (HB.out.cell (World.block_lt_of_cell? w _ hx262_0)).trans hx262_0
              replace p262 := eq_true p262
              replace q262 := eq_true q262
              have p263 : 0 ≤ ((rd l0_2 (ji4)) : Int) := of_decide_eq_true (by first | (with_reducible assumption) | assumption)
              have q263 : (rd l0_2 (ji4)) < (l0_0.length : Int) := of_decide_eq_true (by first | (with_reducible assumption) | assumption)
              obtain ⟨ad263, e263, hx263_0⟩ := Kd.at_int HR0_0.out (rd l0_2 (ji4)) p263 q263
              have hw263_0 := hx263_0
              obtain rfl : ad262 = ad263 := (by injection e263)
              replace hx263_0 := (HB.out.cell (World.block_lt_of_cell? w _ hx263_0)).trans hx263_0
              replace p263 := eq_true p263
              replace q263 := eq_true q263
              refine start_ (n := 11) (S := fun w' => w'.cell? ⟨gb245, 0, none⟩ = some (.slice (some ad262) l0_0.length c0_0) ∧ w'.cell? ⟨gb245, 1, none⟩ = some (.slice (some ad248) l0_1.length c0_1) ∧ w'.cell? ⟨gb245, 2, none⟩ = some (.slice (some ad249) l0_2.length c0_2) ∧ w'.cell? (ad262.add ((rd l0_1 (ji4))).toNat) = some (.int .i64 (rd l0_0 (rd l0_1 (ji4)))) ∧ w'.cell? (ad262.add ((rd l0_2 (ji4))).toNat) = some (.int .i64 (rd l0_0 (rd l0_2 (ji4))))) (ds := []) #[ff,ff,ff,ff,ff,ff,ff,ff,ff,ff,ff] (by kernel_rfl) rfl rfl ⟨(blk_cell BK245.out 0).trans rfl, (blk_cell BK245.out 1).trans rfl, (blk_cell BK245.out 2).trans rfl, ((HB.out.cell (World.block_lt_of_cell? w _ hw262_0)).trans hw262_0), ((HB.out.cell (World.block_lt_of_cell? w _ hw263_0)).trans hw263_0)⟩ (fun hHeld => ?_); refine with_tabW impl_InduceOnce.tab9 impl_InduceOnce.bits9 (fun HT_ HW_ => ?_)
              generalize w44.drew = w45 at HO254 HO257 HO260 BK245 BK246 BK261 HB hx262_0 hx263_0 hHeld ⊢
              refine pure_ (i := 0) (N := some 46) (v := ?_) (a' := ?_) (fl 11 1) rfl rfl (any_of HT_.out (by kernel_rfl)) (fun _ _ _ h => h) (Or.inl ⟨by kernel_rfl, ?_⟩) ?_ ?_
              rotate_left
              ·intro w'
               go_simp
               with_reducible rfl
              rotate_left
              ·simp only [Act.put, zA, zB, zC, i64_w, i32_w]
               rfl
              refine pure_ (i := 2) (N := some 48) (v := ?_) (a' := ?_) (fl 11 5) rfl rfl (any_of HT_.out (by kernel_rfl)) (fun _ _ _ h => h) (Or.inl ⟨by kernel_rfl, ?_⟩) ?_ ?_
              rotate_left
              ·intro w'
               go_simp
               with_reducible rfl
              rotate_left
              ·simp only [Act.put, zA, zB, zC, i64_w, i32_w]
               rfl
              refine pure_ (i := 5) (N := some 51) (v := ?_) (a' := ?_) (fl 11 37) rfl rfl (any_of HT_.out (by kernel_rfl)) (fun _ _ _ h => h) (Or.inl ⟨by kernel_rfl, ?_⟩) ?_ ?_
              rotate_left
              ·intro w'
               go_simp
               with_reducible rfl
              rotate_left
              ·simp only [Act.put, zA, zB, zC, i64_w, i32_w]
               rfl
              refine pure_ (i := 7) (N := some 53) (v := ?_) (a' := ?_) (fl 11 165) rfl rfl (any_of HT_.out (by kernel_rfl)) (fun _ _ _ h => h) (Or.inl ⟨by kernel_rfl, ?_⟩) ?_ ?_
              rotate_left
              ·intro w'
               go_simp
               with_reducible rfl
              rotate_left
              ·simp only [Act.put, zA, zB, zC, i64_w, i32_w]
               rfl
              refine take_ (i := 1) (N := some 47) (v := ?_) (a' := ?_) (fl 11 167) rfl rfl (take_ofW HT_.out HW_.out (by kernel_rfl)) (fun _ _ _ h => h) (Or.inl ⟨by kernel_rfl, ?_⟩) hHeld ?_ ?_
              rotate_left
              ·rintro w' ⟨s0, s1, s2, s3, s4⟩
               go_simp
               with_reducible rfl
              rotate_left
              ·simp only [Act.put, zA, zB, zC, i64_w, i32_w]
               rfl
              refine pure_ (i := 3) (N := some 49) (v := ?_) (a' := ?_) (fl 11 175) rfl rfl (any_of HT_.out (by kernel_rfl)) (fun _ _ _ h => h) (Or.inl ⟨by kernel_rfl, ?_⟩) ?_ ?_
              rotate_left
              ·intro w'
               go_simp
               with_reducible rfl
              rotate_left
              ·simp only [Act.put, zA, zB, zC, i64_w, i32_w]
               rfl
              refine take_ (i := 4) (N := some 50) (v := ?_) (a' := ?_) (fl 11 191) rfl rfl (take_ofW HT_.out HW_.out (by kernel_rfl)) (fun _ _ _ h => h) (Or.inl ⟨by kernel_rfl, ?_⟩) hHeld ?_ ?_
              rotate_left
              ·rintro w' ⟨s0, s1, s2, s3, s4⟩
               go_simp
               with_reducible rfl
              rotate_left
              ·simp only [Act.put, zA, zB, zC, i64_w, i32_w]
               rfl
              refine take_ (i := 6) (N := some 52) (v := ?_) (a' := ?_) (fl 11 255) rfl rfl (take_ofW HT_.out HW_.out (by kernel_rfl)) (fun _ _ _ h => h) (Or.inl ⟨by kernel_rfl, ?_⟩) hHeld ?_ ?_
              rotate_left
              ·rintro w' ⟨s0, s1, s2, s3, s4⟩
               go_simp
               with_reducible rfl
              rotate_left
              ·simp only [Act.put, zA, zB, zC, i64_w, i32_w]
               rfl
              refine pure_ (i := 8) (N := some 54) (v := ?_) (a' := ?_) (fl 11 511) rfl rfl (any_of HT_.out (by kernel_rfl)) (fun _ _ _ h => h) (Or.inl ⟨by kernel_rfl, ?_⟩) ?_ ?_
              rotate_left
              ·intro w'
               go_simp
               with_reducible rfl
              rotate_left
              ·simp only [Act.put, zA, zB, zC, i64_w, i32_w]
               rfl
              refine take_ (i := 9) (N := some 55) (v := ?_) (a' := ?_) (fl 11 1023) rfl rfl (take_ofW HT_.out HW_.out (by kernel_rfl)) (fun _ _ _ h => h) (Or.inl ⟨by kernel_rfl, ?_⟩) hHeld ?_ ?_
              rotate_left
              ·rintro w' ⟨s0, s1, s2, s3, s4⟩
               go_simp
               with_reducible rfl
              rotate_left
              ·simp only [Act.put, zA, zB, zC, i64_w, i32_w]
               rfl
              refine pure_ (i := 10) (N := some 56) (v := ?_) (a' := ?_) (fl 11 2047) rfl rfl (any_of HT_.out (by kernel_rfl)) (fun _ _ _ h => h) (Or.inl ⟨by kernel_rfl, ?_⟩) ?_ ?_
              rotate_left
              ·intro w'
               go_simp
               with_reducible rfl
              rotate_left
              ·simp only [Act.put, zA, zB, zC, i64_w, i32_w]
               rfl
              refine done_ (done_of HT_.out (by kernel_rfl)) ?_
              try go_wp2
              have n0_ := Aside0.mk (Kd.R_drew HO254.out)
              have n1_ := Aside0.mk (Kd.R_drew HO257.out)
              have n2_ := Aside0.mk (Kd.R_drew HO260.out)
              have n3_ := Aside0.mk (blk_drew BK245.out)
              have n4_ := Aside0.mk (blk_drew BK246.out)
              have n5_ := Aside0.mk (blk_drew BK261.out)
              have n6_ := Aside0.mk (below_drew1 HB.out)
              clear HO254
              clear HO257
              clear HO260
              clear BK245
              clear BK246
              clear BK261
              clear HB
              have HO254 := n0_
              have HO257 := n1_
              have HO260 := n2_
              have BK245 := n3_
              have BK246 := n4_
              have BK261 := n5_
              have HB := n6_
              clear n0_ n1_ n2_ n3_ n4_ n5_ n6_
              have p264 : 0 ≤ ((rd l0_1 (ji4)) : Int) := of_decide_eq_true (by first | (with_reducible assumption) | assumption)
              have q264 : (rd l0_1 (ji4)) < (t252.length : Int) := of_decide_eq_true (by first | (with_reducible assumption) | assumption)
              obtain ⟨ad264, e264, hx264_0⟩ := Kd.at_int (Kd.R_reads' HO254.out).2.2 (rd l0_1 (ji4)) p264 q264
              cases e264
              replace p264 := eq_true p264
              replace q264 := eq_true q264
              have p265 : 0 ≤ ((rd l0_2 (ji4)) : Int) := of_decide_eq_true (by first | (with_reducible assumption) | assumption)
              have q265 : (rd l0_2 (ji4)) < (l0_0.length : Int) := of_decide_eq_true (by first | (with_reducible assumption) | assumption)
              obtain ⟨ad265, e265, hx265_0⟩ := Kd.at_int HR0_0.out (rd l0_2 (ji4)) p265 q265
              have hw265_0 := hx265_0
              obtain rfl : ad262 = ad265 := (by injection e265)
              replace hx265_0 := (HB.out.cell (World.block_lt_of_cell? w _ hx265_0)).trans hx265_0
              replace p265 := eq_true p265
              replace q265 := eq_true q265
              have p32 : 0 ≤ ((rd l0_1 (ji4)) : Int) := of_decide_eq_true (by first | (with_reducible assumption) | assumption)
              have q32 : ((rd l0_1 (ji4)) : Int) < ((t252.length : Int) : Int) := of_decide_eq_true (by first | (with_reducible assumption) | assumption)
              obtain ⟨go32, co32, eo32, gb32, gl32, cl32, HG32⟩ := Kd.R_form HO254.out (by omega)
              (first | cases eo32 | (injection eo32 with ea_ en_ ec_; (first | subst ea_ | (injection ea_ with ea_; subst ea_)); subst ec_; clear en_))
              have GB32 := Aside0.mk gb32
              have GG32 := Aside0.mk HG32
              clear gb32 gl32 HG32
              (first | simp only [add_plain] at hx264_0 | skip)
              obtain ⟨hx32_0, hf32_0⟩ := Kd.R_celln 0 HO254.out ((rd l0_1 (ji4)) : Int) p32 q32
              replace p32 := eq_true p32
              replace q32 := eq_true q32
              have HP47 := Kd.R_putn HO254.out ((rd l0_1 (ji4)) : Int) (wrap64 ((rd t252 (rd l0_1 (ji4))) - (rd l0_0 (rd l0_2 (ji4)))))
              rw [← Ny266.out] at HP47
              have HQ47 := Aside0.mk HP47
              clear HP47
              refine start_ (n := 13) (S := fun w' => w'.cell? ⟨gb261, 0, none⟩ = some (.slice (some ⟨go32, 0, none⟩) t252.length co38) ∧ w'.cell? ⟨gb261, 1, none⟩ = some (.slice Ao42 t255.length co42) ∧ w'.cell? ⟨gb261, 2, none⟩ = some (.slice Ao43 t258.length co43) ∧ w'.cell? ⟨gb245, 0, none⟩ = some (.slice (some ad262) l0_0.length c0_0) ∧ w'.cell? ⟨gb245, 1, none⟩ = some (.slice (some ad248) l0_1.length c0_1) ∧ w'.cell? ⟨gb245, 2, none⟩ = some (.slice (some ad249) l0_2.length c0_2) ∧ w'.cell? ⟨go32, ((rd l0_1 (ji4))).toNat, none⟩ = some (.int .i64 (rd t252 (rd l0_1 (ji4)))) ∧ w'.cell? (ad262.add ((rd l0_2 (ji4))).toNat) = some (.int .i64 (rd l0_0 (rd l0_2 (ji4))))) (ds := [12]) #[ff,ff,ff,ff,ff,ff,ff,ff,ff,ff,ff,ff,ff] (by kernel_rfl) rfl rfl ⟨(blk_cell BK261.out 0).trans rfl, (blk_cell BK261.out 1).trans rfl, (blk_cell BK261.out 2).trans rfl, (blk_cell BK245.out 0).trans rfl, (blk_cell BK245.out 1).trans rfl, (blk_cell BK245.out 2).trans rfl, hx264_0, ((HB.out.cell (World.block_lt_of_cell? w _ hw265_0)).trans hw265_0)⟩ (fun hHeld => ?_); refine with_tabW impl_InduceOnce.tab10 impl_InduceOnce.bits10 (fun HT_ HW_ => ?_)
              generalize w45.drew = w46 at HO254 HO257 HO260 BK245 BK246 BK261 HB GG32 HQ47 hf32_0 hx264_0 hx265_0 hx32_0 hHeld ⊢
              refine pure_ (i := 0) (N := some 57) (v := ?_) (a' := ?_) (fl 13 1) rfl rfl (any_of HT_.out (by kernel_rfl)) (fun _ _ _ h => h) (Or.inl ⟨by kernel_rfl, ?_⟩) ?_ ?_
              rotate_left
              ·intro w'
               go_simp
               with_reducible rfl
              rotate_left
              ·simp only [Act.put, zA, zB, zC, i64_w, i32_w]
               rfl
              refine pure_ (i := 2) (N := some 59) (v := ?_) (a' := ?_) (fl 13 5) rfl rfl (any_of HT_.out (by kernel_rfl)) (fun _ _ _ h => h) (Or.inl ⟨by kernel_rfl, ?_⟩) ?_ ?_
              rotate_left
              ·intro w'
               go_simp
               with_reducible rfl
              rotate_left
              ·simp only [Act.put, zA, zB, zC, i64_w, i32_w]
               rfl
              refine pure_ (i := 5) (N := some 62) (v := ?_) (a' := ?_) (fl 13 37) rfl rfl (any_of HT_.out (by kernel_rfl)) (fun _ _ _ h => h) (Or.inl ⟨by kernel_rfl, ?_⟩) ?_ ?_
              rotate_left
              ·intro w'
               go_simp
               with_reducible rfl
              rotate_left
              ·simp only [Act.put, zA, zB, zC, i64_w, i32_w]
               rfl
              refine pure_ (i := 7) (N := some 64) (v := ?_) (a' := ?_) (fl 13 165) rfl rfl (any_of HT_.out (by kernel_rfl)) (fun _ _ _ h => h) (Or.inl ⟨by kernel_rfl, ?_⟩) ?_ ?_
              rotate_left
              ·intro w'
               go_simp
               with_reducible rfl
              rotate_left
              ·simp only [Act.put, zA, zB, zC, i64_w, i32_w]
               rfl
              refine take_ (i := 1) (N := some 58) (v := ?_) (a' := ?_) (fl 13 167) rfl rfl (take_ofW HT_.out HW_.out (by kernel_rfl)) (fun _ _ _ h => h) (Or.inl ⟨by kernel_rfl, ?_⟩) hHeld ?_ ?_
              rotate_left
              ·rintro w' ⟨s0, s1, s2, s3, s4, s5, s6, s7⟩
               go_simp
               with_reducible rfl
              rotate_left
              ·simp only [Act.put, zA, zB, zC, i64_w, i32_w]
               rfl
              refine pure_ (i := 3) (N := some 60) (v := ?_) (a' := ?_) (fl 13 175) rfl rfl (any_of HT_.out (by kernel_rfl)) (fun _ _ _ h => h) (Or.inl ⟨by kernel_rfl, ?_⟩) ?_ ?_
              rotate_left
              ·intro w'
               go_simp
               with_reducible rfl
              rotate_left
              ·simp only [Act.put, zA, zB, zC, i64_w, i32_w]
               rfl
              refine take_ (i := 4) (N := some 61) (v := ?_) (a' := ?_) (fl 13 191) rfl rfl (take_ofW HT_.out HW_.out (by kernel_rfl)) (fun _ _ _ h => h) (Or.inl ⟨by kernel_rfl, ?_⟩) hHeld ?_ ?_
              rotate_left
              ·rintro w' ⟨s0, s1, s2, s3, s4, s5, s6, s7⟩
               go_simp
               with_reducible rfl
              rotate_left
              ·simp only [Act.put, zA, zB, zC, i64_w, i32_w]
               rfl
              refine take_ (i := 6) (N := some 63) (v := ?_) (a' := ?_) (fl 13 255) rfl rfl (take_ofW HT_.out HW_.out (by kernel_rfl)) (fun _ _ _ h => h) (Or.inl ⟨by kernel_rfl, ?_⟩) hHeld ?_ ?_
              rotate_left
              ·rintro w' ⟨s0, s1, s2, s3, s4, s5, s6, s7⟩
               go_simp
               with_reducible rfl
              rotate_left
              ·simp only [Act.put, zA, zB, zC, i64_w, i32_w]
               rfl
              refine pure_ (i := 8) (N := some 65) (v := ?_) (a' := ?_) (fl 13 511) rfl rfl (any_of HT_.out (by kernel_rfl)) (fun _ _ _ h => h) (Or.inl ⟨by kernel_rfl, ?_⟩) ?_ ?_
              rotate_left
              ·intro w'
               go_simp
               with_reducible rfl
              rotate_left
              ·simp only [Act.put, zA, zB, zC, i64_w, i32_w]
               rfl
              refine take_ (i := 9) (N := some 66) (v := ?_) (a' := ?_) (fl 13 1023) rfl rfl (take_ofW HT_.out HW_.out (by kernel_rfl)) (fun _ _ _ h => h) (Or.inl ⟨by kernel_rfl, ?_⟩) hHeld ?_ ?_
              rotate_left
              ·rintro w' ⟨s0, s1, s2, s3, s4, s5, s6, s7⟩
               go_simp
               with_reducible rfl
              rotate_left
              ·simp only [Act.put, zA, zB, zC, i64_w, i32_w]
               rfl
              refine pure_ (i := 10) (N := some 67) (v := ?_) (a' := ?_) (fl 13 2047) rfl rfl (any_of HT_.out (by kernel_rfl)) (fun _ _ _ h => h) (Or.inl ⟨by kernel_rfl, ?_⟩) ?_ ?_
              rotate_left
              ·intro w'
               go_simp
               with_reducible rfl
              rotate_left
              ·simp only [Act.put, zA, zB, zC, i64_w, i32_w]
               rfl
              refine pure_ (i := 11) (N := some 68) (v := ?_) (a' := ?_) (fl 13 4095) rfl rfl (any_of HT_.out (by kernel_rfl)) (fun _ _ _ h => h) (Or.inl ⟨by kernel_rfl, ?_⟩) ?_ ?_
              rotate_left
              ·intro w'
               go_simp
               with_reducible rfl
              rotate_left
              ·simp only [Act.put, zA, zB, zC, i64_w, i32_w]
               rfl
              refine last_ (i := 12) (N := none) #[tt,tt,tt,tt,tt,tt,tt,tt,tt,tt,tt,tt,tt] rfl rfl (one_of HT_.out (by kernel_rfl)) (by decide) (fun K hK => ?_)
              refine skip_ (w1 := ?_) (by rfl) rfl ?_ ?_
              rotate_left
              ·go_simp
               rfl
              refine hK.out _ _ ?_
              clear hK K
              refine done_ (done_of HT_.out (by kernel_rfl)) ?_
              have n0_ : Aside0 (Kd.R (Kd.int .i64) 3 (w46.setCell ⟨go32, ((rd l0_1 (ji4)) : Int).toNat, none⟩ (.int .i64 (wrap64 ((rd t252 (rd l0_1 (ji4))) - (rd l0_0 (rd l0_2 (ji4))))))) w.heap.size (fun k_ => some k_ ≠ (.slice Ao42 t255.length co42 : Value).ownBlock ∧ some k_ ≠ (.slice Ao43 t258.length co43 : Value).ownBlock) (.slice (some ⟨go32, 0, none⟩) t252.length co38) y266) := ⟨by (with_reducible repeat (first|apply rA|apply rN|apply rD)); exact HQ47.out⟩
              have n1_ : Aside0 (Kd.R (Kd.int .i64) 3 (w46.setCell ⟨go32, ((rd l0_1 (ji4)) : Int).toNat, none⟩ (.int .i64 (wrap64 ((rd t252 (rd l0_1 (ji4))) - (rd l0_0 (rd l0_2 (ji4))))))) w.heap.size (fun k_ => some k_ ≠ (.slice (some ⟨go32, 0, none⟩) t252.length co38 : Value).ownBlock ∧ some k_ ≠ (.slice Ao43 t258.length co43 : Value).ownBlock) (.slice Ao42 t255.length co42) t255) := ⟨by (with_reducible repeat (first|apply rA|apply rN|apply rD)); exact Kd.R_mono (Kd.R_far (p := ⟨go32, ((rd l0_1 (ji4)) : Int).toNat, none⟩) (Kd.R_mono HO257.out (fun k_ hk => (⟨hk, fun e_ => hk.1 (by rw [e_]; rfl)⟩ : _ ∧ k_ ≠ go32))) (fun _ hk => hk.2) (.int .i64 (wrap64 ((rd t252 (rd l0_1 (ji4))) - (rd l0_0 (rd l0_2 (ji4))))))) (fun _ hk => ⟨hk.1.1, hk.1.2⟩)⟩
              have n2_ : Aside0 (Kd.R (Kd.int .i64) 3 (w46.setCell ⟨go32, ((rd l0_1 (ji4)) : Int).toNat, none⟩ (.int .i64 (wrap64 ((rd t252 (rd l0_1 (ji4))) - (rd l0_0 (rd l0_2 (ji4))))))) w.heap.size (fun k_ => some k_ ≠ (.slice (some ⟨go32, 0, none⟩) t252.length co38 : Value).ownBlock ∧ some k_ ≠ (.slice Ao42 t255.length co42 : Value).ownBlock) (.slice Ao43 t258.length co43) t258) := ⟨by (with_reducible repeat (first|apply rA|apply rN|apply rD)); exact Kd.R_mono (Kd.R_far (p := ⟨go32, ((rd l0_1 (ji4)) : Int).toNat, none⟩) (Kd.R_mono HO260.out (fun k_ hk => (⟨hk, fun e_ => hk.1 (by rw [e_]; rfl)⟩ : _ ∧ k_ ≠ go32))) (fun _ hk => hk.2) (.int .i64 (wrap64 ((rd t252 (rd l0_1 (ji4))) - (rd l0_0 (rd l0_2 (ji4))))))) (fun _ hk => ⟨hk.1.1, hk.1.2⟩)⟩
              have n3_ : Aside0 ((w46.setCell ⟨go32, ((rd l0_1 (ji4)) : Int).toNat, none⟩ (.int .i64 (wrap64 ((rd t252 (rd l0_1 (ji4))) - (rd l0_0 (rd l0_2 (ji4))))))).heap[gb245]? = some (.cells #[.slice (some ad262) l0_0.length c0_0, .slice (some ad248) l0_1.length c0_1, .slice (some ad249) l0_2.length c0_2] 27 (0, 0))) := ⟨by (with_reducible repeat (first|refine kN ?_ _|refine kD ?_|refine kA ?_ _)); refine blk_far ?_ (by have h_ := Kd.R_ne HO254.out BK245.out (by decide); intro e_; exact h_ (by rw [e_]; rfl)) _; (with_reducible repeat (first|refine kN ?_ _|refine kD ?_|refine kA ?_ _)); exact BK245.out⟩
              have n4_ : Aside0 ((w46.setCell ⟨go32, ((rd l0_1 (ji4)) : Int).toNat, none⟩ (.int .i64 (wrap64 ((rd t252 (rd l0_1 (ji4))) - (rd l0_0 (rd l0_2 (ji4))))))).heap[gb246]? = some (.cells #[.slice none 0 0, .slice none 0 0, .slice none 0 0] 27 (0, 0))) := ⟨by (with_reducible repeat (first|refine kN ?_ _|refine kD ?_|refine kA ?_ _)); refine blk_far ?_ (by have h_ := Kd.R_ne HO254.out BK246.out (by decide); intro e_; exact h_ (by rw [e_]; rfl)) _; (with_reducible repeat (first|refine kN ?_ _|refine kD ?_|refine kA ?_ _)); exact BK246.out⟩
              have n5_ : Aside0 ((w46.setCell ⟨go32, ((rd l0_1 (ji4)) : Int).toNat, none⟩ (.int .i64 (wrap64 ((rd t252 (rd l0_1 (ji4))) - (rd l0_0 (rd l0_2 (ji4))))))).heap[gb261]? = some (.cells #[.slice (some ⟨go32, 0, none⟩) t252.length co38, .slice Ao42 t255.length co42, .slice Ao43 t258.length co43] 27 (0, 0))) := ⟨by (with_reducible repeat (first|refine kN ?_ _|refine kD ?_|refine kA ?_ _)); refine blk_far ?_ (by have h_ := Kd.R_ne HO254.out BK261.out (by decide); intro e_; exact h_ (by rw [e_]; rfl)) _; (with_reducible repeat (first|refine kN ?_ _|refine kD ?_|refine kA ?_ _)); exact BK261.out⟩
              have n6_ : Aside0 (Below w.heap.size w (w46.setCell ⟨go32, ((rd l0_1 (ji4)) : Int).toNat, none⟩ (.int .i64 (wrap64 ((rd t252 (rd l0_1 (ji4))) - (rd l0_0 (rd l0_2 (ji4)))))))) := ⟨by repeat (first | (with_reducible first | exact HB.out|apply bA|apply bN|apply bD | refine below_set ?_ GB32.out | refine below_set ?_ GE245.out | refine below_set ?_ GE246.out | refine below_set ?_ GE261.out) | exact HB.out)⟩
              (try clear HO254)
              (try clear HO257)
              (try clear HO260)
              (try clear BK245)
              (try clear BK246)
              (try clear BK261)
              (try clear HB)
              generalize (w46.setCell ⟨go32, ((rd l0_1 (ji4)) : Int).toNat, none⟩ (.int .i64 (wrap64 ((rd t252 (rd l0_1 (ji4))) - (rd l0_0 (rd l0_2 (ji4))))))) = w48 at n0_ n1_ n2_ n3_ n4_ n5_ n6_ ⊢
              have HO254 := n0_
              have HO257 := n1_
              have HO260 := n2_
              have BK245 := n3_
              have BK246 := n4_
              have BK261 := n5_
              have HB := n6_
              clear n0_ n1_ n2_ n3_ n4_ n5_ n6_
              have hcz49_0 : w48.cell? ⟨gb245, 0, none⟩ = some (.slice (some ad262) l0_0.length c0_0) := (blk_cell BK245.out 0).trans rfl
              have hcz49_1 : w48.cell? ⟨gb245, 1, none⟩ = some (.slice (some ad248) l0_1.length c0_1) := (blk_cell BK245.out 1).trans rfl
              have hcz49_2 : w48.cell? ⟨gb245, 2, none⟩ = some (.slice (some ad249) l0_2.length c0_2) := (blk_cell BK245.out 2).trans rfl
              have hfz49_0 := blk_frozen BK245.out 0
              have hfz49_1 := blk_frozen BK245.out 1
              have hfz49_2 := blk_frozen BK245.out 2
              try go_wp2_with (first | ((with_reducible refine gate_callee (f := 49) rfl ?_); refine goesL_ (some 72) rfl rfl Tryd.func49 (by kernel_rfl) rfl #[.slice (some ad249) l0_2.length c0_2, .int .i64 (rd l0_1 (ji4))] rfl (by (try simp only [List.map_toArray, List.map_cons, List.map_nil]); first | done | (simp only [hji4]; rfl) | rfl | (simp only [List.length_drop, List.length_take]; rfl)) ?_; (with_reducible refine (impl_putBehind.calls kj7 _ _ l0_2 (rd l0_1 (ji4)) t267 _ ?side1 ?side2 A33.out).mono ?_); (case side1 => repeat (first | exact (Kd.C_below HR0_2.out HB.out) | (with_reducible refine Kd.C_alloc ?_ _) | (with_reducible refine Kd.C_drewN ?_ _) | (with_reducible refine Kd.C_drew ?_))); (case side2 => exact HC0_2.out); rintro e w50 ⟨v268, rfl, ho0, hb⟩; refine ⟨_, rfl, ?_⟩; have n0_ := Aside0.mk (Kd.R_elder' (by (with_reducible repeat (first|apply rA|apply rN|apply rD)); exact HO254.out) (Kd.R_base ho0) hb); have n1_ := Aside0.mk (Kd.R_elder' (by (with_reducible repeat (first|apply rA|apply rN|apply rD)); exact HO257.out) (Kd.R_base ho0) hb); have n2_ := Aside0.mk (Kd.R_elder' (by (with_reducible repeat (first|apply rA|apply rN|apply rD)); exact HO260.out) (Kd.R_base ho0) hb); have n3_ := Aside0.mk (Kd.R_lower (Kd.R_new' (Kd.R_new' (Kd.R_new' ho0 (Kd.R_lt (by (with_reducible repeat (first|apply rA|apply rN|apply rD)); exact HO254.out))) (Kd.R_lt (by (with_reducible repeat (first|apply rA|apply rN|apply rD)); exact HO257.out))) (Kd.R_lt (by (with_reducible repeat (first|apply rA|apply rN|apply rD)); exact HO260.out))) (below_size (by repeat (first | (with_reducible first | exact HB.out|apply bA|apply bN|apply bD | refine below_set ?_ GE245.out | refine below_set ?_ GE246.out | refine below_set ?_ GE261.out) | exact HB.out)))); have n4_ := Aside0.mk (blk_below (g := gb245) (o := .cells #[.slice (some ad262) l0_0.length c0_0, .slice (some ad248) l0_1.length c0_1, .slice (some ad249) l0_2.length c0_2] 27 (0, 0)) (by (with_reducible repeat (first|refine kN ?_ _|refine kD ?_|refine kA ?_ _)); exact BK245.out) hb); have n5_ := Aside0.mk (blk_below (g := gb246) (o := .cells #[.slice none 0 0, .slice none 0 0, .slice none 0 0] 27 (0, 0)) (by (with_reducible repeat (first|refine kN ?_ _|refine kD ?_|refine kA ?_ _)); exact BK246.out) hb); have n6_ := Aside0.mk (blk_below (g := gb261) (o := .cells #[.slice (some ⟨go32, 0, none⟩) t252.length co38, .slice Ao42 t255.length co42, .slice Ao43 t258.length co43] 27 (0, 0)) (by (with_reducible repeat (first|refine kN ?_ _|refine kD ?_|refine kA ?_ _)); exact BK261.out) hb); have n7_ := Aside0.mk (below_step (by repeat (first | (with_reducible first | exact HB.out|apply bA|apply bN|apply bD | refine below_set ?_ GE245.out | refine below_set ?_ GE246.out | refine below_set ?_ GE261.out) | exact HB.out)) hb); clear HO254; clear HO257; clear HO260; clear BK245; clear BK246; clear BK261; clear HB; have HO254 := n0_; have HO257 := n1_; have HO260 := n2_; have HO269 := n3_; have BK245 := n4_; have BK246 := n5_; have BK261 := n6_; have HB := n7_; clear n0_ n1_ n2_ n3_ n4_ n5_ n6_ n7_; (try clear hb); (try clear hb2); (try clear hk); (try clear hi); (try clear ho0); obtain ⟨Ao51, co51, eo51⟩ := Kd.R_slice HO269.out; subst eo51; have hcz52_0 : w50.cell? ⟨gb261, 0, none⟩ = some (.slice (some ⟨go32, 0, none⟩) t252.length co38) := (blk_cell BK261.out 0).trans rfl; have hcz52_1 : w50.cell? ⟨gb261, 1, none⟩ = some (.slice Ao42 t255.length co42) := (blk_cell BK261.out 1).trans rfl; have hcz52_2 : w50.cell? ⟨gb261, 2, none⟩ = some (.slice Ao43 t258.length co43) := (blk_cell BK261.out 2).trans rfl; have hfz52_0 := blk_frozen BK261.out 0; have hfz52_1 := blk_frozen BK261.out 1; have hfz52_2 := blk_frozen BK261.out 2; have hcz53_0 : w50.cell? ⟨gb246, 0, none⟩ = some (.slice none 0 0) := (blk_cell BK246.out 0).trans rfl; have hcz53_1 : w50.cell? ⟨gb246, 1, none⟩ = some (.slice none 0 0) := (blk_cell BK246.out 1).trans rfl; have hcz53_2 : w50.cell? ⟨gb246, 2, none⟩ = some (.slice none 0 0) := (blk_cell BK246.out 2).trans rfl; have hfz53_0 := blk_frozen BK246.out 0; have hfz53_1 := blk_frozen BK246.out 1; have hfz53_2 := blk_frozen BK246.out 2))
              refine bodyPost_ret (results_ct rfl _ _ gb246 27 #[.slice (some ⟨go32, 0, none⟩) t252.length co38, .slice Ao42 t255.length co42, .slice Ao51 t267.length co51] (0, 0) _ rfl (by (with_reducible repeat (first|refine kN ?_ _|refine kD ?_|refine kA ?_ _)); refine blk_put (cs := #[.slice (some ⟨go32, 0, none⟩) t252.length co38, .slice Ao42 t255.length co42, .slice none 0 0]) ?_ 2 _ rfl; (with_reducible repeat (first|refine kN ?_ _|refine kD ?_|refine kA ?_ _)); refine blk_put (cs := #[.slice (some ⟨go32, 0, none⟩) t252.length co38, .slice none 0 0, .slice none 0 0]) ?_ 1 _ rfl; (with_reducible repeat (first|refine kN ?_ _|refine kD ?_|refine kA ?_ _)); refine blk_put (cs := #[.slice none 0 0, .slice none 0 0, .slice none 0 0]) ?_ 0 _ rfl; (with_reducible repeat (first|refine kN ?_ _|refine kD ?_|refine kA ?_ _)); refine blk_far ?_ NB246_261.out _; (with_reducible repeat (first|refine kN ?_ _|refine kD ?_|refine kA ?_ _)); exact BK246.out) Tryd.underlying27 rfl (by kernel_rfl)) rfl ?_
              exact ⟨_, _, _, by first | rfl | (simp [errW_none, errW_some] <;> rfl) | (simp only [← hji4]; first | rfl | (simp [errW_none, errW_some] <;> rfl)) | (simp [*, errW_none, errW_some] <;> rfl), by (with_reducible repeat (first|apply rA|apply rN|apply rD)); exact Kd.R_mono (Kd.R_far (p := ⟨gb246, 2, none⟩) (Kd.R_far (p := ⟨gb246, 1, none⟩) (Kd.R_far (p := ⟨gb246, 0, none⟩) (Kd.R_far (p := ⟨gb261, 2, none⟩) (Kd.R_types (Kd.R_types HO254.out BK261.out (by decide)) BK246.out (by decide)) (fun _ hk => hk.1.2) (.slice Ao51 t267.length co51)) (fun _ hk => hk.2) (.slice (some ⟨go32, 0, none⟩) t252.length co38)) (fun _ hk => hk.2) (.slice Ao42 t255.length co42)) (fun _ hk => hk.2) (.slice Ao51 t267.length co51)) (fun _ hk => ⟨hk.1.1.1.1, hk.1.1.2⟩), by (with_reducible repeat (first|apply rA|apply rN|apply rD)); exact Kd.R_mono (Kd.R_far (p := ⟨gb246, 2, none⟩) (Kd.R_far (p := ⟨gb246, 1, none⟩) (Kd.R_far (p := ⟨gb246, 0, none⟩) (Kd.R_far (p := ⟨gb261, 2, none⟩) (Kd.R_types (Kd.R_types HO257.out BK261.out (by decide)) BK246.out (by decide)) (fun _ hk => hk.1.2) (.slice Ao51 t267.length co51)) (fun _ hk => hk.2) (.slice (some ⟨go32, 0, none⟩) t252.length co38)) (fun _ hk => hk.2) (.slice Ao42 t255.length co42)) (fun _ hk => hk.2) (.slice Ao51 t267.length co51)) (fun _ hk => ⟨hk.1.1.1.1, hk.1.1.2⟩), by (with_reducible repeat (first|apply rA|apply rN|apply rD)); exact Kd.R_mono (Kd.R_far (p := ⟨gb246, 2, none⟩) (Kd.R_far (p := ⟨gb246, 1, none⟩) (Kd.R_far (p := ⟨gb246, 0, none⟩) (Kd.R_far (p := ⟨gb261, 2, none⟩) (Kd.R_types (Kd.R_types HO269.out BK261.out (by decide)) BK246.out (by decide)) (fun _ hk => hk.1.2) (.slice Ao51 t267.length co51)) (fun _ hk => hk.2) (.slice (some ⟨go32, 0, none⟩) t252.length co38)) (fun _ hk => hk.2) (.slice Ao42 t255.length co42)) (fun _ hk => hk.2) (.slice Ao51 t267.length co51)) (fun _ hk => ⟨hk.1.1.1.1.2, hk.1.1.1.2⟩), by repeat (first | (with_reducible first | exact HB.out|apply bA|apply bN|apply bD | refine below_set ?_ GE245.out | refine below_set ?_ GE246.out | refine below_set ?_ GE261.out) | exact HB.out)⟩
             ·rw [if_neg c31] at H
              exact absurd H (by simp)
            ·rw [if_neg c30] at H
             have c30b0 : decide ((rd l0_0 (rd l0_2 (ji4))) < (rd l0_0 (rd l0_1 (ji4)))) = false := decide_eq_false c30
             clear c30
             by_cases c54 : (rd l0_2 (ji4)) < (t252.length : Int)
             ·rw [if_pos c54] at H
              have c54b0 : decide ((rd l0_2 (ji4)) < (t252.length : Int)) = true := decide_eq_true c54
              clear c54
              obtain ⟨y272, hy272⟩ : ∃ y_ : List Int, y_ = (t252.set ((rd l0_2 (ji4)) : Int).toNat (wrap64 ((rd t252 (rd l0_2 (ji4))) - (rd l0_0 (rd l0_1 (ji4)))))) := ⟨_, rfl⟩
              replace H : ((impl_putBehind.f kj7 l0_1 (rd l0_2 (ji4))).bind fun t273 => (some (y272, t273, t258, true))) = some (r1, r2, r3, r4) := by first | (rw [hy272]; with_reducible exact H) | (have H2_ := (Option.bind_some _ _).symm.trans H; rw [hy272]; with_reducible exact H2_) | (have H2_ := (Option.bind_some _ _).symm.trans H; with_reducible exact H2_) | with_reducible exact H | (rw [hy272]; exact H) | exact H
              have Ny272 := Aside0.mk hy272
              clear hy272
              replace H := Option.bind_eq_some_iff.mp H
              obtain ⟨t273, A560, H⟩ := H
              replace H : (some (y272, t273, t258, true)) = some (r1, r2, r3, r4) := H
              have A56 := Aside0.mk A560
              clear A560
              simp only [Option.some.injEq, Prod.mk.injEq] at H
              obtain ⟨rfl, rfl, rfl, rfl⟩ := H
              have hnb57 := NB245_246.out
              have hnc57 := NB246_245.out
              have hcz58_0 : wc.cell? ⟨gb245, 0, none⟩ = some (.slice A0_0 l0_0.length c0_0) := (blk_cell BK245.out 0).trans rfl
              have hcz58_1 : wc.cell? ⟨gb245, 1, none⟩ = some (.slice (some ad248) l0_1.length c0_1) := (blk_cell BK245.out 1).trans rfl
              have hcz58_2 : wc.cell? ⟨gb245, 2, none⟩ = some (.slice (some ad249) l0_2.length c0_2) := (blk_cell BK245.out 2).trans rfl
              have hfz58_0 := blk_frozen BK245.out 0
              have hfz58_1 := blk_frozen BK245.out 1
              have hfz58_2 := blk_frozen BK245.out 2
              try go_wp2_with (first | ((with_reducible refine gate_callee (f := 48) rfl ?_); refine goesL_ (some 45) rfl rfl Tryd.func48 (by kernel_rfl) rfl #[.agg #[.slice A0_0 l0_0.length c0_0, .slice (some ad248) l0_1.length c0_1, .slice (some ad249) l0_2.length c0_2]] rfl (by (try simp only [zE,zF,zG]); first|done|rfl|(simp only [zH,zI]; rfl)) ?_; (with_reducible refine (impl_copyExchange.calls _ _ l0_0 _ _ l0_1 _ _ l0_2 t252 t255 t258 _ ?side1 ?side2 ?side3 ?side4 ?side5 ?side6 A25.out).mono ?_); (case side1 => repeat (first | exact (Kd.C_below HR0_0.out HB.out) | (with_reducible refine Kd.C_alloc ?_ _) | (with_reducible refine Kd.C_drewN ?_ _) | (with_reducible refine Kd.C_drew ?_))); (case side2 => exact HC0_0.out); (case side3 => repeat (first | exact (Kd.C_below HR0_1.out HB.out) | (with_reducible refine Kd.C_alloc ?_ _) | (with_reducible refine Kd.C_drewN ?_ _) | (with_reducible refine Kd.C_drew ?_))); (case side4 => exact HC0_1.out); (case side5 => repeat (first | exact (Kd.C_below HR0_2.out HB.out) | (with_reducible refine Kd.C_alloc ?_ _) | (with_reducible refine Kd.C_drewN ?_ _) | (with_reducible refine Kd.C_drew ?_))); (case side6 => exact HC0_2.out); rintro e w59 ⟨v253, v256, v259, rfl, ho0, ho1, ho2, hb⟩; refine ⟨_, rfl, ?_⟩; have n0_ := Aside0.mk (Kd.R_lower ho0 (below_size (by repeat (first | (with_reducible first | exact HB.out|apply bA|apply bN|apply bD | refine below_set ?_ GE245.out | refine below_set ?_ GE246.out) | exact HB.out)))); have n1_ := Aside0.mk (Kd.R_lower ho1 (below_size (by repeat (first | (with_reducible first | exact HB.out|apply bA|apply bN|apply bD | refine below_set ?_ GE245.out | refine below_set ?_ GE246.out) | exact HB.out)))); have n2_ := Aside0.mk (Kd.R_lower ho2 (below_size (by repeat (first | (with_reducible first | exact HB.out|apply bA|apply bN|apply bD | refine below_set ?_ GE245.out | refine below_set ?_ GE246.out) | exact HB.out)))); have n3_ := Aside0.mk (blk_below (g := gb245) (o := .cells #[.slice A0_0 l0_0.length c0_0, .slice (some ad248) l0_1.length c0_1, .slice (some ad249) l0_2.length c0_2] 27 (0, 0)) (by (with_reducible repeat (first|refine kN ?_ _|refine kD ?_|refine kA ?_ _)); exact BK245.out) hb); have n4_ := Aside0.mk (blk_below (g := gb246) (o := .cells #[.slice none 0 0, .slice none 0 0, .slice none 0 0] 27 (0, 0)) (by (with_reducible repeat (first|refine kN ?_ _|refine kD ?_|refine kA ?_ _)); exact BK246.out) hb); have n5_ := Aside0.mk (below_step (by repeat (first | (with_reducible first | exact HB.out|apply bA|apply bN|apply bD | refine below_set ?_ GE245.out | refine below_set ?_ GE246.out) | exact HB.out)) hb); clear BK245; clear BK246; clear HB; have HO254 := n0_; have HO257 := n1_; have HO260 := n2_; have BK245 := n3_; have BK246 := n4_; have HB := n5_; clear n0_ n1_ n2_ n3_ n4_ n5_; (try clear hb); (try clear hb2); (try clear hk); (try clear hi); (try clear ho0); (try clear ho1); (try clear ho2)) | ((with_reducible refine gate_dst (N := 7) rfl ?_); refine box_event ?hg (N := 7) ?hd (cs := #[.slice none 0 0, .slice none 0 0, .slice none 0 0]) (t := 27) ?hr ?_; (case hd => rfl); (case hg => rfl); (case hr => first | (go_simp; done) | (go_simp; rfl)); intro gb261 hg w60 hbox hb; have n0_ := Aside0.mk (Kd.R_below (by (with_reducible repeat (first|apply rA|apply rN|apply rD)); exact HO254.out) hb); have n1_ := Aside0.mk (Kd.R_below (by (with_reducible repeat (first|apply rA|apply rN|apply rD)); exact HO257.out) hb); have n2_ := Aside0.mk (Kd.R_below (by (with_reducible repeat (first|apply rA|apply rN|apply rD)); exact HO260.out) hb); have n3_ := Aside0.mk (blk_below (g := gb245) (o := .cells #[.slice A0_0 l0_0.length c0_0, .slice (some ad248) l0_1.length c0_1, .slice (some ad249) l0_2.length c0_2] 27 (0, 0)) (by (with_reducible repeat (first|refine kN ?_ _|refine kD ?_|refine kA ?_ _)); exact BK245.out) hb); have n4_ := Aside0.mk (blk_below (g := gb246) (o := .cells #[.slice none 0 0, .slice none 0 0, .slice none 0 0] 27 (0, 0)) (by (with_reducible repeat (first|refine kN ?_ _|refine kD ?_|refine kA ?_ _)); exact BK246.out) hb); have n5_ := Aside0.mk (below_step (by repeat (first | (with_reducible first | exact HB.out|apply bA|apply bN|apply bD | refine below_set ?_ GE245.out | refine below_set ?_ GE246.out) | exact HB.out)) hb); have n6_ := Aside0.mk (hbox); have n7_ := Aside0.mk ((by rw [hg]; exact (below_size (by repeat (first | (with_reducible first | exact HB.out|apply bA|apply bN|apply bD | refine below_set ?_ GE245.out | refine below_set ?_ GE246.out) | exact HB.out))) : w.heap.size ≤ gb261)); have n8_ := Aside0.mk ((by rw [hg]; exact (below_size (by repeat (first | (with_reducible first | exact HB.out|apply bA|apply bN|apply bD | refine below_set ?_ GE245.out | refine below_set ?_ GE246.out) | exact HB.out))) : w.heap.size ≤ gb261)); have n9_ := Aside0.mk ((by rw [hg]; exact Nat.ne_of_lt (blk_lt (g := gb245) (o := .cells #[.slice A0_0 l0_0.length c0_0, .slice (some ad248) l0_1.length c0_1, .slice (some ad249) l0_2.length c0_2] 27 (0, 0)) (by (with_reducible repeat (first|refine kN ?_ _|refine kD ?_|refine kA ?_ _)); exact BK245.out)) : gb245 ≠ gb261)); have n10_ := Aside0.mk ((by rw [hg]; exact Nat.ne_of_gt (blk_lt (g := gb245) (o := .cells #[.slice A0_0 l0_0.length c0_0, .slice (some ad248) l0_1.length c0_1, .slice (some ad249) l0_2.length c0_2] 27 (0, 0)) (by (with_reducible repeat (first|refine kN ?_ _|refine kD ?_|refine kA ?_ _)); exact BK245.out)) : gb261 ≠ gb245)); have n11_ := Aside0.mk ((by rw [hg]; exact Nat.ne_of_lt (blk_lt (g := gb246) (o := .cells #[.slice none 0 0, .slice none 0 0, .slice none 0 0] 27 (0, 0)) (by (with_reducible repeat (first|refine kN ?_ _|refine kD ?_|refine kA ?_ _)); exact BK246.out)) : gb246 ≠ gb261)); have n12_ := Aside0.mk ((by rw [hg]; exact Nat.ne_of_gt (blk_lt (g := gb246) (o := .cells #[.slice none 0 0, .slice none 0 0, .slice none 0 0] 27 (0, 0)) (by (with_reducible repeat (first|refine kN ?_ _|refine kD ?_|refine kA ?_ _)); exact BK246.out)) : gb261 ≠ gb246)); clear HO254; clear HO257; clear HO260; clear BK245; clear BK246; clear HB; have HO254 := n0_; have HO257 := n1_; have HO260 := n2_; have BK245 := n3_; have BK246 := n4_; have HB := n5_; have BK261 := n6_; have GW261 := n7_; have GE261 := n8_; have NB245_261 := n9_; have NB261_245 := n10_; have NB246_261 := n11_; have NB261_246 := n12_; clear n0_ n1_ n2_ n3_ n4_ n5_ n6_ n7_ n8_ n9_ n10_ n11_ n12_; clear hb hbox hg; obtain ⟨Ao61, co61, eo61⟩ := Kd.R_slice HO254.out; subst eo61; have hnb62 := NB261_245.out; have hnc62 := NB245_261.out; have hnb63 := NB261_246.out; have hnc63 := NB246_261.out; have hcz64_0 : w60.cell? ⟨gb261, 0, none⟩ = some (.slice none 0 0) := (blk_cell BK261.out 0).trans rfl; have hcz64_1 : w60.cell? ⟨gb261, 1, none⟩ = some (.slice none 0 0) := (blk_cell BK261.out 1).trans rfl; have hcz64_2 : w60.cell? ⟨gb261, 2, none⟩ = some (.slice none 0 0) := (blk_cell BK261.out 2).trans rfl; have hfz64_0 := blk_frozen BK261.out 0; have hfz64_1 := blk_frozen BK261.out 1; have hfz64_2 := blk_frozen BK261.out 2; obtain ⟨Ao65, co65, eo65⟩ := Kd.R_slice HO257.out; subst eo65; obtain ⟨Ao66, co66, eo66⟩ := Kd.R_slice HO260.out; subst eo66))
              have n0_ : Aside0 (Kd.R (Kd.int .i64) 3 (((w60.setCell ⟨gb261, 0, none⟩ (.slice Ao61 t252.length co61)).setCell ⟨gb261, 1, none⟩ (.slice Ao65 t255.length co65)).setCell ⟨gb261, 2, none⟩ (.slice Ao66 t258.length co66)) w.heap.size (fun k_ => some k_ ≠ (.slice Ao65 t255.length co65 : Value).ownBlock ∧ some k_ ≠ (.slice Ao66 t258.length co66 : Value).ownBlock) (.slice Ao61 t252.length co61) t252) := ⟨by (with_reducible repeat (first|apply rA|apply rN|apply rD)); exact Kd.R_mono (Kd.R_far (p := ⟨gb261, 2, none⟩) (Kd.R_far (p := ⟨gb261, 1, none⟩) (Kd.R_far (p := ⟨gb261, 0, none⟩) (Kd.R_types HO254.out BK261.out (by decide)) (fun _ hk => hk.2) (.slice Ao61 t252.length co61)) (fun _ hk => hk.2) (.slice Ao65 t255.length co65)) (fun _ hk => hk.2) (.slice Ao66 t258.length co66)) (fun _ hk => ⟨hk.1.1, hk.1.2⟩)⟩
              have n1_ : Aside0 (Kd.R (Kd.int .i64) 3 (((w60.setCell ⟨gb261, 0, none⟩ (.slice Ao61 t252.length co61)).setCell ⟨gb261, 1, none⟩ (.slice Ao65 t255.length co65)).setCell ⟨gb261, 2, none⟩ (.slice Ao66 t258.length co66)) w.heap.size (fun k_ => some k_ ≠ (.slice Ao61 t252.length co61 : Value).ownBlock ∧ some k_ ≠ (.slice Ao66 t258.length co66 : Value).ownBlock) (.slice Ao65 t255.length co65) t255) := ⟨by (with_reducible repeat (first|apply rA|apply rN|apply rD)); exact Kd.R_mono (Kd.R_far (p := ⟨gb261, 2, none⟩) (Kd.R_far (p := ⟨gb261, 1, none⟩) (Kd.R_far (p := ⟨gb261, 0, none⟩) (Kd.R_types HO257.out BK261.out (by decide)) (fun _ hk => hk.2) (.slice Ao61 t252.length co61)) (fun _ hk => hk.2) (.slice Ao65 t255.length co65)) (fun _ hk => hk.2) (.slice Ao66 t258.length co66)) (fun _ hk => ⟨hk.1.1, hk.1.2⟩)⟩
              have n2_ : Aside0 (Kd.R (Kd.int .i64) 3 (((w60.setCell ⟨gb261, 0, none⟩ (.slice Ao61 t252.length co61)).setCell ⟨gb261, 1, none⟩ (.slice Ao65 t255.length co65)).setCell ⟨gb261, 2, none⟩ (.slice Ao66 t258.length co66)) w.heap.size (fun k_ => some k_ ≠ (.slice Ao61 t252.length co61 : Value).ownBlock ∧ some k_ ≠ (.slice Ao65 t255.length co65 : Value).ownBlock) (.slice Ao66 t258.length co66) t258) := ⟨by (with_reducible repeat (first|apply rA|apply rN|apply rD)); exact Kd.R_mono (Kd.R_far (p := ⟨gb261, 2, none⟩) (Kd.R_far (p := ⟨gb261, 1, none⟩) (Kd.R_far (p := ⟨gb261, 0, none⟩) (Kd.R_types HO260.out BK261.out (by decide)) (fun _ hk => hk.2) (.slice Ao61 t252.length co61)) (fun _ hk => hk.2) (.slice Ao65 t255.length co65)) (fun _ hk => hk.2) (.slice Ao66 t258.length co66)) (fun _ hk => ⟨hk.1.1, hk.1.2⟩)⟩
              have n3_ : Aside0 ((((w60.setCell ⟨gb261, 0, none⟩ (.slice Ao61 t252.length co61)).setCell ⟨gb261, 1, none⟩ (.slice Ao65 t255.length co65)).setCell ⟨gb261, 2, none⟩ (.slice Ao66 t258.length co66)).heap[gb245]? = some (.cells #[.slice A0_0 l0_0.length c0_0, .slice (some ad248) l0_1.length c0_1, .slice (some ad249) l0_2.length c0_2] 27 (0, 0))) := ⟨by (with_reducible repeat (first|refine kN ?_ _|refine kD ?_|refine kA ?_ _)); refine blk_far ?_ NB245_261.out _; (with_reducible repeat (first|refine kN ?_ _|refine kD ?_|refine kA ?_ _)); refine blk_far ?_ NB245_261.out _; (with_reducible repeat (first|refine kN ?_ _|refine kD ?_|refine kA ?_ _)); refine blk_far ?_ NB245_261.out _; (with_reducible repeat (first|refine kN ?_ _|refine kD ?_|refine kA ?_ _)); exact BK245.out⟩
              have n4_ : Aside0 ((((w60.setCell ⟨gb261, 0, none⟩ (.slice Ao61 t252.length co61)).setCell ⟨gb261, 1, none⟩ (.slice Ao65 t255.length co65)).setCell ⟨gb261, 2, none⟩ (.slice Ao66 t258.length co66)).heap[gb246]? = some (.cells #[.slice none 0 0, .slice none 0 0, .slice none 0 0] 27 (0, 0))) := ⟨by (with_reducible repeat (first|refine kN ?_ _|refine kD ?_|refine kA ?_ _)); refine blk_far ?_ NB246_261.out _; (with_reducible repeat (first|refine kN ?_ _|refine kD ?_|refine kA ?_ _)); refine blk_far ?_ NB246_261.out _; (with_reducible repeat (first|refine kN ?_ _|refine kD ?_|refine kA ?_ _)); refine blk_far ?_ NB246_261.out _; (with_reducible repeat (first|refine kN ?_ _|refine kD ?_|refine kA ?_ _)); exact BK246.out⟩
              have n5_ : Aside0 ((((w60.setCell ⟨gb261, 0, none⟩ (.slice Ao61 t252.length co61)).setCell ⟨gb261, 1, none⟩ (.slice Ao65 t255.length co65)).setCell ⟨gb261, 2, none⟩ (.slice Ao66 t258.length co66)).heap[gb261]? = some (.cells #[.slice Ao61 t252.length co61, .slice Ao65 t255.length co65, .slice Ao66 t258.length co66] 27 (0, 0))) := ⟨by (with_reducible repeat (first|refine kN ?_ _|refine kD ?_|refine kA ?_ _)); refine blk_put (cs := #[.slice Ao61 t252.length co61, .slice Ao65 t255.length co65, .slice none 0 0]) ?_ 2 _ rfl; (with_reducible repeat (first|refine kN ?_ _|refine kD ?_|refine kA ?_ _)); refine blk_put (cs := #[.slice Ao61 t252.length co61, .slice none 0 0, .slice none 0 0]) ?_ 1 _ rfl; (with_reducible repeat (first|refine kN ?_ _|refine kD ?_|refine kA ?_ _)); refine blk_put (cs := #[.slice none 0 0, .slice none 0 0, .slice none 0 0]) ?_ 0 _ rfl; (with_reducible repeat (first|refine kN ?_ _|refine kD ?_|refine kA ?_ _)); exact BK261.out⟩
              have n6_ : Aside0 (Below w.heap.size w (((w60.setCell ⟨gb261, 0, none⟩ (.slice Ao61 t252.length co61)).setCell ⟨gb261, 1, none⟩ (.slice Ao65 t255.length co65)).setCell ⟨gb261, 2, none⟩ (.slice Ao66 t258.length co66))) := ⟨by repeat (first | (with_reducible first | exact HB.out|apply bA|apply bN|apply bD | refine below_set ?_ GE245.out | refine below_set ?_ GE246.out | refine below_set ?_ GE261.out) | exact HB.out)⟩
              (try clear HO254)
              (try clear HO257)
              (try clear HO260)
              (try clear BK245)
              (try clear BK246)
              (try clear BK261)
              (try clear HB)
              generalize (((w60.setCell ⟨gb261, 0, none⟩ (.slice Ao61 t252.length co61)).setCell ⟨gb261, 1, none⟩ (.slice Ao65 t255.length co65)).setCell ⟨gb261, 2, none⟩ (.slice Ao66 t258.length co66)) = w67 at n0_ n1_ n2_ n3_ n4_ n5_ n6_ ⊢
              have HO254 := n0_
              have HO257 := n1_
              have HO260 := n2_
              have BK245 := n3_
              have BK246 := n4_
              have BK261 := n5_
              have HB := n6_
              clear n0_ n1_ n2_ n3_ n4_ n5_ n6_
              have n0_ := Aside0.mk (Kd.R_drew HO254.out)
              have n1_ := Aside0.mk (Kd.R_drew HO257.out)
              have n2_ := Aside0.mk (Kd.R_drew HO260.out)
              have n3_ := Aside0.mk (blk_drew BK245.out)
              have n4_ := Aside0.mk (blk_drew BK246.out)
              have n5_ := Aside0.mk (blk_drew BK261.out)
              have n6_ := Aside0.mk (below_drew1 HB.out)
              clear HO254
              clear HO257
              clear HO260
              clear BK245
              clear BK246
              clear BK261
              clear HB
              have HO254 := n0_
              have HO257 := n1_
              have HO260 := n2_
              have BK245 := n3_
              have BK246 := n4_
              have BK261 := n5_
              have HB := n6_
              clear n0_ n1_ n2_ n3_ n4_ n5_ n6_
              have p262 : 0 ≤ ((rd l0_1 (ji4)) : Int) := of_decide_eq_true (by first | (with_reducible assumption) | assumption)
              have q262 : (rd l0_1 (ji4)) < (l0_0.length : Int) := of_decide_eq_true (by first | (with_reducible assumption) | assumption)
              obtain ⟨ad262, e262, hx262_0⟩ := Kd.at_int HR0_0.out (rd l0_1 (ji4)) p262 q262
              have hw262_0 := hx262_0
              cases e262
              replace hx262_0 := (HB.out.cell (World.block_lt_of_cell? w _ hx262_0)).trans hx262_0
              replace p262 := eq_true p262
              replace q262 := eq_true q262
              have p263 : 0 ≤ ((rd l0_2 (ji4)) : Int) := of_decide_eq_true (by first | (with_reducible assumption) | assumption)
              have q263 : (rd l0_2 (ji4)) < (l0_0.length : Int) := of_decide_eq_true (by first | (with_reducible assumption) | assumption)
              obtain ⟨ad263, e263, hx263_0⟩ := Kd.at_int HR0_0.out (rd l0_2 (ji4)) p263 q263
              have hw263_0 := hx263_0
              obtain rfl : ad262 = ad263 := (by injection e263)
              replace hx263_0 := (HB.out.cell (World.block_lt_of_cell? w _ hx263_0)).trans hx263_0
              replace p263 := eq_true p263
              replace q263 := eq_true q263
              refine start_ (n := 11) (S := fun w' => w'.cell? ⟨gb245, 0, none⟩ = some (.slice (some ad262) l0_0.length c0_0) ∧ w'.cell? ⟨gb245, 1, none⟩ = some (.slice (some ad248) l0_1.length c0_1) ∧ w'.cell? ⟨gb245, 2, none⟩ = some (.slice (some ad249) l0_2.length c0_2) ∧ w'.cell? (ad262.add ((rd l0_1 (ji4))).toNat) = some (.int .i64 (rd l0_0 (rd l0_1 (ji4)))) ∧ w'.cell? (ad262.add ((rd l0_2 (ji4))).toNat) = some (.int .i64 (rd l0_0 (rd l0_2 (ji4))))) (ds := []) #[ff,ff,ff,ff,ff,ff,ff,ff,ff,ff,ff] (by kernel_rfl) rfl rfl ⟨(blk_cell BK245.out 0).trans rfl, (blk_cell BK245.out 1).trans rfl, (blk_cell BK245.out 2).trans rfl, ((HB.out.cell (World.block_lt_of_cell? w _ hw262_0)).trans hw262_0), ((HB.out.cell (World.block_lt_of_cell? w _ hw263_0)).trans hw263_0)⟩ (fun hHeld => ?_); refine with_tabW impl_InduceOnce.tab9 impl_InduceOnce.bits9 (fun HT_ HW_ => ?_)
              generalize w67.drew = w68 at HO254 HO257 HO260 BK245 BK246 BK261 HB hx262_0 hx263_0 hHeld ⊢
              refine pure_ (i := 0) (N := some 46) (v := ?_) (a' := ?_) (fl 11 1) rfl rfl (any_of HT_.out (by kernel_rfl)) (fun _ _ _ h => h) (Or.inl ⟨by kernel_rfl, ?_⟩) ?_ ?_
              rotate_left
              ·intro w'
               go_simp
               with_reducible rfl
              rotate_left
              ·simp only [Act.put, zA, zB, zC, i64_w, i32_w]
               rfl
              refine pure_ (i := 2) (N := some 48) (v := ?_) (a' := ?_) (fl 11 5) rfl rfl (any_of HT_.out (by kernel_rfl)) (fun _ _ _ h => h) (Or.inl ⟨by kernel_rfl, ?_⟩) ?_ ?_
              rotate_left
              ·intro w'
               go_simp
               with_reducible rfl
              rotate_left
              ·simp only [Act.put, zA, zB, zC, i64_w, i32_w]
               rfl
              refine pure_ (i := 5) (N := some 51) (v := ?_) (a' := ?_) (fl 11 37) rfl rfl (any_of HT_.out (by kernel_rfl)) (fun _ _ _ h => h) (Or.inl ⟨by kernel_rfl, ?_⟩) ?_ ?_
              rotate_left
              ·intro w'
               go_simp
               with_reducible rfl
              rotate_left
              ·simp only [Act.put, zA, zB, zC, i64_w, i32_w]
               rfl
              refine pure_ (i := 7) (N := some 53) (v := ?_) (a' := ?_) (fl 11 165) rfl rfl (any_of HT_.out (by kernel_rfl)) (fun _ _ _ h => h) (Or.inl ⟨by kernel_rfl, ?_⟩) ?_ ?_
              rotate_left
              ·intro w'
               go_simp
               with_reducible rfl
              rotate_left
              ·simp only [Act.put, zA, zB, zC, i64_w, i32_w]
               rfl
              refine take_ (i := 1) (N := some 47) (v := ?_) (a' := ?_) (fl 11 167) rfl rfl (take_ofW HT_.out HW_.out (by kernel_rfl)) (fun _ _ _ h => h) (Or.inl ⟨by kernel_rfl, ?_⟩) hHeld ?_ ?_
              rotate_left
              ·rintro w' ⟨s0, s1, s2, s3, s4⟩
               go_simp
               with_reducible rfl
              rotate_left
              ·simp only [Act.put, zA, zB, zC, i64_w, i32_w]
               rfl
              refine pure_ (i := 3) (N := some 49) (v := ?_) (a' := ?_) (fl 11 175) rfl rfl (any_of HT_.out (by kernel_rfl)) (fun _ _ _ h => h) (Or.inl ⟨by kernel_rfl, ?_⟩) ?_ ?_
              rotate_left
              ·intro w'
               go_simp
               with_reducible rfl
              rotate_left
              ·simp only [Act.put, zA, zB, zC, i64_w, i32_w]
               rfl
              refine take_ (i := 4) (N := some 50) (v := ?_) (a' := ?_) (fl 11 191) rfl rfl (take_ofW HT_.out HW_.out (by kernel_rfl)) (fun _ _ _ h => h) (Or.inl ⟨by kernel_rfl, ?_⟩) hHeld ?_ ?_
              rotate_left
              ·rintro w' ⟨s0, s1, s2, s3, s4⟩
               go_simp
               with_reducible rfl
              rotate_left
              ·simp only [Act.put, zA, zB, zC, i64_w, i32_w]
               rfl
              refine take_ (i := 6) (N := some 52) (v := ?_) (a' := ?_) (fl 11 255) rfl rfl (take_ofW HT_.out HW_.out (by kernel_rfl)) (fun _ _ _ h => h) (Or.inl ⟨by kernel_rfl, ?_⟩) hHeld ?_ ?_
              rotate_left
              ·rintro w' ⟨s0, s1, s2, s3, s4⟩
               go_simp
               with_reducible rfl
              rotate_left
              ·simp only [Act.put, zA, zB, zC, i64_w, i32_w]
               rfl
              refine pure_ (i := 8) (N := some 54) (v := ?_) (a' := ?_) (fl 11 511) rfl rfl (any_of HT_.out (by kernel_rfl)) (fun _ _ _ h => h) (Or.inl ⟨by kernel_rfl, ?_⟩) ?_ ?_
              rotate_left
              ·intro w'
               go_simp
               with_reducible rfl
              rotate_left
              ·simp only [Act.put, zA, zB, zC, i64_w, i32_w]
               rfl
              refine take_ (i := 9) (N := some 55) (v := ?_) (a' := ?_) (fl 11 1023) rfl rfl (take_ofW HT_.out HW_.out (by kernel_rfl)) (fun _ _ _ h => h) (Or.inl ⟨by kernel_rfl, ?_⟩) hHeld ?_ ?_
              rotate_left
              ·rintro w' ⟨s0, s1, s2, s3, s4⟩
               go_simp
               with_reducible rfl
              rotate_left
              ·simp only [Act.put, zA, zB, zC, i64_w, i32_w]
               rfl
              refine pure_ (i := 10) (N := some 56) (v := ?_) (a' := ?_) (fl 11 2047) rfl rfl (any_of HT_.out (by kernel_rfl)) (fun _ _ _ h => h) (Or.inl ⟨by kernel_rfl, ?_⟩) ?_ ?_
              rotate_left
              ·intro w'
               go_simp
               with_reducible rfl
              rotate_left
              ·simp only [Act.put, zA, zB, zC, i64_w, i32_w]
               rfl
              refine done_ (done_of HT_.out (by kernel_rfl)) ?_
              try go_wp2
              have n0_ := Aside0.mk (Kd.R_drew HO254.out)
              have n1_ := Aside0.mk (Kd.R_drew HO257.out)
              have n2_ := Aside0.mk (Kd.R_drew HO260.out)
              have n3_ := Aside0.mk (blk_drew BK245.out)
              have n4_ := Aside0.mk (blk_drew BK246.out)
              have n5_ := Aside0.mk (blk_drew BK261.out)
              have n6_ := Aside0.mk (below_drew1 HB.out)
              clear HO254
              clear HO257
              clear HO260
              clear BK245
              clear BK246
              clear BK261
              clear HB
              have HO254 := n0_
              have HO257 := n1_
              have HO260 := n2_
              have BK245 := n3_
              have BK246 := n4_
              have BK261 := n5_
              have HB := n6_
              clear n0_ n1_ n2_ n3_ n4_ n5_ n6_
              have p270 : 0 ≤ ((rd l0_2 (ji4)) : Int) := of_decide_eq_true (by first | (with_reducible assumption) | assumption)
              have q270 : (rd l0_2 (ji4)) < (t252.length : Int) := of_decide_eq_true (by first | (with_reducible assumption) | assumption)
              obtain ⟨ad270, e270, hx270_0⟩ := Kd.at_int (Kd.R_reads' HO254.out).2.2 (rd l0_2 (ji4)) p270 q270
              cases e270
              replace p270 := eq_true p270
              replace q270 := eq_true q270
              have p271 : 0 ≤ ((rd l0_1 (ji4)) : Int) := of_decide_eq_true (by first | (with_reducible assumption) | assumption)
              have q271 : (rd l0_1 (ji4)) < (l0_0.length : Int) := of_decide_eq_true (by first | (with_reducible assumption) | assumption)
              obtain ⟨ad271, e271, hx271_0⟩ := Kd.at_int HR0_0.out (rd l0_1 (ji4)) p271 q271
              have hw271_0 := hx271_0
              obtain rfl : ad262 = ad271 := (by injection e271)
              replace hx271_0 := (HB.out.cell (World.block_lt_of_cell? w _ hx271_0)).trans hx271_0
              replace p271 := eq_true p271
              replace q271 := eq_true q271
              have p55 : 0 ≤ ((rd l0_2 (ji4)) : Int) := of_decide_eq_true (by first | (with_reducible assumption) | assumption)
              have q55 : ((rd l0_2 (ji4)) : Int) < ((t252.length : Int) : Int) := of_decide_eq_true (by first | (with_reducible assumption) | assumption)
              obtain ⟨go55, co55, eo55, gb55, gl55, cl55, HG55⟩ := Kd.R_form HO254.out (by omega)
              (first | cases eo55 | (injection eo55 with ea_ en_ ec_; (first | subst ea_ | (injection ea_ with ea_; subst ea_)); subst ec_; clear en_))
              have GB55 := Aside0.mk gb55
              have GG55 := Aside0.mk HG55
              clear gb55 gl55 HG55
              (first | simp only [add_plain] at hx270_0 | skip)
              obtain ⟨hx55_0, hf55_0⟩ := Kd.R_celln 0 HO254.out ((rd l0_2 (ji4)) : Int) p55 q55
              replace p55 := eq_true p55
              replace q55 := eq_true q55
              have HP70 := Kd.R_putn HO254.out ((rd l0_2 (ji4)) : Int) (wrap64 ((rd t252 (rd l0_2 (ji4))) - (rd l0_0 (rd l0_1 (ji4)))))
              rw [← Ny272.out] at HP70
              have HQ70 := Aside0.mk HP70
              clear HP70
              refine start_ (n := 13) (S := fun w' => w'.cell? ⟨gb261, 0, none⟩ = some (.slice (some ⟨go55, 0, none⟩) t252.length co61) ∧ w'.cell? ⟨gb261, 1, none⟩ = some (.slice Ao65 t255.length co65) ∧ w'.cell? ⟨gb261, 2, none⟩ = some (.slice Ao66 t258.length co66) ∧ w'.cell? ⟨gb245, 0, none⟩ = some (.slice (some ad262) l0_0.length c0_0) ∧ w'.cell? ⟨gb245, 1, none⟩ = some (.slice (some ad248) l0_1.length c0_1) ∧ w'.cell? ⟨gb245, 2, none⟩ = some (.slice (some ad249) l0_2.length c0_2) ∧ w'.cell? ⟨go55, ((rd l0_2 (ji4))).toNat, none⟩ = some (.int .i64 (rd t252 (rd l0_2 (ji4)))) ∧ w'.cell? (ad262.add ((rd l0_1 (ji4))).toNat) = some (.int .i64 (rd l0_0 (rd l0_1 (ji4))))) (ds := [12]) #[ff,ff,ff,ff,ff,ff,ff,ff,ff,ff,ff,ff,ff] (by kernel_rfl) rfl rfl ⟨(blk_cell BK261.out 0).trans rfl, (blk_cell BK261.out 1).trans rfl, (blk_cell BK261.out 2).trans rfl, (blk_cell BK245.out 0).trans rfl, (blk_cell BK245.out 1).trans rfl, (blk_cell BK245.out 2).trans rfl, hx270_0, ((HB.out.cell (World.block_lt_of_cell? w _ hw271_0)).trans hw271_0)⟩ (fun hHeld => ?_); refine with_tabW impl_InduceOnce.tab12 impl_InduceOnce.bits12 (fun HT_ HW_ => ?_)
              generalize w68.drew = w69 at HO254 HO257 HO260 BK245 BK246 BK261 HB GG55 HQ70 hf55_0 hx270_0 hx271_0 hx55_0 hHeld ⊢
              refine pure_ (i := 0) (N := some 74) (v := ?_) (a' := ?_) (fl 13 1) rfl rfl (any_of HT_.out (by kernel_rfl)) (fun _ _ _ h => h) (Or.inl ⟨by kernel_rfl, ?_⟩) ?_ ?_
              rotate_left
              ·intro w'
               go_simp
               with_reducible rfl
              rotate_left
              ·simp only [Act.put, zA, zB, zC, i64_w, i32_w]
               rfl
              refine pure_ (i := 2) (N := some 76) (v := ?_) (a' := ?_) (fl 13 5) rfl rfl (any_of HT_.out (by kernel_rfl)) (fun _ _ _ h => h) (Or.inl ⟨by kernel_rfl, ?_⟩) ?_ ?_
              rotate_left
              ·intro w'
               go_simp
               with_reducible rfl
              rotate_left
              ·simp only [Act.put, zA, zB, zC, i64_w, i32_w]
               rfl
              refine pure_ (i := 5) (N := some 79) (v := ?_) (a' := ?_) (fl 13 37) rfl rfl (any_of HT_.out (by kernel_rfl)) (fun _ _ _ h => h) (Or.inl ⟨by kernel_rfl, ?_⟩) ?_ ?_
              rotate_left
              ·intro w'
               go_simp
               with_reducible rfl
              rotate_left
              ·simp only [Act.put, zA, zB, zC, i64_w, i32_w]
               rfl
              refine pure_ (i := 7) (N := some 81) (v := ?_) (a' := ?_) (fl 13 165) rfl rfl (any_of HT_.out (by kernel_rfl)) (fun _ _ _ h => h) (Or.inl ⟨by kernel_rfl, ?_⟩) ?_ ?_
              rotate_left
              ·intro w'
               go_simp
               with_reducible rfl
              rotate_left
              ·simp only [Act.put, zA, zB, zC, i64_w, i32_w]
               rfl
              refine take_ (i := 1) (N := some 75) (v := ?_) (a' := ?_) (fl 13 167) rfl rfl (take_ofW HT_.out HW_.out (by kernel_rfl)) (fun _ _ _ h => h) (Or.inl ⟨by kernel_rfl, ?_⟩) hHeld ?_ ?_
              rotate_left
              ·rintro w' ⟨s0, s1, s2, s3, s4, s5, s6, s7⟩
               go_simp
               with_reducible rfl
              rotate_left
              ·simp only [Act.put, zA, zB, zC, i64_w, i32_w]
               rfl
              refine pure_ (i := 3) (N := some 77) (v := ?_) (a' := ?_) (fl 13 175) rfl rfl (any_of HT_.out (by kernel_rfl)) (fun _ _ _ h => h) (Or.inl ⟨by kernel_rfl, ?_⟩) ?_ ?_
              rotate_left
              ·intro w'
               go_simp
               with_reducible rfl
              rotate_left
              ·simp only [Act.put, zA, zB, zC, i64_w, i32_w]
               rfl
              refine take_ (i := 4) (N := some 78) (v := ?_) (a' := ?_) (fl 13 191) rfl rfl (take_ofW HT_.out HW_.out (by kernel_rfl)) (fun _ _ _ h => h) (Or.inl ⟨by kernel_rfl, ?_⟩) hHeld ?_ ?_
              rotate_left
              ·rintro w' ⟨s0, s1, s2, s3, s4, s5, s6, s7⟩
               go_simp
               with_reducible rfl
              rotate_left
              ·simp only [Act.put, zA, zB, zC, i64_w, i32_w]
               rfl
              refine take_ (i := 6) (N := some 80) (v := ?_) (a' := ?_) (fl 13 255) rfl rfl (take_ofW HT_.out HW_.out (by kernel_rfl)) (fun _ _ _ h => h) (Or.inl ⟨by kernel_rfl, ?_⟩) hHeld ?_ ?_
              rotate_left
              ·rintro w' ⟨s0, s1, s2, s3, s4, s5, s6, s7⟩
               go_simp
               with_reducible rfl
              rotate_left
              ·simp only [Act.put, zA, zB, zC, i64_w, i32_w]
               rfl
              refine pure_ (i := 8) (N := some 82) (v := ?_) (a' := ?_) (fl 13 511) rfl rfl (any_of HT_.out (by kernel_rfl)) (fun _ _ _ h => h) (Or.inl ⟨by kernel_rfl, ?_⟩) ?_ ?_
              rotate_left
              ·intro w'
               go_simp
               with_reducible rfl
              rotate_left
              ·simp only [Act.put, zA, zB, zC, i64_w, i32_w]
               rfl
              refine take_ (i := 9) (N := some 83) (v := ?_) (a' := ?_) (fl 13 1023) rfl rfl (take_ofW HT_.out HW_.out (by kernel_rfl)) (fun _ _ _ h => h) (Or.inl ⟨by kernel_rfl, ?_⟩) hHeld ?_ ?_
              rotate_left
              ·rintro w' ⟨s0, s1, s2, s3, s4, s5, s6, s7⟩
               go_simp
               with_reducible rfl
              rotate_left
              ·simp only [Act.put, zA, zB, zC, i64_w, i32_w]
               rfl
              refine pure_ (i := 10) (N := some 84) (v := ?_) (a' := ?_) (fl 13 2047) rfl rfl (any_of HT_.out (by kernel_rfl)) (fun _ _ _ h => h) (Or.inl ⟨by kernel_rfl, ?_⟩) ?_ ?_
              rotate_left
              ·intro w'
               go_simp
               with_reducible rfl
              rotate_left
              ·simp only [Act.put, zA, zB, zC, i64_w, i32_w]
               rfl
              refine pure_ (i := 11) (N := some 85) (v := ?_) (a' := ?_) (fl 13 4095) rfl rfl (any_of HT_.out (by kernel_rfl)) (fun _ _ _ h => h) (Or.inl ⟨by kernel_rfl, ?_⟩) ?_ ?_
              rotate_left
              ·intro w'
               go_simp
               with_reducible rfl
              rotate_left
              ·simp only [Act.put, zA, zB, zC, i64_w, i32_w]
               rfl
              refine last_ (i := 12) (N := none) #[tt,tt,tt,tt,tt,tt,tt,tt,tt,tt,tt,tt,tt] rfl rfl (one_of HT_.out (by kernel_rfl)) (by decide) (fun K hK => ?_)
              refine skip_ (w1 := ?_) (by rfl) rfl ?_ ?_
              rotate_left
              ·go_simp
               rfl
              refine hK.out _ _ ?_
              clear hK K
              refine done_ (done_of HT_.out (by kernel_rfl)) ?_
              have n0_ : Aside0 (Kd.R (Kd.int .i64) 3 (w69.setCell ⟨go55, ((rd l0_2 (ji4)) : Int).toNat, none⟩ (.int .i64 (wrap64 ((rd t252 (rd l0_2 (ji4))) - (rd l0_0 (rd l0_1 (ji4))))))) w.heap.size (fun k_ => some k_ ≠ (.slice Ao65 t255.length co65 : Value).ownBlock ∧ some k_ ≠ (.slice Ao66 t258.length co66 : Value).ownBlock) (.slice (some ⟨go55, 0, none⟩) t252.length co61) y272) := ⟨by (with_reducible repeat (first|apply rA|apply rN|apply rD)); exact HQ70.out⟩
              have n1_ : Aside0 (Kd.R (Kd.int .i64) 3 (w69.setCell ⟨go55, ((rd l0_2 (ji4)) : Int).toNat, none⟩ (.int .i64 (wrap64 ((rd t252 (rd l0_2 (ji4))) - (rd l0_0 (rd l0_1 (ji4))))))) w.heap.size (fun k_ => some k_ ≠ (.slice (some ⟨go55, 0, none⟩) t252.length co61 : Value).ownBlock ∧ some k_ ≠ (.slice Ao66 t258.length co66 : Value).ownBlock) (.slice Ao65 t255.length co65) t255) := ⟨by (with_reducible repeat (first|apply rA|apply rN|apply rD)); exact Kd.R_mono (Kd.R_far (p := ⟨go55, ((rd l0_2 (ji4)) : Int).toNat, none⟩) (Kd.R_mono HO257.out (fun k_ hk => (⟨hk, fun e_ => hk.1 (by rw [e_]; rfl)⟩ : _ ∧ k_ ≠ go55))) (fun _ hk => hk.2) (.int .i64 (wrap64 ((rd t252 (rd l0_2 (ji4))) - (rd l0_0 (rd l0_1 (ji4))))))) (fun _ hk => ⟨hk.1.1, hk.1.2⟩)⟩
              have n2_ : Aside0 (Kd.R (Kd.int .i64) 3 (w69.setCell ⟨go55, ((rd l0_2 (ji4)) : Int).toNat, none⟩ (.int .i64 (wrap64 ((rd t252 (rd l0_2 (ji4))) - (rd l0_0 (rd l0_1 (ji4))))))) w.heap.size (fun k_ => some k_ ≠ (.slice (some ⟨go55, 0, none⟩) t252.length co61 : Value).ownBlock ∧ some k_ ≠ (.slice Ao65 t255.length co65 : Value).ownBlock) (.slice Ao66 t258.length co66) t258) := ⟨by (with_reducible repeat (first|apply rA|apply rN|apply rD)); exact Kd.R_mono (Kd.R_far (p := ⟨go55, ((rd l0_2 (ji4)) : Int).toNat, none⟩) (Kd.R_mono HO260.out (fun k_ hk => (⟨hk, fun e_ => hk.1 (by rw [e_]; rfl)⟩ : _ ∧ k_ ≠ go55))) (fun _ hk => hk.2) (.int .i64 (wrap64 ((rd t252 (rd l0_2 (ji4))) - (rd l0_0 (rd l0_1 (ji4))))))) (fun _ hk => ⟨hk.1.1, hk.1.2⟩)⟩
              have n3_ : Aside0 ((w69.setCell ⟨go55, ((rd l0_2 (ji4)) : Int).toNat, none⟩ (.int .i64 (wrap64 ((rd t252 (rd l0_2 (ji4))) - (rd l0_0 (rd l0_1 (ji4))))))).heap[gb245]? = some (.cells #[.slice (some ad262) l0_0.length c0_0, .slice (some ad248) l0_1.length c0_1, .slice (some ad249) l0_2.length c0_2] 27 (0, 0))) := ⟨by (with_reducible repeat (first|refine kN ?_ _|refine kD ?_|refine kA ?_ _)); refine blk_far ?_ (by have h_ := Kd.R_ne HO254.out BK245.out (by decide); intro e_; exact h_ (by rw [e_]; rfl)) _; (with_reducible repeat (first|refine kN ?_ _|refine kD ?_|refine kA ?_ _)); exact BK245.out⟩
              have n4_ : Aside0 ((w69.setCell ⟨go55, ((rd l0_2 (ji4)) : Int).toNat, none⟩ (.int .i64 (wrap64 ((rd t252 (rd l0_2 (ji4))) - (rd l0_0 (rd l0_1 (ji4))))))).heap[gb246]? = some (.cells #[.slice none 0 0, .slice none 0 0, .slice none 0 0] 27 (0, 0))) := ⟨by (with_reducible repeat (first|refine kN ?_ _|refine kD ?_|refine kA ?_ _)); refine blk_far ?_ (by have h_ := Kd.R_ne HO254.out BK246.out (by decide); intro e_; exact h_ (by rw [e_]; rfl)) _; (with_reducible repeat (first|refine kN ?_ _|refine kD ?_|refine kA ?_ _)); exact BK246.out⟩
              have n5_ : Aside0 ((w69.setCell ⟨go55, ((rd l0_2 (ji4)) : Int).toNat, none⟩ (.int .i64 (wrap64 ((rd t252 (rd l0_2 (ji4))) - (rd l0_0 (rd l0_1 (ji4))))))).heap[gb261]? = some (.cells #[.slice (some ⟨go55, 0, none⟩) t252.length co61, .slice Ao65 t255.length co65, .slice Ao66 t258.length co66] 27 (0, 0))) := ⟨by (with_reducible repeat (first|refine kN ?_ _|refine kD ?_|refine kA ?_ _)); refine blk_far ?_ (by have h_ := Kd.R_ne HO254.out BK261.out (by decide); intro e_; exact h_ (by rw [e_]; rfl)) _; (with_reducible repeat (first|refine kN ?_ _|refine kD ?_|refine kA ?_ _)); exact BK261.out⟩
              have n6_ : Aside0 (Below w.heap.size w (w69.setCell ⟨go55, ((rd l0_2 (ji4)) : Int).toNat, none⟩ (.int .i64 (wrap64 ((rd t252 (rd l0_2 (ji4))) - (rd l0_0 (rd l0_1 (ji4)))))))) := ⟨by repeat (first | (with_reducible first | exact HB.out|apply bA|apply bN|apply bD | refine below_set ?_ GB55.out | refine below_set ?_ GE245.out | refine below_set ?_ GE246.out | refine below_set ?_ GE261.out) | exact HB.out)⟩
              (try clear HO254)
              (try clear HO257)
              (try clear HO260)
              (try clear BK245)
              (try clear BK246)
              (try clear BK261)
              (try clear HB)
              generalize (w69.setCell ⟨go55, ((rd l0_2 (ji4)) : Int).toNat, none⟩ (.int .i64 (wrap64 ((rd t252 (rd l0_2 (ji4))) - (rd l0_0 (rd l0_1 (ji4))))))) = w71 at n0_ n1_ n2_ n3_ n4_ n5_ n6_ ⊢
              have HO254 := n0_
              have HO257 := n1_
              have HO260 := n2_
              have BK245 := n3_
              have BK246 := n4_
              have BK261 := n5_
              have HB := n6_
              clear n0_ n1_ n2_ n3_ n4_ n5_ n6_
              have hcz72_0 : w71.cell? ⟨gb245, 0, none⟩ = some (.slice (some ad262) l0_0.length c0_0) := (blk_cell BK245.out 0).trans rfl
              have hcz72_1 : w71.cell? ⟨gb245, 1, none⟩ = some (.slice (some ad248) l0_1.length c0_1) := (blk_cell BK245.out 1).trans rfl
              have hcz72_2 : w71.cell? ⟨gb245, 2, none⟩ = some (.slice (some ad249) l0_2.length c0_2) := (blk_cell BK245.out 2).trans rfl
              have hfz72_0 := blk_frozen BK245.out 0
              have hfz72_1 := blk_frozen BK245.out 1
              have hfz72_2 := blk_frozen BK245.out 2
              try go_wp2_with (first | ((with_reducible refine gate_callee (f := 49) rfl ?_); refine goesL_ (some 89) rfl rfl Tryd.func49 (by kernel_rfl) rfl #[.slice (some ad248) l0_1.length c0_1, .int .i64 (rd l0_2 (ji4))] rfl (by (try simp only [List.map_toArray, List.map_cons, List.map_nil]); first | done | (simp only [hji4]; rfl) | rfl | (simp only [List.length_drop, List.length_take]; rfl)) ?_; (with_reducible refine (impl_putBehind.calls kj7 _ _ l0_1 (rd l0_2 (ji4)) t273 _ ?side1 ?side2 A56.out).mono ?_); (case side1 => repeat (first | exact (Kd.C_below HR0_1.out HB.out) | (with_reducible refine Kd.C_alloc ?_ _) | (with_reducible refine Kd.C_drewN ?_ _) | (with_reducible refine Kd.C_drew ?_))); (case side2 => exact HC0_1.out); rintro e w73 ⟨v274, rfl, ho0, hb⟩; refine ⟨_, rfl, ?_⟩; have n0_ := Aside0.mk (Kd.R_elder' (by (with_reducible repeat (first|apply rA|apply rN|apply rD)); exact HO254.out) (Kd.R_base ho0) hb); have n1_ := Aside0.mk (Kd.R_elder' (by (with_reducible repeat (first|apply rA|apply rN|apply rD)); exact HO257.out) (Kd.R_base ho0) hb); have n2_ := Aside0.mk (Kd.R_elder' (by (with_reducible repeat (first|apply rA|apply rN|apply rD)); exact HO260.out) (Kd.R_base ho0) hb); have n3_ := Aside0.mk (Kd.R_lower (Kd.R_new' (Kd.R_new' (Kd.R_new' ho0 (Kd.R_lt (by (with_reducible repeat (first|apply rA|apply rN|apply rD)); exact HO254.out))) (Kd.R_lt (by (with_reducible repeat (first|apply rA|apply rN|apply rD)); exact HO257.out))) (Kd.R_lt (by (with_reducible repeat (first|apply rA|apply rN|apply rD)); exact HO260.out))) (below_size (by repeat (first | (with_reducible first | exact HB.out|apply bA|apply bN|apply bD | refine below_set ?_ GE245.out | refine below_set ?_ GE246.out | refine below_set ?_ GE261.out) | exact HB.out)))); have n4_ := Aside0.mk (blk_below (g := gb245) (o := .cells #[.slice (some ad262) l0_0.length c0_0, .slice (some ad248) l0_1.length c0_1, .slice (some ad249) l0_2.length c0_2] 27 (0, 0)) (by (with_reducible repeat (first|refine kN ?_ _|refine kD ?_|refine kA ?_ _)); exact BK245.out) hb); have n5_ := Aside0.mk (blk_below (g := gb246) (o := .cells #[.slice none 0 0, .slice none 0 0, .slice none 0 0] 27 (0, 0)) (by (with_reducible repeat (first|refine kN ?_ _|refine kD ?_|refine kA ?_ _)); exact BK246.out) hb); have n6_ := Aside0.mk (blk_below (g := gb261) (o := .cells #[.slice (some ⟨go55, 0, none⟩) t252.length co61, .slice Ao65 t255.length co65, .slice Ao66 t258.length co66] 27 (0, 0)) (by (with_reducible repeat (first|refine kN ?_ _|refine kD ?_|refine kA ?_ _)); exact BK261.out) hb); have n7_ := Aside0.mk (below_step (by repeat (first | (with_reducible first | exact HB.out|apply bA|apply bN|apply bD | refine below_set ?_ GE245.out | refine below_set ?_ GE246.out | refine below_set ?_ GE261.out) | exact HB.out)) hb); clear HO254; clear HO257; clear HO260; clear BK245; clear BK246; clear BK261; clear HB; have HO254 := n0_; have HO257 := n1_; have HO260 := n2_; have HO275 := n3_; have BK245 := n4_; have BK246 := n5_; have BK261 := n6_; have HB := n7_; clear n0_ n1_ n2_ n3_ n4_ n5_ n6_ n7_; (try clear hb); (try clear hb2); (try clear hk); (try clear hi); (try clear ho0); obtain ⟨Ao74, co74, eo74⟩ := Kd.R_slice HO275.out; subst eo74; have hcz75_0 : w73.cell? ⟨gb261, 0, none⟩ = some (.slice (some ⟨go55, 0, none⟩) t252.length co61) := (blk_cell BK261.out 0).trans rfl; have hcz75_1 : w73.cell? ⟨gb261, 1, none⟩ = some (.slice Ao65 t255.length co65) := (blk_cell BK261.out 1).trans rfl; have hcz75_2 : w73.cell? ⟨gb261, 2, none⟩ = some (.slice Ao66 t258.length co66) := (blk_cell BK261.out 2).trans rfl; have hfz75_0 := blk_frozen BK261.out 0; have hfz75_1 := blk_frozen BK261.out 1; have hfz75_2 := blk_frozen BK261.out 2; have hcz76_0 : w73.cell? ⟨gb246, 0, none⟩ = some (.slice none 0 0) := (blk_cell BK246.out 0).trans rfl; have hcz76_1 : w73.cell? ⟨gb246, 1, none⟩ = some (.slice none 0 0) := (blk_cell BK246.out 1).trans rfl; have hcz76_2 : w73.cell? ⟨gb246, 2, none⟩ = some (.slice none 0 0) := (blk_cell BK246.out 2).trans rfl; have hfz76_0 := blk_frozen BK246.out 0; have hfz76_1 := blk_frozen BK246.out 1; have hfz76_2 := blk_frozen BK246.out 2))
              refine bodyPost_ret (results_ct rfl _ _ gb246 27 #[.slice (some ⟨go55, 0, none⟩) t252.length co61, .slice Ao74 t273.length co74, .slice Ao66 t258.length co66] (0, 0) _ rfl (by (with_reducible repeat (first|refine kN ?_ _|refine kD ?_|refine kA ?_ _)); refine blk_put (cs := #[.slice (some ⟨go55, 0, none⟩) t252.length co61, .slice Ao74 t273.length co74, .slice none 0 0]) ?_ 2 _ rfl; (with_reducible repeat (first|refine kN ?_ _|refine kD ?_|refine kA ?_ _)); refine blk_put (cs := #[.slice (some ⟨go55, 0, none⟩) t252.length co61, .slice none 0 0, .slice none 0 0]) ?_ 1 _ rfl; (with_reducible repeat (first|refine kN ?_ _|refine kD ?_|refine kA ?_ _)); refine blk_put (cs := #[.slice none 0 0, .slice none 0 0, .slice none 0 0]) ?_ 0 _ rfl; (with_reducible repeat (first|refine kN ?_ _|refine kD ?_|refine kA ?_ _)); refine blk_far ?_ NB246_261.out _; (with_reducible repeat (first|refine kN ?_ _|refine kD ?_|refine kA ?_ _)); exact BK246.out) Tryd.underlying27 rfl (by kernel_rfl)) rfl ?_
              exact ⟨_, _, _, by first | rfl | (simp [errW_none, errW_some] <;> rfl) | (simp only [← hji4]; first | rfl | (simp [errW_none, errW_some] <;> rfl)) | (simp [*, errW_none, errW_some] <;> rfl), by (with_reducible repeat (first|apply rA|apply rN|apply rD)); exact Kd.R_mono (Kd.R_far (p := ⟨gb246, 2, none⟩) (Kd.R_far (p := ⟨gb246, 1, none⟩) (Kd.R_far (p := ⟨gb246, 0, none⟩) (Kd.R_far (p := ⟨gb261, 1, none⟩) (Kd.R_types (Kd.R_types HO254.out BK261.out (by decide)) BK246.out (by decide)) (fun _ hk => hk.1.2) (.slice Ao74 t273.length co74)) (fun _ hk => hk.2) (.slice (some ⟨go55, 0, none⟩) t252.length co61)) (fun _ hk => hk.2) (.slice Ao74 t273.length co74)) (fun _ hk => hk.2) (.slice Ao66 t258.length co66)) (fun _ hk => ⟨hk.1.1.2, hk.1.1.1.2⟩), by (with_reducible repeat (first|apply rA|apply rN|apply rD)); exact Kd.R_mono (Kd.R_far (p := ⟨gb246, 2, none⟩) (Kd.R_far (p := ⟨gb246, 1, none⟩) (Kd.R_far (p := ⟨gb246, 0, none⟩) (Kd.R_far (p := ⟨gb261, 1, none⟩) (Kd.R_types (Kd.R_types HO275.out BK261.out (by decide)) BK246.out (by decide)) (fun _ hk => hk.1.2) (.slice Ao74 t273.length co74)) (fun _ hk => hk.2) (.slice (some ⟨go55, 0, none⟩) t252.length co61)) (fun _ hk => hk.2) (.slice Ao74 t273.length co74)) (fun _ hk => hk.2) (.slice Ao66 t258.length co66)) (fun _ hk => ⟨hk.1.1.1.1.2, hk.1.1.2⟩), by (with_reducible repeat (first|apply rA|apply rN|apply rD)); exact Kd.R_mono (Kd.R_far (p := ⟨gb246, 2, none⟩) (Kd.R_far (p := ⟨gb246, 1, none⟩) (Kd.R_far (p := ⟨gb246, 0, none⟩) (Kd.R_far (p := ⟨gb261, 1, none⟩) (Kd.R_types (Kd.R_types HO260.out BK261.out (by decide)) BK246.out (by decide)) (fun _ hk => hk.1.2) (.slice Ao74 t273.length co74)) (fun _ hk => hk.2) (.slice (some ⟨go55, 0, none⟩) t252.length co61)) (fun _ hk => hk.2) (.slice Ao74 t273.length co74)) (fun _ hk => hk.2) (.slice Ao66 t258.length co66)) (fun _ hk => ⟨hk.1.1.1.1, hk.1.1.2⟩), by repeat (first | (with_reducible first | exact HB.out|apply bA|apply bN|apply bD | refine below_set ?_ GE245.out | refine below_set ?_ GE246.out | refine below_set ?_ GE261.out) | exact HB.out)⟩
             ·rw [if_neg c54] at H
              exact absurd H (by simp)
           ·rw [if_neg c29] at H
            exact absurd H (by simp)
          ·rw [if_neg c28] at H
           exact absurd H (by simp)
         ·rw [if_neg c27] at H
          exact absurd H (by simp)
        ·rw [if_neg c26] at H
         exact absurd H (by simp)
    ·rw [if_neg c7] at H
     exact absurd H (by simp)
   ·rw [if_neg c6] at H
    exact absurd H (by simp)
  ·rw [if_neg c5] at H
   exact absurd H (by simp)
 ·replace c3 := Bool.eq_false_iff.mpr c3
  subst c3
  have H1 : (some (([] : List Int), ([] : List Int), ([] : List Int), false)) = some (r1, r2, r3, r4) := by rw [if_neg (show ¬ (false = true) by decide)] at H; exact H
  clear H
  have H := H1
  clear H1
  simp only [Option.some.injEq, Prod.mk.injEq] at H
  obtain ⟨rfl, rfl, rfl, rfl⟩ := H
  go_enter Tryd.func19, Tryd.ntmps19
  go_wp2_with (first | ((with_reducible refine gate_dst (N := 1) rfl ?_); refine box_event ?hg (N := 1) ?hd (cs := #[.slice A0_0 l0_0.length c0_0, .slice A0_1 l0_1.length c0_1, .slice A0_2 l0_2.length c0_2]) (t := 27) ?hr ?_; (case hd => rfl); (case hg => rfl); (case hr => first | (go_simp; done) | (go_simp; rfl)); intro gb245 hg w77 hbox hb; have n0_ := Aside0.mk (below_step (by repeat (first | (with_reducible first | exact HB.out|apply bA|apply bN|apply bD) | exact HB.out)) hb); have n1_ := Aside0.mk (hbox); have n2_ := Aside0.mk ((by rw [hg]; exact (below_size (by repeat (first | (with_reducible first | exact HB.out|apply bA|apply bN|apply bD) | exact HB.out))) : w.heap.size ≤ gb245)); have n3_ := Aside0.mk ((by rw [hg]; exact (below_size (by repeat (first | (with_reducible first | exact HB.out|apply bA|apply bN|apply bD) | exact HB.out))) : w.heap.size ≤ gb245)); clear HB; have HB := n0_; have BK245 := n1_; have GW245 := n2_; have GE245 := n3_; clear n0_ n1_ n2_ n3_; clear hb hbox hg) | ((with_reducible refine gate_dst (N := 2) rfl ?_); refine box_event ?hg (N := 2) ?hd (cs := #[.slice none 0 0, .slice none 0 0, .slice none 0 0]) (t := 27) ?hr ?_; (case hd => rfl); (case hg => rfl); (case hr => first | (go_simp; done) | (go_simp; rfl)); intro gb246 hg w78 hbox hb; have n0_ := Aside0.mk (blk_below (g := gb245) (o := .cells #[.slice A0_0 l0_0.length c0_0, .slice A0_1 l0_1.length c0_1, .slice A0_2 l0_2.length c0_2] 27 (0, 0)) (by (with_reducible repeat (first|refine kN ?_ _|refine kD ?_|refine kA ?_ _)); exact BK245.out) hb); have n1_ := Aside0.mk (below_step (by repeat (first | (with_reducible first | exact HB.out|apply bA|apply bN|apply bD | refine below_set ?_ GE245.out) | exact HB.out)) hb); have n2_ := Aside0.mk (hbox); have n3_ := Aside0.mk ((by rw [hg]; exact (below_size (by repeat (first | (with_reducible first | exact HB.out|apply bA|apply bN|apply bD | refine below_set ?_ GE245.out) | exact HB.out))) : w.heap.size ≤ gb246)); have n4_ := Aside0.mk ((by rw [hg]; exact (below_size (by repeat (first | (with_reducible first | exact HB.out|apply bA|apply bN|apply bD | refine below_set ?_ GE245.out) | exact HB.out))) : w.heap.size ≤ gb246)); have n5_ := Aside0.mk ((by rw [hg]; exact Nat.ne_of_lt (blk_lt (g := gb245) (o := .cells #[.slice A0_0 l0_0.length c0_0, .slice A0_1 l0_1.length c0_1, .slice A0_2 l0_2.length c0_2] 27 (0, 0)) (by (with_reducible repeat (first|refine kN ?_ _|refine kD ?_|refine kA ?_ _)); exact BK245.out)) : gb245 ≠ gb246)); have n6_ := Aside0.mk ((by rw [hg]; exact Nat.ne_of_gt (blk_lt (g := gb245) (o := .cells #[.slice A0_0 l0_0.length c0_0, .slice A0_1 l0_1.length c0_1, .slice A0_2 l0_2.length c0_2] 27 (0, 0)) (by (with_reducible repeat (first|refine kN ?_ _|refine kD ?_|refine kA ?_ _)); exact BK245.out)) : gb246 ≠ gb245)); clear BK245; clear HB; have BK245 := n0_; have HB := n1_; have BK246 := n2_; have GW246 := n3_; have GE246 := n4_; have NB245_246 := n5_; have NB246_245 := n6_; clear n0_ n1_ n2_ n3_ n4_ n5_ n6_; clear hb hbox hg; have hnb79 := NB245_246.out; have hnc79 := NB246_245.out; have hcz80_0 : w78.cell? ⟨gb245, 0, none⟩ = some (.slice A0_0 l0_0.length c0_0) := (blk_cell BK245.out 0).trans rfl; have hcz80_1 : w78.cell? ⟨gb245, 1, none⟩ = some (.slice A0_1 l0_1.length c0_1) := (blk_cell BK245.out 1).trans rfl; have hcz80_2 : w78.cell? ⟨gb245, 2, none⟩ = some (.slice A0_2 l0_2.length c0_2) := (blk_cell BK245.out 2).trans rfl; have hfz80_0 := blk_frozen BK245.out 0; have hfz80_1 := blk_frozen BK245.out 1; have hfz80_2 := blk_frozen BK245.out 2) | ((with_reducible refine gate_callee (f := 15) rfl ?_); refine goesL_ (some 9) rfl rfl Tryd.func15 (by kernel_rfl) rfl #[.agg #[.slice A0_0 l0_0.length c0_0, .slice A0_1 l0_1.length c0_1, .slice A0_2 l0_2.length c0_2]] rfl (by (try simp only [zE,zF,zG]); first|done|rfl|(simp only [zH,zI]; rfl)) ?_; (with_reducible refine (impl_ExchangeOk.calls k _ _ l0_0 _ _ l0_1 _ _ l0_2 false _ ?side1 ?side2 ?side3 ?side4 ?side5 ?side6 A2.out).mono ?_); (case side1 => repeat (first | exact (Kd.C_below HR0_0.out HB.out) | (with_reducible refine Kd.C_alloc ?_ _) | (with_reducible refine Kd.C_drewN ?_ _) | (with_reducible refine Kd.C_drew ?_))); (case side2 => exact HC0_0.out); (case side3 => repeat (first | exact (Kd.C_below HR0_1.out HB.out) | (with_reducible refine Kd.C_alloc ?_ _) | (with_reducible refine Kd.C_drewN ?_ _) | (with_reducible refine Kd.C_drew ?_))); (case side4 => exact HC0_1.out); (case side5 => repeat (first | exact (Kd.C_below HR0_2.out HB.out) | (with_reducible refine Kd.C_alloc ?_ _) | (with_reducible refine Kd.C_drewN ?_ _) | (with_reducible refine Kd.C_drew ?_))); (case side6 => exact HC0_2.out); rintro e w81 ⟨rfl, hb⟩; refine ⟨_, rfl, ?_⟩; have n0_ := Aside0.mk (blk_below (g := gb245) (o := .cells #[.slice A0_0 l0_0.length c0_0, .slice A0_1 l0_1.length c0_1, .slice A0_2 l0_2.length c0_2] 27 (0, 0)) (by (with_reducible repeat (first|refine kN ?_ _|refine kD ?_|refine kA ?_ _)); exact BK245.out) hb); have n1_ := Aside0.mk (blk_below (g := gb246) (o := .cells #[.slice none 0 0, .slice none 0 0, .slice none 0 0] 27 (0, 0)) (by (with_reducible repeat (first|refine kN ?_ _|refine kD ?_|refine kA ?_ _)); exact BK246.out) hb); have n2_ := Aside0.mk (below_step (by repeat (first | (with_reducible first | exact HB.out|apply bA|apply bN|apply bD | refine below_set ?_ GE245.out | refine below_set ?_ GE246.out) | exact HB.out)) hb); clear BK245; clear BK246; clear HB; have BK245 := n0_; have BK246 := n1_; have HB := n2_; clear n0_ n1_ n2_; (try clear hb); (try clear hb2); (try clear hk); (try clear hi); have hcz82_0 : w81.cell? ⟨gb246, 0, none⟩ = some (.slice none 0 0) := (blk_cell BK246.out 0).trans rfl; have hcz82_1 : w81.cell? ⟨gb246, 1, none⟩ = some (.slice none 0 0) := (blk_cell BK246.out 1).trans rfl; have hcz82_2 : w81.cell? ⟨gb246, 2, none⟩ = some (.slice none 0 0) := (blk_cell BK246.out 2).trans rfl; have hfz82_0 := blk_frozen BK246.out 0; have hfz82_1 := blk_frozen BK246.out 1; have hfz82_2 := blk_frozen BK246.out 2))
  refine bodyPost_ret (results_ct rfl _ _ gb246 27 #[.slice none 0 0, .slice none 0 0, .slice none 0 0] (0, 0) _ rfl (by (with_reducible repeat (first|refine kN ?_ _|refine kD ?_|refine kA ?_ _)); refine blk_put (cs := #[.slice none 0 0, .slice none 0 0, .slice none 0 0]) ?_ 2 _ rfl; (with_reducible repeat (first|refine kN ?_ _|refine kD ?_|refine kA ?_ _)); refine blk_put (cs := #[.slice none 0 0, .slice none 0 0, .slice none 0 0]) ?_ 1 _ rfl; (with_reducible repeat (first|refine kN ?_ _|refine kD ?_|refine kA ?_ _)); refine blk_put (cs := #[.slice none 0 0, .slice none 0 0, .slice none 0 0]) ?_ 0 _ rfl; (with_reducible repeat (first|refine kN ?_ _|refine kD ?_|refine kA ?_ _)); exact BK246.out) Tryd.underlying27 rfl (by kernel_rfl)) rfl ?_
  exact ⟨_, _, _, by first | rfl | (simp [errW_none, errW_some] <;> rfl) | (simp [*, errW_none, errW_some] <;> rfl), by first | exact Kd.R_nil _ _ _ _ _ | exact Kd.N_nil _ _ _ _ _ | exact Kd.V_nil _ _ _ _ _ | exact Kd.Q_nil _ _ _ _ _ | exact Kd.S_nil _ _ _ _ _, by first | exact Kd.R_nil _ _ _ _ _ | exact Kd.N_nil _ _ _ _ _ | exact Kd.V_nil _ _ _ _ _ | exact Kd.Q_nil _ _ _ _ _ | exact Kd.S_nil _ _ _ _ _, by first | exact Kd.R_nil _ _ _ _ _ | exact Kd.N_nil _ _ _ _ _ | exact Kd.V_nil _ _ _ _ _ | exact Kd.Q_nil _ _ _ _ _ | exact Kd.S_nil _ _ _ _ _, by repeat (first | (with_reducible first | exact HB.out|apply bA|apply bN|apply bD | refine below_set ?_ GE245.out | refine below_set ?_ GE246.out) | exact HB.out)⟩

end Go.Proofs.YtbolkipmehmncaaDoor.S
