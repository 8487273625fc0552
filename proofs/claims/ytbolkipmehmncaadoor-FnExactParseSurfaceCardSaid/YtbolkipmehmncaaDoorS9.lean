-- PRINTED by print.py (a twelfth state) out of the translation. Not trusted: Lean checks it.
import Derived.Test.YtbolkipmehmncaaDoorS0
import Derived.Test.YtbolkipmehmncaaDoorS2
import Derived.Test.YtbolkipmehmncaaDoorS8
namespace Go.Proofs.YtbolkipmehmncaaDoor.S
open Go.RowKit Go.Proofs.YtbolkipmehmncaaDoorW.PrintWords Go.Proofs.YtbolkipmehmncaaDoorW.PrintLast Go.Proofs.YtbolkipmehmncaaDoorW.PrintMore
attribute [local go_sem] max2_int min2_int max_two min_two max_three min_three max_four min_four   -- for this text's walks alone
set_option linter.unusedVariables false
set_option linter.unusedSimpArgs false

/-! ### spec_ParseSurface: function 31 -/
def spec_ParseSurface.f (k : Nat) (a0 : ByteArray) : Option (List Int × List Int × Bool) := (spec_SplitAny.f k a0 (⟨#[124]⟩ : ByteArray)).bind fun t351 => (if (t351.length : Int) = 2 then (if 0 < (t351.length : Int) then ((spec_SplitAny.f k (rdOf ByteArray.empty t351 0) (⟨#[44]⟩ : ByteArray)).bind fun t355 => ((spec_l17Numbers.f k t355).bind fun bt358 => (if 1 < (t351.length : Int) then ((spec_SplitAny.f k (rdOf ByteArray.empty t351 1) (⟨#[44]⟩ : ByteArray)).bind fun t363 => ((spec_l17Numbers.f k t363).bind fun bt366 => (if bt358.2 = true then (if bt366.2 = true then ((spec_SurfaceOk.f k bt358.1 bt366.1).bind fun t371 => (if t371 = true then ((spec_FormatSurface.f k bt358.1 bt366.1).bind fun t372 => (if t372.toList = a0.toList then (some (bt358.1, bt366.1, true)) else (some (([] : List Int), ([] : List Int), false)))) else (some (([] : List Int), ([] : List Int), false)))) else (some (([] : List Int), ([] : List Int), false))) else (some (([] : List Int), ([] : List Int), false))))) else (none)))) else (none)) else (some (([] : List Int), ([] : List Int), false)))
set_option maxHeartbeats 8000000 in
set_option maxRecDepth 100000 in
theorem spec_ParseSurface.calls (k : Nat) (a0 : ByteArray) (r1 : List Int) (r2 : List Int) (r3 : Bool) (w : World) (h : spec_ParseSurface.f k a0 = some (r1, r2, r3)) :
  Calls Tryd.prog 31 #[.string a0] w fun e w' => ∃ v0_ v1_ : Value, e = .returned (.tuple #[.agg #[v0_, v1_], .bool r3]) ∧ Kd.R (Kd.int .i64) 3 w' w.heap.size (fun k_ => some k_ ≠ (v1_ : Value).ownBlock) v0_ r1 ∧ Kd.R (Kd.int .i64) 3 w' w.heap.size (fun k_ => some k_ ≠ (v0_ : Value).ownBlock) v1_ r2 ∧ Below w.heap.size w w' := by
 have hu46 := Tryd.underlying46
 have HB := Aside0.mk (Below.refl w.heap.size w)
 have H : ((spec_SplitAny.f k a0 (⟨#[124]⟩ : ByteArray)).bind fun t351 => (if (t351.length : Int) = 2 then (if 0 < (t351.length : Int) then ((spec_SplitAny.f k (rdOf ByteArray.empty t351 0) (⟨#[44]⟩ : ByteArray)).bind fun t355 => ((spec_l17Numbers.f k t355).bind fun bt358 => (if 1 < (t351.length : Int) then ((spec_SplitAny.f k (rdOf ByteArray.empty t351 1) (⟨#[44]⟩ : ByteArray)).bind fun t363 => ((spec_l17Numbers.f k t363).bind fun bt366 => (if bt358.2 = true then (if bt366.2 = true then ((spec_SurfaceOk.f k bt358.1 bt366.1).bind fun t371 => (if t371 = true then ((spec_FormatSurface.f k bt358.1 bt366.1).bind fun t372 => (if t372.toList = a0.toList then (some (bt358.1, bt366.1, true)) else (some (([] : List Int), ([] : List Int), false)))) else (some (([] : List Int), ([] : List Int), false)))) else (some (([] : List Int), ([] : List Int), false))) else (some (([] : List Int), ([] : List Int), false))))) else (none)))) else (none)) else (some (([] : List Int), ([] : List Int), false)))) = some (r1, r2, r3) := h
 clear h
 replace H := Option.bind_eq_some_iff.mp H
 obtain ⟨t351, A20, H⟩ := H
 replace H : (if (t351.length : Int) = 2 then (if 0 < (t351.length : Int) then ((spec_SplitAny.f k (rdOf ByteArray.empty t351 0) (⟨#[44]⟩ : ByteArray)).bind fun t355 => ((spec_l17Numbers.f k t355).bind fun bt358 => (if 1 < (t351.length : Int) then ((spec_SplitAny.f k (rdOf ByteArray.empty t351 1) (⟨#[44]⟩ : ByteArray)).bind fun t363 => ((spec_l17Numbers.f k t363).bind fun bt366 => (if bt358.2 = true then (if bt366.2 = true then ((spec_SurfaceOk.f k bt358.1 bt366.1).bind fun t371 => (if t371 = true then ((spec_FormatSurface.f k bt358.1 bt366.1).bind fun t372 => (if t372.toList = a0.toList then (some (bt358.1, bt366.1, true)) else (some (([] : List Int), ([] : List Int), false)))) else (some (([] : List Int), ([] : List Int), false)))) else (some (([] : List Int), ([] : List Int), false))) else (some (([] : List Int), ([] : List Int), false))))) else (none)))) else (none)) else (some (([] : List Int), ([] : List Int), false))) = some (r1, r2, r3) := H
 have A2 := Aside0.mk A20
 clear A20
 by_cases c3 : (t351.length : Int) = 2
 ·rw [if_pos c3] at H
  have c3b0 : ((t351.length : Int) == 2) = true := beq_iff_eq.mpr c3
  have c3b1 : ((t351.length : Int) != 2) = false := bne_eq_false_iff_eq.mpr c3
  clear c3
  by_cases c4 : 0 < (t351.length : Int)
  ·rw [if_pos c4] at H
   have c4b0 : decide (0 < (t351.length : Int)) = true := decide_eq_true c4
   have c4b1 : decide (0 < t351.length) = true := decide_eq_true (by omega)
   clear c4
   replace H := Option.bind_eq_some_iff.mp H
   obtain ⟨t355, A50, H⟩ := H
   replace H : ((spec_l17Numbers.f k t355).bind fun bt358 => (if 1 < (t351.length : Int) then ((spec_SplitAny.f k (rdOf ByteArray.empty t351 1) (⟨#[44]⟩ : ByteArray)).bind fun t363 => ((spec_l17Numbers.f k t363).bind fun bt366 => (if bt358.2 = true then (if bt366.2 = true then ((spec_SurfaceOk.f k bt358.1 bt366.1).bind fun t371 => (if t371 = true then ((spec_FormatSurface.f k bt358.1 bt366.1).bind fun t372 => (if t372.toList = a0.toList then (some (bt358.1, bt366.1, true)) else (some (([] : List Int), ([] : List Int), false)))) else (some (([] : List Int), ([] : List Int), false)))) else (some (([] : List Int), ([] : List Int), false))) else (some (([] : List Int), ([] : List Int), false))))) else (none))) = some (r1, r2, r3) := H
   have A5 := Aside0.mk A50
   clear A50
   replace H := Option.bind_eq_some_iff.mp H
   obtain ⟨⟨t358, t359⟩, A60, H⟩ := H
   replace H : (if 1 < (t351.length : Int) then ((spec_SplitAny.f k (rdOf ByteArray.empty t351 1) (⟨#[44]⟩ : ByteArray)).bind fun t363 => ((spec_l17Numbers.f k t363).bind fun bt366 => (if t359 = true then (if bt366.2 = true then ((spec_SurfaceOk.f k t358 bt366.1).bind fun t371 => (if t371 = true then ((spec_FormatSurface.f k t358 bt366.1).bind fun t372 => (if t372.toList = a0.toList then (some (t358, bt366.1, true)) else (some (([] : List Int), ([] : List Int), false)))) else (some (([] : List Int), ([] : List Int), false)))) else (some (([] : List Int), ([] : List Int), false))) else (some (([] : List Int), ([] : List Int), false))))) else (none)) = some (r1, r2, r3) := H
   have A6 := Aside0.mk A60
   clear A60
   by_cases c7 : 1 < (t351.length : Int)
   ·rw [if_pos c7] at H
    have c7b0 : decide (1 < (t351.length : Int)) = true := decide_eq_true c7
    have c7b1 : decide (1 < t351.length) = true := decide_eq_true (by omega)
    clear c7
    replace H := Option.bind_eq_some_iff.mp H
    obtain ⟨t363, A80, H⟩ := H
    replace H : ((spec_l17Numbers.f k t363).bind fun bt366 => (if t359 = true then (if bt366.2 = true then ((spec_SurfaceOk.f k t358 bt366.1).bind fun t371 => (if t371 = true then ((spec_FormatSurface.f k t358 bt366.1).bind fun t372 => (if t372.toList = a0.toList then (some (t358, bt366.1, true)) else (some (([] : List Int), ([] : List Int), false)))) else (some (([] : List Int), ([] : List Int), false)))) else (some (([] : List Int), ([] : List Int), false))) else (some (([] : List Int), ([] : List Int), false)))) = some (r1, r2, r3) := H
    have A8 := Aside0.mk A80
    clear A80
    replace H := Option.bind_eq_some_iff.mp H
    obtain ⟨⟨t366, t367⟩, A90, H⟩ := H
    replace H : (if t359 = true then (if t367 = true then ((spec_SurfaceOk.f k t358 t366).bind fun t371 => (if t371 = true then ((spec_FormatSurface.f k t358 t366).bind fun t372 => (if t372.toList = a0.toList then (some (t358, t366, true)) else (some (([] : List Int), ([] : List Int), false)))) else (some (([] : List Int), ([] : List Int), false)))) else (some (([] : List Int), ([] : List Int), false))) else (some (([] : List Int), ([] : List Int), false))) = some (r1, r2, r3) := H
    have A9 := Aside0.mk A90
    clear A90
    by_cases c10 : t359 = true
    ·subst c10
     have H1 : (if t367 = true then ((spec_SurfaceOk.f k t358 t366).bind fun t371 => (if t371 = true then ((spec_FormatSurface.f k t358 t366).bind fun t372 => (if t372.toList = a0.toList then (some (t358, t366, true)) else (some (([] : List Int), ([] : List Int), false)))) else (some (([] : List Int), ([] : List Int), false)))) else (some (([] : List Int), ([] : List Int), false))) = some (r1, r2, r3) := by rw [if_pos rfl] at H; exact H
     clear H
     have H := H1
     clear H1
     by_cases c11 : t367 = true
     ·subst c11
      have H1 : ((spec_SurfaceOk.f k t358 t366).bind fun t371 => (if t371 = true then ((spec_FormatSurface.f k t358 t366).bind fun t372 => (if t372.toList = a0.toList then (some (t358, t366, true)) else (some (([] : List Int), ([] : List Int), false)))) else (some (([] : List Int), ([] : List Int), false)))) = some (r1, r2, r3) := by rw [if_pos rfl] at H; exact H
      clear H
      have H := H1
      clear H1
      replace H := Option.bind_eq_some_iff.mp H
      obtain ⟨t371, A120, H⟩ := H
      replace H : (if t371 = true then ((spec_FormatSurface.f k t358 t366).bind fun t372 => (if t372.toList = a0.toList then (some (t358, t366, true)) else (some (([] : List Int), ([] : List Int), false)))) else (some (([] : List Int), ([] : List Int), false))) = some (r1, r2, r3) := H
      have A12 := Aside0.mk A120
      clear A120
      by_cases c13 : t371 = true
      ·subst c13
       have H1 : ((spec_FormatSurface.f k t358 t366).bind fun t372 => (if t372.toList = a0.toList then (some (t358, t366, true)) else (some (([] : List Int), ([] : List Int), false)))) = some (r1, r2, r3) := by rw [if_pos rfl] at H; exact H
       clear H
       have H := H1
       clear H1
       replace H := Option.bind_eq_some_iff.mp H
       obtain ⟨t372, A140, H⟩ := H
       replace H : (if t372.toList = a0.toList then (some (t358, t366, true)) else (some (([] : List Int), ([] : List Int), false))) = some (r1, r2, r3) := H
       have A14 := Aside0.mk A140
       clear A140
       by_cases c15 : t372.toList = a0.toList
       ·rw [if_pos c15] at H
        have c15b0 : (t372.toList == a0.toList) = true := beq_iff_eq.mpr c15
        have c15b1 : (t372.toList != a0.toList) = false := bne_eq_false_iff_eq.mpr c15
        clear c15
        simp only [Option.some.injEq, Prod.mk.injEq] at H
        obtain ⟨rfl, rfl, rfl⟩ := H
        go_enter Tryd.func31, Tryd.ntmps31
        go_wp2_with (first | ((with_reducible refine gate_dst (N := 2) rfl ?_); refine box_event ?hg (N := 2) ?hd (cs := #[.slice none 0 0, .slice none 0 0]) (t := 46) ?hr ?_; (case hd => rfl); (case hg => rfl); (case hr => first | (go_simp; done) | (go_simp; rfl)); intro gb350 hg w16 hbox hb; have n0_ := Aside0.mk (below_step (by repeat (first | (with_reducible first | exact HB.out|apply bA|apply bN|apply bD) | exact HB.out)) hb); have n1_ := Aside0.mk (hbox); have n2_ := Aside0.mk ((by rw [hg]; exact (below_size (by repeat (first | (with_reducible first | exact HB.out|apply bA|apply bN|apply bD) | exact HB.out))) : w.heap.size ≤ gb350)); have n3_ := Aside0.mk ((by rw [hg]; exact (below_size (by repeat (first | (with_reducible first | exact HB.out|apply bA|apply bN|apply bD) | exact HB.out))) : w.heap.size ≤ gb350)); clear HB; have HB := n0_; have BK350 := n1_; have GW350 := n2_; have GE350 := n3_; clear n0_ n1_ n2_ n3_; clear hb hbox hg) | ((with_reducible refine gate_callee (f := 58) rfl ?_); refine goesL_ (some 11) rfl rfl Tryd.func58 (by kernel_rfl) rfl #[.string a0, .string (⟨#[124]⟩ : ByteArray)] rfl (by (try simp only [zE,zF,zG]); first|done|rfl|(simp only [zH,zI]; rfl)) ?_; (with_reducible refine (spec_SplitAny.calls k a0 (⟨#[124]⟩ : ByteArray) t351 _ A2.out).mono ?_); rintro e w17 ⟨v352, rfl, ho0, hb⟩; refine ⟨_, rfl, ?_⟩; have n0_ := Aside0.mk (Kd.R_lower ho0 (below_size (by repeat (first | (with_reducible first | exact HB.out|apply bA|apply bN|apply bD | refine below_set ?_ GE350.out) | exact HB.out)))); have n1_ := Aside0.mk (blk_below (g := gb350) (o := .cells #[.slice none 0 0, .slice none 0 0] 46 (0, 0)) (by (with_reducible repeat (first|refine kN ?_ _|refine kD ?_|refine kA ?_ _)); exact BK350.out) hb); have n2_ := Aside0.mk (below_step (by repeat (first | (with_reducible first | exact HB.out|apply bA|apply bN|apply bD | refine below_set ?_ GE350.out) | exact HB.out)) hb); clear BK350; clear HB; have HO353 := n0_; have BK350 := n1_; have HB := n2_; clear n0_ n1_ n2_; (try clear hb); (try clear hb2); (try clear hk); (try clear hi); (try clear ho0); obtain ⟨Ao18, co18, eo18⟩ := Kd.R_slice HO353.out; subst eo18; have p354 : 0 ≤ (0 : Int) := (by omega); have q354 : 0 < (t351.length : Int) := of_decide_eq_true (by first | (with_reducible assumption) | assumption); obtain ⟨ad354, e354, hx354_0⟩ := Kd.at_string (Kd.R_reads' HO353.out).2.2 0 p354 q354; cases e354; have qi354 : (0 < t351.length) = True := eq_true (by omega); (try rw [show ((0 : Int)).toNat = 0 from rfl] at hx354_0); (try rw [Addr.add_zero'] at hx354_0); replace p354 := eq_true p354; replace q354 := eq_true q354) | ((with_reducible refine gate_callee (f := 58) rfl ?_); refine goesL_ (some 20) rfl rfl Tryd.func58 (by kernel_rfl) rfl #[.string (rdOf ByteArray.empty t351 0), .string (⟨#[44]⟩ : ByteArray)] rfl (by (try simp only [zE,zF,zG]); first|done|rfl|(simp only [zH,zI]; rfl)) ?_; (with_reducible refine (spec_SplitAny.calls k (rdOf ByteArray.empty t351 0) (⟨#[44]⟩ : ByteArray) t355 _ A5.out).mono ?_); rintro e w19 ⟨v356, rfl, ho0, hb⟩; refine ⟨_, rfl, ?_⟩; have n0_ := Aside0.mk (Kd.R_elder' (by (with_reducible repeat (first|apply rA|apply rN|apply rD)); exact HO353.out) (Kd.R_base ho0) hb); have n1_ := Aside0.mk (Kd.R_lower (Kd.R_new' ho0 (Kd.R_lt (by (with_reducible repeat (first|apply rA|apply rN|apply rD)); exact HO353.out))) (below_size (by repeat (first | (with_reducible first | exact HB.out|apply bA|apply bN|apply bD | refine below_set ?_ GE350.out) | exact HB.out)))); have n2_ := Aside0.mk (blk_below (g := gb350) (o := .cells #[.slice none 0 0, .slice none 0 0] 46 (0, 0)) (by (with_reducible repeat (first|refine kN ?_ _|refine kD ?_|refine kA ?_ _)); exact BK350.out) hb); have n3_ := Aside0.mk (below_step (by repeat (first | (with_reducible first | exact HB.out|apply bA|apply bN|apply bD | refine below_set ?_ GE350.out) | exact HB.out)) hb); clear HO353; clear BK350; clear HB; have HO353 := n0_; have HO357 := n1_; have BK350 := n2_; have HB := n3_; clear n0_ n1_ n2_ n3_; (try clear hb); (try clear hb2); (try clear hk); (try clear hi); (try clear ho0); obtain ⟨Ao20, co20, eo20⟩ := Kd.R_slice HO357.out; subst eo20) | ((with_reducible refine gate_callee (f := 59) rfl ?_); refine goesL_ (some 21) rfl rfl Tryd.func59 (by kernel_rfl) rfl #[.slice Ao20 t355.length co20] rfl (by (try simp only [zE,zF,zG]); first|done|rfl|(simp only [zH,zI]; rfl)) ?_; (with_reducible refine (spec_l17Numbers.calls k _ _ t355 t358 true _ ?side1 ?side2 A6.out).mono ?_); (case side1 => repeat (first | exact (Kd.R_reads' HO357.out).2.2 | (with_reducible refine Kd.C_alloc ?_ _) | (with_reducible refine Kd.C_drewN ?_ _) | (with_reducible refine Kd.C_drew ?_))); (case side2 => exact (Kd.R_reads' HO357.out).2.1); rintro e w21 ⟨v360, rfl, ho0, hb⟩; refine ⟨_, rfl, ?_⟩; have n0_ := Aside0.mk (Kd.R_below (by (with_reducible repeat (first|apply rA|apply rN|apply rD)); exact HO353.out) hb); have n1_ := Aside0.mk (Kd.R_below (by (with_reducible repeat (first|apply rA|apply rN|apply rD)); exact HO357.out) hb); have n2_ := Aside0.mk (Kd.R_lower ho0 (below_size (by repeat (first | (with_reducible first | exact HB.out|apply bA|apply bN|apply bD | refine below_set ?_ GE350.out) | exact HB.out)))); have n3_ := Aside0.mk (blk_below (g := gb350) (o := .cells #[.slice none 0 0, .slice none 0 0] 46 (0, 0)) (by (with_reducible repeat (first|refine kN ?_ _|refine kD ?_|refine kA ?_ _)); exact BK350.out) hb); have n4_ := Aside0.mk (below_step (by repeat (first | (with_reducible first | exact HB.out|apply bA|apply bN|apply bD | refine below_set ?_ GE350.out) | exact HB.out)) hb); clear HO353; clear HO357; clear BK350; clear HB; have HO353 := n0_; have HO357 := n1_; have HO361 := n2_; have BK350 := n3_; have HB := n4_; clear n0_ n1_ n2_ n3_ n4_; (try clear hb); (try clear hb2); (try clear hk); (try clear hi); (try clear ho0); have p362 : 0 ≤ (1 : Int) := (by omega); have q362 : 1 < (t351.length : Int) := of_decide_eq_true (by first | (with_reducible assumption) | assumption); obtain ⟨ad362, e362, hx362_0⟩ := Kd.at_string (Kd.R_reads' HO353.out).2.2 1 p362 q362; obtain rfl : ad354 = ad362 := (by injection e362); (try simp only [show (1 : Int).toNat = 1 from rfl, Nat.reduceMul, Nat.reduceEqDiff, Go.Addr.add, ↓reduceIte] at hx362_0); have qi362 : (1 < t351.length) = True := eq_true (by omega); (try rw [show ((1 : Int)).toNat = 1 from rfl] at hx362_0); replace p362 := eq_true p362; replace q362 := eq_true q362) | ((with_reducible refine gate_callee (f := 58) rfl ?_); refine goesL_ (some 28) rfl rfl Tryd.func58 (by kernel_rfl) rfl #[.string (rdOf ByteArray.empty t351 1), .string (⟨#[44]⟩ : ByteArray)] rfl (by (try simp only [zE,zF,zG]); first|done|rfl|(simp only [zH,zI]; rfl)) ?_; (with_reducible refine (spec_SplitAny.calls k (rdOf ByteArray.empty t351 1) (⟨#[44]⟩ : ByteArray) t363 _ A8.out).mono ?_); rintro e w22 ⟨v364, rfl, ho0, hb⟩; refine ⟨_, rfl, ?_⟩; have n0_ := Aside0.mk (Kd.R_elder' (by (with_reducible repeat (first|apply rA|apply rN|apply rD)); exact HO353.out) (Kd.R_base ho0) hb); have n1_ := Aside0.mk (Kd.R_elder' (by (with_reducible repeat (first|apply rA|apply rN|apply rD)); exact HO357.out) (Kd.R_base ho0) hb); have n2_ := Aside0.mk (Kd.R_below (by (with_reducible repeat (first|apply rA|apply rN|apply rD)); exact HO361.out) hb); have n3_ := Aside0.mk (Kd.R_lower (Kd.R_new' (Kd.R_new' ho0 (Kd.R_lt (by (with_reducible repeat (first|apply rA|apply rN|apply rD)); exact HO353.out))) (Kd.R_lt (by (with_reducible repeat (first|apply rA|apply rN|apply rD)); exact HO357.out))) (below_size (by repeat (first | (with_reducible first | exact HB.out|apply bA|apply bN|apply bD | refine below_set ?_ GE350.out) | exact HB.out)))); have n4_ := Aside0.mk (blk_below (g := gb350) (o := .cells #[.slice none 0 0, .slice none 0 0] 46 (0, 0)) (by (with_reducible repeat (first|refine kN ?_ _|refine kD ?_|refine kA ?_ _)); exact BK350.out) hb); have n5_ := Aside0.mk (below_step (by repeat (first | (with_reducible first | exact HB.out|apply bA|apply bN|apply bD | refine below_set ?_ GE350.out) | exact HB.out)) hb); clear HO353; clear HO357; clear HO361; clear BK350; clear HB; have HO353 := n0_; have HO357 := n1_; have HO361 := n2_; have HO365 := n3_; have BK350 := n4_; have HB := n5_; clear n0_ n1_ n2_ n3_ n4_ n5_; (try clear hb); (try clear hb2); (try clear hk); (try clear hi); (try clear ho0); obtain ⟨Ao23, co23, eo23⟩ := Kd.R_slice HO365.out; subst eo23) | ((with_reducible refine gate_callee (f := 59) rfl ?_); refine goesL_ (some 29) rfl rfl Tryd.func59 (by kernel_rfl) rfl #[.slice Ao23 t363.length co23] rfl (by (try simp only [zE,zF,zG]); first|done|rfl|(simp only [zH,zI]; rfl)) ?_; (with_reducible refine (spec_l17Numbers.calls k _ _ t363 t366 true _ ?side1 ?side2 A9.out).mono ?_); (case side1 => repeat (first | exact (Kd.R_reads' HO365.out).2.2 | (with_reducible refine Kd.C_alloc ?_ _) | (with_reducible refine Kd.C_drewN ?_ _) | (with_reducible refine Kd.C_drew ?_))); (case side2 => exact (Kd.R_reads' HO365.out).2.1); rintro e w24 ⟨v368, rfl, ho0, hb⟩; refine ⟨_, rfl, ?_⟩; have n0_ := Aside0.mk (Kd.R_below (by (with_reducible repeat (first|apply rA|apply rN|apply rD)); exact HO353.out) hb); have n1_ := Aside0.mk (Kd.R_below (by (with_reducible repeat (first|apply rA|apply rN|apply rD)); exact HO357.out) hb); have n2_ := Aside0.mk (Kd.R_elder' (by (with_reducible repeat (first|apply rA|apply rN|apply rD)); exact HO361.out) (Kd.R_base ho0) hb); have n3_ := Aside0.mk (Kd.R_below (by (with_reducible repeat (first|apply rA|apply rN|apply rD)); exact HO365.out) hb); have n4_ := Aside0.mk (Kd.R_lower (Kd.R_new' ho0 (Kd.R_lt (by (with_reducible repeat (first|apply rA|apply rN|apply rD)); exact HO361.out))) (below_size (by repeat (first | (with_reducible first | exact HB.out|apply bA|apply bN|apply bD | refine below_set ?_ GE350.out) | exact HB.out)))); have n5_ := Aside0.mk (blk_below (g := gb350) (o := .cells #[.slice none 0 0, .slice none 0 0] 46 (0, 0)) (by (with_reducible repeat (first|refine kN ?_ _|refine kD ?_|refine kA ?_ _)); exact BK350.out) hb); have n6_ := Aside0.mk (below_step (by repeat (first | (with_reducible first | exact HB.out|apply bA|apply bN|apply bD | refine below_set ?_ GE350.out) | exact HB.out)) hb); clear HO353; clear HO357; clear HO361; clear HO365; clear BK350; clear HB; have HO353 := n0_; have HO357 := n1_; have HO361 := n2_; have HO365 := n3_; have HO369 := n4_; have BK350 := n5_; have HB := n6_; clear n0_ n1_ n2_ n3_ n4_ n5_ n6_; (try clear hb); (try clear hb2); (try clear hk); (try clear hi); (try clear ho0); obtain ⟨Ao25, co25, eo25⟩ := Kd.R_slice HO369.out; subst eo25; obtain ⟨Ao26, co26, eo26⟩ := Kd.R_slice HO361.out; subst eo26) | ((with_reducible refine gate_dst (N := 9) rfl ?_); refine box_event ?hg (N := 9) ?hd (cs := #[.slice none 0 0, .slice none 0 0]) (t := 46) ?hr ?_; (case hd => rfl); (case hg => rfl); (case hr => first | (go_simp; done) | (go_simp; rfl)); intro gb370 hg w27 hbox hb; have n0_ := Aside0.mk (Kd.R_below (by (with_reducible repeat (first|apply rA|apply rN|apply rD)); exact HO353.out) hb); have n1_ := Aside0.mk (Kd.R_below (by (with_reducible repeat (first|apply rA|apply rN|apply rD)); exact HO357.out) hb); have n2_ := Aside0.mk (Kd.R_below (by (with_reducible repeat (first|apply rA|apply rN|apply rD)); exact HO361.out) hb); have n3_ := Aside0.mk (Kd.R_below (by (with_reducible repeat (first|apply rA|apply rN|apply rD)); exact HO365.out) hb); have n4_ := Aside0.mk (Kd.R_below (by (with_reducible repeat (first|apply rA|apply rN|apply rD)); exact HO369.out) hb); have n5_ := Aside0.mk (blk_below (g := gb350) (o := .cells #[.slice none 0 0, .slice none 0 0] 46 (0, 0)) (by (with_reducible repeat (first|refine kN ?_ _|refine kD ?_|refine kA ?_ _)); exact BK350.out) hb); have n6_ := Aside0.mk (below_step (by repeat (first | (with_reducible first | exact HB.out|apply bA|apply bN|apply bD | refine below_set ?_ GE350.out) | exact HB.out)) hb); have n7_ := Aside0.mk (hbox); have n8_ := Aside0.mk ((by rw [hg]; exact (below_size (by repeat (first | (with_reducible first | exact HB.out|apply bA|apply bN|apply bD | refine below_set ?_ GE350.out) | exact HB.out))) : w.heap.size ≤ gb370)); have n9_ := Aside0.mk ((by rw [hg]; exact (below_size (by repeat (first | (with_reducible first | exact HB.out|apply bA|apply bN|apply bD | refine below_set ?_ GE350.out) | exact HB.out))) : w.heap.size ≤ gb370)); have n10_ := Aside0.mk ((by rw [hg]; exact Nat.ne_of_lt (blk_lt (g := gb350) (o := .cells #[.slice none 0 0, .slice none 0 0] 46 (0, 0)) (by (with_reducible repeat (first|refine kN ?_ _|refine kD ?_|refine kA ?_ _)); exact BK350.out)) : gb350 ≠ gb370)); have n11_ := Aside0.mk ((by rw [hg]; exact Nat.ne_of_gt (blk_lt (g := gb350) (o := .cells #[.slice none 0 0, .slice none 0 0] 46 (0, 0)) (by (with_reducible repeat (first|refine kN ?_ _|refine kD ?_|refine kA ?_ _)); exact BK350.out)) : gb370 ≠ gb350)); clear HO353; clear HO357; clear HO361; clear HO365; clear HO369; clear BK350; clear HB; have HO353 := n0_; have HO357 := n1_; have HO361 := n2_; have HO365 := n3_; have HO369 := n4_; have BK350 := n5_; have HB := n6_; have BK370 := n7_; have GW370 := n8_; have GE370 := n9_; have NB350_370 := n10_; have NB370_350 := n11_; clear n0_ n1_ n2_ n3_ n4_ n5_ n6_ n7_ n8_ n9_ n10_ n11_; clear hb hbox hg; have hnb28 := NB370_350.out; have hnc28 := NB350_370.out; have hcz29_0 : w27.cell? ⟨gb370, 0, none⟩ = some (.slice none 0 0) := (blk_cell BK370.out 0).trans rfl; have hcz29_1 : w27.cell? ⟨gb370, 1, none⟩ = some (.slice none 0 0) := (blk_cell BK370.out 1).trans rfl; have hfz29_0 := blk_frozen BK370.out 0; have hfz29_1 := blk_frozen BK370.out 1) | (go_at_call 66; (with_reducible refine (spec_SurfaceOk.calls k _ _ t358 _ _ t366 true _ ?side1 ?side2 ?side3 ?side4 A12.out).mono ?_); (case side1 => refine (Kd.R_reads' (e := 3) (base := w.heap.size) (ok := fun k_ => (True ∧ some k_ ≠ (.slice Ao25 t366.length co25 : Value).ownBlock)) (n := t358.length) (c := co26) ?_).2.2; exact (by (with_reducible repeat (first|apply rA|apply rN|apply rD)); exact (Kd.R_mono (Kd.R_far (p := ⟨gb370, 1, none⟩) (Kd.R_far (p := ⟨gb370, 0, none⟩) (Kd.R_types HO361.out BK370.out (by decide)) (fun _ hk => hk.2) (.slice Ao26 t358.length co26)) (fun _ hk => hk.2) (.slice Ao25 t366.length co25)) (fun _ h_ => h_.1)))); (case side2 => exact (Kd.R_reads' HO361.out).2.1); (case side3 => refine (Kd.R_reads' (e := 3) (base := w.heap.size) (ok := fun k_ => (True ∧ some k_ ≠ (.slice Ao26 t358.length co26 : Value).ownBlock)) (n := t366.length) (c := co25) ?_).2.2; exact (by (with_reducible repeat (first|apply rA|apply rN|apply rD)); exact (Kd.R_mono (Kd.R_far (p := ⟨gb370, 1, none⟩) (Kd.R_far (p := ⟨gb370, 0, none⟩) (Kd.R_types HO369.out BK370.out (by decide)) (fun _ hk => hk.2) (.slice Ao26 t358.length co26)) (fun _ hk => hk.2) (.slice Ao25 t366.length co25)) (fun _ h_ => h_.1)))); (case side4 => exact (Kd.R_reads' HO369.out).2.1); rintro e w30 ⟨rfl, hb⟩; have n0_ := Aside0.mk (Kd.R_below (by (with_reducible repeat (first|apply rA|apply rN|apply rD)); exact (Kd.R_mono (Kd.R_far (p := ⟨gb370, 1, none⟩) (Kd.R_far (p := ⟨gb370, 0, none⟩) (Kd.R_types HO353.out BK370.out (by decide)) (fun _ hk => hk.2) (.slice Ao26 t358.length co26)) (fun _ hk => hk.2) (.slice Ao25 t366.length co25)) (fun _ h_ => h_.1))) hb); have n1_ := Aside0.mk (Kd.R_below (by (with_reducible repeat (first|apply rA|apply rN|apply rD)); exact (Kd.R_mono (Kd.R_far (p := ⟨gb370, 1, none⟩) (Kd.R_far (p := ⟨gb370, 0, none⟩) (Kd.R_types HO357.out BK370.out (by decide)) (fun _ hk => hk.2) (.slice Ao26 t358.length co26)) (fun _ hk => hk.2) (.slice Ao25 t366.length co25)) (fun _ h_ => h_.1))) hb); have n2_ := Aside0.mk (Kd.R_below (by (with_reducible repeat (first|apply rA|apply rN|apply rD)); exact (Kd.R_mono (Kd.R_far (p := ⟨gb370, 1, none⟩) (Kd.R_far (p := ⟨gb370, 0, none⟩) (Kd.R_types HO361.out BK370.out (by decide)) (fun _ hk => hk.2) (.slice Ao26 t358.length co26)) (fun _ hk => hk.2) (.slice Ao25 t366.length co25)) (fun _ h_ => h_.1))) hb); have n3_ := Aside0.mk (Kd.R_below (by (with_reducible repeat (first|apply rA|apply rN|apply rD)); exact (Kd.R_mono (Kd.R_far (p := ⟨gb370, 1, none⟩) (Kd.R_far (p := ⟨gb370, 0, none⟩) (Kd.R_types HO365.out BK370.out (by decide)) (fun _ hk => hk.2) (.slice Ao26 t358.length co26)) (fun _ hk => hk.2) (.slice Ao25 t366.length co25)) (fun _ h_ => h_.1))) hb); have n4_ := Aside0.mk (Kd.R_below (by (with_reducible repeat (first|apply rA|apply rN|apply rD)); exact (Kd.R_mono (Kd.R_far (p := ⟨gb370, 1, none⟩) (Kd.R_far (p := ⟨gb370, 0, none⟩) (Kd.R_types HO369.out BK370.out (by decide)) (fun _ hk => hk.2) (.slice Ao26 t358.length co26)) (fun _ hk => hk.2) (.slice Ao25 t366.length co25)) (fun _ h_ => h_.1))) hb); have n5_ := Aside0.mk (blk_below (g := gb350) (o := .cells #[.slice none 0 0, .slice none 0 0] 46 (0, 0)) (by (with_reducible repeat (first|refine kN ?_ _|refine kD ?_|refine kA ?_ _)); refine blk_far ?_ NB350_370.out _; (with_reducible repeat (first|refine kN ?_ _|refine kD ?_|refine kA ?_ _)); refine blk_far ?_ NB350_370.out _; (with_reducible repeat (first|refine kN ?_ _|refine kD ?_|refine kA ?_ _)); exact BK350.out) hb); have n6_ := Aside0.mk (blk_below (g := gb370) (o := .cells #[.slice Ao26 t358.length co26, .slice Ao25 t366.length co25] 46 (0, 0)) (by (with_reducible repeat (first|refine kN ?_ _|refine kD ?_|refine kA ?_ _)); refine blk_put (cs := #[.slice Ao26 t358.length co26, .slice none 0 0]) ?_ 1 _ rfl; (with_reducible repeat (first|refine kN ?_ _|refine kD ?_|refine kA ?_ _)); refine blk_put (cs := #[.slice none 0 0, .slice none 0 0]) ?_ 0 _ rfl; (with_reducible repeat (first|refine kN ?_ _|refine kD ?_|refine kA ?_ _)); exact BK370.out) hb); have n7_ := Aside0.mk (below_step (by repeat (first | (with_reducible first | exact HB.out|apply bA|apply bN|apply bD | refine below_set ?_ GE350.out | refine below_set ?_ GE370.out) | exact HB.out)) hb); clear HO353; clear HO357; clear HO361; clear HO365; clear HO369; clear BK350; clear BK370; clear HB; have HO353 := n0_; have HO357 := n1_; have HO361 := n2_; have HO365 := n3_; have HO369 := n4_; have BK350 := n5_; have BK370 := n6_; have HB := n7_; clear n0_ n1_ n2_ n3_ n4_ n5_ n6_ n7_; (try clear hb); (try clear hb2); (try clear hk); (try clear hi); have hcz31_0 : w30.cell? ⟨gb370, 0, none⟩ = some (.slice Ao26 t358.length co26) := (blk_cell BK370.out 0).trans rfl; have hcz31_1 : w30.cell? ⟨gb370, 1, none⟩ = some (.slice Ao25 t366.length co25) := (blk_cell BK370.out 1).trans rfl; have hfz31_0 := blk_frozen BK370.out 0; have hfz31_1 := blk_frozen BK370.out 1) | (go_at_call 67; (with_reducible refine (spec_FormatSurface.calls k _ _ t358 _ _ t366 t372 _ ?side1 ?side2 ?side3 ?side4 A14.out).mono ?_); (case side1 => repeat (first | exact (Kd.R_reads' HO361.out).2.2 | (with_reducible refine Kd.C_alloc ?_ _) | (with_reducible refine Kd.C_drewN ?_ _) | (with_reducible refine Kd.C_drew ?_))); (case side2 => exact (Kd.R_reads' HO361.out).2.1); (case side3 => repeat (first | exact (Kd.R_reads' HO369.out).2.2 | (with_reducible refine Kd.C_alloc ?_ _) | (with_reducible refine Kd.C_drewN ?_ _) | (with_reducible refine Kd.C_drew ?_))); (case side4 => exact (Kd.R_reads' HO369.out).2.1); rintro e w32 ⟨rfl, hb⟩; have n0_ := Aside0.mk (Kd.R_below (by (with_reducible repeat (first|apply rA|apply rN|apply rD)); exact HO353.out) hb); have n1_ := Aside0.mk (Kd.R_below (by (with_reducible repeat (first|apply rA|apply rN|apply rD)); exact HO357.out) hb); have n2_ := Aside0.mk (Kd.R_below (by (with_reducible repeat (first|apply rA|apply rN|apply rD)); exact HO361.out) hb); have n3_ := Aside0.mk (Kd.R_below (by (with_reducible repeat (first|apply rA|apply rN|apply rD)); exact HO365.out) hb); have n4_ := Aside0.mk (Kd.R_below (by (with_reducible repeat (first|apply rA|apply rN|apply rD)); exact HO369.out) hb); have n5_ := Aside0.mk (blk_below (g := gb350) (o := .cells #[.slice none 0 0, .slice none 0 0] 46 (0, 0)) (by (with_reducible repeat (first|refine kN ?_ _|refine kD ?_|refine kA ?_ _)); exact BK350.out) hb); have n6_ := Aside0.mk (blk_below (g := gb370) (o := .cells #[.slice Ao26 t358.length co26, .slice Ao25 t366.length co25] 46 (0, 0)) (by (with_reducible repeat (first|refine kN ?_ _|refine kD ?_|refine kA ?_ _)); exact BK370.out) hb); have n7_ := Aside0.mk (below_step (by repeat (first | (with_reducible first | exact HB.out|apply bA|apply bN|apply bD | refine below_set ?_ GE350.out | refine below_set ?_ GE370.out) | exact HB.out)) hb); clear HO353; clear HO357; clear HO361; clear HO365; clear HO369; clear BK350; clear BK370; clear HB; have HO353 := n0_; have HO357 := n1_; have HO361 := n2_; have HO365 := n3_; have HO369 := n4_; have BK350 := n5_; have BK370 := n6_; have HB := n7_; clear n0_ n1_ n2_ n3_ n4_ n5_ n6_ n7_; (try clear hb); (try clear hb2); (try clear hk); (try clear hi); have hcz33_0 : w32.cell? ⟨gb370, 0, none⟩ = some (.slice Ao26 t358.length co26) := (blk_cell BK370.out 0).trans rfl; have hcz33_1 : w32.cell? ⟨gb370, 1, none⟩ = some (.slice Ao25 t366.length co25) := (blk_cell BK370.out 1).trans rfl; have hfz33_0 := blk_frozen BK370.out 0; have hfz33_1 := blk_frozen BK370.out 1; have hcz34_0 : w32.cell? ⟨gb350, 0, none⟩ = some (.slice none 0 0) := (blk_cell BK350.out 0).trans rfl; have hcz34_1 : w32.cell? ⟨gb350, 1, none⟩ = some (.slice none 0 0) := (blk_cell BK350.out 1).trans rfl; have hfz34_0 := blk_frozen BK350.out 0; have hfz34_1 := blk_frozen BK350.out 1))
        refine bodyPost_ret (results_ct rfl _ _ gb350 46 #[.slice Ao26 t358.length co26, .slice Ao25 t366.length co25] (0, 0) _ rfl (by (with_reducible repeat (first|refine kN ?_ _|refine kD ?_|refine kA ?_ _)); refine blk_put (cs := #[.slice Ao26 t358.length co26, .slice none 0 0]) ?_ 1 _ rfl; (with_reducible repeat (first|refine kN ?_ _|refine kD ?_|refine kA ?_ _)); refine blk_put (cs := #[.slice none 0 0, .slice none 0 0]) ?_ 0 _ rfl; (with_reducible repeat (first|refine kN ?_ _|refine kD ?_|refine kA ?_ _)); exact BK350.out) Tryd.underlying46 rfl (by kernel_rfl)) rfl ?_
        exact ⟨_, _, by first | rfl | (simp [errW_none, errW_some] <;> rfl) | (simp [*, errW_none, errW_some] <;> rfl), by (with_reducible repeat (first|apply rA|apply rN|apply rD)); exact Kd.R_mono (Kd.R_far (p := ⟨gb350, 1, none⟩) (Kd.R_far (p := ⟨gb350, 0, none⟩) (Kd.R_types HO361.out BK350.out (by decide)) (fun _ hk => hk.2) (.slice Ao26 t358.length co26)) (fun _ hk => hk.2) (.slice Ao25 t366.length co25)) (fun _ hk => hk.1.2), by (with_reducible repeat (first|apply rA|apply rN|apply rD)); exact Kd.R_mono (Kd.R_far (p := ⟨gb350, 1, none⟩) (Kd.R_far (p := ⟨gb350, 0, none⟩) (Kd.R_types HO369.out BK350.out (by decide)) (fun _ hk => hk.2) (.slice Ao26 t358.length co26)) (fun _ hk => hk.2) (.slice Ao25 t366.length co25)) (fun _ hk => hk.1.2), by repeat (first | (with_reducible first | exact HB.out|apply bA|apply bN|apply bD | refine below_set ?_ GE350.out | refine below_set ?_ GE370.out) | exact HB.out)⟩
       ·rw [if_neg c15] at H
        have c15b0 : (t372.toList == a0.toList) = false := beq_eq_false_iff_ne.mpr c15
        have c15b1 : (t372.toList != a0.toList) = true := bne_iff_ne.mpr c15
        simp only [Option.some.injEq, Prod.mk.injEq] at H
        obtain ⟨rfl, rfl, rfl⟩ := H
        go_enter Tryd.func31, Tryd.ntmps31
        go_wp2_with (first | ((with_reducible refine gate_dst (N := 2) rfl ?_); refine box_event ?hg (N := 2) ?hd (cs := #[.slice none 0 0, .slice none 0 0]) (t := 46) ?hr ?_; (case hd => rfl); (case hg => rfl); (case hr => first | (go_simp; done) | (go_simp; rfl)); intro gb350 hg w35 hbox hb; have n0_ := Aside0.mk (below_step (by repeat (first | (with_reducible first | exact HB.out|apply bA|apply bN|apply bD) | exact HB.out)) hb); have n1_ := Aside0.mk (hbox); have n2_ := Aside0.mk ((by rw [hg]; exact (below_size (by repeat (first | (with_reducible first | exact HB.out|apply bA|apply bN|apply bD) | exact HB.out))) : w.heap.size ≤ gb350)); have n3_ := Aside0.mk ((by rw [hg]; exact (below_size (by repeat (first | (with_reducible first | exact HB.out|apply bA|apply bN|apply bD) | exact HB.out))) : w.heap.size ≤ gb350)); clear HB; have HB := n0_; have BK350 := n1_; have GW350 := n2_; have GE350 := n3_; clear n0_ n1_ n2_ n3_; clear hb hbox hg) | ((with_reducible refine gate_callee (f := 58) rfl ?_); refine goesL_ (some 11) rfl rfl Tryd.func58 (by kernel_rfl) rfl #[.string a0, .string (⟨#[124]⟩ : ByteArray)] rfl (by (try simp only [zE,zF,zG]); first|done|rfl|(simp only [zH,zI]; rfl)) ?_; (with_reducible refine (spec_SplitAny.calls k a0 (⟨#[124]⟩ : ByteArray) t351 _ A2.out).mono ?_); rintro e w36 ⟨v352, rfl, ho0, hb⟩; refine ⟨_, rfl, ?_⟩; have n0_ := Aside0.mk (Kd.R_lower ho0 (below_size (by repeat (first | (with_reducible first | exact HB.out|apply bA|apply bN|apply bD | refine below_set ?_ GE350.out) | exact HB.out)))); have n1_ := Aside0.mk (blk_below (g := gb350) (o := .cells #[.slice none 0 0, .slice none 0 0] 46 (0, 0)) (by (with_reducible repeat (first|refine kN ?_ _|refine kD ?_|refine kA ?_ _)); exact BK350.out) hb); have n2_ := Aside0.mk (below_step (by repeat (first | (with_reducible first | exact HB.out|apply bA|apply bN|apply bD | refine below_set ?_ GE350.out) | exact HB.out)) hb); clear BK350; clear HB; have HO353 := n0_; have BK350 := n1_; have HB := n2_; clear n0_ n1_ n2_; (try clear hb); (try clear hb2); (try clear hk); (try clear hi); (try clear ho0); obtain ⟨Ao37, co37, eo37⟩ := Kd.R_slice HO353.out; subst eo37; have p354 : 0 ≤ (0 : Int) := (by omega); have q354 : 0 < (t351.length : Int) := of_decide_eq_true (by first | (with_reducible assumption) | assumption); obtain ⟨ad354, e354, hx354_0⟩ := Kd.at_string (Kd.R_reads' HO353.out).2.2 0 p354 q354; cases e354; have qi354 : (0 < t351.length) = True := eq_true (by omega); (try rw [show ((0 : Int)).toNat = 0 from rfl] at hx354_0); (try rw [Addr.add_zero'] at hx354_0); replace p354 := eq_true p354; replace q354 := eq_true q354) | ((with_reducible refine gate_callee (f := 58) rfl ?_); refine goesL_ (some 20) rfl rfl Tryd.func58 (by kernel_rfl) rfl #[.string (rdOf ByteArray.empty t351 0), .string (⟨#[44]⟩ : ByteArray)] rfl (by (try simp only [zE,zF,zG]); first|done|rfl|(simp only [zH,zI]; rfl)) ?_; (with_reducible refine (spec_SplitAny.calls k (rdOf ByteArray.empty t351 0) (⟨#[44]⟩ : ByteArray) t355 _ A5.out).mono ?_); rintro e w38 ⟨v356, rfl, ho0, hb⟩; refine ⟨_, rfl, ?_⟩; have n0_ := Aside0.mk (Kd.R_elder' (by (with_reducible repeat (first|apply rA|apply rN|apply rD)); exact HO353.out) (Kd.R_base ho0) hb); have n1_ := Aside0.mk (Kd.R_lower (Kd.R_new' ho0 (Kd.R_lt (by (with_reducible repeat (first|apply rA|apply rN|apply rD)); exact HO353.out))) (below_size (by repeat (first | (with_reducible first | exact HB.out|apply bA|apply bN|apply bD | refine below_set ?_ GE350.out) | exact HB.out)))); have n2_ := Aside0.mk (blk_below (g := gb350) (o := .cells #[.slice none 0 0, .slice none 0 0] 46 (0, 0)) (by (with_reducible repeat (first|refine kN ?_ _|refine kD ?_|refine kA ?_ _)); exact BK350.out) hb); have n3_ := Aside0.mk (below_step (by repeat (first | (with_reducible first | exact HB.out|apply bA|apply bN|apply bD | refine below_set ?_ GE350.out) | exact HB.out)) hb); clear HO353; clear BK350; clear HB; have HO353 := n0_; have HO357 := n1_; have BK350 := n2_; have HB := n3_; clear n0_ n1_ n2_ n3_; (try clear hb); (try clear hb2); (try clear hk); (try clear hi); (try clear ho0); obtain ⟨Ao39, co39, eo39⟩ := Kd.R_slice HO357.out; subst eo39) | ((with_reducible refine gate_callee (f := 59) rfl ?_); refine goesL_ (some 21) rfl rfl Tryd.func59 (by kernel_rfl) rfl #[.slice Ao39 t355.length co39] rfl (by (try simp only [zE,zF,zG]); first|done|rfl|(simp only [zH,zI]; rfl)) ?_; (with_reducible refine (spec_l17Numbers.calls k _ _ t355 t358 true _ ?side1 ?side2 A6.out).mono ?_); (case side1 => repeat (first | exact (Kd.R_reads' HO357.out).2.2 | (with_reducible refine Kd.C_alloc ?_ _) | (with_reducible refine Kd.C_drewN ?_ _) | (with_reducible refine Kd.C_drew ?_))); (case side2 => exact (Kd.R_reads' HO357.out).2.1); rintro e w40 ⟨v360, rfl, ho0, hb⟩; refine ⟨_, rfl, ?_⟩; have n0_ := Aside0.mk (Kd.R_below (by (with_reducible repeat (first|apply rA|apply rN|apply rD)); exact HO353.out) hb); have n1_ := Aside0.mk (Kd.R_below (by (with_reducible repeat (first|apply rA|apply rN|apply rD)); exact HO357.out) hb); have n2_ := Aside0.mk (Kd.R_lower ho0 (below_size (by repeat (first | (with_reducible first | exact HB.out|apply bA|apply bN|apply bD | refine below_set ?_ GE350.out) | exact HB.out)))); have n3_ := Aside0.mk (blk_below (g := gb350) (o := .cells #[.slice none 0 0, .slice none 0 0] 46 (0, 0)) (by (with_reducible repeat (first|refine kN ?_ _|refine kD ?_|refine kA ?_ _)); exact BK350.out) hb); have n4_ := Aside0.mk (below_step (by repeat (first | (with_reducible first | exact HB.out|apply bA|apply bN|apply bD | refine below_set ?_ GE350.out) | exact HB.out)) hb); clear HO353; clear HO357; clear BK350; clear HB; have HO353 := n0_; have HO357 := n1_; have HO361 := n2_; have BK350 := n3_; have HB := n4_; clear n0_ n1_ n2_ n3_ n4_; (try clear hb); (try clear hb2); (try clear hk); (try clear hi); (try clear ho0); have p362 : 0 ≤ (1 : Int) := (by omega); have q362 : 1 < (t351.length : Int) := of_decide_eq_true (by first | (with_reducible assumption) | assumption); obtain ⟨ad362, e362, hx362_0⟩ := Kd.at_string (Kd.R_reads' HO353.out).2.2 1 p362 q362; obtain rfl : ad354 = ad362 := (by injection e362); (try simp only [show (1 : Int).toNat = 1 from rfl, Nat.reduceMul, Nat.reduceEqDiff, Go.Addr.add, ↓reduceIte] at hx362_0); have qi362 : (1 < t351.length) = True := eq_true (by omega); (try rw [show ((1 : Int)).toNat = 1 from rfl] at hx362_0); replace p362 := eq_true p362; replace q362 := eq_true q362) | ((with_reducible refine gate_callee (f := 58) rfl ?_); refine goesL_ (some 28) rfl rfl Tryd.func58 (by kernel_rfl) rfl #[.string (rdOf ByteArray.empty t351 1), .string (⟨#[44]⟩ : ByteArray)] rfl (by (try simp only [zE,zF,zG]); first|done|rfl|(simp only [zH,zI]; rfl)) ?_; (with_reducible refine (spec_SplitAny.calls k (rdOf ByteArray.empty t351 1) (⟨#[44]⟩ : ByteArray) t363 _ A8.out).mono ?_); rintro e w41 ⟨v364, rfl, ho0, hb⟩; refine ⟨_, rfl, ?_⟩; have n0_ := Aside0.mk (Kd.R_elder' (by (with_reducible repeat (first|apply rA|apply rN|apply rD)); exact HO353.out) (Kd.R_base ho0) hb); have n1_ := Aside0.mk (Kd.R_elder' (by (with_reducible repeat (first|apply rA|apply rN|apply rD)); exact HO357.out) (Kd.R_base ho0) hb); have n2_ := Aside0.mk (Kd.R_below (by (with_reducible repeat (first|apply rA|apply rN|apply rD)); exact HO361.out) hb); have n3_ := Aside0.mk (Kd.R_lower (Kd.R_new' (Kd.R_new' ho0 (Kd.R_lt (by (with_reducible repeat (first|apply rA|apply rN|apply rD)); exact HO353.out))) (Kd.R_lt (by (with_reducible repeat (first|apply rA|apply rN|apply rD)); exact HO357.out))) (below_size (by repeat (first | (with_reducible first | exact HB.out|apply bA|apply bN|apply bD | refine below_set ?_ GE350.out) | exact HB.out)))); have n4_ := Aside0.mk (blk_below (g := gb350) (o := .cells #[.slice none 0 0, .slice none 0 0] 46 (0, 0)) (by (with_reducible repeat (first|refine kN ?_ _|refine kD ?_|refine kA ?_ _)); exact BK350.out) hb); have n5_ := Aside0.mk (below_step (by repeat (first | (with_reducible first | exact HB.out|apply bA|apply bN|apply bD | refine below_set ?_ GE350.out) | exact HB.out)) hb); clear HO353; clear HO357; clear HO361; clear BK350; clear HB; have HO353 := n0_; have HO357 := n1_; have HO361 := n2_; have HO365 := n3_; have BK350 := n4_; have HB := n5_; clear n0_ n1_ n2_ n3_ n4_ n5_; (try clear hb); (try clear hb2); (try clear hk); (try clear hi); (try clear ho0); obtain ⟨Ao42, co42, eo42⟩ := Kd.R_slice HO365.out; subst eo42) | ((with_reducible refine gate_callee (f := 59) rfl ?_); refine goesL_ (some 29) rfl rfl Tryd.func59 (by kernel_rfl) rfl #[.slice Ao42 t363.length co42] rfl (by (try simp only [zE,zF,zG]); first|done|rfl|(simp only [zH,zI]; rfl)) ?_; (with_reducible refine (spec_l17Numbers.calls k _ _ t363 t366 true _ ?side1 ?side2 A9.out).mono ?_); (case side1 => repeat (first | exact (Kd.R_reads' HO365.out).2.2 | (with_reducible refine Kd.C_alloc ?_ _) | (with_reducible refine Kd.C_drewN ?_ _) | (with_reducible refine Kd.C_drew ?_))); (case side2 => exact (Kd.R_reads' HO365.out).2.1); rintro e w43 ⟨v368, rfl, ho0, hb⟩; refine ⟨_, rfl, ?_⟩; have n0_ := Aside0.mk (Kd.R_below (by (with_reducible repeat (first|apply rA|apply rN|apply rD)); exact HO353.out) hb); have n1_ := Aside0.mk (Kd.R_below (by (with_reducible repeat (first|apply rA|apply rN|apply rD)); exact HO357.out) hb); have n2_ := Aside0.mk (Kd.R_elder' (by (with_reducible repeat (first|apply rA|apply rN|apply rD)); exact HO361.out) (Kd.R_base ho0) hb); have n3_ := Aside0.mk (Kd.R_below (by (with_reducible repeat (first|apply rA|apply rN|apply rD)); exact HO365.out) hb); have n4_ := Aside0.mk (Kd.R_lower (Kd.R_new' ho0 (Kd.R_lt (by (with_reducible repeat (first|apply rA|apply rN|apply rD)); exact HO361.out))) (below_size (by repeat (first | (with_reducible first | exact HB.out|apply bA|apply bN|apply bD | refine below_set ?_ GE350.out) | exact HB.out)))); have n5_ := Aside0.mk (blk_below (g := gb350) (o := .cells #[.slice none 0 0, .slice none 0 0] 46 (0, 0)) (by (with_reducible repeat (first|refine kN ?_ _|refine kD ?_|refine kA ?_ _)); exact BK350.out) hb); have n6_ := Aside0.mk (below_step (by repeat (first | (with_reducible first | exact HB.out|apply bA|apply bN|apply bD | refine below_set ?_ GE350.out) | exact HB.out)) hb); clear HO353; clear HO357; clear HO361; clear HO365; clear BK350; clear HB; have HO353 := n0_; have HO357 := n1_; have HO361 := n2_; have HO365 := n3_; have HO369 := n4_; have BK350 := n5_; have HB := n6_; clear n0_ n1_ n2_ n3_ n4_ n5_ n6_; (try clear hb); (try clear hb2); (try clear hk); (try clear hi); (try clear ho0); obtain ⟨Ao44, co44, eo44⟩ := Kd.R_slice HO369.out; subst eo44; obtain ⟨Ao45, co45, eo45⟩ := Kd.R_slice HO361.out; subst eo45) | ((with_reducible refine gate_dst (N := 9) rfl ?_); refine box_event ?hg (N := 9) ?hd (cs := #[.slice none 0 0, .slice none 0 0]) (t := 46) ?hr ?_; (case hd => rfl); (case hg => rfl); (case hr => first | (go_simp; done) | (go_simp; rfl)); intro gb370 hg w46 hbox hb; have n0_ := Aside0.mk (Kd.R_below (by (with_reducible repeat (first|apply rA|apply rN|apply rD)); exact HO353.out) hb); have n1_ := Aside0.mk (Kd.R_below (by (with_reducible repeat (first|apply rA|apply rN|apply rD)); exact HO357.out) hb); have n2_ := Aside0.mk (Kd.R_below (by (with_reducible repeat (first|apply rA|apply rN|apply rD)); exact HO361.out) hb); have n3_ := Aside0.mk (Kd.R_below (by (with_reducible repeat (first|apply rA|apply rN|apply rD)); exact HO365.out) hb); have n4_ := Aside0.mk (Kd.R_below (by (with_reducible repeat (first|apply rA|apply rN|apply rD)); exact HO369.out) hb); have n5_ := Aside0.mk (blk_below (g := gb350) (o := .cells #[.slice none 0 0, .slice none 0 0] 46 (0, 0)) (by (with_reducible repeat (first|refine kN ?_ _|refine kD ?_|refine kA ?_ _)); exact BK350.out) hb); have n6_ := Aside0.mk (below_step (by repeat (first | (with_reducible first | exact HB.out|apply bA|apply bN|apply bD | refine below_set ?_ GE350.out) | exact HB.out)) hb); have n7_ := Aside0.mk (hbox); have n8_ := Aside0.mk ((by rw [hg]; exact (below_size (by repeat (first | (with_reducible first | exact HB.out|apply bA|apply bN|apply bD | refine below_set ?_ GE350.out) | exact HB.out))) : w.heap.size ≤ gb370)); have n9_ := Aside0.mk ((by rw [hg]; exact (below_size (by repeat (first | (with_reducible first | exact HB.out|apply bA|apply bN|apply bD | refine below_set ?_ GE350.out) | exact HB.out))) : w.heap.size ≤ gb370)); have n10_ := Aside0.mk ((by rw [hg]; exact Nat.ne_of_lt (blk_lt (g := gb350) (o := .cells #[.slice none 0 0, .slice none 0 0] 46 (0, 0)) (by (with_reducible repeat (first|refine kN ?_ _|refine kD ?_|refine kA ?_ _)); exact BK350.out)) : gb350 ≠ gb370)); have n11_ := Aside0.mk ((by rw [hg]; exact Nat.ne_of_gt (blk_lt (g := gb350) (o := .cells #[.slice none 0 0, .slice none 0 0] 46 (0, 0)) (by (with_reducible repeat (first|refine kN ?_ _|refine kD ?_|refine kA ?_ _)); exact BK350.out)) : gb370 ≠ gb350)); clear HO353; clear HO357; clear HO361; clear HO365; clear HO369; clear BK350; clear HB; have HO353 := n0_; have HO357 := n1_; have HO361 := n2_; have HO365 := n3_; have HO369 := n4_; have BK350 := n5_; have HB := n6_; have BK370 := n7_; have GW370 := n8_; have GE370 := n9_; have NB350_370 := n10_; have NB370_350 := n11_; clear n0_ n1_ n2_ n3_ n4_ n5_ n6_ n7_ n8_ n9_ n10_ n11_; clear hb hbox hg; have hnb47 := NB370_350.out; have hnc47 := NB350_370.out; have hcz48_0 : w46.cell? ⟨gb370, 0, none⟩ = some (.slice none 0 0) := (blk_cell BK370.out 0).trans rfl; have hcz48_1 : w46.cell? ⟨gb370, 1, none⟩ = some (.slice none 0 0) := (blk_cell BK370.out 1).trans rfl; have hfz48_0 := blk_frozen BK370.out 0; have hfz48_1 := blk_frozen BK370.out 1) | (go_at_call 66; (with_reducible refine (spec_SurfaceOk.calls k _ _ t358 _ _ t366 true _ ?side1 ?side2 ?side3 ?side4 A12.out).mono ?_); (case side1 => refine (Kd.R_reads' (e := 3) (base := w.heap.size) (ok := fun k_ => (True ∧ some k_ ≠ (.slice Ao44 t366.length co44 : Value).ownBlock)) (n := t358.length) (c := co45) ?_).2.2; exact (by (with_reducible repeat (first|apply rA|apply rN|apply rD)); exact (Kd.R_mono (Kd.R_far (p := ⟨gb370, 1, none⟩) (Kd.R_far (p := ⟨gb370, 0, none⟩) (Kd.R_types HO361.out BK370.out (by decide)) (fun _ hk => hk.2) (.slice Ao45 t358.length co45)) (fun _ hk => hk.2) (.slice Ao44 t366.length co44)) (fun _ h_ => h_.1)))); (case side2 => exact (Kd.R_reads' HO361.out).2.1); (case side3 => refine (Kd.R_reads' (e := 3) (base := w.heap.size) (ok := fun k_ => (True ∧ some k_ ≠ (.slice Ao45 t358.length co45 : Value).ownBlock)) (n := t366.length) (c := co44) ?_).2.2; exact (by (with_reducible repeat (first|apply rA|apply rN|apply rD)); exact (Kd.R_mono (Kd.R_far (p := ⟨gb370, 1, none⟩) (Kd.R_far (p := ⟨gb370, 0, none⟩) (Kd.R_types HO369.out BK370.out (by decide)) (fun _ hk => hk.2) (.slice Ao45 t358.length co45)) (fun _ hk => hk.2) (.slice Ao44 t366.length co44)) (fun _ h_ => h_.1)))); (case side4 => exact (Kd.R_reads' HO369.out).2.1); rintro e w49 ⟨rfl, hb⟩; have n0_ := Aside0.mk (Kd.R_below (by (with_reducible repeat (first|apply rA|apply rN|apply rD)); exact (Kd.R_mono (Kd.R_far (p := ⟨gb370, 1, none⟩) (Kd.R_far (p := ⟨gb370, 0, none⟩) (Kd.R_types HO353.out BK370.out (by decide)) (fun _ hk => hk.2) (.slice Ao45 t358.length co45)) (fun _ hk => hk.2) (.slice Ao44 t366.length co44)) (fun _ h_ => h_.1))) hb); have n1_ := Aside0.mk (Kd.R_below (by (with_reducible repeat (first|apply rA|apply rN|apply rD)); exact (Kd.R_mono (Kd.R_far (p := ⟨gb370, 1, none⟩) (Kd.R_far (p := ⟨gb370, 0, none⟩) (Kd.R_types HO357.out BK370.out (by decide)) (fun _ hk => hk.2) (.slice Ao45 t358.length co45)) (fun _ hk => hk.2) (.slice Ao44 t366.length co44)) (fun _ h_ => h_.1))) hb); have n2_ := Aside0.mk (Kd.R_below (by (with_reducible repeat (first|apply rA|apply rN|apply rD)); exact (Kd.R_mono (Kd.R_far (p := ⟨gb370, 1, none⟩) (Kd.R_far (p := ⟨gb370, 0, none⟩) (Kd.R_types HO361.out BK370.out (by decide)) (fun _ hk => hk.2) (.slice Ao45 t358.length co45)) (fun _ hk => hk.2) (.slice Ao44 t366.length co44)) (fun _ h_ => h_.1))) hb); have n3_ := Aside0.mk (Kd.R_below (by (with_reducible repeat (first|apply rA|apply rN|apply rD)); exact (Kd.R_mono (Kd.R_far (p := ⟨gb370, 1, none⟩) (Kd.R_far (p := ⟨gb370, 0, none⟩) (Kd.R_types HO365.out BK370.out (by decide)) (fun _ hk => hk.2) (.slice Ao45 t358.length co45)) (fun _ hk => hk.2) (.slice Ao44 t366.length co44)) (fun _ h_ => h_.1))) hb); have n4_ := Aside0.mk (Kd.R_below (by (with_reducible repeat (first|apply rA|apply rN|apply rD)); exact (Kd.R_mono (Kd.R_far (p := ⟨gb370, 1, none⟩) (Kd.R_far (p := ⟨gb370, 0, none⟩) (Kd.R_types HO369.out BK370.out (by decide)) (fun _ hk => hk.2) (.slice Ao45 t358.length co45)) (fun _ hk => hk.2) (.slice Ao44 t366.length co44)) (fun _ h_ => h_.1))) hb); have n5_ := Aside0.mk (blk_below (g := gb350) (o := .cells #[.slice none 0 0, .slice none 0 0] 46 (0, 0)) (by (with_reducible repeat (first|refine kN ?_ _|refine kD ?_|refine kA ?_ _)); refine blk_far ?_ NB350_370.out _; (with_reducible repeat (first|refine kN ?_ _|refine kD ?_|refine kA ?_ _)); refine blk_far ?_ NB350_370.out _; (with_reducible repeat (first|refine kN ?_ _|refine kD ?_|refine kA ?_ _)); exact BK350.out) hb); have n6_ := Aside0.mk (blk_below (g := gb370) (o := .cells #[.slice Ao45 t358.length co45, .slice Ao44 t366.length co44] 46 (0, 0)) (by (with_reducible repeat (first|refine kN ?_ _|refine kD ?_|refine kA ?_ _)); refine blk_put (cs := #[.slice Ao45 t358.length co45, .slice none 0 0]) ?_ 1 _ rfl; (with_reducible repeat (first|refine kN ?_ _|refine kD ?_|refine kA ?_ _)); refine blk_put (cs := #[.slice none 0 0, .slice none 0 0]) ?_ 0 _ rfl; (with_reducible repeat (first|refine kN ?_ _|refine kD ?_|refine kA ?_ _)); exact BK370.out) hb); have n7_ := Aside0.mk (below_step (by repeat (first | (with_reducible first | exact HB.out|apply bA|apply bN|apply bD | refine below_set ?_ GE350.out | refine below_set ?_ GE370.out) | exact HB.out)) hb); clear HO353; clear HO357; clear HO361; clear HO365; clear HO369; clear BK350; clear BK370; clear HB; have HO353 := n0_; have HO357 := n1_; have HO361 := n2_; have HO365 := n3_; have HO369 := n4_; have BK350 := n5_; have BK370 := n6_; have HB := n7_; clear n0_ n1_ n2_ n3_ n4_ n5_ n6_ n7_; (try clear hb); (try clear hb2); (try clear hk); (try clear hi); have hcz50_0 : w49.cell? ⟨gb370, 0, none⟩ = some (.slice Ao45 t358.length co45) := (blk_cell BK370.out 0).trans rfl; have hcz50_1 : w49.cell? ⟨gb370, 1, none⟩ = some (.slice Ao44 t366.length co44) := (blk_cell BK370.out 1).trans rfl; have hfz50_0 := blk_frozen BK370.out 0; have hfz50_1 := blk_frozen BK370.out 1) | (go_at_call 67; (with_reducible refine (spec_FormatSurface.calls k _ _ t358 _ _ t366 t372 _ ?side1 ?side2 ?side3 ?side4 A14.out).mono ?_); (case side1 => repeat (first | exact (Kd.R_reads' HO361.out).2.2 | (with_reducible refine Kd.C_alloc ?_ _) | (with_reducible refine Kd.C_drewN ?_ _) | (with_reducible refine Kd.C_drew ?_))); (case side2 => exact (Kd.R_reads' HO361.out).2.1); (case side3 => repeat (first | exact (Kd.R_reads' HO369.out).2.2 | (with_reducible refine Kd.C_alloc ?_ _) | (with_reducible refine Kd.C_drewN ?_ _) | (with_reducible refine Kd.C_drew ?_))); (case side4 => exact (Kd.R_reads' HO369.out).2.1); rintro e w51 ⟨rfl, hb⟩; have n0_ := Aside0.mk (Kd.R_below (by (with_reducible repeat (first|apply rA|apply rN|apply rD)); exact HO353.out) hb); have n1_ := Aside0.mk (Kd.R_below (by (with_reducible repeat (first|apply rA|apply rN|apply rD)); exact HO357.out) hb); have n2_ := Aside0.mk (Kd.R_below (by (with_reducible repeat (first|apply rA|apply rN|apply rD)); exact HO361.out) hb); have n3_ := Aside0.mk (Kd.R_below (by (with_reducible repeat (first|apply rA|apply rN|apply rD)); exact HO365.out) hb); have n4_ := Aside0.mk (Kd.R_below (by (with_reducible repeat (first|apply rA|apply rN|apply rD)); exact HO369.out) hb); have n5_ := Aside0.mk (blk_below (g := gb350) (o := .cells #[.slice none 0 0, .slice none 0 0] 46 (0, 0)) (by (with_reducible repeat (first|refine kN ?_ _|refine kD ?_|refine kA ?_ _)); exact BK350.out) hb); have n6_ := Aside0.mk (blk_below (g := gb370) (o := .cells #[.slice Ao45 t358.length co45, .slice Ao44 t366.length co44] 46 (0, 0)) (by (with_reducible repeat (first|refine kN ?_ _|refine kD ?_|refine kA ?_ _)); exact BK370.out) hb); have n7_ := Aside0.mk (below_step (by repeat (first | (with_reducible first | exact HB.out|apply bA|apply bN|apply bD | refine below_set ?_ GE350.out | refine below_set ?_ GE370.out) | exact HB.out)) hb); clear HO353; clear HO357; clear HO361; clear HO365; clear HO369; clear BK350; clear BK370; clear HB; have HO353 := n0_; have HO357 := n1_; have HO361 := n2_; have HO365 := n3_; have HO369 := n4_; have BK350 := n5_; have BK370 := n6_; have HB := n7_; clear n0_ n1_ n2_ n3_ n4_ n5_ n6_ n7_; (try clear hb); (try clear hb2); (try clear hk); (try clear hi); have hcz52_0 : w51.cell? ⟨gb350, 0, none⟩ = some (.slice none 0 0) := (blk_cell BK350.out 0).trans rfl; have hcz52_1 : w51.cell? ⟨gb350, 1, none⟩ = some (.slice none 0 0) := (blk_cell BK350.out 1).trans rfl; have hfz52_0 := blk_frozen BK350.out 0; have hfz52_1 := blk_frozen BK350.out 1))
        refine bodyPost_ret (results_ct rfl _ _ gb350 46 #[.slice none 0 0, .slice none 0 0] (0, 0) _ rfl (by (with_reducible repeat (first|refine kN ?_ _|refine kD ?_|refine kA ?_ _)); refine blk_put (cs := #[.slice none 0 0, .slice none 0 0]) ?_ 1 _ rfl; (with_reducible repeat (first|refine kN ?_ _|refine kD ?_|refine kA ?_ _)); refine blk_put (cs := #[.slice none 0 0, .slice none 0 0]) ?_ 0 _ rfl; (with_reducible repeat (first|refine kN ?_ _|refine kD ?_|refine kA ?_ _)); exact BK350.out) Tryd.underlying46 rfl (by kernel_rfl)) rfl ?_
        exact ⟨_, _, by first | rfl | (simp [errW_none, errW_some] <;> rfl) | (simp [*, errW_none, errW_some] <;> rfl), by first | exact Kd.R_nil _ _ _ _ _ | exact Kd.N_nil _ _ _ _ _ | exact Kd.V_nil _ _ _ _ _ | exact Kd.Q_nil _ _ _ _ _ | exact Kd.S_nil _ _ _ _ _, by first | exact Kd.R_nil _ _ _ _ _ | exact Kd.N_nil _ _ _ _ _ | exact Kd.V_nil _ _ _ _ _ | exact Kd.Q_nil _ _ _ _ _ | exact Kd.S_nil _ _ _ _ _, by repeat (first | (with_reducible first | exact HB.out|apply bA|apply bN|apply bD | refine below_set ?_ GE350.out | refine below_set ?_ GE370.out) | exact HB.out)⟩
      ·replace c13 := Bool.eq_false_iff.mpr c13
       subst c13
       have H1 : (some (([] : List Int), ([] : List Int), false)) = some (r1, r2, r3) := by rw [if_neg (show ¬ (false = true) by decide)] at H; exact H
       clear H
       have H := H1
       clear H1
       simp only [Option.some.injEq, Prod.mk.injEq] at H
       obtain ⟨rfl, rfl, rfl⟩ := H
       go_enter Tryd.func31, Tryd.ntmps31
       go_wp2_with (first | ((with_reducible refine gate_dst (N := 2) rfl ?_); refine box_event ?hg (N := 2) ?hd (cs := #[.slice none 0 0, .slice none 0 0]) (t := 46) ?hr ?_; (case hd => rfl); (case hg => rfl); (case hr => first | (go_simp; done) | (go_simp; rfl)); intro gb350 hg w53 hbox hb; have n0_ := Aside0.mk (below_step (by repeat (first | (with_reducible first | exact HB.out|apply bA|apply bN|apply bD) | exact HB.out)) hb); have n1_ := Aside0.mk (hbox); have n2_ := Aside0.mk ((by rw [hg]; exact (below_size (by repeat (first | (with_reducible first | exact HB.out|apply bA|apply bN|apply bD) | exact HB.out))) : w.heap.size ≤ gb350)); have n3_ := Aside0.mk ((by rw [hg]; exact (below_size (by repeat (first | (with_reducible first | exact HB.out|apply bA|apply bN|apply bD) | exact HB.out))) : w.heap.size ≤ gb350)); clear HB; have HB := n0_; have BK350 := n1_; have GW350 := n2_; have GE350 := n3_; clear n0_ n1_ n2_ n3_; clear hb hbox hg) | ((with_reducible refine gate_callee (f := 58) rfl ?_); refine goesL_ (some 11) rfl rfl Tryd.func58 (by kernel_rfl) rfl #[.string a0, .string (⟨#[124]⟩ : ByteArray)] rfl (by (try simp only [zE,zF,zG]); first|done|rfl|(simp only [zH,zI]; rfl)) ?_; (with_reducible refine (spec_SplitAny.calls k a0 (⟨#[124]⟩ : ByteArray) t351 _ A2.out).mono ?_); rintro e w54 ⟨v352, rfl, ho0, hb⟩; refine ⟨_, rfl, ?_⟩; have n0_ := Aside0.mk (Kd.R_lower ho0 (below_size (by repeat (first | (with_reducible first | exact HB.out|apply bA|apply bN|apply bD | refine below_set ?_ GE350.out) | exact HB.out)))); have n1_ := Aside0.mk (blk_below (g := gb350) (o := .cells #[.slice none 0 0, .slice none 0 0] 46 (0, 0)) (by (with_reducible repeat (first|refine kN ?_ _|refine kD ?_|refine kA ?_ _)); exact BK350.out) hb); have n2_ := Aside0.mk (below_step (by repeat (first | (with_reducible first | exact HB.out|apply bA|apply bN|apply bD | refine below_set ?_ GE350.out) | exact HB.out)) hb); clear BK350; clear HB; have HO353 := n0_; have BK350 := n1_; have HB := n2_; clear n0_ n1_ n2_; (try clear hb); (try clear hb2); (try clear hk); (try clear hi); (try clear ho0); obtain ⟨Ao55, co55, eo55⟩ := Kd.R_slice HO353.out; subst eo55; have p354 : 0 ≤ (0 : Int) := (by omega); have q354 : 0 < (t351.length : Int) := of_decide_eq_true (by first | (with_reducible assumption) | assumption); obtain ⟨ad354, e354, hx354_0⟩ := Kd.at_string (Kd.R_reads' HO353.out).2.2 0 p354 q354; cases e354; have qi354 : (0 < t351.length) = True := eq_true (by omega); (try rw [show ((0 : Int)).toNat = 0 from rfl] at hx354_0); (try rw [Addr.add_zero'] at hx354_0); replace p354 := eq_true p354; replace q354 := eq_true q354) | ((with_reducible refine gate_callee (f := 58) rfl ?_); refine goesL_ (some 20) rfl rfl Tryd.func58 (by kernel_rfl) rfl #[.string (rdOf ByteArray.empty t351 0), .string (⟨#[44]⟩ : ByteArray)] rfl (by (try simp only [zE,zF,zG]); first|done|rfl|(simp only [zH,zI]; rfl)) ?_; (with_reducible refine (spec_SplitAny.calls k (rdOf ByteArray.empty t351 0) (⟨#[44]⟩ : ByteArray) t355 _ A5.out).mono ?_); rintro e w56 ⟨v356, rfl, ho0, hb⟩; refine ⟨_, rfl, ?_⟩; have n0_ := Aside0.mk (Kd.R_elder' (by (with_reducible repeat (first|apply rA|apply rN|apply rD)); exact HO353.out) (Kd.R_base ho0) hb); have n1_ := Aside0.mk (Kd.R_lower (Kd.R_new' ho0 (Kd.R_lt (by (with_reducible repeat (first|apply rA|apply rN|apply rD)); exact HO353.out))) (below_size (by repeat (first | (with_reducible first | exact HB.out|apply bA|apply bN|apply bD | refine below_set ?_ GE350.out) | exact HB.out)))); have n2_ := Aside0.mk (blk_below (g := gb350) (o := .cells #[.slice none 0 0, .slice none 0 0] 46 (0, 0)) (by (with_reducible repeat (first|refine kN ?_ _|refine kD ?_|refine kA ?_ _)); exact BK350.out) hb); have n3_ := Aside0.mk (below_step (by repeat (first | (with_reducible first | exact HB.out|apply bA|apply bN|apply bD | refine below_set ?_ GE350.out) | exact HB.out)) hb); clear HO353; clear BK350; clear HB; have HO353 := n0_; have HO357 := n1_; have BK350 := n2_; have HB := n3_; clear n0_ n1_ n2_ n3_; (try clear hb); (try clear hb2); (try clear hk); (try clear hi); (try clear ho0); obtain ⟨Ao57, co57, eo57⟩ := Kd.R_slice HO357.out; subst eo57) | ((with_reducible refine gate_callee (f := 59) rfl ?_); refine goesL_ (some 21) rfl rfl Tryd.func59 (by kernel_rfl) rfl #[.slice Ao57 t355.length co57] rfl (by (try simp only [zE,zF,zG]); first|done|rfl|(simp only [zH,zI]; rfl)) ?_; (with_reducible refine (spec_l17Numbers.calls k _ _ t355 t358 true _ ?side1 ?side2 A6.out).mono ?_); (case side1 => repeat (first | exact (Kd.R_reads' HO357.out).2.2 | (with_reducible refine Kd.C_alloc ?_ _) | (with_reducible refine Kd.C_drewN ?_ _) | (with_reducible refine Kd.C_drew ?_))); (case side2 => exact (Kd.R_reads' HO357.out).2.1); rintro e w58 ⟨v360, rfl, ho0, hb⟩; refine ⟨_, rfl, ?_⟩; have n0_ := Aside0.mk (Kd.R_below (by (with_reducible repeat (first|apply rA|apply rN|apply rD)); exact HO353.out) hb); have n1_ := Aside0.mk (Kd.R_below (by (with_reducible repeat (first|apply rA|apply rN|apply rD)); exact HO357.out) hb); have n2_ := Aside0.mk (Kd.R_lower ho0 (below_size (by repeat (first | (with_reducible first | exact HB.out|apply bA|apply bN|apply bD | refine below_set ?_ GE350.out) | exact HB.out)))); have n3_ := Aside0.mk (blk_below (g := gb350) (o := .cells #[.slice none 0 0, .slice none 0 0] 46 (0, 0)) (by (with_reducible repeat (first|refine kN ?_ _|refine kD ?_|refine kA ?_ _)); exact BK350.out) hb); have n4_ := Aside0.mk (below_step (by repeat (first | (with_reducible first | exact HB.out|apply bA|apply bN|apply bD | refine below_set ?_ GE350.out) | exact HB.out)) hb); clear HO353; clear HO357; clear BK350; clear HB; have HO353 := n0_; have HO357 := n1_; have HO361 := n2_; have BK350 := n3_; have HB := n4_; clear n0_ n1_ n2_ n3_ n4_; (try clear hb); (try clear hb2); (try clear hk); (try clear hi); (try clear ho0); have p362 : 0 ≤ (1 : Int) := (by omega); have q362 : 1 < (t351.length : Int) := of_decide_eq_true (by first | (with_reducible assumption) | assumption); obtain ⟨ad362, e362, hx362_0⟩ := Kd.at_string (Kd.R_reads' HO353.out).2.2 1 p362 q362; obtain rfl : ad354 = ad362 := (by injection e362); (try simp only [show (1 : Int).toNat = 1 from rfl, Nat.reduceMul, Nat.reduceEqDiff, Go.Addr.add, ↓reduceIte] at hx362_0); have qi362 : (1 < t351.length) = True := eq_true (by omega); (try rw [show ((1 : Int)).toNat = 1 from rfl] at hx362_0); replace p362 := eq_true p362; replace q362 := eq_true q362) | ((with_reducible refine gate_callee (f := 58) rfl ?_); refine goesL_ (some 28) rfl rfl Tryd.func58 (by kernel_rfl) rfl #[.string (rdOf ByteArray.empty t351 1), .string (⟨#[44]⟩ : ByteArray)] rfl (by (try simp only [zE,zF,zG]); first|done|rfl|(simp only [zH,zI]; rfl)) ?_; (with_reducible refine (spec_SplitAny.calls k (rdOf ByteArray.empty t351 1) (⟨#[44]⟩ : ByteArray) t363 _ A8.out).mono ?_); rintro e w59 ⟨v364, rfl, ho0, hb⟩; refine ⟨_, rfl, ?_⟩; have n0_ := Aside0.mk (Kd.R_elder' (by (with_reducible repeat (first|apply rA|apply rN|apply rD)); exact HO353.out) (Kd.R_base ho0) hb); have n1_ := Aside0.mk (Kd.R_elder' (by (with_reducible repeat (first|apply rA|apply rN|apply rD)); exact HO357.out) (Kd.R_base ho0) hb); have n2_ := Aside0.mk (Kd.R_below (by (with_reducible repeat (first|apply rA|apply rN|apply rD)); exact HO361.out) hb); have n3_ := Aside0.mk (Kd.R_lower (Kd.R_new' (Kd.R_new' ho0 (Kd.R_lt (by (with_reducible repeat (first|apply rA|apply rN|apply rD)); exact HO353.out))) (Kd.R_lt (by (with_reducible repeat (first|apply rA|apply rN|apply rD)); exact HO357.out))) (below_size (by repeat (first | (with_reducible first | exact HB.out|apply bA|apply bN|apply bD | refine below_set ?_ GE350.out) | exact HB.out)))); have n4_ := Aside0.mk (blk_below (g := gb350) (o := .cells #[.slice none 0 0, .slice none 0 0] 46 (0, 0)) (by (with_reducible repeat (first|refine kN ?_ _|refine kD ?_|refine kA ?_ _)); exact BK350.out) hb); have n5_ := Aside0.mk (below_step (by repeat (first | (with_reducible first | exact HB.out|apply bA|apply bN|apply bD | refine below_set ?_ GE350.out) | exact HB.out)) hb); clear HO353; clear HO357; clear HO361; clear BK350; clear HB; have HO353 := n0_; have HO357 := n1_; have HO361 := n2_; have HO365 := n3_; have BK350 := n4_; have HB := n5_; clear n0_ n1_ n2_ n3_ n4_ n5_; (try clear hb); (try clear hb2); (try clear hk); (try clear hi); (try clear ho0); obtain ⟨Ao60, co60, eo60⟩ := Kd.R_slice HO365.out; subst eo60) | ((with_reducible refine gate_callee (f := 59) rfl ?_); refine goesL_ (some 29) rfl rfl Tryd.func59 (by kernel_rfl) rfl #[.slice Ao60 t363.length co60] rfl (by (try simp only [zE,zF,zG]); first|done|rfl|(simp only [zH,zI]; rfl)) ?_; (with_reducible refine (spec_l17Numbers.calls k _ _ t363 t366 true _ ?side1 ?side2 A9.out).mono ?_); (case side1 => repeat (first | exact (Kd.R_reads' HO365.out).2.2 | (with_reducible refine Kd.C_alloc ?_ _) | (with_reducible refine Kd.C_drewN ?_ _) | (with_reducible refine Kd.C_drew ?_))); (case side2 => exact (Kd.R_reads' HO365.out).2.1); rintro e w61 ⟨v368, rfl, ho0, hb⟩; refine ⟨_, rfl, ?_⟩; have n0_ := Aside0.mk (Kd.R_below (by (with_reducible repeat (first|apply rA|apply rN|apply rD)); exact HO353.out) hb); have n1_ := Aside0.mk (Kd.R_below (by (with_reducible repeat (first|apply rA|apply rN|apply rD)); exact HO357.out) hb); have n2_ := Aside0.mk (Kd.R_elder' (by (with_reducible repeat (first|apply rA|apply rN|apply rD)); exact HO361.out) (Kd.R_base ho0) hb); have n3_ := Aside0.mk (Kd.R_below (by (with_reducible repeat (first|apply rA|apply rN|apply rD)); exact HO365.out) hb); have n4_ := Aside0.mk (Kd.R_lower (Kd.R_new' ho0 (Kd.R_lt (by (with_reducible repeat (first|apply rA|apply rN|apply rD)); exact HO361.out))) (below_size (by repeat (first | (with_reducible first | exact HB.out|apply bA|apply bN|apply bD | refine below_set ?_ GE350.out) | exact HB.out)))); have n5_ := Aside0.mk (blk_below (g := gb350) (o := .cells #[.slice none 0 0, .slice none 0 0] 46 (0, 0)) (by (with_reducible repeat (first|refine kN ?_ _|refine kD ?_|refine kA ?_ _)); exact BK350.out) hb); have n6_ := Aside0.mk (below_step (by repeat (first | (with_reducible first | exact HB.out|apply bA|apply bN|apply bD | refine below_set ?_ GE350.out) | exact HB.out)) hb); clear HO353; clear HO357; clear HO361; clear HO365; clear BK350; clear HB; have HO353 := n0_; have HO357 := n1_; have HO361 := n2_; have HO365 := n3_; have HO369 := n4_; have BK350 := n5_; have HB := n6_; clear n0_ n1_ n2_ n3_ n4_ n5_ n6_; (try clear hb); (try clear hb2); (try clear hk); (try clear hi); (try clear ho0); obtain ⟨Ao62, co62, eo62⟩ := Kd.R_slice HO369.out; subst eo62; obtain ⟨Ao63, co63, eo63⟩ := Kd.R_slice HO361.out; subst eo63) | ((with_reducible refine gate_dst (N := 9) rfl ?_); refine box_event ?hg (N := 9) ?hd (cs := #[.slice none 0 0, .slice none 0 0]) (t := 46) ?hr ?_; (case hd => rfl); (case hg => rfl); (case hr => first | (go_simp; done) | (go_simp; rfl)); intro gb370 hg w64 hbox hb; have n0_ := Aside0.mk (Kd.R_below (by (with_reducible repeat (first|apply rA|apply rN|apply rD)); exact HO353.out) hb); have n1_ := Aside0.mk (Kd.R_below (by (with_reducible repeat (first|apply rA|apply rN|apply rD)); exact HO357.out) hb); have n2_ := Aside0.mk (Kd.R_below (by (with_reducible repeat (first|apply rA|apply rN|apply rD)); exact HO361.out) hb); have n3_ := Aside0.mk (Kd.R_below (by (with_reducible repeat (first|apply rA|apply rN|apply rD)); exact HO365.out) hb); have n4_ := Aside0.mk (Kd.R_below (by (with_reducible repeat (first|apply rA|apply rN|apply rD)); exact HO369.out) hb); have n5_ := Aside0.mk (blk_below (g := gb350) (o := .cells #[.slice none 0 0, .slice none 0 0] 46 (0, 0)) (by (with_reducible repeat (first|refine kN ?_ _|refine kD ?_|refine kA ?_ _)); exact BK350.out) hb); have n6_ := Aside0.mk (below_step (by repeat (first | (with_reducible first | exact HB.out|apply bA|apply bN|apply bD | refine below_set ?_ GE350.out) | exact HB.out)) hb); have n7_ := Aside0.mk (hbox); have n8_ := Aside0.mk ((by rw [hg]; exact (below_size (by repeat (first | (with_reducible first | exact HB.out|apply bA|apply bN|apply bD | refine below_set ?_ GE350.out) | exact HB.out))) : w.heap.size ≤ gb370)); have n9_ := Aside0.mk ((by rw [hg]; exact (below_size (by repeat (first | (with_reducible first | exact HB.out|apply bA|apply bN|apply bD | refine below_set ?_ GE350.out) | exact HB.out))) : w.heap.size ≤ gb370)); have n10_ := Aside0.mk ((by rw [hg]; exact Nat.ne_of_lt (blk_lt (g := gb350) (o := .cells #[.slice none 0 0, .slice none 0 0] 46 (0, 0)) (by (with_reducible repeat (first|refine kN ?_ _|refine kD ?_|refine kA ?_ _)); exact BK350.out)) : gb350 ≠ gb370)); have n11_ := Aside0.mk ((by rw [hg]; exact Nat.ne_of_gt (blk_lt (g := gb350) (o := .cells #[.slice none 0 0, .slice none 0 0] 46 (0, 0)) (by (with_reducible repeat (first|refine kN ?_ _|refine kD ?_|refine kA ?_ _)); exact BK350.out)) : gb370 ≠ gb350)); clear HO353; clear HO357; clear HO361; clear HO365; clear HO369; clear BK350; clear HB; have HO353 := n0_; have HO357 := n1_; have HO361 := n2_; have HO365 := n3_; have HO369 := n4_; have BK350 := n5_; have HB := n6_; have BK370 := n7_; have GW370 := n8_; have GE370 := n9_; have NB350_370 := n10_; have NB370_350 := n11_; clear n0_ n1_ n2_ n3_ n4_ n5_ n6_ n7_ n8_ n9_ n10_ n11_; clear hb hbox hg; have hnb65 := NB370_350.out; have hnc65 := NB350_370.out; have hcz66_0 : w64.cell? ⟨gb370, 0, none⟩ = some (.slice none 0 0) := (blk_cell BK370.out 0).trans rfl; have hcz66_1 : w64.cell? ⟨gb370, 1, none⟩ = some (.slice none 0 0) := (blk_cell BK370.out 1).trans rfl; have hfz66_0 := blk_frozen BK370.out 0; have hfz66_1 := blk_frozen BK370.out 1) | (go_at_call 66; (with_reducible refine (spec_SurfaceOk.calls k _ _ t358 _ _ t366 false _ ?side1 ?side2 ?side3 ?side4 A12.out).mono ?_); (case side1 => refine (Kd.R_reads' (e := 3) (base := w.heap.size) (ok := fun k_ => (True ∧ some k_ ≠ (.slice Ao62 t366.length co62 : Value).ownBlock)) (n := t358.length) (c := co63) ?_).2.2; exact (by (with_reducible repeat (first|apply rA|apply rN|apply rD)); exact (Kd.R_mono (Kd.R_far (p := ⟨gb370, 1, none⟩) (Kd.R_far (p := ⟨gb370, 0, none⟩) (Kd.R_types HO361.out BK370.out (by decide)) (fun _ hk => hk.2) (.slice Ao63 t358.length co63)) (fun _ hk => hk.2) (.slice Ao62 t366.length co62)) (fun _ h_ => h_.1)))); (case side2 => exact (Kd.R_reads' HO361.out).2.1); (case side3 => refine (Kd.R_reads' (e := 3) (base := w.heap.size) (ok := fun k_ => (True ∧ some k_ ≠ (.slice Ao63 t358.length co63 : Value).ownBlock)) (n := t366.length) (c := co62) ?_).2.2; exact (by (with_reducible repeat (first|apply rA|apply rN|apply rD)); exact (Kd.R_mono (Kd.R_far (p := ⟨gb370, 1, none⟩) (Kd.R_far (p := ⟨gb370, 0, none⟩) (Kd.R_types HO369.out BK370.out (by decide)) (fun _ hk => hk.2) (.slice Ao63 t358.length co63)) (fun _ hk => hk.2) (.slice Ao62 t366.length co62)) (fun _ h_ => h_.1)))); (case side4 => exact (Kd.R_reads' HO369.out).2.1); rintro e w67 ⟨rfl, hb⟩; have n0_ := Aside0.mk (Kd.R_below (by (with_reducible repeat (first|apply rA|apply rN|apply rD)); exact (Kd.R_mono (Kd.R_far (p := ⟨gb370, 1, none⟩) (Kd.R_far (p := ⟨gb370, 0, none⟩) (Kd.R_types HO353.out BK370.out (by decide)) (fun _ hk => hk.2) (.slice Ao63 t358.length co63)) (fun _ hk => hk.2) (.slice Ao62 t366.length co62)) (fun _ h_ => h_.1))) hb); have n1_ := Aside0.mk (Kd.R_below (by (with_reducible repeat (first|apply rA|apply rN|apply rD)); exact (Kd.R_mono (Kd.R_far (p := ⟨gb370, 1, none⟩) (Kd.R_far (p := ⟨gb370, 0, none⟩) (Kd.R_types HO357.out BK370.out (by decide)) (fun _ hk => hk.2) (.slice Ao63 t358.length co63)) (fun _ hk => hk.2) (.slice Ao62 t366.length co62)) (fun _ h_ => h_.1))) hb); have n2_ := Aside0.mk (Kd.R_below (by (with_reducible repeat (first|apply rA|apply rN|apply rD)); exact (Kd.R_mono (Kd.R_far (p := ⟨gb370, 1, none⟩) (Kd.R_far (p := ⟨gb370, 0, none⟩) (Kd.R_types HO361.out BK370.out (by decide)) (fun _ hk => hk.2) (.slice Ao63 t358.length co63)) (fun _ hk => hk.2) (.slice Ao62 t366.length co62)) (fun _ h_ => h_.1))) hb); have n3_ := Aside0.mk (Kd.R_below (by (with_reducible repeat (first|apply rA|apply rN|apply rD)); exact (Kd.R_mono (Kd.R_far (p := ⟨gb370, 1, none⟩) (Kd.R_far (p := ⟨gb370, 0, none⟩) (Kd.R_types HO365.out BK370.out (by decide)) (fun _ hk => hk.2) (.slice Ao63 t358.length co63)) (fun _ hk => hk.2) (.slice Ao62 t366.length co62)) (fun _ h_ => h_.1))) hb); have n4_ := Aside0.mk (Kd.R_below (by (with_reducible repeat (first|apply rA|apply rN|apply rD)); exact (Kd.R_mono (Kd.R_far (p := ⟨gb370, 1, none⟩) (Kd.R_far (p := ⟨gb370, 0, none⟩) (Kd.R_types HO369.out BK370.out (by decide)) (fun _ hk => hk.2) (.slice Ao63 t358.length co63)) (fun _ hk => hk.2) (.slice Ao62 t366.length co62)) (fun _ h_ => h_.1))) hb); have n5_ := Aside0.mk (blk_below (g := gb350) (o := .cells #[.slice none 0 0, .slice none 0 0] 46 (0, 0)) (by (with_reducible repeat (first|refine kN ?_ _|refine kD ?_|refine kA ?_ _)); refine blk_far ?_ NB350_370.out _; (with_reducible repeat (first|refine kN ?_ _|refine kD ?_|refine kA ?_ _)); refine blk_far ?_ NB350_370.out _; (with_reducible repeat (first|refine kN ?_ _|refine kD ?_|refine kA ?_ _)); exact BK350.out) hb); have n6_ := Aside0.mk (blk_below (g := gb370) (o := .cells #[.slice Ao63 t358.length co63, .slice Ao62 t366.length co62] 46 (0, 0)) (by (with_reducible repeat (first|refine kN ?_ _|refine kD ?_|refine kA ?_ _)); refine blk_put (cs := #[.slice Ao63 t358.length co63, .slice none 0 0]) ?_ 1 _ rfl; (with_reducible repeat (first|refine kN ?_ _|refine kD ?_|refine kA ?_ _)); refine blk_put (cs := #[.slice none 0 0, .slice none 0 0]) ?_ 0 _ rfl; (with_reducible repeat (first|refine kN ?_ _|refine kD ?_|refine kA ?_ _)); exact BK370.out) hb); have n7_ := Aside0.mk (below_step (by repeat (first | (with_reducible first | exact HB.out|apply bA|apply bN|apply bD | refine below_set ?_ GE350.out | refine below_set ?_ GE370.out) | exact HB.out)) hb); clear HO353; clear HO357; clear HO361; clear HO365; clear HO369; clear BK350; clear BK370; clear HB; have HO353 := n0_; have HO357 := n1_; have HO361 := n2_; have HO365 := n3_; have HO369 := n4_; have BK350 := n5_; have BK370 := n6_; have HB := n7_; clear n0_ n1_ n2_ n3_ n4_ n5_ n6_ n7_; (try clear hb); (try clear hb2); (try clear hk); (try clear hi); have hcz68_0 : w67.cell? ⟨gb350, 0, none⟩ = some (.slice none 0 0) := (blk_cell BK350.out 0).trans rfl; have hcz68_1 : w67.cell? ⟨gb350, 1, none⟩ = some (.slice none 0 0) := (blk_cell BK350.out 1).trans rfl; have hfz68_0 := blk_frozen BK350.out 0; have hfz68_1 := blk_frozen BK350.out 1))
       refine bodyPost_ret (results_ct rfl _ _ gb350 46 #[.slice none 0 0, .slice none 0 0] (0, 0) _ rfl (by (with_reducible repeat (first|refine kN ?_ _|refine kD ?_|refine kA ?_ _)); refine blk_put (cs := #[.slice none 0 0, .slice none 0 0]) ?_ 1 _ rfl; (with_reducible repeat (first|refine kN ?_ _|refine kD ?_|refine kA ?_ _)); refine blk_put (cs := #[.slice none 0 0, .slice none 0 0]) ?_ 0 _ rfl; (with_reducible repeat (first|refine kN ?_ _|refine kD ?_|refine kA ?_ _)); exact BK350.out) Tryd.underlying46 rfl (by kernel_rfl)) rfl ?_
       exact ⟨_, _, by first | rfl | (simp [errW_none, errW_some] <;> rfl) | (simp [*, errW_none, errW_some] <;> rfl), by first | exact Kd.R_nil _ _ _ _ _ | exact Kd.N_nil _ _ _ _ _ | exact Kd.V_nil _ _ _ _ _ | exact Kd.Q_nil _ _ _ _ _ | exact Kd.S_nil _ _ _ _ _, by first | exact Kd.R_nil _ _ _ _ _ | exact Kd.N_nil _ _ _ _ _ | exact Kd.V_nil _ _ _ _ _ | exact Kd.Q_nil _ _ _ _ _ | exact Kd.S_nil _ _ _ _ _, by repeat (first | (with_reducible first | exact HB.out|apply bA|apply bN|apply bD | refine below_set ?_ GE350.out | refine below_set ?_ GE370.out) | exact HB.out)⟩
     ·replace c11 := Bool.eq_false_iff.mpr c11
      subst c11
      have H1 : (some (([] : List Int), ([] : List Int), false)) = some (r1, r2, r3) := by rw [if_neg (show ¬ (false = true) by decide)] at H; exact H
      clear H
      have H := H1
      clear H1
      simp only [Option.some.injEq, Prod.mk.injEq] at H
      obtain ⟨rfl, rfl, rfl⟩ := H
      go_enter Tryd.func31, Tryd.ntmps31
      go_wp2_with (first | ((with_reducible refine gate_dst (N := 2) rfl ?_); refine box_event ?hg (N := 2) ?hd (cs := #[.slice none 0 0, .slice none 0 0]) (t := 46) ?hr ?_; (case hd => rfl); (case hg => rfl); (case hr => first | (go_simp; done) | (go_simp; rfl)); intro gb350 hg w69 hbox hb; have n0_ := Aside0.mk (below_step (by repeat (first | (with_reducible first | exact HB.out|apply bA|apply bN|apply bD) | exact HB.out)) hb); have n1_ := Aside0.mk (hbox); have n2_ := Aside0.mk ((by rw [hg]; exact (below_size (by repeat (first | (with_reducible first | exact HB.out|apply bA|apply bN|apply bD) | exact HB.out))) : w.heap.size ≤ gb350)); have n3_ := Aside0.mk ((by rw [hg]; exact (below_size (by repeat (first | (with_reducible first | exact HB.out|apply bA|apply bN|apply bD) | exact HB.out))) : w.heap.size ≤ gb350)); clear HB; have HB := n0_; have BK350 := n1_; have GW350 := n2_; have GE350 := n3_; clear n0_ n1_ n2_ n3_; clear hb hbox hg) | ((with_reducible refine gate_callee (f := 58) rfl ?_); refine goesL_ (some 11) rfl rfl Tryd.func58 (by kernel_rfl) rfl #[.string a0, .string (⟨#[124]⟩ : ByteArray)] rfl (by (try simp only [zE,zF,zG]); first|done|rfl|(simp only [zH,zI]; rfl)) ?_; (with_reducible refine (spec_SplitAny.calls k a0 (⟨#[124]⟩ : ByteArray) t351 _ A2.out).mono ?_); rintro e w70 ⟨v352, rfl, ho0, hb⟩; refine ⟨_, rfl, ?_⟩; have n0_ := Aside0.mk (Kd.R_lower ho0 (below_size (by repeat (first | (with_reducible first | exact HB.out|apply bA|apply bN|apply bD | refine below_set ?_ GE350.out) | exact HB.out)))); have n1_ := Aside0.mk (blk_below (g := gb350) (o := .cells #[.slice none 0 0, .slice none 0 0] 46 (0, 0)) (by (with_reducible repeat (first|refine kN ?_ _|refine kD ?_|refine kA ?_ _)); exact BK350.out) hb); have n2_ := Aside0.mk (below_step (by repeat (first | (with_reducible first | exact HB.out|apply bA|apply bN|apply bD | refine below_set ?_ GE350.out) | exact HB.out)) hb); clear BK350; clear HB; have HO353 := n0_; have BK350 := n1_; have HB := n2_; clear n0_ n1_ n2_; (try clear hb); (try clear hb2); (try clear hk); (try clear hi); (try clear ho0); obtain ⟨Ao71, co71, eo71⟩ := Kd.R_slice HO353.out; subst eo71; have p354 : 0 ≤ (0 : Int) := (by omega); have q354 : 0 < (t351.length : Int) := of_decide_eq_true (by first | (with_reducible assumption) | assumption); obtain ⟨ad354, e354, hx354_0⟩ := Kd.at_string (Kd.R_reads' HO353.out).2.2 0 p354 q354; cases e354; have qi354 : (0 < t351.length) = True := eq_true (by omega); (try rw [show ((0 : Int)).toNat = 0 from rfl] at hx354_0); (try rw [Addr.add_zero'] at hx354_0); replace p354 := eq_true p354; replace q354 := eq_true q354) | ((with_reducible refine gate_callee (f := 58) rfl ?_); refine goesL_ (some 20) rfl rfl Tryd.func58 (by kernel_rfl) rfl #[.string (rdOf ByteArray.empty t351 0), .string (⟨#[44]⟩ : ByteArray)] rfl (by (try simp only [zE,zF,zG]); first|done|rfl|(simp only [zH,zI]; rfl)) ?_; (with_reducible refine (spec_SplitAny.calls k (rdOf ByteArray.empty t351 0) (⟨#[44]⟩ : ByteArray) t355 _ A5.out).mono ?_); rintro e w72 ⟨v356, rfl, ho0, hb⟩; refine ⟨_, rfl, ?_⟩; have n0_ := Aside0.mk (Kd.R_elder' (by (with_reducible repeat (first|apply rA|apply rN|apply rD)); exact HO353.out) (Kd.R_base ho0) hb); have n1_ := Aside0.mk (Kd.R_lower (Kd.R_new' ho0 (Kd.R_lt (by (with_reducible repeat (first|apply rA|apply rN|apply rD)); exact HO353.out))) (below_size (by repeat (first | (with_reducible first | exact HB.out|apply bA|apply bN|apply bD | refine below_set ?_ GE350.out) | exact HB.out)))); have n2_ := Aside0.mk (blk_below (g := gb350) (o := .cells #[.slice none 0 0, .slice none 0 0] 46 (0, 0)) (by (with_reducible repeat (first|refine kN ?_ _|refine kD ?_|refine kA ?_ _)); exact BK350.out) hb); have n3_ := Aside0.mk (below_step (by repeat (first | (with_reducible first | exact HB.out|apply bA|apply bN|apply bD | refine below_set ?_ GE350.out) | exact HB.out)) hb); clear HO353; clear BK350; clear HB; have HO353 := n0_; have HO357 := n1_; have BK350 := n2_; have HB := n3_; clear n0_ n1_ n2_ n3_; (try clear hb); (try clear hb2); (try clear hk); (try clear hi); (try clear ho0); obtain ⟨Ao73, co73, eo73⟩ := Kd.R_slice HO357.out; subst eo73) | ((with_reducible refine gate_callee (f := 59) rfl ?_); refine goesL_ (some 21) rfl rfl Tryd.func59 (by kernel_rfl) rfl #[.slice Ao73 t355.length co73] rfl (by (try simp only [zE,zF,zG]); first|done|rfl|(simp only [zH,zI]; rfl)) ?_; (with_reducible refine (spec_l17Numbers.calls k _ _ t355 t358 true _ ?side1 ?side2 A6.out).mono ?_); (case side1 => repeat (first | exact (Kd.R_reads' HO357.out).2.2 | (with_reducible refine Kd.C_alloc ?_ _) | (with_reducible refine Kd.C_drewN ?_ _) | (with_reducible refine Kd.C_drew ?_))); (case side2 => exact (Kd.R_reads' HO357.out).2.1); rintro e w74 ⟨v360, rfl, ho0, hb⟩; refine ⟨_, rfl, ?_⟩; have n0_ := Aside0.mk (Kd.R_below (by (with_reducible repeat (first|apply rA|apply rN|apply rD)); exact HO353.out) hb); have n1_ := Aside0.mk (Kd.R_below (by (with_reducible repeat (first|apply rA|apply rN|apply rD)); exact HO357.out) hb); have n2_ := Aside0.mk (Kd.R_lower ho0 (below_size (by repeat (first | (with_reducible first | exact HB.out|apply bA|apply bN|apply bD | refine below_set ?_ GE350.out) | exact HB.out)))); have n3_ := Aside0.mk (blk_below (g := gb350) (o := .cells #[.slice none 0 0, .slice none 0 0] 46 (0, 0)) (by (with_reducible repeat (first|refine kN ?_ _|refine kD ?_|refine kA ?_ _)); exact BK350.out) hb); have n4_ := Aside0.mk (below_step (by repeat (first | (with_reducible first | exact HB.out|apply bA|apply bN|apply bD | refine below_set ?_ GE350.out) | exact HB.out)) hb); clear HO353; clear HO357; clear BK350; clear HB; have HO353 := n0_; have HO357 := n1_; have HO361 := n2_; have BK350 := n3_; have HB := n4_; clear n0_ n1_ n2_ n3_ n4_; (try clear hb); (try clear hb2); (try clear hk); (try clear hi); (try clear ho0); have p362 : 0 ≤ (1 : Int) := (by omega); have q362 : 1 < (t351.length : Int) := of_decide_eq_true (by first | (with_reducible assumption) | assumption); obtain ⟨ad362, e362, hx362_0⟩ := Kd.at_string (Kd.R_reads' HO353.out).2.2 1 p362 q362; obtain rfl : ad354 = ad362 := (by injection e362); (try simp only [show (1 : Int).toNat = 1 from rfl, Nat.reduceMul, Nat.reduceEqDiff, Go.Addr.add, ↓reduceIte] at hx362_0); have qi362 : (1 < t351.length) = True := eq_true (by omega); (try rw [show ((1 : Int)).toNat = 1 from rfl] at hx362_0); replace p362 := eq_true p362; replace q362 := eq_true q362) | ((with_reducible refine gate_callee (f := 58) rfl ?_); refine goesL_ (some 28) rfl rfl Tryd.func58 (by kernel_rfl) rfl #[.string (rdOf ByteArray.empty t351 1), .string (⟨#[44]⟩ : ByteArray)] rfl (by (try simp only [zE,zF,zG]); first|done|rfl|(simp only [zH,zI]; rfl)) ?_; (with_reducible refine (spec_SplitAny.calls k (rdOf ByteArray.empty t351 1) (⟨#[44]⟩ : ByteArray) t363 _ A8.out).mono ?_); rintro e w75 ⟨v364, rfl, ho0, hb⟩; refine ⟨_, rfl, ?_⟩; have n0_ := Aside0.mk (Kd.R_elder' (by (with_reducible repeat (first|apply rA|apply rN|apply rD)); exact HO353.out) (Kd.R_base ho0) hb); have n1_ := Aside0.mk (Kd.R_elder' (by (with_reducible repeat (first|apply rA|apply rN|apply rD)); exact HO357.out) (Kd.R_base ho0) hb); have n2_ := Aside0.mk (Kd.R_below (by (with_reducible repeat (first|apply rA|apply rN|apply rD)); exact HO361.out) hb); have n3_ := Aside0.mk (Kd.R_lower (Kd.R_new' (Kd.R_new' ho0 (Kd.R_lt (by (with_reducible repeat (first|apply rA|apply rN|apply rD)); exact HO353.out))) (Kd.R_lt (by (with_reducible repeat (first|apply rA|apply rN|apply rD)); exact HO357.out))) (below_size (by repeat (first | (with_reducible first | exact HB.out|apply bA|apply bN|apply bD | refine below_set ?_ GE350.out) | exact HB.out)))); have n4_ := Aside0.mk (blk_below (g := gb350) (o := .cells #[.slice none 0 0, .slice none 0 0] 46 (0, 0)) (by (with_reducible repeat (first|refine kN ?_ _|refine kD ?_|refine kA ?_ _)); exact BK350.out) hb); have n5_ := Aside0.mk (below_step (by repeat (first | (with_reducible first | exact HB.out|apply bA|apply bN|apply bD | refine below_set ?_ GE350.out) | exact HB.out)) hb); clear HO353; clear HO357; clear HO361; clear BK350; clear HB; have HO353 := n0_; have HO357 := n1_; have HO361 := n2_; have HO365 := n3_; have BK350 := n4_; have HB := n5_; clear n0_ n1_ n2_ n3_ n4_ n5_; (try clear hb); (try clear hb2); (try clear hk); (try clear hi); (try clear ho0); obtain ⟨Ao76, co76, eo76⟩ := Kd.R_slice HO365.out; subst eo76) | ((with_reducible refine gate_callee (f := 59) rfl ?_); refine goesL_ (some 29) rfl rfl Tryd.func59 (by kernel_rfl) rfl #[.slice Ao76 t363.length co76] rfl (by (try simp only [zE,zF,zG]); first|done|rfl|(simp only [zH,zI]; rfl)) ?_; (with_reducible refine (spec_l17Numbers.calls k _ _ t363 t366 false _ ?side1 ?side2 A9.out).mono ?_); (case side1 => repeat (first | exact (Kd.R_reads' HO365.out).2.2 | (with_reducible refine Kd.C_alloc ?_ _) | (with_reducible refine Kd.C_drewN ?_ _) | (with_reducible refine Kd.C_drew ?_))); (case side2 => exact (Kd.R_reads' HO365.out).2.1); rintro e w77 ⟨v368, rfl, ho0, hb⟩; refine ⟨_, rfl, ?_⟩; have n0_ := Aside0.mk (Kd.R_below (by (with_reducible repeat (first|apply rA|apply rN|apply rD)); exact HO353.out) hb); have n1_ := Aside0.mk (Kd.R_below (by (with_reducible repeat (first|apply rA|apply rN|apply rD)); exact HO357.out) hb); have n2_ := Aside0.mk (Kd.R_elder' (by (with_reducible repeat (first|apply rA|apply rN|apply rD)); exact HO361.out) (Kd.R_base ho0) hb); have n3_ := Aside0.mk (Kd.R_below (by (with_reducible repeat (first|apply rA|apply rN|apply rD)); exact HO365.out) hb); have n4_ := Aside0.mk (Kd.R_lower (Kd.R_new' ho0 (Kd.R_lt (by (with_reducible repeat (first|apply rA|apply rN|apply rD)); exact HO361.out))) (below_size (by repeat (first | (with_reducible first | exact HB.out|apply bA|apply bN|apply bD | refine below_set ?_ GE350.out) | exact HB.out)))); have n5_ := Aside0.mk (blk_below (g := gb350) (o := .cells #[.slice none 0 0, .slice none 0 0] 46 (0, 0)) (by (with_reducible repeat (first|refine kN ?_ _|refine kD ?_|refine kA ?_ _)); exact BK350.out) hb); have n6_ := Aside0.mk (below_step (by repeat (first | (with_reducible first | exact HB.out|apply bA|apply bN|apply bD | refine below_set ?_ GE350.out) | exact HB.out)) hb); clear HO353; clear HO357; clear HO361; clear HO365; clear BK350; clear HB; have HO353 := n0_; have HO357 := n1_; have HO361 := n2_; have HO365 := n3_; have HO369 := n4_; have BK350 := n5_; have HB := n6_; clear n0_ n1_ n2_ n3_ n4_ n5_ n6_; (try clear hb); (try clear hb2); (try clear hk); (try clear hi); (try clear ho0); obtain ⟨Ao78, co78, eo78⟩ := Kd.R_slice HO369.out; subst eo78; obtain ⟨Ao79, co79, eo79⟩ := Kd.R_slice HO361.out; subst eo79) | ((with_reducible refine gate_dst (N := 9) rfl ?_); refine box_event ?hg (N := 9) ?hd (cs := #[.slice none 0 0, .slice none 0 0]) (t := 46) ?hr ?_; (case hd => rfl); (case hg => rfl); (case hr => first | (go_simp; done) | (go_simp; rfl)); intro gb370 hg w80 hbox hb; have n0_ := Aside0.mk (Kd.R_below (by (with_reducible repeat (first|apply rA|apply rN|apply rD)); exact HO353.out) hb); have n1_ := Aside0.mk (Kd.R_below (by (with_reducible repeat (first|apply rA|apply rN|apply rD)); exact HO357.out) hb); have n2_ := Aside0.mk (Kd.R_below (by (with_reducible repeat (first|apply rA|apply rN|apply rD)); exact HO361.out) hb); have n3_ := Aside0.mk (Kd.R_below (by (with_reducible repeat (first|apply rA|apply rN|apply rD)); exact HO365.out) hb); have n4_ := Aside0.mk (Kd.R_below (by (with_reducible repeat (first|apply rA|apply rN|apply rD)); exact HO369.out) hb); have n5_ := Aside0.mk (blk_below (g := gb350) (o := .cells #[.slice none 0 0, .slice none 0 0] 46 (0, 0)) (by (with_reducible repeat (first|refine kN ?_ _|refine kD ?_|refine kA ?_ _)); exact BK350.out) hb); have n6_ := Aside0.mk (below_step (by repeat (first | (with_reducible first | exact HB.out|apply bA|apply bN|apply bD | refine below_set ?_ GE350.out) | exact HB.out)) hb); have n7_ := Aside0.mk (hbox); have n8_ := Aside0.mk ((by rw [hg]; exact (below_size (by repeat (first | (with_reducible first | exact HB.out|apply bA|apply bN|apply bD | refine below_set ?_ GE350.out) | exact HB.out))) : w.heap.size ≤ gb370)); have n9_ := Aside0.mk ((by rw [hg]; exact (below_size (by repeat (first | (with_reducible first | exact HB.out|apply bA|apply bN|apply bD | refine below_set ?_ GE350.out) | exact HB.out))) : w.heap.size ≤ gb370)); have n10_ := Aside0.mk ((by rw [hg]; exact Nat.ne_of_lt (blk_lt (g := gb350) (o := .cells #[.slice none 0 0, .slice none 0 0] 46 (0, 0)) (by (with_reducible repeat (first|refine kN ?_ _|refine kD ?_|refine kA ?_ _)); exact BK350.out)) : gb350 ≠ gb370)); have n11_ := Aside0.mk ((by rw [hg]; exact Nat.ne_of_gt (blk_lt (g := gb350) (o := .cells #[.slice none 0 0, .slice none 0 0] 46 (0, 0)) (by (with_reducible repeat (first|refine kN ?_ _|refine kD ?_|refine kA ?_ _)); exact BK350.out)) : gb370 ≠ gb350)); clear HO353; clear HO357; clear HO361; clear HO365; clear HO369; clear BK350; clear HB; have HO353 := n0_; have HO357 := n1_; have HO361 := n2_; have HO365 := n3_; have HO369 := n4_; have BK350 := n5_; have HB := n6_; have BK370 := n7_; have GW370 := n8_; have GE370 := n9_; have NB350_370 := n10_; have NB370_350 := n11_; clear n0_ n1_ n2_ n3_ n4_ n5_ n6_ n7_ n8_ n9_ n10_ n11_; clear hb hbox hg; have hnb81 := NB370_350.out; have hnc81 := NB350_370.out; have hcz82_0 : w80.cell? ⟨gb370, 0, none⟩ = some (.slice none 0 0) := (blk_cell BK370.out 0).trans rfl; have hcz82_1 : w80.cell? ⟨gb370, 1, none⟩ = some (.slice none 0 0) := (blk_cell BK370.out 1).trans rfl; have hfz82_0 := blk_frozen BK370.out 0; have hfz82_1 := blk_frozen BK370.out 1; have hcz83_0 : w80.cell? ⟨gb350, 0, none⟩ = some (.slice none 0 0) := (blk_cell BK350.out 0).trans rfl; have hcz83_1 : w80.cell? ⟨gb350, 1, none⟩ = some (.slice none 0 0) := (blk_cell BK350.out 1).trans rfl; have hfz83_0 := blk_frozen BK350.out 0; have hfz83_1 := blk_frozen BK350.out 1))
      refine bodyPost_ret (results_ct rfl _ _ gb350 46 #[.slice none 0 0, .slice none 0 0] (0, 0) _ rfl (by (with_reducible repeat (first|refine kN ?_ _|refine kD ?_|refine kA ?_ _)); refine blk_put (cs := #[.slice none 0 0, .slice none 0 0]) ?_ 1 _ rfl; (with_reducible repeat (first|refine kN ?_ _|refine kD ?_|refine kA ?_ _)); refine blk_put (cs := #[.slice none 0 0, .slice none 0 0]) ?_ 0 _ rfl; (with_reducible repeat (first|refine kN ?_ _|refine kD ?_|refine kA ?_ _)); refine blk_far ?_ NB350_370.out _; (with_reducible repeat (first|refine kN ?_ _|refine kD ?_|refine kA ?_ _)); refine blk_far ?_ NB350_370.out _; (with_reducible repeat (first|refine kN ?_ _|refine kD ?_|refine kA ?_ _)); exact BK350.out) Tryd.underlying46 rfl (by kernel_rfl)) rfl ?_
      exact ⟨_, _, by first | rfl | (simp [errW_none, errW_some] <;> rfl) | (simp [*, errW_none, errW_some] <;> rfl), by first | exact Kd.R_nil _ _ _ _ _ | exact Kd.N_nil _ _ _ _ _ | exact Kd.V_nil _ _ _ _ _ | exact Kd.Q_nil _ _ _ _ _ | exact Kd.S_nil _ _ _ _ _, by first | exact Kd.R_nil _ _ _ _ _ | exact Kd.N_nil _ _ _ _ _ | exact Kd.V_nil _ _ _ _ _ | exact Kd.Q_nil _ _ _ _ _ | exact Kd.S_nil _ _ _ _ _, by repeat (first | (with_reducible first | exact HB.out|apply bA|apply bN|apply bD | refine below_set ?_ GE350.out | refine below_set ?_ GE370.out) | exact HB.out)⟩
    ·replace c10 := Bool.eq_false_iff.mpr c10
     subst c10
     have H1 : (some (([] : List Int), ([] : List Int), false)) = some (r1, r2, r3) := by rw [if_neg (show ¬ (false = true) by decide)] at H; exact H
     clear H
     have H := H1
     clear H1
     simp only [Option.some.injEq, Prod.mk.injEq] at H
     obtain ⟨rfl, rfl, rfl⟩ := H
     go_enter Tryd.func31, Tryd.ntmps31
     go_wp2_with (first | ((with_reducible refine gate_dst (N := 2) rfl ?_); refine box_event ?hg (N := 2) ?hd (cs := #[.slice none 0 0, .slice none 0 0]) (t := 46) ?hr ?_; (case hd => rfl); (case hg => rfl); (case hr => first | (go_simp; done) | (go_simp; rfl)); intro gb350 hg w84 hbox hb; have n0_ := Aside0.mk (below_step (by repeat (first | (with_reducible first | exact HB.out|apply bA|apply bN|apply bD) | exact HB.out)) hb); have n1_ := Aside0.mk (hbox); have n2_ := Aside0.mk ((by rw [hg]; exact (below_size (by repeat (first | (with_reducible first | exact HB.out|apply bA|apply bN|apply bD) | exact HB.out))) : w.heap.size ≤ gb350)); have n3_ := Aside0.mk ((by rw [hg]; exact (below_size (by repeat (first | (with_reducible first | exact HB.out|apply bA|apply bN|apply bD) | exact HB.out))) : w.heap.size ≤ gb350)); clear HB; have HB := n0_; have BK350 := n1_; have GW350 := n2_; have GE350 := n3_; clear n0_ n1_ n2_ n3_; clear hb hbox hg) | ((with_reducible refine gate_callee (f := 58) rfl ?_); refine goesL_ (some 11) rfl rfl Tryd.func58 (by kernel_rfl) rfl #[.string a0, .string (⟨#[124]⟩ : ByteArray)] rfl (by (try simp only [zE,zF,zG]); first|done|rfl|(simp only [zH,zI]; rfl)) ?_; (with_reducible refine (spec_SplitAny.calls k a0 (⟨#[124]⟩ : ByteArray) t351 _ A2.out).mono ?_); rintro e w85 ⟨v352, rfl, ho0, hb⟩; refine ⟨_, rfl, ?_⟩; have n0_ := Aside0.mk (Kd.R_lower ho0 (below_size (by repeat (first | (with_reducible first | exact HB.out|apply bA|apply bN|apply bD | refine below_set ?_ GE350.out) | exact HB.out)))); have n1_ := Aside0.mk (blk_below (g := gb350) (o := .cells #[.slice none 0 0, .slice none 0 0] 46 (0, 0)) (by (with_reducible repeat (first|refine kN ?_ _|refine kD ?_|refine kA ?_ _)); exact BK350.out) hb); have n2_ := Aside0.mk (below_step (by repeat (first | (with_reducible first | exact HB.out|apply bA|apply bN|apply bD | refine below_set ?_ GE350.out) | exact HB.out)) hb); clear BK350; clear HB; have HO353 := n0_; have BK350 := n1_; have HB := n2_; clear n0_ n1_ n2_; (try clear hb); (try clear hb2); (try clear hk); (try clear hi); (try clear ho0); obtain ⟨Ao86, co86, eo86⟩ := Kd.R_slice HO353.out; subst eo86; have p354 : 0 ≤ (0 : Int) := (by omega); have q354 : 0 < (t351.length : Int) := of_decide_eq_true (by first | (with_reducible assumption) | assumption); obtain ⟨ad354, e354, hx354_0⟩ := Kd.at_string (Kd.R_reads' HO353.out).2.2 0 p354 q354; cases e354; have qi354 : (0 < t351.length) = True := eq_true (by omega); (try rw [show ((0 : Int)).toNat = 0 from rfl] at hx354_0); (try rw [Addr.add_zero'] at hx354_0); replace p354 := eq_true p354; replace q354 := eq_true q354) | ((with_reducible refine gate_callee (f := 58) rfl ?_); refine goesL_ (some 20) rfl rfl Tryd.func58 (by kernel_rfl) rfl #[.string (rdOf ByteArray.empty t351 0), .string (⟨#[44]⟩ : ByteArray)] rfl (by (try simp only [zE,zF,zG]); first|done|rfl|(simp only [zH,zI]; rfl)) ?_; (with_reducible refine (spec_SplitAny.calls k (rdOf ByteArray.empty t351 0) (⟨#[44]⟩ : ByteArray) t355 _ A5.out).mono ?_); rintro e w87 ⟨v356, rfl, ho0, hb⟩; refine ⟨_, rfl, ?_⟩; have n0_ := Aside0.mk (Kd.R_elder' (by (with_reducible repeat (first|apply rA|apply rN|apply rD)); exact HO353.out) (Kd.R_base ho0) hb); have n1_ := Aside0.mk (Kd.R_lower (Kd.R_new' ho0 (Kd.R_lt (by (with_reducible repeat (first|apply rA|apply rN|apply rD)); exact HO353.out))) (below_size (by repeat (first | (with_reducible first | exact HB.out|apply bA|apply bN|apply bD | refine below_set ?_ GE350.out) | exact HB.out)))); have n2_ := Aside0.mk (blk_below (g := gb350) (o := .cells #[.slice none 0 0, .slice none 0 0] 46 (0, 0)) (by (with_reducible repeat (first|refine kN ?_ _|refine kD ?_|refine kA ?_ _)); exact BK350.out) hb); have n3_ := Aside0.mk (below_step (by repeat (first | (with_reducible first | exact HB.out|apply bA|apply bN|apply bD | refine below_set ?_ GE350.out) | exact HB.out)) hb); clear HO353; clear BK350; clear HB; have HO353 := n0_; have HO357 := n1_; have BK350 := n2_; have HB := n3_; clear n0_ n1_ n2_ n3_; (try clear hb); (try clear hb2); (try clear hk); (try clear hi); (try clear ho0); obtain ⟨Ao88, co88, eo88⟩ := Kd.R_slice HO357.out; subst eo88) | ((with_reducible refine gate_callee (f := 59) rfl ?_); refine goesL_ (some 21) rfl rfl Tryd.func59 (by kernel_rfl) rfl #[.slice Ao88 t355.length co88] rfl (by (try simp only [zE,zF,zG]); first|done|rfl|(simp only [zH,zI]; rfl)) ?_; (with_reducible refine (spec_l17Numbers.calls k _ _ t355 t358 false _ ?side1 ?side2 A6.out).mono ?_); (case side1 => repeat (first | exact (Kd.R_reads' HO357.out).2.2 | (with_reducible refine Kd.C_alloc ?_ _) | (with_reducible refine Kd.C_drewN ?_ _) | (with_reducible refine Kd.C_drew ?_))); (case side2 => exact (Kd.R_reads' HO357.out).2.1); rintro e w89 ⟨v360, rfl, ho0, hb⟩; refine ⟨_, rfl, ?_⟩; have n0_ := Aside0.mk (Kd.R_below (by (with_reducible repeat (first|apply rA|apply rN|apply rD)); exact HO353.out) hb); have n1_ := Aside0.mk (Kd.R_below (by (with_reducible repeat (first|apply rA|apply rN|apply rD)); exact HO357.out) hb); have n2_ := Aside0.mk (Kd.R_lower ho0 (below_size (by repeat (first | (with_reducible first | exact HB.out|apply bA|apply bN|apply bD | refine below_set ?_ GE350.out) | exact HB.out)))); have n3_ := Aside0.mk (blk_below (g := gb350) (o := .cells #[.slice none 0 0, .slice none 0 0] 46 (0, 0)) (by (with_reducible repeat (first|refine kN ?_ _|refine kD ?_|refine kA ?_ _)); exact BK350.out) hb); have n4_ := Aside0.mk (below_step (by repeat (first | (with_reducible first | exact HB.out|apply bA|apply bN|apply bD | refine below_set ?_ GE350.out) | exact HB.out)) hb); clear HO353; clear HO357; clear BK350; clear HB; have HO353 := n0_; have HO357 := n1_; have HO361 := n2_; have BK350 := n3_; have HB := n4_; clear n0_ n1_ n2_ n3_ n4_; (try clear hb); (try clear hb2); (try clear hk); (try clear hi); (try clear ho0); have p362 : 0 ≤ (1 : Int) := (by omega); have q362 : 1 < (t351.length : Int) := of_decide_eq_true (by first | (with_reducible assumption) | assumption); obtain ⟨ad362, e362, hx362_0⟩ := Kd.at_string (Kd.R_reads' HO353.out).2.2 1 p362 q362; obtain rfl : ad354 = ad362 := (by injection e362); (try simp only [show (1 : Int).toNat = 1 from rfl, Nat.reduceMul, Nat.reduceEqDiff, Go.Addr.add, ↓reduceIte] at hx362_0); have qi362 : (1 < t351.length) = True := eq_true (by omega); (try rw [show ((1 : Int)).toNat = 1 from rfl] at hx362_0); replace p362 := eq_true p362; replace q362 := eq_true q362) | ((with_reducible refine gate_callee (f := 58) rfl ?_); refine goesL_ (some 28) rfl rfl Tryd.func58 (by kernel_rfl) rfl #[.string (rdOf ByteArray.empty t351 1), .string (⟨#[44]⟩ : ByteArray)] rfl (by (try simp only [zE,zF,zG]); first|done|rfl|(simp only [zH,zI]; rfl)) ?_; (with_reducible refine (spec_SplitAny.calls k (rdOf ByteArray.empty t351 1) (⟨#[44]⟩ : ByteArray) t363 _ A8.out).mono ?_); rintro e w90 ⟨v364, rfl, ho0, hb⟩; refine ⟨_, rfl, ?_⟩; have n0_ := Aside0.mk (Kd.R_elder' (by (with_reducible repeat (first|apply rA|apply rN|apply rD)); exact HO353.out) (Kd.R_base ho0) hb); have n1_ := Aside0.mk (Kd.R_elder' (by (with_reducible repeat (first|apply rA|apply rN|apply rD)); exact HO357.out) (Kd.R_base ho0) hb); have n2_ := Aside0.mk (Kd.R_below (by (with_reducible repeat (first|apply rA|apply rN|apply rD)); exact HO361.out) hb); have n3_ := Aside0.mk (Kd.R_lower (Kd.R_new' (Kd.R_new' ho0 (Kd.R_lt (by (with_reducible repeat (first|apply rA|apply rN|apply rD)); exact HO353.out))) (Kd.R_lt (by (with_reducible repeat (first|apply rA|apply rN|apply rD)); exact HO357.out))) (below_size (by repeat (first | (with_reducible first | exact HB.out|apply bA|apply bN|apply bD | refine below_set ?_ GE350.out) | exact HB.out)))); have n4_ := Aside0.mk (blk_below (g := gb350) (o := .cells #[.slice none 0 0, .slice none 0 0] 46 (0, 0)) (by (with_reducible repeat (first|refine kN ?_ _|refine kD ?_|refine kA ?_ _)); exact BK350.out) hb); have n5_ := Aside0.mk (below_step (by repeat (first | (with_reducible first | exact HB.out|apply bA|apply bN|apply bD | refine below_set ?_ GE350.out) | exact HB.out)) hb); clear HO353; clear HO357; clear HO361; clear BK350; clear HB; have HO353 := n0_; have HO357 := n1_; have HO361 := n2_; have HO365 := n3_; have BK350 := n4_; have HB := n5_; clear n0_ n1_ n2_ n3_ n4_ n5_; (try clear hb); (try clear hb2); (try clear hk); (try clear hi); (try clear ho0); obtain ⟨Ao91, co91, eo91⟩ := Kd.R_slice HO365.out; subst eo91) | ((with_reducible refine gate_callee (f := 59) rfl ?_); refine goesL_ (some 29) rfl rfl Tryd.func59 (by kernel_rfl) rfl #[.slice Ao91 t363.length co91] rfl (by (try simp only [zE,zF,zG]); first|done|rfl|(simp only [zH,zI]; rfl)) ?_; (with_reducible refine (spec_l17Numbers.calls k _ _ t363 t366 t367 _ ?side1 ?side2 A9.out).mono ?_); (case side1 => repeat (first | exact (Kd.R_reads' HO365.out).2.2 | (with_reducible refine Kd.C_alloc ?_ _) | (with_reducible refine Kd.C_drewN ?_ _) | (with_reducible refine Kd.C_drew ?_))); (case side2 => exact (Kd.R_reads' HO365.out).2.1); rintro e w92 ⟨v368, rfl, ho0, hb⟩; refine ⟨_, rfl, ?_⟩; have n0_ := Aside0.mk (Kd.R_below (by (with_reducible repeat (first|apply rA|apply rN|apply rD)); exact HO353.out) hb); have n1_ := Aside0.mk (Kd.R_below (by (with_reducible repeat (first|apply rA|apply rN|apply rD)); exact HO357.out) hb); have n2_ := Aside0.mk (Kd.R_elder' (by (with_reducible repeat (first|apply rA|apply rN|apply rD)); exact HO361.out) (Kd.R_base ho0) hb); have n3_ := Aside0.mk (Kd.R_below (by (with_reducible repeat (first|apply rA|apply rN|apply rD)); exact HO365.out) hb); have n4_ := Aside0.mk (Kd.R_lower (Kd.R_new' ho0 (Kd.R_lt (by (with_reducible repeat (first|apply rA|apply rN|apply rD)); exact HO361.out))) (below_size (by repeat (first | (with_reducible first | exact HB.out|apply bA|apply bN|apply bD | refine below_set ?_ GE350.out) | exact HB.out)))); have n5_ := Aside0.mk (blk_below (g := gb350) (o := .cells #[.slice none 0 0, .slice none 0 0] 46 (0, 0)) (by (with_reducible repeat (first|refine kN ?_ _|refine kD ?_|refine kA ?_ _)); exact BK350.out) hb); have n6_ := Aside0.mk (below_step (by repeat (first | (with_reducible first | exact HB.out|apply bA|apply bN|apply bD | refine below_set ?_ GE350.out) | exact HB.out)) hb); clear HO353; clear HO357; clear HO361; clear HO365; clear BK350; clear HB; have HO353 := n0_; have HO357 := n1_; have HO361 := n2_; have HO365 := n3_; have HO369 := n4_; have BK350 := n5_; have HB := n6_; clear n0_ n1_ n2_ n3_ n4_ n5_ n6_; (try clear hb); (try clear hb2); (try clear hk); (try clear hi); (try clear ho0); obtain ⟨Ao93, co93, eo93⟩ := Kd.R_slice HO369.out; subst eo93; obtain ⟨Ao94, co94, eo94⟩ := Kd.R_slice HO361.out; subst eo94) | ((with_reducible refine gate_dst (N := 9) rfl ?_); refine box_event ?hg (N := 9) ?hd (cs := #[.slice none 0 0, .slice none 0 0]) (t := 46) ?hr ?_; (case hd => rfl); (case hg => rfl); (case hr => first | (go_simp; done) | (go_simp; rfl)); intro gb370 hg w95 hbox hb; have n0_ := Aside0.mk (Kd.R_below (by (with_reducible repeat (first|apply rA|apply rN|apply rD)); exact HO353.out) hb); have n1_ := Aside0.mk (Kd.R_below (by (with_reducible repeat (first|apply rA|apply rN|apply rD)); exact HO357.out) hb); have n2_ := Aside0.mk (Kd.R_below (by (with_reducible repeat (first|apply rA|apply rN|apply rD)); exact HO361.out) hb); have n3_ := Aside0.mk (Kd.R_below (by (with_reducible repeat (first|apply rA|apply rN|apply rD)); exact HO365.out) hb); have n4_ := Aside0.mk (Kd.R_below (by (with_reducible repeat (first|apply rA|apply rN|apply rD)); exact HO369.out) hb); have n5_ := Aside0.mk (blk_below (g := gb350) (o := .cells #[.slice none 0 0, .slice none 0 0] 46 (0, 0)) (by (with_reducible repeat (first|refine kN ?_ _|refine kD ?_|refine kA ?_ _)); exact BK350.out) hb); have n6_ := Aside0.mk (below_step (by repeat (first | (with_reducible first | exact HB.out|apply bA|apply bN|apply bD | refine below_set ?_ GE350.out) | exact HB.out)) hb); have n7_ := Aside0.mk (hbox); have n8_ := Aside0.mk ((by rw [hg]; exact (below_size (by repeat (first | (with_reducible first | exact HB.out|apply bA|apply bN|apply bD | refine below_set ?_ GE350.out) | exact HB.out))) : w.heap.size ≤ gb370)); have n9_ := Aside0.mk ((by rw [hg]; exact (below_size (by repeat (first | (with_reducible first | exact HB.out|apply bA|apply bN|apply bD | refine below_set ?_ GE350.out) | exact HB.out))) : w.heap.size ≤ gb370)); have n10_ := Aside0.mk ((by rw [hg]; exact Nat.ne_of_lt (blk_lt (g := gb350) (o := .cells #[.slice none 0 0, .slice none 0 0] 46 (0, 0)) (by (with_reducible repeat (first|refine kN ?_ _|refine kD ?_|refine kA ?_ _)); exact BK350.out)) : gb350 ≠ gb370)); have n11_ := Aside0.mk ((by rw [hg]; exact Nat.ne_of_gt (blk_lt (g := gb350) (o := .cells #[.slice none 0 0, .slice none 0 0] 46 (0, 0)) (by (with_reducible repeat (first|refine kN ?_ _|refine kD ?_|refine kA ?_ _)); exact BK350.out)) : gb370 ≠ gb350)); clear HO353; clear HO357; clear HO361; clear HO365; clear HO369; clear BK350; clear HB; have HO353 := n0_; have HO357 := n1_; have HO361 := n2_; have HO365 := n3_; have HO369 := n4_; have BK350 := n5_; have HB := n6_; have BK370 := n7_; have GW370 := n8_; have GE370 := n9_; have NB350_370 := n10_; have NB370_350 := n11_; clear n0_ n1_ n2_ n3_ n4_ n5_ n6_ n7_ n8_ n9_ n10_ n11_; clear hb hbox hg; have hnb96 := NB370_350.out; have hnc96 := NB350_370.out; have hcz97_0 : w95.cell? ⟨gb370, 0, none⟩ = some (.slice none 0 0) := (blk_cell BK370.out 0).trans rfl; have hcz97_1 : w95.cell? ⟨gb370, 1, none⟩ = some (.slice none 0 0) := (blk_cell BK370.out 1).trans rfl; have hfz97_0 := blk_frozen BK370.out 0; have hfz97_1 := blk_frozen BK370.out 1; have hcz98_0 : w95.cell? ⟨gb350, 0, none⟩ = some (.slice none 0 0) := (blk_cell BK350.out 0).trans rfl; have hcz98_1 : w95.cell? ⟨gb350, 1, none⟩ = some (.slice none 0 0) := (blk_cell BK350.out 1).trans rfl; have hfz98_0 := blk_frozen BK350.out 0; have hfz98_1 := blk_frozen BK350.out 1))
     refine bodyPost_ret (results_ct rfl _ _ gb350 46 #[.slice none 0 0, .slice none 0 0] (0, 0) _ rfl (by (with_reducible repeat (first|refine kN ?_ _|refine kD ?_|refine kA ?_ _)); refine blk_put (cs := #[.slice none 0 0, .slice none 0 0]) ?_ 1 _ rfl; (with_reducible repeat (first|refine kN ?_ _|refine kD ?_|refine kA ?_ _)); refine blk_put (cs := #[.slice none 0 0, .slice none 0 0]) ?_ 0 _ rfl; (with_reducible repeat (first|refine kN ?_ _|refine kD ?_|refine kA ?_ _)); refine blk_far ?_ NB350_370.out _; (with_reducible repeat (first|refine kN ?_ _|refine kD ?_|refine kA ?_ _)); refine blk_far ?_ NB350_370.out _; (with_reducible repeat (first|refine kN ?_ _|refine kD ?_|refine kA ?_ _)); exact BK350.out) Tryd.underlying46 rfl (by kernel_rfl)) rfl ?_
     exact ⟨_, _, by first | rfl | (simp [errW_none, errW_some] <;> rfl) | (simp [*, errW_none, errW_some] <;> rfl), by first | exact Kd.R_nil _ _ _ _ _ | exact Kd.N_nil _ _ _ _ _ | exact Kd.V_nil _ _ _ _ _ | exact Kd.Q_nil _ _ _ _ _ | exact Kd.S_nil _ _ _ _ _, by first | exact Kd.R_nil _ _ _ _ _ | exact Kd.N_nil _ _ _ _ _ | exact Kd.V_nil _ _ _ _ _ | exact Kd.Q_nil _ _ _ _ _ | exact Kd.S_nil _ _ _ _ _, by repeat (first | (with_reducible first | exact HB.out|apply bA|apply bN|apply bD | refine below_set ?_ GE350.out | refine below_set ?_ GE370.out) | exact HB.out)⟩
   ·rw [if_neg c7] at H
    exact absurd H (by simp)
  ·rw [if_neg c4] at H
   exact absurd H (by simp)
 ·rw [if_neg c3] at H
  have c3b0 : ((t351.length : Int) == 2) = false := beq_eq_false_iff_ne.mpr c3
  have c3b1 : ((t351.length : Int) != 2) = true := bne_iff_ne.mpr c3
  simp only [Option.some.injEq, Prod.mk.injEq] at H
  obtain ⟨rfl, rfl, rfl⟩ := H
  go_enter Tryd.func31, Tryd.ntmps31
  go_wp2_with (first | ((with_reducible refine gate_dst (N := 2) rfl ?_); refine box_event ?hg (N := 2) ?hd (cs := #[.slice none 0 0, .slice none 0 0]) (t := 46) ?hr ?_; (case hd => rfl); (case hg => rfl); (case hr => first | (go_simp; done) | (go_simp; rfl)); intro gb350 hg w99 hbox hb; have n0_ := Aside0.mk (below_step (by repeat (first | (with_reducible first | exact HB.out|apply bA|apply bN|apply bD) | exact HB.out)) hb); have n1_ := Aside0.mk (hbox); have n2_ := Aside0.mk ((by rw [hg]; exact (below_size (by repeat (first | (with_reducible first | exact HB.out|apply bA|apply bN|apply bD) | exact HB.out))) : w.heap.size ≤ gb350)); have n3_ := Aside0.mk ((by rw [hg]; exact (below_size (by repeat (first | (with_reducible first | exact HB.out|apply bA|apply bN|apply bD) | exact HB.out))) : w.heap.size ≤ gb350)); clear HB; have HB := n0_; have BK350 := n1_; have GW350 := n2_; have GE350 := n3_; clear n0_ n1_ n2_ n3_; clear hb hbox hg) | ((with_reducible refine gate_callee (f := 58) rfl ?_); refine goesL_ (some 11) rfl rfl Tryd.func58 (by kernel_rfl) rfl #[.string a0, .string (⟨#[124]⟩ : ByteArray)] rfl (by (try simp only [zE,zF,zG]); first|done|rfl|(simp only [zH,zI]; rfl)) ?_; (with_reducible refine (spec_SplitAny.calls k a0 (⟨#[124]⟩ : ByteArray) t351 _ A2.out).mono ?_); rintro e w100 ⟨v352, rfl, ho0, hb⟩; refine ⟨_, rfl, ?_⟩; have n0_ := Aside0.mk (Kd.R_lower ho0 (below_size (by repeat (first | (with_reducible first | exact HB.out|apply bA|apply bN|apply bD | refine below_set ?_ GE350.out) | exact HB.out)))); have n1_ := Aside0.mk (blk_below (g := gb350) (o := .cells #[.slice none 0 0, .slice none 0 0] 46 (0, 0)) (by (with_reducible repeat (first|refine kN ?_ _|refine kD ?_|refine kA ?_ _)); exact BK350.out) hb); have n2_ := Aside0.mk (below_step (by repeat (first | (with_reducible first | exact HB.out|apply bA|apply bN|apply bD | refine below_set ?_ GE350.out) | exact HB.out)) hb); clear BK350; clear HB; have HO353 := n0_; have BK350 := n1_; have HB := n2_; clear n0_ n1_ n2_; (try clear hb); (try clear hb2); (try clear hk); (try clear hi); (try clear ho0); obtain ⟨Ao101, co101, eo101⟩ := Kd.R_slice HO353.out; subst eo101; have hcz102_0 : w100.cell? ⟨gb350, 0, none⟩ = some (.slice none 0 0) := (blk_cell BK350.out 0).trans rfl; have hcz102_1 : w100.cell? ⟨gb350, 1, none⟩ = some (.slice none 0 0) := (blk_cell BK350.out 1).trans rfl; have hfz102_0 := blk_frozen BK350.out 0; have hfz102_1 := blk_frozen BK350.out 1))
  refine bodyPost_ret (results_ct rfl _ _ gb350 46 #[.slice none 0 0, .slice none 0 0] (0, 0) _ rfl (by (with_reducible repeat (first|refine kN ?_ _|refine kD ?_|refine kA ?_ _)); refine blk_put (cs := #[.slice none 0 0, .slice none 0 0]) ?_ 1 _ rfl; (with_reducible repeat (first|refine kN ?_ _|refine kD ?_|refine kA ?_ _)); refine blk_put (cs := #[.slice none 0 0, .slice none 0 0]) ?_ 0 _ rfl; (with_reducible repeat (first|refine kN ?_ _|refine kD ?_|refine kA ?_ _)); exact BK350.out) Tryd.underlying46 rfl (by kernel_rfl)) rfl ?_
  exact ⟨_, _, by first | rfl | (simp [errW_none, errW_some] <;> rfl) | (simp [*, errW_none, errW_some] <;> rfl), by first | exact Kd.R_nil _ _ _ _ _ | exact Kd.N_nil _ _ _ _ _ | exact Kd.V_nil _ _ _ _ _ | exact Kd.Q_nil _ _ _ _ _ | exact Kd.S_nil _ _ _ _ _, by first | exact Kd.R_nil _ _ _ _ _ | exact Kd.N_nil _ _ _ _ _ | exact Kd.V_nil _ _ _ _ _ | exact Kd.Q_nil _ _ _ _ _ | exact Kd.S_nil _ _ _ _ _, by repeat (first | (with_reducible first | exact HB.out|apply bA|apply bN|apply bD | refine below_set ?_ GE350.out) | exact HB.out)⟩

/-! ### strings_Cut: function 68 -/
def strings_Cut.f (a0 a1 : ByteArray) : Option (ByteArray × ByteArray × Bool) := if a0.size < 4294967281 then some (⟨(Go.Lib.cut a0.data.toList a1.data.toList).1.toArray⟩, ⟨(Go.Lib.cut a0.data.toList a1.data.toList).2.1.toArray⟩, (Go.Lib.cut a0.data.toList a1.data.toList).2.2) else none
theorem strings_Cut.calls (a0 a1 : ByteArray) (r1 r2 : ByteArray) (r3 : Bool) (w : World) (htab_ : PowTab w) (h : strings_Cut.f a0 a1 = some (r1, r2, r3)) :
    Calls Tryd.prog 68 #[.string a0, .string a1] w fun e w' => e = .returned (.tuple #[.string r1, .string r2, .bool r3]) ∧ Below w.heap.size w w' := by
  unfold strings_Cut.f at h
  by_cases hh : a0.size < 4294967281
  · rw [if_pos hh] at h
    have h2 := Option.some.inj h
    simp only [Prod.mk.injEq] at h2
    obtain ⟨rfl, rfl, rfl⟩ := h2
    obtain ⟨m, hm⟩ := htab_.max
    refine (Tryd.strings_Cut a0 a1 m w hh hm).mono ?_
    rintro e w' ⟨rfl, n, rfl⟩
    exact ⟨rfl, pw_below_drewN (Below.refl _ _) n⟩
  · rw [if_neg hh] at h
    exact absurd h (by simp)

/-! ### impl_joinInts: function 57 -/
def impl_joinInts.l0 : Nat → ByteArray → List ByteArray → List Int → Int → Int → Option (ByteArray)
 | 0, _, _, _, _, _ => none
 | k + 1, x1, x5, x9, x10, x11 => if x11 < x10 then (if 0 ≤ x11 then (if x11 < (x9.length : Int) then ((impl_FormatInt.f (rd x9 x11)).bind fun t377 => (if x5.length < 8796093022208 then (impl_joinInts.l0 k x1 (x5 ++ [t377]) x9 x10 (wrap64 (x11 + 1))) else (none))) else (none)) else (none)) else ((impl_Join.f x5 x1).bind fun t381 => (some t381))
def impl_joinInts.f (k : Nat) (l0 : List Int) (a1 : ByteArray) : Option (ByteArray) := impl_joinInts.l0 k a1 (([] : List ByteArray)) l0 (l0.length : Int) 0
set_option maxHeartbeats 8000000 in
set_option maxRecDepth 100000 in
theorem impl_joinInts.calls (k : Nat) (A0 : Option Addr) (c0 : Nat) (l0 : List Int) (a1 : ByteArray) (r : ByteArray) (w : World) (hr0 : Kd.C (Kd.int .i64) w A0 l0.length l0) (hc0 : l0.length ≤ c0) (htab_ : PowTab w) (h : impl_joinInts.f k l0 a1 = some r) :
  Calls Tryd.prog 57 #[.slice A0 l0.length c0, .string a1] w fun e w' => e = .returned (.string r) ∧ Below w.heap.size w w' := by
 have HR0 := Aside0.mk hr0
 have HC0 := Aside0.mk hc0
 clear hr0 hc0
 have HB := Aside0.mk (Below.refl w.heap.size w)
 have H : (impl_joinInts.l0 k a1 (([] : List ByteArray)) l0 (l0.length : Int) 0) = some r := h
 clear h
 have HTAB := Aside0.mk htab_
 clear htab_
 obtain ⟨y373, hy373⟩ : ∃ y_ : List ByteArray, y_ = (([] : List ByteArray)) := ⟨_, rfl⟩
 replace H : (impl_joinInts.l0 k a1 y373 l0 (l0.length : Int) 0) = some r := by first | (rw [hy373]; with_reducible exact H) | (have H2_ := (Option.bind_some _ _).symm.trans H; rw [hy373]; with_reducible exact H2_) | (have H2_ := (Option.bind_some _ _).symm.trans H; with_reducible exact H2_) | with_reducible exact H | (rw [hy373]; exact H) | exact H
 have Ny373 := Aside0.mk hy373
 clear hy373
 have H' := Aside0.mk H
 clear H
 go_enter Tryd.func57, Tryd.ntmps57
 go_wp2_with (first | ((with_reducible refine gate_dst (N := 8) rfl ?_); refine Kd.R_lit Kd.string _ 9 ?hg (N := 8) ?hd (xs := ([] : List ByteArray)) (inner := []) (ok := fun _ => True) (okp := fun _ => True) ?hr ?hp (fun _ hk => hk) trivial (Below.refl _ _) (Nat.le_refl _) (by simp) ?_; (case hd => rfl); (case hg => rfl); (case hr => first | (go_simp; done) | (go_simp; rfl)); (case hp => exact (Reps.none _ _)); intro v374 w3 ho4 hb hg_ hnew_; clear hg_ hnew_; (first | rw [← Ny373.out] at ho4 | (simp only [Int.reduceToNat] at ho4; rw [← Ny373.out] at ho4)); have n0_ := Aside0.mk (Kd.R_lower ho4 (below_size (by repeat (first | (with_reducible first | exact HB.out|apply bA|apply bN|apply bD) | exact HB.out)))); have n1_ := Aside0.mk (below_step (by repeat (first | (with_reducible first | exact HB.out|apply bA|apply bN|apply bD) | exact HB.out)) hb); clear HB; have HO375 := n0_; have HB := n1_; clear n0_ n1_; clear hb ho4))
 go_loopg [5, 11] k (fun kq v5 v11 w' => ∃ (x5_1 : List ByteArray) (x11_1 : Int), v11 = .int .i64 x11_1 ∧ Aside0 (impl_joinInts.l0 kq a1 x5_1 l0 (l0.length : Int) x11_1 = some r) ∧ Aside0 (kq ≤ k) ∧ Aside0 (Kd.R Kd.string 9 w' w.heap.size (fun _ => True) v5 x5_1) ∧ Aside0 (Below w.heap.size w w'))
 case atStart => exact ⟨(y373), (0), (by first | rfl | (simp; done) | (simp [*]; done)), H', ⟨Nat.le_refl _⟩, ⟨by (with_reducible repeat (first|apply rA|apply rN|apply rD)); exact HO375.out⟩, ⟨by repeat (first | (with_reducible first | exact HB.out|apply bA|apply bN|apply bD) | exact HB.out)⟩⟩
 case round =>
  clear H'
  try clear p2
  obtain ⟨x5_1, x11_1, rfl, HA, HK1, HO_5, HB⟩ := hrel
  cases gk with
  | zero => exact absurd HA.out (by simp [impl_joinInts.l0])
  | succ k1 =>
   have H := HA.out
   clear HA
   simp only [impl_joinInts.l0] at H
   by_cases c5 : x11_1 < (l0.length : Int)
   ·rw [if_pos c5] at H
    have c5b0 : decide (x11_1 < (l0.length : Int)) = true := decide_eq_true c5
    clear c5
    by_cases c6 : 0 ≤ x11_1
    ·rw [if_pos c6] at H
     have c6b0 : decide (0 ≤ x11_1) = true := decide_eq_true c6
     clear c6
     by_cases c7 : x11_1 < (l0.length : Int)
     ·rw [if_pos c7] at H
      have c7b0 : decide (x11_1 < (l0.length : Int)) = true := decide_eq_true c7
      clear c7
      replace H := Option.bind_eq_some_iff.mp H
      obtain ⟨t377, A80, H⟩ := H
      replace H : (if x5_1.length < 8796093022208 then (impl_joinInts.l0 k1 a1 (x5_1 ++ [t377]) l0 (l0.length : Int) (wrap64 (x11_1 + 1))) else (none)) = some r := H
      have A8 := Aside0.mk A80
      clear A80
      by_cases c9 : x5_1.length < 8796093022208
      ·rw [if_pos c9] at H
       have LMc9 := Aside0.mk c9
       clear c9
       obtain ⟨y378, hy378⟩ : ∃ y_ : List ByteArray, y_ = (x5_1 ++ [t377]) := ⟨_, rfl⟩
       replace H : (impl_joinInts.l0 k1 a1 y378 l0 (l0.length : Int) (wrap64 (x11_1 + 1))) = some r := by first | (rw [hy378]; with_reducible exact H) | (have H2_ := (Option.bind_some _ _).symm.trans H; rw [hy378]; with_reducible exact H2_) | (have H2_ := (Option.bind_some _ _).symm.trans H; with_reducible exact H2_) | with_reducible exact H | (rw [hy378]; exact H) | exact H
       have Ny378 := Aside0.mk hy378
       clear hy378
       have H' := Aside0.mk H
       clear H
       have p376 : 0 ≤ (x11_1 : Int) := of_decide_eq_true (by first | (with_reducible assumption) | assumption)
       have q376 : x11_1 < (l0.length : Int) := of_decide_eq_true (by first | (with_reducible assumption) | assumption)
       obtain ⟨ad376, e376, hx376_0⟩ := Kd.at_int HR0.out x11_1 p376 q376
       cases e376
       replace hx376_0 := (HB.out.cell (World.block_lt_of_cell? w _ hx376_0)).trans hx376_0
       replace p376 := eq_true p376
       replace q376 := eq_true q376
       go_wp2_with (first | ((with_reducible refine gate_callee (f := 42) rfl ?_); refine goesL_ (some 17) rfl rfl Tryd.func42 (by kernel_rfl) rfl #[.int .i64 (rd l0 x11_1)] rfl (by (try simp only [zE,zF,zG]); first|done|rfl|(simp only [zH,zI]; rfl)) ?_; (with_reducible refine (impl_FormatInt.calls (rd l0 x11_1) t377 _ ?side1 A8.out).mono ?_); (case side1 => exact PowTab.below HTAB.out (by repeat (first | (with_reducible first | exact HB.out|apply bA|apply bN|apply bD) | exact HB.out))); rintro e w10 ⟨rfl, hb⟩; refine ⟨_, rfl, ?_⟩; have n0_ := Aside0.mk (Kd.R_below (by (with_reducible repeat (first|apply rA|apply rN|apply rD)); exact HO_5.out) hb); have n1_ := Aside0.mk (below_step (by repeat (first | (with_reducible first | exact HB.out|apply bA|apply bN|apply bD) | exact HB.out)) hb); clear HO_5; clear HB; have HO_5 := n0_; have HB := n1_; clear n0_ n1_; (try clear hb); (try clear hb2); (try clear hk); (try clear hi)) | ((with_reducible refine gate_builtin (b := .append) (xs := #[.tmp 15, .tmp 18]) rfl ?_); at_builtin; refine Kd.R_append Kd.string (w0 := w) w.heap.size rfl (.tmp 15) (.tmp 18) 77 9 (.string ⟨#[]⟩) 16 rfl Tryd.underlying77 info9 rfl (by decide) (by omega) u5 x5_1 t377 [.string t377] (fun _ => True) (fun _ => False) rfl rfl ?aP (fun _ hk => hk.elim) ?aF ?aO ?aB ?aS ?aL ?_; (case aP => exact rfl); (case aB => exact (by repeat (first | (with_reducible first | exact HB.out|apply bA|apply bN|apply bD) | exact HB.out))); (case aF => exact (fun _ _ => trivial)); (case aO => exact (by (with_reducible repeat (first|apply rA|apply rN|apply rD)); exact HO_5.out)); (case aS => exact (below_size (by repeat (first | (with_reducible first | exact HB.out|apply bA|apply bN|apply bD) | exact HB.out)))); (case aL => have := LMc9.out; omega); intro v379 w11 ho hb hg hat; rw [← Ny378.out] at ho; have n0_ := Aside0.mk (hb); have n1_ := Aside0.mk (ho); clear HB; clear HO_5; have HB := n0_; have HO380 := n1_; clear n0_ n1_; clear ho hb hg hat))
       go_roundg k1
       case measure => have := HK1.out; omega
       case rel => exact ⟨(y378), (wrap64 (x11_1 + 1)), (by first | rfl | (simp; done) | (simp [*]; done)), H', ⟨by have := HK1.out; omega⟩, ⟨by (with_reducible repeat (first|apply rA|apply rN|apply rD)); exact HO380.out⟩, ⟨by repeat (first | (with_reducible first | exact HB.out|apply bA|apply bN|apply bD) | exact HB.out)⟩⟩
      ·rw [if_neg c9] at H
       exact absurd H (by simp)
     ·rw [if_neg c7] at H
      exact absurd H (by simp)
    ·rw [if_neg c6] at H
     exact absurd H (by simp)
   ·rw [if_neg c5] at H
    have c5b0 : decide (x11_1 < (l0.length : Int)) = false := decide_eq_false c5
    clear c5
    replace H := Option.bind_eq_some_iff.mp H
    obtain ⟨t381, A120, H⟩ := H
    replace H : (some t381) = some r := H
    have A12 := Aside0.mk A120
    clear A120
    obtain rfl := Option.some.inj H
    obtain ⟨Ao13, co13, eo13⟩ := Kd.R_slice HO_5.out
    subst eo13
    go_wp2_with (first | ((with_reducible refine gate_callee (f := 95) rfl ?_); refine goesL_ (some 23) rfl rfl Tryd.func95 (by kernel_rfl) rfl #[.slice Ao13 x5_1.length co13, .string a1] rfl (by (try simp only [zE,zF,zG]); first|done|rfl|(simp only [zH,zI]; rfl)) ?_; (with_reducible refine (impl_Join.calls _ _ x5_1 a1 t381 _ ?side1 ?side2 A12.out).mono ?_); (case side1 => repeat (first | exact (Kd.R_reads' HO_5.out).2.2 | (with_reducible refine Kd.C_alloc ?_ _) | (with_reducible refine Kd.C_drewN ?_ _) | (with_reducible refine Kd.C_drew ?_))); (case side2 => exact (Kd.R_reads' HO_5.out).2.1); rintro e w14 ⟨rfl, hb⟩; refine ⟨_, rfl, ?_⟩; have n0_ := Aside0.mk (Kd.R_below (by (with_reducible repeat (first|apply rA|apply rN|apply rD)); exact HO_5.out) hb); have n1_ := Aside0.mk (below_step (by repeat (first | (with_reducible first | exact HB.out|apply bA|apply bN|apply bD) | exact HB.out)) hb); clear HO_5; clear HB; have HO_5 := n0_; have HB := n1_; clear n0_ n1_; (try clear hb); (try clear hb2); (try clear hk); (try clear hi)))
    go_ret
    exact ⟨by first | rfl | (simp [errW_none, errW_some] <;> rfl) | (simp [*, errW_none, errW_some] <;> rfl), by repeat (first | (with_reducible first | exact HB.out|apply bA|apply bN|apply bD) | exact HB.out)⟩

/-! ### impl_PermOk: function 46 -/
def permGo (n : Int) : List Int → List Bool → Bool
  | [], _ => true
  | x :: xs, seen => if x < 0 then false else if n ≤ x then false else if seen.getD x.toNat false = true then false else permGo n xs (seen.set x.toNat true)
def no24 : List Bool := List.replicate 24 false
theorem no24_len : no24.length = 24 := rfl
def permB (p : List Int) : Bool := if p.length ≤ 24 then permGo p.length p no24 else false
def impl_PermOk.f (l0 : List Int) : Option Bool := some (permB l0)
def flags (l : List Bool) : Array Value := (bools l).toArray
theorem flags_size (l : List Bool) : (flags l).size = l.length := by simp [flags, bools]
theorem flags_one (l : List Bool) : (flags l).all (·.oneCell') = true := by
  simp [flags, bools, Value.oneCell']
theorem flags_get (l : List Bool) (i : Int) (h0 : 0 ≤ i) (h : i < l.length) : (flags l)[i.toNat]? = some (.bool (l.getD i.toNat false)) := by
  have : i.toNat < l.length := by omega
  simp [flags, bools, this]
theorem flags_set (l : List Bool) (i : Nat) (b : Bool) : (flags l).setIfInBounds i (.bool b) = flags (l.set i b) := by
  simp [flags, bools]
set_option maxHeartbeats 8000000 in
set_option maxRecDepth 100000 in
theorem impl_PermOk.calls_le (A0 : Option Addr) (c0 : Nat) (l0 : List (Int)) (r : Bool) (w : World) (hr0 : Kd.C (Kd.int .i64) w A0 l0.length l0) (hc0 : l0.length ≤ c0) (hle : l0.length ≤ 24) (hres : permGo l0.length l0 no24 = r) :
    Calls Tryd.prog 46 #[.slice A0 l0.length c0] w fun e w' => e = .returned (.bool r) ∧ Below w.heap.size w w' := by
  have HR0 := Aside0.mk hr0
  clear hr0
  have HRES := Aside0.mk hres
  clear hres
  have hu := Tryd.underlying94
  have hb24 : decide (24 < (l0.length : Int)) = false := decide_eq_false (by omega)
  have HF : Aside0 (flags no24 = #[.bool false, .bool false, .bool false, .bool false, .bool false, .bool false, .bool false, .bool false, .bool false, .bool false, .bool false, .bool false, .bool false, .bool false, .bool false, .bool false, .bool false, .bool false, .bool false, .bool false, .bool false, .bool false, .bool false, .bool false]) := ⟨rfl⟩
  go_enter Tryd.func46, Tryd.ntmps46
  go_wp2_with (first
    | ((with_reducible refine gate_dst (N := 6) rfl ?_); refine wpList_build rfl 94 #[] rfl (by kernel_rfl) ?_; rw [show (Value.agg ((Tryd.prog.built 94 ((#[] : Array (Nat × Operand)).map fun (i, x) => (i, Act.eval _ x)).toList).getD #[])) = .agg (flags no24) from by kernel_rfl])
    | ((with_reducible refine gate_dst (N := 3) rfl ?_); refine box_event ?hg (N := 3) ?hd (cs := flags no24) (t := 94) ?hr ?_; (case hd => rfl); (case hg => rfl); (case hr => rw [HF.out]; first | (go_simp; done) | (go_simp; rfl)); intro gb hg w8 hbox hb; have BK := Aside0.mk hbox; have HB := Aside0.mk hb; have GB := Aside0.mk hg; clear hbox hb hg)
    | (refine wpList_store_row rfl 94 (.tmp 3) (.tmp 6) rfl gb (flags no24) rfl rfl 94 (flags no24) BK.out (by kernel_rfl) rfl (flags_one _) ?_))
  have HC := Aside0.mk (show (w8.setRow gb (flags no24)).heap[gb]? = some (.cells (flags no24) 94 (0, 0)) from setRow_heap w8 gb (flags no24) (flags no24) 94 _ BK.out)
  have HB2 := Aside0.mk (show Below w.heap.size w (w8.setRow gb (flags no24)) from below_setRow HB.out (by rw [GB.out]; exact Nat.le_refl _) _)
  go_loopg [12] (l0.length + 1) (fun kq v12 w' => ∃ (i : Int) (seen : List Bool), v12 = .int .i64 i ∧ Aside0 (0 ≤ i ∧ i ≤ l0.length ∧ (kq : Int) + i = l0.length + 1 ∧ seen.length = 24 ∧ permGo l0.length (l0.drop i.toNat) seen = r) ∧ Aside0 (w'.heap[gb]? = some (.cells (flags seen) 94 (0, 0))) ∧ Aside0 (Below w.heap.size w w'))
  case atStart => exact ⟨0, no24, rfl, ⟨by omega, by omega, by simp, no24_len, HRES.out⟩, HC, HB2⟩
  case round =>
    clear HC HB2 BK HB
    obtain ⟨i, seen, rfl, HI, HC, HB⟩ := hrel
    obtain ⟨hi0, hi1, hik, hsl, hgo⟩ := HI.out
    clear HI
    obtain ⟨k1, rfl⟩ : ∃ m, gk = m + 1 := ⟨gk - 1, by omega⟩
    have HGO := Aside0.mk hgo
    have HK := Aside0.mk hik
    clear hgo hik
    by_cases hlt : i < (l0.length : Int)
    · have c1 : decide (i < (l0.length : Int)) = true := decide_eq_true hlt
      obtain ⟨ad, ead, hx⟩ := Kd.at_int (Kd.C_below HR0.out HB.out) i hi0 hlt
      cases ead
      have hdrop : l0.drop i.toNat = rd l0 i :: l0.drop (i + 1).toNat := by
        have h1 : i.toNat < l0.length := by omega
        rw [show (i + 1).toNat = i.toNat + 1 by omega, List.drop_eq_getElem_cons h1]
        simp [rd, List.getD, h1]
      have HD := Aside0.mk hdrop
      clear hdrop
      generalize hX : rd l0 i = x at *
      have HX := Aside0.mk hX
      clear hX
      have p0 : decide (0 ≤ i) = true := decide_eq_true hi0
      have HW := Aside0.mk (show wrap64 (i + 1) = i + 1 from by unfold wrap64; omega)
      replace hi0 := eq_true hi0
      replace hlt := eq_true hlt
      by_cases h1 : x < 0
      · have c2 : decide (x < 0) = true := decide_eq_true h1
        have hr : r = false := by
          have := HGO.out
          rw [HD.out] at this
          simp only [permGo] at this
          rw [if_pos h1] at this
          exact this.symm
        subst hr
        clear h1
        go_wp2
        go_ret
        exact ⟨rfl, HB.out⟩
      · have c2 : decide (x < 0) = false := decide_eq_false h1
        have h1' : 0 ≤ x := by omega
        by_cases h2 : (l0.length : Int) ≤ x
        · have c3 : decide ((l0.length : Int) ≤ x) = true := decide_eq_true h2
          have hr : r = false := by
            have := HGO.out
            rw [HD.out] at this
            simp only [permGo] at this
            rw [if_neg h1, if_pos h2] at this
            exact this.symm
          subst hr
          clear h1 h2
          go_wp2
          go_ret
          exact ⟨rfl, HB.out⟩
        · have c3 : decide ((l0.length : Int) ≤ x) = false := decide_eq_false h2
          have hx24 : x < 24 := by omega
          have hcell : ∀ b, seen.getD x.toNat false = b → wr.cell? ⟨gb, x.toNat, none⟩ = some (.bool b) := by
            intro b hb
            rw [Go.Joins.cell_of_block HC.out, flags_get seen x h1' (by omega), hb]
          have hfro := Go.Joins.unfrozen_of_block HC.out x.toNat
          have hsx : decide (0 ≤ x) = true := decide_eq_true h1'
          have hsx2 : decide (x < 24) = true := decide_eq_true hx24
          by_cases h3 : seen.getD x.toNat false = true
          · have hr : r = false := by
              have := HGO.out
              rw [HD.out] at this
              simp only [permGo] at this
              rw [if_neg h1, if_neg h2, if_pos h3] at this
              exact this.symm
            subst hr
            have hc2 := hcell true h3
            clear h1 h2 h3 hcell
            go_wp2
            go_ret
            exact ⟨rfl, HB.out⟩
          · have h3' : seen.getD x.toNat false = false := by simpa using h3
            have hg2 : permGo l0.length (l0.drop (i + 1).toNat) (seen.set x.toNat true) = r := by
              have := HGO.out
              rw [HD.out] at this
              simp only [permGo] at this
              rw [if_neg h1, if_neg h2, if_neg h3] at this
              exact this
            have HG2 := Aside0.mk hg2
            have hc2 := hcell false h3'
            have HC2 : Aside0 ((wr.setCell ⟨gb, x.toNat, none⟩ (.bool true)).heap[gb]? = some (.cells (flags (seen.set x.toNat true)) 94 (0, 0))) := ⟨by rw [Go.Joins.block_setCell HC.out, flags_set]⟩
            have HB2 : Aside0 (Below w.heap.size w (wr.setCell ⟨gb, x.toNat, none⟩ (.bool true))) := ⟨HB.out.setCell (by rw [GB.out]; exact Nat.le_refl _) _⟩
            clear h1 h2 h3 h3' hg2 hcell
            go_wp2
            go_roundg k1
            case measure => omega
            case rel => exact ⟨i + 1, _, by rw [HW.out], ⟨by simp at hi0; omega, by simp at hlt; omega, by have := HK.out; simp at this ⊢; omega, by simpa using hsl, HG2.out⟩, HC2, HB2⟩
    · have hie : i = l0.length := by omega
      have hr : r = true := by
        have := HGO.out
        rw [show l0.drop i.toNat = [] from by rw [hie]; simp] at this
        simp only [permGo] at this
        exact this.symm
      subst hr
      have c1 : decide (i < (l0.length : Int)) = false := decide_eq_false hlt
      clear hlt hie
      go_wp2
      go_ret
      exact ⟨rfl, HB.out⟩
set_option maxHeartbeats 8000000 in
set_option maxRecDepth 100000 in
theorem impl_PermOk.calls (A0 : Option Addr) (c0 : Nat) (l0 : List Int) (r : Bool) (w : World) (hr0 : Kd.C (Kd.int .i64) w A0 l0.length l0) (hc0 : l0.length ≤ c0) (h : impl_PermOk.f l0 = some r) :
    Calls Tryd.prog 46 #[.slice A0 l0.length c0] w fun e w' => e = .returned (.bool r) ∧ Below w.heap.size w w' := by
  unfold impl_PermOk.f permB at h
  by_cases hle : l0.length ≤ 24
  · rw [if_pos hle] at h
    exact impl_PermOk.calls_le A0 c0 l0 r w hr0 hc0 hle (Option.some.inj h)
  · rw [if_neg hle] at h
    obtain rfl := Option.some.inj h
    have HR0 := Aside0.mk hr0
    clear hr0
    have hu := Tryd.underlying94
    have hb24 : decide (24 < (l0.length : Int)) = true := decide_eq_true (by omega)
    have HF : Aside0 (flags no24 = #[.bool false, .bool false, .bool false, .bool false, .bool false, .bool false, .bool false, .bool false, .bool false, .bool false, .bool false, .bool false, .bool false, .bool false, .bool false, .bool false, .bool false, .bool false, .bool false, .bool false, .bool false, .bool false, .bool false, .bool false]) := ⟨rfl⟩
    clear hle
    go_enter Tryd.func46, Tryd.ntmps46
    go_wp2_with (first
      | ((with_reducible refine gate_dst (N := 6) rfl ?_); refine wpList_build rfl 94 #[] rfl (by kernel_rfl) ?_; rw [show (Value.agg ((Tryd.prog.built 94 ((#[] : Array (Nat × Operand)).map fun (i, x) => (i, Act.eval _ x)).toList).getD #[])) = .agg (flags no24) from by kernel_rfl])
      | ((with_reducible refine gate_dst (N := 3) rfl ?_); refine box_event ?hg (N := 3) ?hd (cs := flags no24) (t := 94) ?hr ?_; (case hd => rfl); (case hg => rfl); (case hr => rw [HF.out]; first | (go_simp; done) | (go_simp; rfl)); intro gb hg w8 hbox hb; have BK := Aside0.mk hbox; have HB := Aside0.mk hb; have GB := Aside0.mk hg; clear hbox hb hg)
      | (refine wpList_store_row rfl 94 (.tmp 3) (.tmp 6) rfl gb (flags no24) rfl rfl 94 (flags no24) BK.out (by kernel_rfl) rfl (flags_one _) ?_))
    have HB2 := Aside0.mk (show Below w.heap.size w (w8.setRow gb (flags no24)) from below_setRow HB.out (by rw [GB.out]; exact Nat.le_refl _) _)
    go_ret
    exact ⟨rfl, HB2.out⟩

/-! ### impl_IsTransitive: function 111 -/
mutual
def impl_IsTransitive.j0 : Nat → List Int → List Int → Bool → Option (Bool)
 | 0, _, _, _ => none
 | k + 1, x0, x1, x29 => if x29 = true then (some false) else (if 0 ≤ (x0.length : Int) then (if ((x0.length : Int) : Int).toNat ≤ 281474976710656 then ((some (List.replicate ((x0.length : Int) : Int).toNat false : List Bool)).bind fun y384 => (if 0 < (y384.length : Int) then (impl_IsTransitive.l0 k x0 x1 (y384.set (0 : Int).toNat true) (([0] : List Int)) 0) else (none))) else (none)) else (none))
def impl_IsTransitive.l0 : Nat → List Int → List Int → List Bool → List Int → Int → Option (Bool)
 | 0, _, _, _, _, _ => none
 | k + 1, x0, x1, x5, x6, x7 => if x7 < (x6.length : Int) then (if 0 ≤ x7 then (if 0 ≤ (rd x6 x7) then (if (rd x6 x7) < (x0.length : Int) then (if (rd x6 x7) < (x1.length : Int) then ((some (([rd x0 (rd x6 x7), rd x1 (rd x6 x7)] : List Int) : List Int)).bind fun y395 => (impl_IsTransitive.l1 k x0 x1 x5 x6 x7 y395 (y395.length : Int) 0)) else (none)) else (none)) else (none)) else (none)) else (some ((x6.length : Int) == (x0.length : Int)))
def impl_IsTransitive.l1 : Nat → List Int → List Int → List Bool → List Int → Int → List Int → Int → Int → Option (Bool)
 | 0, _, _, _, _, _, _, _, _ => none
 | k + 1, x0, x1, x5, x6, x7, x56, x57, x58 => if x58 < x57 then (if 0 ≤ x58 then (if x58 < (x56.length : Int) then (if 0 ≤ (rd x56 x58) then (if (rd x56 x58) < (x5.length : Int) then (if (rdOf false x5 (rd x56 x58) = true) then (impl_IsTransitive.l1 k x0 x1 x5 x6 x7 x56 x57 (wrap64 (x58 + 1))) else (if x6.length < 17592186044416 then (impl_IsTransitive.l1 k x0 x1 (x5.set ((rd x56 x58) : Int).toNat true) (x6 ++ [rd x56 x58]) x7 x56 x57 (wrap64 (x58 + 1))) else (none))) else (none)) else (none)) else (none)) else (none)) else (impl_IsTransitive.l0 k x0 x1 x5 x6 (wrap64 (x7 + 1)))
end
def impl_IsTransitive.f (k : Nat) (l0 : List Int) (l1 : List Int) : Option (Bool) := (impl_PermOk.f l0).bind fun t382 => (if t382 = true then ((impl_PermOk.f l1).bind fun t383 => (if t383 = true then (if (l0.length : Int) = (l1.length : Int) then (impl_IsTransitive.j0 k l0 l1 ((l0.length : Int) == 0)) else (impl_IsTransitive.j0 k l0 l1 true)) else (impl_IsTransitive.j0 k l0 l1 true))) else (impl_IsTransitive.j0 k l0 l1 true))
def impl_IsTransitive.T9 : Bool × List (List Nat × List Nat) := (true, [([], []), ([], []), ([], []), ([1, 2], [1, 2]), ([3], [3]), ([0, 4], [0, 4]), ([5], [5]), ([], []), ([], []), ([], []), ([8, 9], [8, 9]), ([10], [10]), ([7, 11], [7, 11]), ([12], [12]), ([6, 13], [6, 13]), ([14], [14]), ([], [])])
def impl_IsTransitive.B9 : List Nat := [0, 0, 0, 6, 14, 31, 63, 0, 0, 0, 768, 1792, 3968, 8064, 16383, 32767, 0]
theorem impl_IsTransitive.tab9 : rtab .any (opsOf Tryd.f111 9) = impl_IsTransitive.T9 := by kernel_rfl
theorem impl_IsTransitive.bits9 : waitsOk impl_IsTransitive.T9.2 impl_IsTransitive.B9 = true := by kernel_rfl
set_option maxHeartbeats 8000000 in
set_option maxRecDepth 100000 in
theorem impl_IsTransitive.calls (k : Nat) (A0 : Option Addr) (c0 : Nat) (l0 : List Int) (A1 : Option Addr) (c1 : Nat) (l1 : List Int) (r : Bool) (w : World) (hr0 : Kd.C (Kd.int .i64) w A0 l0.length l0) (hc0 : l0.length ≤ c0) (hr1 : Kd.C (Kd.int .i64) w A1 l1.length l1) (hc1 : l1.length ≤ c1) (h : impl_IsTransitive.f k l0 l1 = some r) :
  Calls Tryd.prog 111 #[.slice A0 l0.length c0, .slice A1 l1.length c1] w fun e w' => e = .returned (.bool r) ∧ Below w.heap.size w w' := by
 have HR0 := Aside0.mk hr0
 have HC0 := Aside0.mk hc0
 clear hr0 hc0
 have HR1 := Aside0.mk hr1
 have HC1 := Aside0.mk hc1
 clear hr1 hc1
 have HB := Aside0.mk (Below.refl w.heap.size w)
 have H : ((impl_PermOk.f l0).bind fun t382 => (if t382 = true then ((impl_PermOk.f l1).bind fun t383 => (if t383 = true then (if (l0.length : Int) = (l1.length : Int) then (impl_IsTransitive.j0 k l0 l1 ((l0.length : Int) == 0)) else (impl_IsTransitive.j0 k l0 l1 true)) else (impl_IsTransitive.j0 k l0 l1 true))) else (impl_IsTransitive.j0 k l0 l1 true))) = some r := h
 clear h
 have HC3 := Aside0.mk H
 clear H
 go_enter Tryd.func111, Tryd.ntmps111
 go_upto_region 1 with (fail)
 go_cut [29] (fun v29 wc => ∃ (kq : Nat) (x29_2 : Bool), v29 = .bool x29_2 ∧ Aside0 (impl_IsTransitive.j0 kq l0 l1 x29_2 = some r) ∧ Aside0 (kq ≤ k) ∧ Aside0 (Below w.heap.size w wc))
 case first =>
  have H := HC3.out
  clear HC3
  replace H := Option.bind_eq_some_iff.mp H
  obtain ⟨t382, A40, H⟩ := H
  replace H : (if t382 = true then ((impl_PermOk.f l1).bind fun t383 => (if t383 = true then (if (l0.length : Int) = (l1.length : Int) then (impl_IsTransitive.j0 k l0 l1 ((l0.length : Int) == 0)) else (impl_IsTransitive.j0 k l0 l1 true)) else (impl_IsTransitive.j0 k l0 l1 true))) else (impl_IsTransitive.j0 k l0 l1 true)) = some r := H
  have A4 := Aside0.mk A40
  clear A40
  by_cases c5 : t382 = true
  ·subst c5
   have H1 : ((impl_PermOk.f l1).bind fun t383 => (if t383 = true then (if (l0.length : Int) = (l1.length : Int) then (impl_IsTransitive.j0 k l0 l1 ((l0.length : Int) == 0)) else (impl_IsTransitive.j0 k l0 l1 true)) else (impl_IsTransitive.j0 k l0 l1 true))) = some r := by rw [if_pos rfl] at H; exact H
   clear H
   have H := H1
   clear H1
   replace H := Option.bind_eq_some_iff.mp H
   obtain ⟨t383, A60, H⟩ := H
   replace H : (if t383 = true then (if (l0.length : Int) = (l1.length : Int) then (impl_IsTransitive.j0 k l0 l1 ((l0.length : Int) == 0)) else (impl_IsTransitive.j0 k l0 l1 true)) else (impl_IsTransitive.j0 k l0 l1 true)) = some r := H
   have A6 := Aside0.mk A60
   clear A60
   by_cases c7 : t383 = true
   ·subst c7
    have H1 : (if (l0.length : Int) = (l1.length : Int) then (impl_IsTransitive.j0 k l0 l1 ((l0.length : Int) == 0)) else (impl_IsTransitive.j0 k l0 l1 true)) = some r := by rw [if_pos rfl] at H; exact H
    clear H
    have H := H1
    clear H1
    by_cases c8 : (l0.length : Int) = (l1.length : Int)
    ·rw [if_pos c8] at H
     have c8b0 : ((l0.length : Int) == (l1.length : Int)) = true := beq_iff_eq.mpr c8
     have c8b1 : ((l0.length : Int) != (l1.length : Int)) = false := bne_eq_false_iff_eq.mpr c8
     have c8b2 : (l0.length == l1.length) = true := by first | simpa using c8 | (simp at c8 ⊢; omega)
     clear c8
     (first | rw [c8b0] | (simp only [i64_w, i32_w]; rw [c8b0]) | skip)
     have H' := Aside0.mk H
     clear H
     go_wp2_with (first | ((with_reducible refine gate_callee (f := 46) rfl ?_); refine goesL_ (some 11) rfl rfl Tryd.func46 (by kernel_rfl) rfl #[.slice A0 l0.length c0] rfl (by (try simp only [zE,zF,zG]); first|done|rfl|(simp only [zH,zI]; rfl)) ?_; (with_reducible refine (impl_PermOk.calls _ _ l0 true _ ?side1 ?side2 A4.out).mono ?_); (case side1 => repeat (first | exact (Kd.C_below HR0.out HB.out) | (with_reducible refine Kd.C_alloc ?_ _) | (with_reducible refine Kd.C_drewN ?_ _) | (with_reducible refine Kd.C_drew ?_))); (case side2 => exact HC0.out); rintro e w9 ⟨rfl, hb⟩; refine ⟨_, rfl, ?_⟩; have n0_ := Aside0.mk (below_step (by repeat (first | (with_reducible first | exact HB.out|apply bA|apply bN|apply bD) | exact HB.out)) hb); clear HB; have HB := n0_; clear n0_; (try clear hb); (try clear hb2); (try clear hk); (try clear hi)) | (go_at_call 46; (with_reducible refine (impl_PermOk.calls _ _ l1 true _ ?side1 ?side2 A6.out).mono ?_); (case side1 => repeat (first | exact (Kd.C_below HR1.out HB.out) | (with_reducible refine Kd.C_alloc ?_ _) | (with_reducible refine Kd.C_drewN ?_ _) | (with_reducible refine Kd.C_drew ?_))); (case side2 => exact HC1.out); rintro e w10 ⟨rfl, hb⟩; have n0_ := Aside0.mk (below_step (by repeat (first | (with_reducible first | exact HB.out|apply bA|apply bN|apply bD) | exact HB.out)) hb); clear HB; have HB := n0_; clear n0_; (try clear hb); (try clear hb2); (try clear hk); (try clear hi)))
     go_meet
     case rel => exact ⟨_, (((l0.length : Int) == 0)), (by first | rfl | (simp; done) | (simp [*]; done)), H', ⟨by first | omega | exact Nat.le_refl _⟩, ⟨by repeat (first | (with_reducible first | exact HB.out|apply bA|apply bN|apply bD) | exact HB.out)⟩⟩
    ·rw [if_neg c8] at H
     have c8b0 : ((l0.length : Int) == (l1.length : Int)) = false := beq_eq_false_iff_ne.mpr c8
     have c8b1 : ((l0.length : Int) != (l1.length : Int)) = true := bne_iff_ne.mpr c8
     have c8b2 : (l0.length == l1.length) = false := by first | simpa using c8 | (simp at c8 ⊢; omega)
     (first | rw [c8b0] | (simp only [i64_w, i32_w]; rw [c8b0]) | skip)
     have H' := Aside0.mk H
     clear H
     go_wp2_with (first | ((with_reducible refine gate_callee (f := 46) rfl ?_); refine goesL_ (some 11) rfl rfl Tryd.func46 (by kernel_rfl) rfl #[.slice A0 l0.length c0] rfl (by (try simp only [zE,zF,zG]); first|done|rfl|(simp only [zH,zI]; rfl)) ?_; (with_reducible refine (impl_PermOk.calls _ _ l0 true _ ?side1 ?side2 A4.out).mono ?_); (case side1 => repeat (first | exact (Kd.C_below HR0.out HB.out) | (with_reducible refine Kd.C_alloc ?_ _) | (with_reducible refine Kd.C_drewN ?_ _) | (with_reducible refine Kd.C_drew ?_))); (case side2 => exact HC0.out); rintro e w11 ⟨rfl, hb⟩; refine ⟨_, rfl, ?_⟩; have n0_ := Aside0.mk (below_step (by repeat (first | (with_reducible first | exact HB.out|apply bA|apply bN|apply bD) | exact HB.out)) hb); clear HB; have HB := n0_; clear n0_; (try clear hb); (try clear hb2); (try clear hk); (try clear hi)) | (go_at_call 46; (with_reducible refine (impl_PermOk.calls _ _ l1 true _ ?side1 ?side2 A6.out).mono ?_); (case side1 => repeat (first | exact (Kd.C_below HR1.out HB.out) | (with_reducible refine Kd.C_alloc ?_ _) | (with_reducible refine Kd.C_drewN ?_ _) | (with_reducible refine Kd.C_drew ?_))); (case side2 => exact HC1.out); rintro e w12 ⟨rfl, hb⟩; have n0_ := Aside0.mk (below_step (by repeat (first | (with_reducible first | exact HB.out|apply bA|apply bN|apply bD) | exact HB.out)) hb); clear HB; have HB := n0_; clear n0_; (try clear hb); (try clear hb2); (try clear hk); (try clear hi)))
     go_meet
     case rel => exact ⟨_, (true), (by first | rfl | (simp; done) | (simp [*]; done)), H', ⟨by first | omega | exact Nat.le_refl _⟩, ⟨by repeat (first | (with_reducible first | exact HB.out|apply bA|apply bN|apply bD) | exact HB.out)⟩⟩
   ·replace c7 := Bool.eq_false_iff.mpr c7
    subst c7
    have H1 : (impl_IsTransitive.j0 k l0 l1 true) = some r := by rw [if_neg (show ¬ (false = true) by decide)] at H; exact H
    clear H
    have H := H1
    clear H1
    have H' := Aside0.mk H
    clear H
    go_wp2_with (first | ((with_reducible refine gate_callee (f := 46) rfl ?_); refine goesL_ (some 11) rfl rfl Tryd.func46 (by kernel_rfl) rfl #[.slice A0 l0.length c0] rfl (by (try simp only [zE,zF,zG]); first|done|rfl|(simp only [zH,zI]; rfl)) ?_; (with_reducible refine (impl_PermOk.calls _ _ l0 true _ ?side1 ?side2 A4.out).mono ?_); (case side1 => repeat (first | exact (Kd.C_below HR0.out HB.out) | (with_reducible refine Kd.C_alloc ?_ _) | (with_reducible refine Kd.C_drewN ?_ _) | (with_reducible refine Kd.C_drew ?_))); (case side2 => exact HC0.out); rintro e w13 ⟨rfl, hb⟩; refine ⟨_, rfl, ?_⟩; have n0_ := Aside0.mk (below_step (by repeat (first | (with_reducible first | exact HB.out|apply bA|apply bN|apply bD) | exact HB.out)) hb); clear HB; have HB := n0_; clear n0_; (try clear hb); (try clear hb2); (try clear hk); (try clear hi)) | (go_at_call 46; (with_reducible refine (impl_PermOk.calls _ _ l1 false _ ?side1 ?side2 A6.out).mono ?_); (case side1 => repeat (first | exact (Kd.C_below HR1.out HB.out) | (with_reducible refine Kd.C_alloc ?_ _) | (with_reducible refine Kd.C_drewN ?_ _) | (with_reducible refine Kd.C_drew ?_))); (case side2 => exact HC1.out); rintro e w14 ⟨rfl, hb⟩; have n0_ := Aside0.mk (below_step (by repeat (first | (with_reducible first | exact HB.out|apply bA|apply bN|apply bD) | exact HB.out)) hb); clear HB; have HB := n0_; clear n0_; (try clear hb); (try clear hb2); (try clear hk); (try clear hi)))
    go_meet
    case rel => exact ⟨_, (true), (by first | rfl | (simp; done) | (simp [*]; done)), H', ⟨by first | omega | exact Nat.le_refl _⟩, ⟨by repeat (first | (with_reducible first | exact HB.out|apply bA|apply bN|apply bD) | exact HB.out)⟩⟩
  ·replace c5 := Bool.eq_false_iff.mpr c5
   subst c5
   have H1 : (impl_IsTransitive.j0 k l0 l1 true) = some r := by rw [if_neg (show ¬ (false = true) by decide)] at H; exact H
   clear H
   have H := H1
   clear H1
   have H' := Aside0.mk H
   clear H
   go_wp2_with (first | ((with_reducible refine gate_callee (f := 46) rfl ?_); refine goesL_ (some 11) rfl rfl Tryd.func46 (by kernel_rfl) rfl #[.slice A0 l0.length c0] rfl (by (try simp only [zE,zF,zG]); first|done|rfl|(simp only [zH,zI]; rfl)) ?_; (with_reducible refine (impl_PermOk.calls _ _ l0 false _ ?side1 ?side2 A4.out).mono ?_); (case side1 => repeat (first | exact (Kd.C_below HR0.out HB.out) | (with_reducible refine Kd.C_alloc ?_ _) | (with_reducible refine Kd.C_drewN ?_ _) | (with_reducible refine Kd.C_drew ?_))); (case side2 => exact HC0.out); rintro e w15 ⟨rfl, hb⟩; refine ⟨_, rfl, ?_⟩; have n0_ := Aside0.mk (below_step (by repeat (first | (with_reducible first | exact HB.out|apply bA|apply bN|apply bD) | exact HB.out)) hb); clear HB; have HB := n0_; clear n0_; (try clear hb); (try clear hb2); (try clear hk); (try clear hi)))
   go_meet
   case rel => exact ⟨_, (true), (by first | rfl | (simp; done) | (simp [*]; done)), H', ⟨by first | omega | exact Nat.le_refl _⟩, ⟨by repeat (first | (with_reducible first | exact HB.out|apply bA|apply bN|apply bD) | exact HB.out)⟩⟩
 case rest =>
  clear HC3
  try clear c1
  try clear p2
  try clear c4
  try clear c5
  try clear c7
  try clear c8
  try clear c8b0
  try clear c8b1
  try clear c8b2
  try clear c11
  obtain ⟨kq, x29_2, rfl, HA, HJ2, HB⟩ := hcut
  cases kq with
  | zero => exact absurd HA.out (by simp [impl_IsTransitive.j0])
  | succ kj2 =>
   have H := HA.out
   clear HA
   simp only [impl_IsTransitive.j0] at H
   by_cases c16 : x29_2 = true
   ·subst c16
    have H1 : (some false) = some r := by rw [if_pos rfl] at H; exact H
    clear H
    have H := H1
    clear H1
    obtain rfl := Option.some.inj H
    go_wp2
    go_ret
    exact ⟨by first | rfl | (simp [errW_none, errW_some] <;> rfl) | (simp [*, errW_none, errW_some] <;> rfl), by repeat (first | (with_reducible first | exact HB.out|apply bA|apply bN|apply bD) | exact HB.out)⟩
   ·replace c16 := Bool.eq_false_iff.mpr c16
    subst c16
    have H1 : (if 0 ≤ (l0.length : Int) then (if ((l0.length : Int) : Int).toNat ≤ 281474976710656 then ((some (List.replicate ((l0.length : Int) : Int).toNat false : List Bool)).bind fun y384 => (if 0 < (y384.length : Int) then (impl_IsTransitive.l0 kj2 l0 l1 (y384.set (0 : Int).toNat true) (([0] : List Int)) 0) else (none))) else (none)) else (none)) = some r := by rw [if_neg (show ¬ (false = true) by decide)] at H; exact H
    clear H
    have H := H1
    clear H1
    by_cases c17 : 0 ≤ (l0.length : Int)
    ·rw [if_pos c17] at H
     have c17b0 := eq_true c17
     have c17b1 : decide (0 ≤ (l0.length : Int)) = true := decide_eq_true c17
     clear c17
     by_cases c18 : ((l0.length : Int) : Int).toNat ≤ 281474976710656
     ·rw [if_pos c18] at H
      have c18b0 := eq_true c18
      have c18b1 : decide (((l0.length : Int) : Int).toNat ≤ 281474976710656) = true := decide_eq_true c18
      clear c18
      obtain ⟨y384, hy384⟩ : ∃ y_ : List Bool, y_ = (List.replicate ((l0.length : Int) : Int).toNat false) := ⟨_, rfl⟩
      replace H : (if 0 < (y384.length : Int) then (impl_IsTransitive.l0 kj2 l0 l1 (y384.set (0 : Int).toNat true) (([0] : List Int)) 0) else (none)) = some r := by first | (rw [hy384]; with_reducible exact H) | (have H2_ := (Option.bind_some _ _).symm.trans H; rw [hy384]; with_reducible exact H2_) | (have H2_ := (Option.bind_some _ _).symm.trans H; with_reducible exact H2_) | with_reducible exact H | (rw [hy384]; exact H) | exact H
      have Ny384 := Aside0.mk hy384
      clear hy384
      by_cases c19 : 0 < (y384.length : Int)
      ·rw [if_pos c19] at H
       have c19b0 : decide (0 < (y384.length : Int)) = true := decide_eq_true c19
       have c19b1 : decide (0 < y384.length) = true := decide_eq_true (by omega)
       clear c19
       obtain ⟨y387, hy387⟩ : ∃ y_ : List Bool, y_ = (y384.set (0 : Int).toNat true) := ⟨_, rfl⟩
       replace H : (impl_IsTransitive.l0 kj2 l0 l1 y387 (([0] : List Int)) 0) = some r := by first | (rw [hy387]; with_reducible exact H) | (have H2_ := (Option.bind_some _ _).symm.trans H; rw [hy387]; with_reducible exact H2_) | (have H2_ := (Option.bind_some _ _).symm.trans H; with_reducible exact H2_) | with_reducible exact H | (rw [hy387]; exact H) | exact H
       have Ny387 := Aside0.mk hy387
       clear hy387
       obtain ⟨y388, hy388⟩ : ∃ y_ : List Int, y_ = (([0] : List Int)) := ⟨_, rfl⟩
       replace H : (impl_IsTransitive.l0 kj2 l0 l1 y387 y388 0) = some r := by first | (rw [hy388]; with_reducible exact H) | (have H2_ := (Option.bind_some _ _).symm.trans H; rw [hy388]; with_reducible exact H2_) | (have H2_ := (Option.bind_some _ _).symm.trans H; with_reducible exact H2_) | with_reducible exact H | (rw [hy388]; exact H) | exact H
       have Ny388 := Aside0.mk hy388
       clear hy388
       have H' := Aside0.mk H
       clear H
       go_wp2_with (first | ((with_reducible refine gate_dst (N := 32) rfl ?_); (try (refine gate_guard (by rfl) ?_; dsimp only)); refine Kd.R_make Kd.bool _ 4 rfl (N := 32) rfl 69 _ _ rfl (l0.length : Int) rfl rfl Tryd.underlying69 (.bool false) 1 info4 rfl (by decide) (by omega) false (ok := fun _ => True) (okp := fun _ => True) rfl (fun _ hk => hk) trivial (of_decide_eq_true (by first | (with_reducible assumption) | assumption)) (Nat.le_trans (Nat.mul_le_mul_right _ (of_decide_eq_true (by first | (with_reducible assumption) | assumption) : (l0.length : Int).toNat ≤ 281474976710656)) (by omega)) (Below.refl _ _) (Nat.le_refl _) ?_; intro v385 w21 ho22 hb hg_ hnew_; clear hg_ hnew_; (first | rw [← Ny384.out] at ho22 | (simp only [Int.reduceToNat] at ho22; rw [← Ny384.out] at ho22)); have n0_ := Aside0.mk (Kd.R_lower ho22 (below_size (by repeat (first | (with_reducible first | exact HB.out|apply bA|apply bN|apply bD) | exact HB.out)))); have n1_ := Aside0.mk (below_step (by repeat (first | (with_reducible first | exact HB.out|apply bA|apply bN|apply bD) | exact HB.out)) hb); clear HB; have HO386 := n0_; have HB := n1_; clear n0_ n1_; clear hb ho22; have p20 : 0 ≤ (0 : Int) := (by omega); have q20 : (0 : Int) < ((y384.length : Int) : Int) := of_decide_eq_true (by first | (with_reducible assumption) | assumption); have qi20 : (0 < y384.length) = True := eq_true (by omega); obtain ⟨go20, co20, eo20, gb20, gl20, cl20, HG20⟩ := Kd.R_form HO386.out (by omega); (first | cases eo20 | (injection eo20 with ea_ en_ ec_; (first | subst ea_ | (injection ea_ with ea_; subst ea_)); subst ec_; clear en_)); have GB20 := Aside0.mk gb20; have GG20 := Aside0.mk HG20; clear gb20 gl20 HG20; obtain ⟨hx20_0, hf20_0⟩ := Kd.R_celln false HO386.out (0 : Int) p20 q20; (try rw [show ((0 : Int)).toNat = 0 from rfl] at hx20_0); (try simp only [Nat.reduceMul, Nat.zero_mul, Nat.zero_add, Nat.reduceAdd] at hx20_0); (try rw [show ((0 : Int)).toNat = 0 from rfl] at hf20_0); (try simp only [Nat.reduceMul, Nat.zero_mul, Nat.zero_add, Nat.reduceAdd] at hf20_0); replace p20 := eq_true p20; replace q20 := eq_true q20; obtain ⟨hy23_, hz23_⟩ := Kd.R_celln false HO386.out (0 : Int) (by omega) (of_decide_eq_true (by first | (with_reducible assumption) | assumption)); (try simp only [Int.reduceToNat, Int.toNat_zero, Int.toNat_ofNat, Nat.reduceMul, Nat.zero_mul, Nat.zero_add] at hy23_ hz23_); (try rw [show ((0 : Int)).toNat = 0 from rfl] at hy23_); (try rw [show ((0 : Int)).toNat = 0 from rfl] at hz23_); have HP23 := Kd.R_putg HO386.out (0 : Int) true) | ((with_reducible refine gate_store (t := 4) (p := 34) rfl ?_); refine store_event (t := 4) (p := 34) (v := ?vo_w24) (w1 := (w21.setCell ⟨go20, (0 : Int).toNat, none⟩ (.bool true))) ?hg ?ho ?hn ?hr ?_; (case ho => rfl); (case hg => rfl); (case hn => rfl); (case hr => first | (go_simp; done) | (go_simp; rfl)); intro w24 hw; have hg : w21.grownBy w24 (some go20) := (by rw [hw]; exact HP23.2); have hp_ : Kd.R Kd.bool 4 w24 w.heap.size (fun _ => True) (.slice (some ⟨go20, 0, none⟩) y384.length co20) y387 := (by rw [hw, Ny387.out]; exact HP23.1); clear HP23; have n0_ := Aside0.mk (hp_); have n1_ := Aside0.mk ((by rw [hw]; exact below_set (HB.out) GB20.out : Below w.heap.size w w24)); clear HO386; clear HB; have HO386 := n0_; have HB := n1_; clear n0_ n1_; clear hg hw hp_) | ((with_reducible refine gate_dst (N := 35) rfl ?_); (try (refine gate_guard (by rfl) ?_; dsimp only)); refine Kd.R_lit (Kd.int .i64) _ 3 ?hg (N := 35) ?hd (xs := ([0] : List Int)) (inner := [.int .i64 0]) (ok := fun _ => True) (okp := fun _ => True) ?hr ?hp (fun _ hk => hk) trivial (Below.refl _ _) (Nat.le_refl _) (by simp) ?_; (case hd => rfl); (case hg => rfl); (case hr => first | (go_simp; done) | (go_simp; rfl)); (case hp => exact (Reps.one (show Kd.M (Kd.int .i64) _ _ _ 0 [.int .i64 0] from rfl) (Reps.none _ _))); intro v389 w25 ho26 hb hg_ hnew_; clear hg_ hnew_; (first | rw [← Ny388.out] at ho26 | (simp only [Int.reduceToNat] at ho26; rw [← Ny388.out] at ho26)); have n0_ := Aside0.mk (Kd.R_below (by (with_reducible repeat (first|apply rA|apply rN|apply rD)); exact HO386.out) hb); have n1_ := Aside0.mk (Kd.R_lower ho26 (below_size (by repeat (first | (with_reducible first | exact HB.out|apply bA|apply bN|apply bD) | exact HB.out)))); have n2_ := Aside0.mk (below_step (by repeat (first | (with_reducible first | exact HB.out|apply bA|apply bN|apply bD) | exact HB.out)) hb); clear HO386; clear HB; have HO386 := n0_; have HO390 := n1_; have HB := n2_; clear n0_ n1_ n2_; clear hb ho26))
       go_loopg [6, 7] kj2 (fun kq v6 v7 w' => ∃ (x5_2 : List Bool) (x6_2 : List Int) (x7_2 : Int), v7 = .int .i64 x7_2 ∧ Aside0 (impl_IsTransitive.l0 kq l0 l1 x5_2 x6_2 x7_2 = some r) ∧ Aside0 (kq ≤ kj2) ∧ Aside0 (Kd.R Kd.bool 4 w' w.heap.size (fun _ => True) (.slice (some ⟨go20, 0, none⟩) y384.length co20) x5_2) ∧ Aside0 (Kd.R (Kd.int .i64) 3 w' w.heap.size (fun _ => True) v6 x6_2) ∧ Aside0 (Below w.heap.size w w'))
       case atStart => exact ⟨(y387), (y388), (0), (by first | rfl | (simp; done) | (simp [*]; done)), H', ⟨Nat.le_refl _⟩, ⟨by (with_reducible repeat (first|apply rA|apply rN|apply rD)); exact HO386.out⟩, ⟨by (with_reducible repeat (first|apply rA|apply rN|apply rD)); exact HO390.out⟩, ⟨by repeat (first | (with_reducible first | exact HB.out|apply bA|apply bN|apply bD) | exact HB.out)⟩⟩
       case round =>
        clear H'
        try clear c1
        try clear p2
        try clear q2
        try clear hx2
        try clear qi2
        try clear hf2
        try clear c4
        try clear c5
        try clear c7
        try clear c8
        try clear c8b0
        try clear c8b1
        try clear c8b2
        try clear c11
        try clear c16
        try clear c17
        try clear c17b0
        try clear c17b1
        try clear c18
        try clear c18b0
        try clear c18b1
        try clear c19
        try clear c19b0
        try clear c19b1
        try clear p20
        try clear q20
        try clear hx20
        try clear qi20
        try clear hf20
        try clear hx20_0
        try clear p2
        try clear p20
        try clear q20
        obtain ⟨x5_2, x6_2, x7_2, rfl, HA, HK2, HO_5, HO_6, HB⟩ := hrel
        have hl5_2 := (Kd.R_reads' HO_5.out).1
        rw [hl5_2] at HO_5
        (try simp only [hl5_2])
        (try simp only [hl5_2] at HO_6)
        cases gk with
        | zero => exact absurd HA.out (by simp [impl_IsTransitive.l0])
        | succ k2 =>
         have H := HA.out
         clear HA
         simp only [impl_IsTransitive.l0] at H
         by_cases c27 : x7_2 < (x6_2.length : Int)
         ·rw [if_pos c27] at H
          have c27b0 : decide (x7_2 < (x6_2.length : Int)) = true := decide_eq_true c27
          clear c27
          by_cases c28 : 0 ≤ x7_2
          ·rw [if_pos c28] at H
           have c28b0 : decide (0 ≤ x7_2) = true := decide_eq_true c28
           clear c28
           by_cases c29 : 0 ≤ (rd x6_2 x7_2)
           ·rw [if_pos c29] at H
            have c29b0 : decide (0 ≤ (rd x6_2 x7_2)) = true := decide_eq_true c29
            clear c29
            by_cases c30 : (rd x6_2 x7_2) < (l0.length : Int)
            ·rw [if_pos c30] at H
             have c30b0 : decide ((rd x6_2 x7_2) < (l0.length : Int)) = true := decide_eq_true c30
             clear c30
             by_cases c31 : (rd x6_2 x7_2) < (l1.length : Int)
             ·rw [if_pos c31] at H
              have c31b0 : decide ((rd x6_2 x7_2) < (l1.length : Int)) = true := decide_eq_true c31
              clear c31
              obtain ⟨y395, hy395⟩ : ∃ y_ : List Int, y_ = (([rd l0 (rd x6_2 x7_2), rd l1 (rd x6_2 x7_2)] : List Int)) := ⟨_, rfl⟩
              replace H : (impl_IsTransitive.l1 k2 l0 l1 x5_2 x6_2 x7_2 y395 (y395.length : Int) 0) = some r := by first | (rw [hy395]; with_reducible exact H) | (have H2_ := (Option.bind_some _ _).symm.trans H; rw [hy395]; with_reducible exact H2_) | (have H2_ := (Option.bind_some _ _).symm.trans H; with_reducible exact H2_) | with_reducible exact H | (rw [hy395]; exact H) | exact H
              have Ny395 := Aside0.mk hy395
              clear hy395
              have H' := Aside0.mk H
              clear H
              obtain ⟨Ao32, co32, eo32⟩ := Kd.R_slice HO_6.out
              subst eo32
              try go_wp2
              have n0_ := Aside0.mk (Kd.R_drew HO_5.out)
              have n1_ := Aside0.mk (Kd.R_drew HO_6.out)
              have n2_ := Aside0.mk (below_drew1 HB.out)
              clear HO_5
              clear HO_6
              clear HB
              have HO_5 := n0_
              have HO_6 := n1_
              have HB := n2_
              clear n0_ n1_ n2_
              have p391 : 0 ≤ (x7_2 : Int) := of_decide_eq_true (by first | (with_reducible assumption) | assumption)
              have q391 : x7_2 < (x6_2.length : Int) := of_decide_eq_true (by first | (with_reducible assumption) | assumption)
              obtain ⟨ad391, e391, hx391_0⟩ := Kd.at_int (Kd.R_reads' HO_6.out).2.2 x7_2 p391 q391
              cases e391
              replace p391 := eq_true p391
              replace q391 := eq_true q391
              have p392 : 0 ≤ ((rd x6_2 x7_2) : Int) := of_decide_eq_true (by first | (with_reducible assumption) | assumption)
              have q392 : (rd x6_2 x7_2) < (l0.length : Int) := of_decide_eq_true (by first | (with_reducible assumption) | assumption)
              obtain ⟨ad392, e392, hx392_0⟩ := Kd.at_int HR0.out (rd x6_2 x7_2) p392 q392
              have hw392_0 := hx392_0
              cases e392
              replace hx392_0 := (HB.out.cell (World.block_lt_of_cell? w _ hx392_0)).trans hx392_0
              replace p392 := eq_true p392
              replace q392 := eq_true q392
              have p393 : 0 ≤ (x7_2 : Int) := of_decide_eq_true (by first | (with_reducible assumption) | assumption)
              have q393 : x7_2 < (x6_2.length : Int) := of_decide_eq_true (by first | (with_reducible assumption) | assumption)
              obtain ⟨ad393, e393, hx393_0⟩ := Kd.at_int (Kd.R_reads' HO_6.out).2.2 x7_2 p393 q393
              obtain rfl : ad391 = ad393 := (by injection e393)
              replace p393 := eq_true p393
              replace q393 := eq_true q393
              have p394 : 0 ≤ ((rd x6_2 x7_2) : Int) := of_decide_eq_true (by first | (with_reducible assumption) | assumption)
              have q394 : (rd x6_2 x7_2) < (l1.length : Int) := of_decide_eq_true (by first | (with_reducible assumption) | assumption)
              obtain ⟨ad394, e394, hx394_0⟩ := Kd.at_int HR1.out (rd x6_2 x7_2) p394 q394
              have hw394_0 := hx394_0
              cases e394
              replace hx394_0 := (HB.out.cell (World.block_lt_of_cell? w _ hx394_0)).trans hx394_0
              replace p394 := eq_true p394
              replace q394 := eq_true q394
              refine start_ (n := 17) (S := fun w' => w'.cell? (ad391.add (x7_2).toNat) = some (.int .i64 (rd x6_2 x7_2)) ∧ w'.cell? (ad392.add ((rd x6_2 x7_2)).toNat) = some (.int .i64 (rd l0 (rd x6_2 x7_2))) ∧ w'.cell? (ad391.add (x7_2).toNat) = some (.int .i64 (rd x6_2 x7_2)) ∧ w'.cell? (ad394.add ((rd x6_2 x7_2)).toNat) = some (.int .i64 (rd l1 (rd x6_2 x7_2)))) (ds := []) #[ff,ff,ff,ff,ff,ff,ff,ff,ff,ff,ff,ff,ff,ff,ff,ff,ff] (by kernel_rfl) rfl rfl ⟨hx391_0, ((HB.out.cell (World.block_lt_of_cell? w _ hw392_0)).trans hw392_0), hx393_0, ((HB.out.cell (World.block_lt_of_cell? w _ hw394_0)).trans hw394_0)⟩ (fun hHeld => ?_); refine with_tabW impl_IsTransitive.tab9 impl_IsTransitive.bits9 (fun HT_ HW_ => ?_)
              generalize wr.drew = w33 at HO_5 HO_6 HB hx391_0 hx392_0 hx393_0 hx394_0 hHeld ⊢
              refine pure_ (i := 0) (N := some 42) (v := ?_) (a' := ?_) (fl 17 1) rfl rfl (any_of HT_.out (by kernel_rfl)) (fun _ _ _ h => h) (Or.inl ⟨by kernel_rfl, ?_⟩) ?_ ?_
              rotate_left
              ·intro w'
               go_simp
               with_reducible rfl
              rotate_left
              ·simp only [Act.put, zA, zB, zC, i64_w, i32_w]
               rfl
              refine pure_ (i := 1) (N := some 43) (v := ?_) (a' := ?_) (fl 17 3) rfl rfl (any_of HT_.out (by kernel_rfl)) (fun _ _ _ h => h) (Or.inl ⟨by kernel_rfl, ?_⟩) ?_ ?_
              rotate_left
              ·intro w'
               go_simp
               with_reducible rfl
              rotate_left
              ·simp only [Act.put, zA, zB, zC, i64_w, i32_w]
               rfl
              refine pure_ (i := 2) (N := some 44) (v := ?_) (a' := ?_) (fl 17 7) rfl rfl (any_of HT_.out (by kernel_rfl)) (fun _ _ _ h => h) (Or.inl ⟨by kernel_rfl, ?_⟩) ?_ ?_
              rotate_left
              ·intro w'
               go_simp
               with_reducible rfl
              rotate_left
              ·simp only [Act.put, zA, zB, zC, i64_w, i32_w]
               rfl
              refine pure_ (i := 3) (N := some 45) (v := ?_) (a' := ?_) (fl 17 15) rfl rfl (any_of HT_.out (by kernel_rfl)) (fun _ _ _ h => h) (Or.inl ⟨by kernel_rfl, ?_⟩) ?_ ?_
              rotate_left
              ·intro w'
               go_simp
               with_reducible rfl
              rotate_left
              ·simp only [Act.put, zA, zB, zC, i64_w, i32_w]
               rfl
              refine pure_ (i := 7) (N := some 49) (v := ?_) (a' := ?_) (fl 17 143) rfl rfl (any_of HT_.out (by kernel_rfl)) (fun _ _ _ h => h) (Or.inl ⟨by kernel_rfl, ?_⟩) ?_ ?_
              rotate_left
              ·intro w'
               go_simp
               with_reducible rfl
              rotate_left
              ·simp only [Act.put, zA, zB, zC, i64_w, i32_w]
               rfl
              refine pure_ (i := 8) (N := some 50) (v := ?_) (a' := ?_) (fl 17 399) rfl rfl (any_of HT_.out (by kernel_rfl)) (fun _ _ _ h => h) (Or.inl ⟨by kernel_rfl, ?_⟩) ?_ ?_
              rotate_left
              ·intro w'
               go_simp
               with_reducible rfl
              rotate_left
              ·simp only [Act.put, zA, zB, zC, i64_w, i32_w]
               rfl
              refine pure_ (i := 9) (N := some 51) (v := ?_) (a' := ?_) (fl 17 911) rfl rfl (any_of HT_.out (by kernel_rfl)) (fun _ _ _ h => h) (Or.inl ⟨by kernel_rfl, ?_⟩) ?_ ?_
              rotate_left
              ·intro w'
               go_simp
               with_reducible rfl
              rotate_left
              ·simp only [Act.put, zA, zB, zC, i64_w, i32_w]
               rfl
              refine pure_ (i := 10) (N := some 52) (v := ?_) (a' := ?_) (fl 17 1935) rfl rfl (any_of HT_.out (by kernel_rfl)) (fun _ _ _ h => h) (Or.inl ⟨by kernel_rfl, ?_⟩) ?_ ?_
              rotate_left
              ·intro w'
               go_simp
               with_reducible rfl
              rotate_left
              ·simp only [Act.put, zA, zB, zC, i64_w, i32_w]
               rfl
              refine pure_ (i := 16) (N := some 58) (v := ?_) (a' := ?_) (fl 17 67471) rfl rfl (any_of HT_.out (by kernel_rfl)) (fun _ _ _ h => h) (Or.inl ⟨by kernel_rfl, ?_⟩) ?_ ?_
              rotate_left
              ·intro w'
               go_simp
               with_reducible rfl
              rotate_left
              ·simp only [Act.put, zA, zB, zC, i64_w, i32_w]
               rfl
              refine take_ (i := 4) (N := some 46) (v := ?_) (a' := ?_) (fl 17 67487) rfl rfl (take_ofW HT_.out HW_.out (by kernel_rfl)) (fun _ _ _ h => h) (Or.inl ⟨by kernel_rfl, ?_⟩) hHeld ?_ ?_
              rotate_left
              ·rintro w' ⟨s0, s1, s2, s3⟩
               go_simp
               with_reducible rfl
              rotate_left
              ·simp only [Act.put, zA, zB, zC, i64_w, i32_w]
               rfl
              refine pure_ (i := 5) (N := some 47) (v := ?_) (a' := ?_) (fl 17 67519) rfl rfl (any_of HT_.out (by kernel_rfl)) (fun _ _ _ h => h) (Or.inl ⟨by kernel_rfl, ?_⟩) ?_ ?_
              rotate_left
              ·intro w'
               go_simp
               with_reducible rfl
              rotate_left
              ·simp only [Act.put, zA, zB, zC, i64_w, i32_w]
               rfl
              refine take_ (i := 6) (N := some 48) (v := ?_) (a' := ?_) (fl 17 67583) rfl rfl (take_ofW HT_.out HW_.out (by kernel_rfl)) (fun _ _ _ h => h) (Or.inl ⟨by kernel_rfl, ?_⟩) hHeld ?_ ?_
              rotate_left
              ·rintro w' ⟨s0, s1, s2, s3⟩
               go_simp
               with_reducible rfl
              rotate_left
              ·simp only [Act.put, zA, zB, zC, i64_w, i32_w]
               rfl
              refine take_ (i := 11) (N := some 53) (v := ?_) (a' := ?_) (fl 17 69631) rfl rfl (take_ofW HT_.out HW_.out (by kernel_rfl)) (fun _ _ _ h => h) (Or.inl ⟨by kernel_rfl, ?_⟩) hHeld ?_ ?_
              rotate_left
              ·rintro w' ⟨s0, s1, s2, s3⟩
               go_simp
               with_reducible rfl
              rotate_left
              ·simp only [Act.put, zA, zB, zC, i64_w, i32_w]
               rfl
              refine pure_ (i := 12) (N := some 54) (v := ?_) (a' := ?_) (fl 17 73727) rfl rfl (any_of HT_.out (by kernel_rfl)) (fun _ _ _ h => h) (Or.inl ⟨by kernel_rfl, ?_⟩) ?_ ?_
              rotate_left
              ·intro w'
               go_simp
               with_reducible rfl
              rotate_left
              ·simp only [Act.put, zA, zB, zC, i64_w, i32_w]
               rfl
              refine take_ (i := 13) (N := some 55) (v := ?_) (a' := ?_) (fl 17 81919) rfl rfl (take_ofW HT_.out HW_.out (by kernel_rfl)) (fun _ _ _ h => h) (Or.inl ⟨by kernel_rfl, ?_⟩) hHeld ?_ ?_
              rotate_left
              ·rintro w' ⟨s0, s1, s2, s3⟩
               go_simp
               with_reducible rfl
              rotate_left
              ·simp only [Act.put, zA, zB, zC, i64_w, i32_w]
               rfl
              refine one_ (i := 14) (N := some 56) #[tt,tt,tt,tt,tt,tt,tt,tt,tt,tt,tt,tt,tt,tt,tt,ff,tt] rfl rfl (one_of HT_.out (by kernel_rfl)) (by decide) (fun K hK => ?_)
              refine Kd.R_lit_step (Kd.int .i64) _ 3 ?hg (N := 56) ?hd (xs := ([rd l0 (rd x6_2 x7_2), rd l1 (rd x6_2 x7_2)] : List Int)) (inner := [.int .i64 (rd l0 (rd x6_2 x7_2)), .int .i64 (rd l1 (rd x6_2 x7_2))]) (ok := fun _ => True) (okp := fun _ => True) ?hr ?hp (fun _ hk => hk) trivial (Below.refl _ _) (Nat.le_refl _) (by simp) ?_; (case hd => rfl); (case hg => rfl); (case hr => first | (go_simp; done) | (go_simp; rfl)); (case hp => exact (Reps.one (show Kd.M (Kd.int .i64) _ _ _ (rd l0 (rd x6_2 x7_2)) [.int .i64 (rd l0 (rd x6_2 x7_2))] from rfl) (Reps.one (show Kd.M (Kd.int .i64) _ _ _ (rd l1 (rd x6_2 x7_2)) [.int .i64 (rd l1 (rd x6_2 x7_2))] from rfl) (Reps.none _ _))))
              intro v396 w34 ho35 hb hg_ hnew_
              have HS0_ := (hb.cell (World.block_lt_of_cell? _ _ (hHeld.1))).trans (hHeld.1)
              have HS2_ := (hb.cell (World.block_lt_of_cell? _ _ (hHeld.2.2.1))).trans (hHeld.2.2.1)
              clear hg_ hnew_
              (first | rw [← Ny395.out] at ho35 | (simp only [Int.reduceToNat] at ho35; rw [← Ny395.out] at ho35))
              have n0_ := Aside0.mk (Kd.R_below (by (with_reducible repeat (first|apply rA|apply rN|apply rD)); exact HO_5.out) hb)
              have n1_ := Aside0.mk (Kd.R_elder' (by (with_reducible repeat (first|apply rA|apply rN|apply rD)); exact HO_6.out) (Kd.R_base ho35) hb)
              have n2_ := Aside0.mk (Kd.R_lower (Kd.R_new' ho35 (Kd.R_lt (by (with_reducible repeat (first|apply rA|apply rN|apply rD)); exact HO_6.out))) (below_size (by repeat (first | (with_reducible first | exact HB.out|apply bA|apply bN|apply bD) | exact HB.out))))
              have n3_ := Aside0.mk (below_step (by repeat (first | (with_reducible first | exact HB.out|apply bA|apply bN|apply bD) | exact HB.out)) hb)
              clear HO_5
              clear HO_6
              clear HB
              have HO_5 := n0_
              have HO_6 := n1_
              have HO397 := n2_
              have HB := n3_
              clear n0_ n1_ n2_ n3_
              clear hb ho35
              obtain ⟨Ao36, co36, eo36⟩ := Kd.R_slice HO397.out
              (first | subst eo36 | (injection eo36 with f1_ f2_ f3_; have f4_ := f1_.symm; have f5_ := f3_.symm; clear f1_ f2_ f3_; subst f4_; subst f5_))
              refine hK.out _ _ ⟨HS0_, ((HB.out.cell (World.block_lt_of_cell? w _ hw392_0)).trans hw392_0), HS2_, ((HB.out.cell (World.block_lt_of_cell? w _ hw394_0)).trans hw394_0)⟩ (fun hHeld => ?_)
              clear hK K
              refine norm_ (a' := ?_) ?_ ?_
              rotate_left
              ·show Act.put _ (some 56) _ = _
               simp only [Act.put, zA, zB, zC, i64_w, i32_w]
               rfl
              refine pure_ (i := 15) (N := some 57) (v := ?_) (a' := ?_) (fl 17 131071) rfl rfl (any_of HT_.out (by kernel_rfl)) (fun _ _ _ h => h) (Or.inl ⟨by kernel_rfl, ?_⟩) ?_ ?_
              rotate_left
              ·intro w'
               go_simp
               with_reducible rfl
              rotate_left
              ·simp only [Act.put, zA, zB, zC, i64_w, i32_w]
               rfl
              refine done_ (done_of HT_.out (by kernel_rfl)) ?_
              try go_wp2
              go_loopg [6, 58] k2 (fun kq v6 v58 w' => ∃ (x5_3 : List Bool) (x6_3 : List Int) (x58_3 : Int), v58 = .int .i64 x58_3 ∧ Aside0 (impl_IsTransitive.l1 kq l0 l1 x5_3 x6_3 x7_2 y395 (y395.length : Int) x58_3 = some r) ∧ Aside0 (kq ≤ k2) ∧ Aside0 (Kd.R Kd.bool 4 w' w.heap.size (fun _ => True) (.slice (some ⟨go20, 0, none⟩) x5_2.length co20) x5_3) ∧ Aside0 (Kd.R (Kd.int .i64) 3 w' w.heap.size (fun k_ => some k_ ≠ ((.slice Ao36 y395.length co36) : Value).ownBlock) v6 x6_3) ∧ Aside0 (Kd.R (Kd.int .i64) 3 w' w.heap.size (fun k_ => some k_ ≠ (v6 : Value).ownBlock) (.slice Ao36 y395.length co36) y395) ∧ Aside0 (Below w.heap.size w w'))
              case atStart => exact ⟨(x5_2), (x6_2), (0), (by first | rfl | (simp; done) | (simp [*]; done)), H', ⟨Nat.le_refl _⟩, ⟨by (try simp only [hl5_2]); (with_reducible repeat (first|apply rA|apply rN|apply rD)); exact HO_5.out⟩, ⟨by (try simp only [hl5_2]); (with_reducible repeat (first|apply rA|apply rN|apply rD)); exact Kd.R_mono HO_6.out (fun _ hk => hk.2)⟩, ⟨by (try simp only [hl5_2]); (with_reducible repeat (first|apply rA|apply rN|apply rD)); exact Kd.R_mono HO397.out (fun _ hk => hk.2)⟩, ⟨by repeat (first | (with_reducible first | exact HB.out|apply bA|apply bN|apply bD) | exact HB.out)⟩⟩
              case round =>
               clear H'
               try clear c1
               try clear c2
               try clear p2
               try clear q2
               try clear hx2
               try clear qi2
               try clear hf2
               try clear c3
               try clear p3
               try clear q3
               try clear hx3
               try clear c4
               try clear c5
               try clear c7
               try clear c8
               try clear c8b0
               try clear c8b1
               try clear c8b2
               try clear c11
               try clear c16
               try clear c17
               try clear c17b0
               try clear c17b1
               try clear c18
               try clear c18b0
               try clear c18b1
               try clear c19
               try clear c19b0
               try clear c19b1
               try clear p20
               try clear q20
               try clear hx20
               try clear qi20
               try clear hf20
               try clear c27
               try clear c27b0
               try clear c28
               try clear c28b0
               try clear c29
               try clear c29b0
               try clear c30
               try clear c30b0
               try clear c31
               try clear c31b0
               try clear hx20_0
               try clear hx391_0
               try clear hx392_0
               try clear hx393_0
               try clear hx394_0
               try clear p2
               try clear p20
               try clear p391
               try clear p392
               try clear p393
               try clear p394
               try clear q2
               try clear q20
               try clear q391
               try clear q392
               try clear q393
               try clear q394
               obtain ⟨x5_3, x6_3, x58_3, rfl, HA, HK3, HO_5, HO_6, HO_56, HB⟩ := hrel
               have hl5_3 := (Kd.R_reads' HO_5.out).1
               rw [hl5_3] at HO_5
               (try simp only [hl5_3])
               (try simp only [hl5_3] at HO_6)
               (try simp only [hl5_3] at HO_56)
               cases gk with
               | zero => exact absurd HA.out (by simp [impl_IsTransitive.l1])
               | succ k3 =>
                have H := HA.out
                clear HA
                simp only [impl_IsTransitive.l1] at H
                by_cases c37 : x58_3 < (y395.length : Int)
                ·rw [if_pos c37] at H
                 have c37b0 : decide (x58_3 < (y395.length : Int)) = true := decide_eq_true c37
                 clear c37
                 by_cases c38 : 0 ≤ x58_3
                 ·rw [if_pos c38] at H
                  have c38b0 : decide (0 ≤ x58_3) = true := decide_eq_true c38
                  clear c38
                  by_cases c39 : x58_3 < (y395.length : Int)
                  ·rw [if_pos c39] at H
                   have c39b0 : decide (x58_3 < (y395.length : Int)) = true := decide_eq_true c39
                   clear c39
                   by_cases c40 : 0 ≤ (rd y395 x58_3)
                   ·rw [if_pos c40] at H
                    have c40b0 : decide (0 ≤ (rd y395 x58_3)) = true := decide_eq_true c40
                    clear c40
                    by_cases c41 : (rd y395 x58_3) < (x5_3.length : Int)
                    ·rw [if_pos c41] at H
                     have c41b0 : decide ((rd y395 x58_3) < (x5_3.length : Int)) = true := decide_eq_true c41
                     clear c41
                     obtain ⟨bq42, hbq42⟩ : ∃ b_ : Bool, b_ = (rdOf false x5_3 (rd y395 x58_3)) := ⟨_, rfl⟩
                     replace H : (if (bq42 = true) then (impl_IsTransitive.l1 k3 l0 l1 x5_3 x6_3 x7_2 y395 (y395.length : Int) (wrap64 (x58_3 + 1))) else (if x6_3.length < 17592186044416 then (impl_IsTransitive.l1 k3 l0 l1 (x5_3.set ((rd y395 x58_3) : Int).toNat true) (x6_3 ++ [rd y395 x58_3]) x7_2 y395 (y395.length : Int) (wrap64 (x58_3 + 1))) else (none))) = some r := by rw [← hbq42] at H; exact H
                     have Nbq42 := Aside0.mk hbq42
                     clear hbq42
                     by_cases c43 : (bq42 = true)
                     ·subst c43
                      have H1 : (impl_IsTransitive.l1 k3 l0 l1 x5_3 x6_3 x7_2 y395 (y395.length : Int) (wrap64 (x58_3 + 1))) = some r := by rw [if_pos rfl] at H; exact H
                      clear H
                      have H := H1
                      clear H1
                      have H' := Aside0.mk H
                      clear H
                      have p398 : 0 ≤ (x58_3 : Int) := of_decide_eq_true (by first | (with_reducible assumption) | assumption)
                      have q398 : x58_3 < (y395.length : Int) := of_decide_eq_true (by first | (with_reducible assumption) | assumption)
                      obtain ⟨ad398, e398, hx398_0⟩ := Kd.at_int (Kd.R_reads' HO_56.out).2.2 x58_3 p398 q398
                      cases e398
                      replace p398 := eq_true p398
                      replace q398 := eq_true q398
                      have p399 : 0 ≤ ((rd y395 x58_3) : Int) := of_decide_eq_true (by first | (with_reducible assumption) | assumption)
                      have q399 : (rd y395 x58_3) < (x5_3.length : Int) := of_decide_eq_true (by first | (with_reducible assumption) | assumption)
                      obtain ⟨ad399, e399, hx399_0⟩ := Kd.at_bool (Kd.R_reads' HO_5.out).2.2 (rd y395 x58_3) p399 q399
                      (try rw [← Nbq42.out] at hx399_0)
                      obtain rfl : (⟨go20, 0, none⟩ : Addr) = ad399 := (by injection e399)
                      (first | simp only [add_plain] at hx399_0 | simp only [add_at] at hx399_0 | simp only [Addr.add, Nat.zero_add] at hx399_0 | skip)
                      replace p399 := eq_true p399
                      replace q399 := eq_true q399
                      go_wp2
                      (try simp only [← hl5_3])
                      go_roundg k3
                      case measure => have := HJ2.out; have := HK2.out; have := HK3.out; omega
                      case rel => exact ⟨(x5_3), (x6_3), (wrap64 (x58_3 + 1)), (by first | rfl | (simp; done) | (simp [*]; done)), H', ⟨by have := HJ2.out; have := HK2.out; have := HK3.out; omega⟩, ⟨by (try simp only [hl5_2]); (try simp only [hl5_3]); (with_reducible repeat (first|apply rA|apply rN|apply rD)); exact HO_5.out⟩, ⟨by (try simp only [hl5_2]); (try simp only [hl5_3]); (with_reducible repeat (first|apply rA|apply rN|apply rD)); exact HO_6.out⟩, ⟨by (try simp only [hl5_2]); (try simp only [hl5_3]); (with_reducible repeat (first|apply rA|apply rN|apply rD)); exact HO_56.out⟩, ⟨by repeat (first | (with_reducible first | exact HB.out|apply bA|apply bN|apply bD) | exact HB.out)⟩⟩
                     ·replace c43 := Bool.eq_false_iff.mpr c43
                      subst c43
                      have H1 : (if x6_3.length < 17592186044416 then (impl_IsTransitive.l1 k3 l0 l1 (x5_3.set ((rd y395 x58_3) : Int).toNat true) (x6_3 ++ [rd y395 x58_3]) x7_2 y395 (y395.length : Int) (wrap64 (x58_3 + 1))) else (none)) = some r := by rw [if_neg (show ¬ (false = true) by decide)] at H; exact H
                      clear H
                      have H := H1
                      clear H1
                      obtain ⟨y400, hy400⟩ : ∃ y_ : List Bool, y_ = (x5_3.set ((rd y395 x58_3) : Int).toNat true) := ⟨_, rfl⟩
                      replace H : (if x6_3.length < 17592186044416 then (impl_IsTransitive.l1 k3 l0 l1 y400 (x6_3 ++ [rd y395 x58_3]) x7_2 y395 (y395.length : Int) (wrap64 (x58_3 + 1))) else (none)) = some r := by first | (rw [hy400]; with_reducible exact H) | (have H2_ := (Option.bind_some _ _).symm.trans H; rw [hy400]; with_reducible exact H2_) | (have H2_ := (Option.bind_some _ _).symm.trans H; with_reducible exact H2_) | with_reducible exact H | (rw [hy400]; exact H) | exact H
                      have Ny400 := Aside0.mk hy400
                      clear hy400
                      by_cases c45 : x6_3.length < 17592186044416
                      ·rw [if_pos c45] at H
                       have LMc45 := Aside0.mk c45
                       clear c45
                       obtain ⟨y401, hy401⟩ : ∃ y_ : List Int, y_ = (x6_3 ++ [rd y395 x58_3]) := ⟨_, rfl⟩
                       replace H : (impl_IsTransitive.l1 k3 l0 l1 y400 y401 x7_2 y395 (y395.length : Int) (wrap64 (x58_3 + 1))) = some r := by first | (rw [hy401]; with_reducible exact H) | (have H2_ := (Option.bind_some _ _).symm.trans H; rw [hy401]; with_reducible exact H2_) | (have H2_ := (Option.bind_some _ _).symm.trans H; with_reducible exact H2_) | with_reducible exact H | (rw [hy401]; exact H) | exact H
                       have Ny401 := Aside0.mk hy401
                       clear hy401
                       have H' := Aside0.mk H
                       clear H
                       have p398 : 0 ≤ (x58_3 : Int) := of_decide_eq_true (by first | (with_reducible assumption) | assumption)
                       have q398 : x58_3 < (y395.length : Int) := of_decide_eq_true (by first | (with_reducible assumption) | assumption)
                       obtain ⟨ad398, e398, hx398_0⟩ := Kd.at_int (Kd.R_reads' HO_56.out).2.2 x58_3 p398 q398
                       cases e398
                       replace p398 := eq_true p398
                       replace q398 := eq_true q398
                       have p399 : 0 ≤ ((rd y395 x58_3) : Int) := of_decide_eq_true (by first | (with_reducible assumption) | assumption)
                       have q399 : (rd y395 x58_3) < (x5_3.length : Int) := of_decide_eq_true (by first | (with_reducible assumption) | assumption)
                       obtain ⟨ad399, e399, hx399_0⟩ := Kd.at_bool (Kd.R_reads' HO_5.out).2.2 (rd y395 x58_3) p399 q399
                       (try rw [← Nbq42.out] at hx399_0)
                       obtain rfl : (⟨go20, 0, none⟩ : Addr) = ad399 := (by injection e399)
                       (first | simp only [add_plain] at hx399_0 | simp only [add_at] at hx399_0 | simp only [Addr.add, Nat.zero_add] at hx399_0 | skip)
                       replace p399 := eq_true p399
                       replace q399 := eq_true q399
                       have p44 : 0 ≤ ((rd y395 x58_3) : Int) := of_decide_eq_true (by first | (with_reducible assumption) | assumption)
                       have q44 : ((rd y395 x58_3) : Int) < ((x5_3.length : Int) : Int) := of_decide_eq_true (by first | (with_reducible assumption) | assumption)
                       obtain ⟨hx44_0, hf44_0⟩ := Kd.R_celln false HO_5.out ((rd y395 x58_3) : Int) p44 q44
                       replace p44 := eq_true p44
                       replace q44 := eq_true q44
                       have HP46 := Kd.R_putg HO_5.out ((rd y395 x58_3) : Int) true
                       go_wp2_with (first | ((with_reducible refine gate_store (t := 4) (p := 69) rfl ?_); refine store_event (t := 4) (p := 69) (v := ?vo_w47) (w1 := (wr.setCell ⟨go20, ((rd y395 x58_3) : Int).toNat, none⟩ (.bool true))) ?hg ?ho ?hn ?hr ?_; (case ho => rfl); (case hg => rfl); (case hn => rfl); (case hr => first | (go_simp; done) | (go_simp; rfl)); intro w47 hw; have hg : wr.grownBy w47 (some go20) := (by rw [hw]; exact HP46.2); have hp_ : Kd.R Kd.bool 4 w47 w.heap.size (fun _ => True) (.slice (some ⟨go20, 0, none⟩) x5_3.length co20) y400 := (by rw [hw, Ny400.out]; exact HP46.1); clear HP46; have n0_ := Aside0.mk (hp_); have n1_ := Aside0.mk (Kd.R_over' (v := (.slice (some ⟨go20, 0, none⟩) x5_3.length co20)) (by (with_reducible repeat (first|apply rA|apply rN|apply rD)); exact HO_6.out) (Kd.R_typed HO_5.out) (by decide) hg); have n2_ := Aside0.mk (Kd.R_over' (v := (.slice (some ⟨go20, 0, none⟩) x5_3.length co20)) (by (with_reducible repeat (first|apply rA|apply rN|apply rD)); exact HO_56.out) (Kd.R_typed HO_5.out) (by decide) hg); have n3_ := Aside0.mk ((by rw [hw]; exact below_set (HB.out) GB20.out : Below w.heap.size w w47)); clear HO_5; clear HO_6; clear HO_56; clear HB; have HO_5 := n0_; have HO_6 := n1_; have HO_56 := n2_; have HB := n3_; clear n0_ n1_ n2_ n3_; clear hg hw hp_) | ((with_reducible refine gate_builtin (b := .append) (xs := #[.tmp 70, .tmp 72]) rfl ?_); (try (refine gate_guard (by rfl) ?_; dsimp only)); at_builtin; refine Kd.R_append (Kd.int .i64) (w0 := w) w.heap.size rfl (.tmp 70) (.tmp 72) 22 3 (.int .i64 0) 8 rfl Tryd.underlying22 info3 rfl (by decide) (by omega) u6 x6_3 (rd y395 x58_3) [.int .i64 (rd y395 x58_3)] (fun k_ => some k_ ≠ (.slice (some ad398) y395.length co36 : Value).ownBlock) (fun _ => False) rfl rfl ?aP (fun _ hk => hk.elim) ?aF ?aO ?aB ?aS ?aL ?_; (case aP => exact rfl); (case aB => exact (by repeat (first | (with_reducible first | exact HB.out|apply bA|apply bN|apply bD) | exact HB.out))); (case aF => exact (fun k_ hk => Kd.fresh' (Kd.R_lt (by (with_reducible repeat (first|apply rA|apply rN|apply rD)); exact HO_56.out)) k_ hk)); (case aO => exact (by (with_reducible repeat (first|apply rA|apply rN|apply rD)); exact HO_6.out)); (case aS => exact (below_size (by repeat (first | (with_reducible first | exact HB.out|apply bA|apply bN|apply bD) | exact HB.out)))); (case aL => have := LMc45.out; omega); intro v402 w48 ho hb hg hat; rw [← Ny401.out] at ho; have n0_ := Aside0.mk (Kd.R_over' (by (with_reducible repeat (first|apply rA|apply rN|apply rD)); exact HO_5.out) (Kd.R_typed (by (with_reducible repeat (first|apply rA|apply rN|apply rD)); exact HO_6.out)) (by decide) hg); have n1_ := Aside0.mk (Kd.R_after (ok := (fun _ => True)) (by (with_reducible repeat (first|apply rA|apply rN|apply rD)); exact Kd.R_mono HO_56.out (fun _ hk => ⟨trivial, hk⟩)) hg hat); have n2_ := Aside0.mk (hb); have n3_ := Aside0.mk (ho); clear HO_5; clear HO_56; clear HB; clear HO_6; have HO_5 := n0_; have HO_56 := n1_; have HB := n2_; have HO403 := n3_; clear n0_ n1_ n2_ n3_; clear ho hb hg hat))
                       (try simp only [← hl5_3])
                       go_roundg k3
                       case measure => have := HJ2.out; have := HK2.out; have := HK3.out; omega
                       case rel => exact ⟨(y400), (y401), (wrap64 (x58_3 + 1)), (by first | rfl | (simp; done) | (simp [*]; done)), H', ⟨by have := HJ2.out; have := HK2.out; have := HK3.out; omega⟩, ⟨by (try simp only [hl5_2]); (try simp only [hl5_3]); (with_reducible repeat (first|apply rA|apply rN|apply rD)); exact HO_5.out⟩, ⟨by (try simp only [hl5_2]); (try simp only [hl5_3]); (with_reducible repeat (first|apply rA|apply rN|apply rD)); exact HO403.out⟩, ⟨by (try simp only [hl5_2]); (try simp only [hl5_3]); (with_reducible repeat (first|apply rA|apply rN|apply rD)); exact Kd.R_mono HO_56.out (fun _ hk => hk.2)⟩, ⟨by repeat (first | (with_reducible first | exact HB.out|apply bA|apply bN|apply bD) | exact HB.out)⟩⟩
                      ·rw [if_neg c45] at H
                       exact absurd H (by simp)
                    ·rw [if_neg c41] at H
                     exact absurd H (by simp)
                   ·rw [if_neg c40] at H
                    exact absurd H (by simp)
                  ·rw [if_neg c39] at H
                   exact absurd H (by simp)
                 ·rw [if_neg c38] at H
                  exact absurd H (by simp)
                ·rw [if_neg c37] at H
                 have c37b0 : decide (x58_3 < (y395.length : Int)) = false := decide_eq_false c37
                 clear c37
                 have H' := Aside0.mk H
                 clear H
                 go_wp2
                 (try simp only [← hl5_2, ← hl5_3])
                 go_roundg k3
                 case measure => have := HJ2.out; have := HK2.out; have := HK3.out; omega
                 case rel => exact ⟨(x5_3), (x6_3), (wrap64 (x7_2 + 1)), (by first | rfl | (simp; done) | (simp [*]; done)), H', ⟨by have := HJ2.out; have := HK2.out; have := HK3.out; omega⟩, ⟨by (try simp only [hl5_2]); (try simp only [hl5_3]); (with_reducible repeat (first|apply rA|apply rN|apply rD)); exact HO_5.out⟩, ⟨by (try simp only [hl5_2]); (try simp only [hl5_3]); (with_reducible repeat (first|apply rA|apply rN|apply rD)); exact Kd.R_mono HO_6.out (fun _ hk => trivial)⟩, ⟨by repeat (first | (with_reducible first | exact HB.out|apply bA|apply bN|apply bD) | exact HB.out)⟩⟩
             ·rw [if_neg c31] at H
              exact absurd H (by simp)
            ·rw [if_neg c30] at H
             exact absurd H (by simp)
           ·rw [if_neg c29] at H
            exact absurd H (by simp)
          ·rw [if_neg c28] at H
           exact absurd H (by simp)
         ·rw [if_neg c27] at H
          have c27b0 : decide (x7_2 < (x6_2.length : Int)) = false := decide_eq_false c27
          clear c27
          obtain rfl := Option.some.inj H
          obtain ⟨Ao49, co49, eo49⟩ := Kd.R_slice HO_6.out
          subst eo49
          go_wp2
          go_ret
          exact ⟨by first | rfl | (simp [errW_none, errW_some] <;> rfl) | (simp [*, errW_none, errW_some] <;> rfl), by repeat (first | (with_reducible first | exact HB.out|apply bA|apply bN|apply bD) | exact HB.out)⟩
      ·rw [if_neg c19] at H
       exact absurd H (by simp)
     ·rw [if_neg c18] at H
      exact absurd H (by simp)
    ·rw [if_neg c17] at H
     exact absurd H (by simp)

/-! ### impl_SurfaceOk: function 89 -/
def impl_SurfaceOk.f (k : Nat) (l0_0 : List Int) (l0_1 : List Int) : Option (Bool) := (impl_IsTransitive.f k l0_0 l0_1).bind fun t405 => (some t405)
set_option maxHeartbeats 8000000 in
set_option maxRecDepth 100000 in
theorem impl_SurfaceOk.calls (k : Nat) (A0_0 : Option Addr) (c0_0 : Nat) (l0_0 : List Int) (A0_1 : Option Addr) (c0_1 : Nat) (l0_1 : List Int) (r : Bool) (w : World) (hr0_0 : Kd.C (Kd.int .i64) w A0_0 l0_0.length l0_0) (hc0_0 : l0_0.length ≤ c0_0) (hr0_1 : Kd.C (Kd.int .i64) w A0_1 l0_1.length l0_1) (hc0_1 : l0_1.length ≤ c0_1) (h : impl_SurfaceOk.f k l0_0 l0_1 = some r) :
  Calls Tryd.prog 89 #[.agg #[.slice A0_0 l0_0.length c0_0, .slice A0_1 l0_1.length c0_1]] w fun e w' => e = .returned (.bool r) ∧ Below w.heap.size w w' := by
 have hu46 := Tryd.underlying46
 have HR0_0 := Aside0.mk hr0_0
 have HC0_0 := Aside0.mk hc0_0
 clear hr0_0 hc0_0
 have HR0_1 := Aside0.mk hr0_1
 have HC0_1 := Aside0.mk hc0_1
 clear hr0_1 hc0_1
 have HB := Aside0.mk (Below.refl w.heap.size w)
 have H : ((impl_IsTransitive.f k l0_0 l0_1).bind fun t405 => (some t405)) = some r := h
 clear h
 replace H := Option.bind_eq_some_iff.mp H
 obtain ⟨t405, A20, H⟩ := H
 replace H : (some t405) = some r := H
 have A2 := Aside0.mk A20
 clear A20
 obtain rfl := Option.some.inj H
 go_enter Tryd.func89, Tryd.ntmps89
 go_wp2_with (first | ((with_reducible refine gate_dst (N := 1) rfl ?_); refine box_event ?hg (N := 1) ?hd (cs := #[.slice A0_0 l0_0.length c0_0, .slice A0_1 l0_1.length c0_1]) (t := 46) ?hr ?_; (case hd => rfl); (case hg => rfl); (case hr => first | (go_simp; done) | (go_simp; rfl)); intro gb404 hg w3 hbox hb; have n0_ := Aside0.mk (below_step (by repeat (first | (with_reducible first | exact HB.out|apply bA|apply bN|apply bD) | exact HB.out)) hb); have n1_ := Aside0.mk (hbox); have n2_ := Aside0.mk ((by rw [hg]; exact (below_size (by repeat (first | (with_reducible first | exact HB.out|apply bA|apply bN|apply bD) | exact HB.out))) : w.heap.size ≤ gb404)); have n3_ := Aside0.mk ((by rw [hg]; exact (below_size (by repeat (first | (with_reducible first | exact HB.out|apply bA|apply bN|apply bD) | exact HB.out))) : w.heap.size ≤ gb404)); clear HB; have HB := n0_; have BK404 := n1_; have GW404 := n2_; have GE404 := n3_; clear n0_ n1_ n2_ n3_; clear hb hbox hg; have hcz4_0 : w3.cell? ⟨gb404, 0, none⟩ = some (.slice A0_0 l0_0.length c0_0) := (blk_cell BK404.out 0).trans rfl; have hcz4_1 : w3.cell? ⟨gb404, 1, none⟩ = some (.slice A0_1 l0_1.length c0_1) := (blk_cell BK404.out 1).trans rfl; have hfz4_0 := blk_frozen BK404.out 0; have hfz4_1 := blk_frozen BK404.out 1) | ((with_reducible refine gate_callee (f := 111) rfl ?_); refine goesL_ (some 7) rfl rfl Tryd.func111 (by kernel_rfl) rfl #[.slice A0_0 l0_0.length c0_0, .slice A0_1 l0_1.length c0_1] rfl (by (try simp only [zE,zF,zG]); first|done|rfl|(simp only [zH,zI]; rfl)) ?_; (with_reducible refine (impl_IsTransitive.calls k _ _ l0_0 _ _ l0_1 t405 _ ?side1 ?side2 ?side3 ?side4 A2.out).mono ?_); (case side1 => repeat (first | exact (Kd.C_below HR0_0.out HB.out) | (with_reducible refine Kd.C_alloc ?_ _) | (with_reducible refine Kd.C_drewN ?_ _) | (with_reducible refine Kd.C_drew ?_))); (case side2 => exact HC0_0.out); (case side3 => repeat (first | exact (Kd.C_below HR0_1.out HB.out) | (with_reducible refine Kd.C_alloc ?_ _) | (with_reducible refine Kd.C_drewN ?_ _) | (with_reducible refine Kd.C_drew ?_))); (case side4 => exact HC0_1.out); rintro e w5 ⟨rfl, hb⟩; refine ⟨_, rfl, ?_⟩; have n0_ := Aside0.mk (blk_below (g := gb404) (o := .cells #[.slice A0_0 l0_0.length c0_0, .slice A0_1 l0_1.length c0_1] 46 (0, 0)) (by (with_reducible repeat (first|refine kN ?_ _|refine kD ?_|refine kA ?_ _)); exact BK404.out) hb); have n1_ := Aside0.mk (below_step (by repeat (first | (with_reducible first | exact HB.out|apply bA|apply bN|apply bD | refine below_set ?_ GE404.out) | exact HB.out)) hb); clear BK404; clear HB; have BK404 := n0_; have HB := n1_; clear n0_ n1_; (try clear hb); (try clear hb2); (try clear hk); (try clear hi)))
 go_ret
 exact ⟨by first | rfl | (simp [errW_none, errW_some] <;> rfl) | (simp [*, errW_none, errW_some] <;> rfl), by repeat (first | (with_reducible first | exact HB.out|apply bA|apply bN|apply bD | refine below_set ?_ GE404.out) | exact HB.out)⟩

end Go.Proofs.YtbolkipmehmncaaDoor.S
