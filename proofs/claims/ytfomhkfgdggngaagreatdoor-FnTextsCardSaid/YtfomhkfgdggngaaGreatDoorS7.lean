-- PRINTED by print.py (a twelfth state) out of the translation. Not trusted: Lean checks it.
import Derived.Test.YtfomhkfgdggngaaGreatDoorS0
import Derived.Test.YtfomhkfgdggngaaGreatDoorS6
namespace Go.Proofs.YtfomhkfgdggngaaGreatDoor.S
open Go.RowKit Go.Proofs.YtfomhkfgdggngaaGreatDoorW.PrintWords Go.Proofs.YtfomhkfgdggngaaGreatDoorW.PrintLast Go.Proofs.YtfomhkfgdggngaaGreatDoorW.PrintMore
attribute [local go_sem] max2_int min2_int max_two min_two max_three min_three max_four min_four   -- for this text's walks alone
set_option linter.unusedVariables false
set_option linter.unusedSimpArgs false

/-! ### impl_TableOk: function 24 -/
mutual
def impl_TableOk.j0 : Nat → List (S38) → Bool → Option (Bool)
 | 0, _, _ => none
 | k + 1, x0, x17 => if x17 = true then (some false) else (impl_TableOk.l0 k x0 x0 (x0.length : Int) 0)
def impl_TableOk.l0 : Nat → List (S38) → List (S38) → Int → Int → Option (Bool)
 | 0, _, _, _, _ => none
 | k + 1, x0, x18, x19, x20 => if x20 < x19 then (if 0 ≤ x20 then (if x20 < (x18.length : Int) then (if ((rd_T38 x18 x20).f0) < 0 then (impl_TableOk.j2 k x0 x20 x18 x19 x20 true ((rd_T38 x18 x20).f0) ((rd_T38 x18 x20).f1)) else (if ((rd_T38 x18 x20).f0) > 9 then (impl_TableOk.j2 k x0 x20 x18 x19 x20 true ((rd_T38 x18 x20).f0) ((rd_T38 x18 x20).f1)) else (if ((rd_T38 x18 x20).f1) < 0 then (impl_TableOk.j2 k x0 x20 x18 x19 x20 true ((rd_T38 x18 x20).f0) ((rd_T38 x18 x20).f1)) else (impl_TableOk.j2 k x0 x20 x18 x19 x20 (decide (((rd_T38 x18 x20).f1) > 9)) ((rd_T38 x18 x20).f0) ((rd_T38 x18 x20).f1))))) else (none)) else (none)) else (impl_TableOk.l1 k x0 (([0] : List Int)) 0)
def impl_TableOk.j2 : Nat → List (S38) → Int → List (S38) → Int → Int → Bool → Int → Int → Option (Bool)
 | 0, _, _, _, _, _, _, _, _ => none
 | k + 1, x0, x3, x18, x19, x20, x42, x434000, x434001 => if x42 = true then (some false) else (if x3 > 0 then (if 0 ≤ (wrap64 (x3 - 1)) then (if (wrap64 (x3 - 1)) < (x0.length : Int) then (if x434001 < ((rd_T38 x0 (wrap64 (x3 - 1))).f1) then (some false) else (if x434001 = ((rd_T38 x0 (wrap64 (x3 - 1))).f1) then (if x434000 ≤ ((rd_T38 x0 (wrap64 (x3 - 1))).f0) then (some false) else (impl_TableOk.l0 k x0 x18 x19 (wrap64 (x20 + 1)))) else (impl_TableOk.l0 k x0 x18 x19 (wrap64 (x20 + 1))))) else (none)) else (none)) else (impl_TableOk.l0 k x0 x18 x19 (wrap64 (x20 + 1))))
def impl_TableOk.l1 : Nat → List (S38) → List Int → Int → Option (Bool)
 | 0, _, _, _ => none
 | k + 1, x0, x5, x6 => if x6 < (x5.length : Int) then (if 0 ≤ x6 then (if 0 ≤ (rd x5 x6) then (if (rd x5 x6) < (x0.length : Int) then ((impl_CellAt.f k x0 (wrap64 (((rd_T38 x0 (rd x5 x6)).f0) + 1)) ((rd_T38 x0 (rd x5 x6)).f1)).bind fun t443 => ((impl_CellAt.f k x0 (wrap64 (((rd_T38 x0 (rd x5 x6)).f0) - 1)) ((rd_T38 x0 (rd x5 x6)).f1)).bind fun t444 => ((impl_CellAt.f k x0 ((rd_T38 x0 (rd x5 x6)).f0) (wrap64 (((rd_T38 x0 (rd x5 x6)).f1) + 1))).bind fun t445 => ((impl_CellAt.f k x0 ((rd_T38 x0 (rd x5 x6)).f0) (wrap64 (((rd_T38 x0 (rd x5 x6)).f1) - 1))).bind fun t446 => ((some (([t443, t444, t445, t446] : List Int) : List Int)).bind fun y447 => (impl_TableOk.l2 k x0 x5 x6 y447 (y447.length : Int) 0)))))) else (none)) else (none)) else (none)) else (some ((x5.length : Int) == (x0.length : Int)))
def impl_TableOk.l2 : Nat → List (S38) → List Int → Int → List Int → Int → Int → Option (Bool)
 | 0, _, _, _, _, _, _ => none
 | k + 1, x0, x5, x6, x121, x122, x123 => if x123 < x122 then (if 0 ≤ x123 then (if x123 < (x121.length : Int) then (if (rd x121 x123) ≥ 0 then ((slices_Contains_int_int.f k x5 (rd x121 x123)).bind fun t451 => (if t451 = true then (impl_TableOk.l2 k x0 x5 x6 x121 x122 (wrap64 (x123 + 1))) else (if x5.length < 17592186044416 then (impl_TableOk.l2 k x0 (x5 ++ [rd x121 x123]) x6 x121 x122 (wrap64 (x123 + 1))) else (none)))) else (impl_TableOk.l2 k x0 x5 x6 x121 x122 (wrap64 (x123 + 1)))) else (none)) else (none)) else (impl_TableOk.l1 k x0 x5 (wrap64 (x6 + 1)))
end
def impl_TableOk.f (k : Nat) (l0 : List (S38)) : Option (Bool) := if (l0.length : Int) < 1 then (impl_TableOk.j0 k l0 true) else (impl_TableOk.j0 k l0 (decide ((l0.length : Int) > 6)))
def impl_TableOk.T8 : Bool × List (List Nat × List Nat) := (true, [([], []), ([0], [0]), ([1], [1]), ([2], [2]), ([3, 2], [2, 3]), ([2], [2]), ([2], [2]), ([6, 2], [2, 6]), ([5, 7, 2], [2, 5, 7]), ([8, 2], [2, 8]), ([9, 2], [2, 9]), ([4, 10, 2], [2, 4, 10]), ([11, 2, 2], [2, 11]), ([12], [12]), ([13, 12], [12, 13]), ([12], [12]), ([12], [12]), ([16, 12], [12, 16]), ([15, 17, 12], [12, 15, 17]), ([18, 12], [12, 18]), ([19, 12], [12, 19]), ([14, 20, 12], [12, 14, 20]), ([21, 12, 12], [12, 21]), ([22], [22]), ([23, 22], [22, 23]), ([22], [22]), ([22], [22]), ([26, 22], [22, 26]), ([25, 27, 22], [22, 25, 27]), ([28, 22], [22, 28]), ([29, 22], [22, 29]), ([24, 30, 22], [22, 24, 30]), ([22, 31, 12], [12, 22, 31]), ([12, 32, 2], [2, 12, 32]), ([2, 33], [2, 33])])
def impl_TableOk.B8 : List Nat := [0, 1, 3, 7, 15, 7, 7, 71, 231, 487, 999, 2047, 4095, 8191, 16383, 8191, 8191, 73727, 237567, 499711, 1023999, 2097151, 4194303, 8388607, 16777215, 8388607, 8388607, 75497471, 243269631, 511705087, 1048575999, 2147483647, 4294967295, 8589934591, 17179869183]
theorem impl_TableOk.tab8 : rtab .any (opsOf Tryz.f24 8) = impl_TableOk.T8 := by kernel_rfl
theorem impl_TableOk.bits8 : waitsOk impl_TableOk.T8.2 impl_TableOk.B8 = true := by kernel_rfl
def impl_TableOk.T16 : Bool × List (List Nat × List Nat) := (true, [([], []), ([], []), ([1], [1]), ([2], [2]), ([], []), ([4], [4]), ([0, 3, 5], [0, 3, 5]), ([], []), ([], []), ([8], [8]), ([9], [9]), ([], []), ([11], [11]), ([7, 10, 12, 6], [7, 10, 12]), ([], []), ([], []), ([15], [15]), ([], []), ([17], [17]), ([18], [18]), ([14, 16, 19, 13], [14, 16, 19]), ([], []), ([], []), ([22], [22]), ([], []), ([24], [24]), ([25], [25]), ([21, 23, 26, 20], [21, 23, 26]), ([6, 13, 20, 27], [6, 13, 20, 27]), ([28], [28]), ([], [])])
def impl_TableOk.B16 : List Nat := [0, 0, 2, 6, 0, 16, 63, 0, 0, 256, 768, 0, 2048, 8191, 0, 0, 32768, 0, 131072, 393216, 1048575, 0, 0, 4194304, 0, 16777216, 50331648, 134217727, 268435455, 536870911, 0]
theorem impl_TableOk.tab16 : rtab .any (opsOf Tryz.f24 16) = impl_TableOk.T16 := by kernel_rfl
theorem impl_TableOk.bits16 : waitsOk impl_TableOk.T16.2 impl_TableOk.B16 = true := by kernel_rfl
set_option maxHeartbeats 8000000 in
set_option maxRecDepth 100000 in
theorem impl_TableOk.calls (k : Nat) (A0 : Option Addr) (c0 : Nat) (l0 : List (S38)) (r : Bool) (w : World) (hr0 : Kd.C k38 w A0 l0.length l0) (hc0 : l0.length ≤ c0) (h : impl_TableOk.f k l0 = some r) :
  Calls Tryz.prog 24 #[.slice A0 l0.length c0] w fun e w' => e = .returned (.bool r) ∧ Below w.heap.size w w' := by
 have hu38 := Tryz.underlying38
 have HR0 := Aside0.mk hr0
 have HC0 := Aside0.mk hc0
 clear hr0 hc0
 have HB := Aside0.mk (Below.refl w.heap.size w)
 have H : (if (l0.length : Int) < 1 then (impl_TableOk.j0 k l0 true) else (impl_TableOk.j0 k l0 (decide ((l0.length : Int) > 6)))) = some r := h
 clear h
 have HC2 := Aside0.mk H
 clear H
 go_enter Tryz.func24, Tryz.ntmps24
 go_upto_region 1 with (fail)
 go_cut [17] (fun v17 wc => ∃ (kq : Nat) (x17_1 : Bool), v17 = .bool x17_1 ∧ Aside0 (impl_TableOk.j0 kq l0 x17_1 = some r) ∧ Aside0 (kq ≤ k) ∧ Aside0 (Below w.heap.size w wc))
 case first =>
  have H := HC2.out
  clear HC2
  by_cases c3 : (l0.length : Int) < 1
  ·rw [if_pos c3] at H
   have c3b0 : decide ((l0.length : Int) < 1) = true := decide_eq_true c3
   have c3b1 : decide (l0.length < 1) = true := decide_eq_true (by omega)
   clear c3
   (first | rw [c3b0] | (simp only [i64_w, i32_w]; rw [c3b0]) | skip)
   have H' := Aside0.mk H
   clear H
   go_wp2
   go_meet
   case rel => exact ⟨_, (true), vX, H', ⟨by first | omega | exact Nat.le_refl _⟩, ⟨bX HB.out⟩⟩
  ·rw [if_neg c3] at H
   have c3b0 : decide ((l0.length : Int) < 1) = false := decide_eq_false c3
   have c3b1 : decide (l0.length < 1) = false := decide_eq_false (by omega)
   clear c3
   (first | rw [c3b0] | (simp only [i64_w, i32_w]; rw [c3b0]) | skip)
   have H' := Aside0.mk H
   clear H
   go_wp2
   go_meet
   case rel => exact ⟨_, (decide ((l0.length : Int) > 6)), vX, H', ⟨by first | omega | exact Nat.le_refl _⟩, ⟨bX HB.out⟩⟩
 case rest =>
  clear HC2
  try clear c2
  try clear p2
  try clear c3
  try clear c3b0
  try clear c3b1
  obtain ⟨kq, x17_1, rfl, HA, HJ1, HB⟩ := hcut
  cases kq with
  | zero => exact absurd HA.out (by simp [impl_TableOk.j0])
  | succ kj1 =>
   have H := HA.out
   clear HA
   simp only [impl_TableOk.j0] at H
   by_cases c4 : x17_1 = true
   ·subst c4
    have H1 : (some false) = some r := by rw [if_pos rfl] at H; exact H
    clear H
    have H := H1
    clear H1
    obtain rfl := Option.some.inj H
    go_wp2
    go_ret
    exact ⟨eX, bX HB.out⟩
   ·replace c4 := Bool.eq_false_iff.mpr c4
    subst c4
    have H1 : (impl_TableOk.l0 kj1 l0 l0 (l0.length : Int) 0) = some r := by rw [if_neg (show ¬ (false = true) by decide)] at H; exact H
    clear H
    have H := H1
    clear H1
    have H' := Aside0.mk H
    clear H
    go_wp2
    go_loopg [20] kj1 (fun kq v20 w' => ∃ (x20_2 : Int), v20 = .int .i64 x20_2 ∧ Aside0 (impl_TableOk.l0 kq l0 l0 (l0.length : Int) x20_2 = some r) ∧ Aside0 (kq ≤ kj1) ∧ Aside0 (Below w.heap.size w w'))
    case atStart => exact ⟨(0), vX, H', ⟨Nat.le_refl _⟩, ⟨bX HB.out⟩⟩
    case round =>
     clear H'
     try clear c2
     try clear p2
     try clear c3
     try clear c3b0
     try clear c3b1
     try clear c4
     try clear p2
     obtain ⟨x20_2, rfl, HA, HK2, HB⟩ := hrel
     cases gk with
     | zero => exact absurd HA.out (by simp [impl_TableOk.l0])
     | succ k2 =>
      have H := HA.out
      clear HA
      simp only [impl_TableOk.l0] at H
      by_cases c5 : x20_2 < (l0.length : Int)
      ·rw [if_pos c5] at H
       have c5b0 : decide (x20_2 < (l0.length : Int)) = true := decide_eq_true c5
       clear c5
       by_cases c6 : 0 ≤ x20_2
       ·rw [if_pos c6] at H
        have c6b0 : decide (0 ≤ x20_2) = true := decide_eq_true c6
        clear c6
        by_cases c7 : x20_2 < (l0.length : Int)
        ·rw [if_pos c7] at H
         have c7b0 : decide (x20_2 < (l0.length : Int)) = true := decide_eq_true c7
         clear c7
         have HC8 := Aside0.mk H
         clear H
         have p432 : 0 ≤ (x20_2 : Int) := dX
         have q432 : x20_2 < (l0.length : Int) := dX
         obtain ⟨ad432, e432, hx432_0, hx432_1⟩ := at_T38 HR0.out x20_2 p432 q432
         cases e432
         replace hx432_0 := (HB.out.cell (World.block_lt_of_cell? w _ hx432_0)).trans hx432_0
         replace hx432_1 := (HB.out.cell (World.block_lt_of_cell? w _ hx432_1)).trans hx432_1
         replace p432 := eq_true p432
         replace q432 := eq_true q432
         go_upto_region 6 with (first | ((with_reducible refine gate_dst (N := 4) rfl ?_); (try (refine gate_guard (by rfl) ?_; dsimp only)); refine box_event ?hg (N := 4) ?hd (cs := #[.int .i64 0, .int .i64 0]) (t := 38) ?hr ?_; (case hd => rfl); (case hg => rfl); (case hr => first | (go_simp; done) | (go_simp; rfl)); intro gb433 hg w9 hbox hb; have n0_ := Aside0.mk (below_step (bX HB.out) hb); have n1_ := Aside0.mk (hbox); have n2_ := Aside0.mk ((by rw [hg]; exact (below_size (bX HB.out)) : w.heap.size ≤ gb433)); have n3_ := Aside0.mk ((by rw [hg]; exact (below_size (bX HB.out)) : w.heap.size ≤ gb433)); clear HB; have HB := n0_; have BK433 := n1_; have GW433 := n2_; have GE433 := n3_; clear n0_ n1_ n2_ n3_; clear hb hbox hg; have hcz10_0 : w9.cell? ⟨gb433, 0, none⟩ = some (.int .i64 0) := (blk_cell BK433.out 0).trans rfl; have hcz10_1 : w9.cell? ⟨gb433, 1, none⟩ = some (.int .i64 0) := (blk_cell BK433.out 1).trans rfl; have hfz10_0 := blk_frozen BK433.out 0; have hfz10_1 := blk_frozen BK433.out 1))
         (try simp only [Act.put, List.setIfInBounds_toArray, List.set_cons_zero, List.set_cons_succ])
         go_cut [42] (fun v42 wc => ∃ (kq : Nat) (x42_7 : Bool), v42 = .bool x42_7 ∧ Aside0 (impl_TableOk.j2 kq l0 x20_2 l0 (l0.length : Int) x20_2 x42_7 ((rd_T38 l0 x20_2).f0) ((rd_T38 l0 x20_2).f1) = some r) ∧ Aside0 (kq ≤ k2) ∧ Aside0 (wc.heap[gb433]? = some (.cells #[.int .i64 ((rd_T38 l0 x20_2).f0), .int .i64 ((rd_T38 l0 x20_2).f1)] 38 (0, 0))) ∧ Aside0 (Below w.heap.size w wc))
         case first =>
          have H := HC8.out
          clear HC8
          by_cases c11 : ((rd_T38 l0 x20_2).f0) < 0
          ·rw [if_pos c11] at H
           have c11b0 : decide (((rd_T38 l0 x20_2).f0) < 0) = true := decide_eq_true c11
           clear c11
           (first | rw [c11b0] | (simp only [i64_w, i32_w]; rw [c11b0]) | skip)
           have H' := Aside0.mk H
           clear H
           have hcz12_0 : w9.cell? ⟨gb433, 0, none⟩ = some (.int .i64 0) := (blk_cell BK433.out 0).trans rfl
           have hcz12_1 : w9.cell? ⟨gb433, 1, none⟩ = some (.int .i64 0) := (blk_cell BK433.out 1).trans rfl
           have hfz12_0 := blk_frozen BK433.out 0
           have hfz12_1 := blk_frozen BK433.out 1
           go_wp2
           go_meet
           case rel => exact ⟨_, (true), vX, H', ⟨by have := HJ1.out; have := HK2.out; first | omega | exact Nat.le_refl _⟩, ⟨by (with_reducible repeat (first|refine kN ?_ _|refine kD ?_|refine kA ?_ _)); refine blk_put (cs := #[.int .i64 ((rd_T38 l0 x20_2).f0), .int .i64 0]) ?_ 1 _ rfl; (with_reducible repeat (first|refine kN ?_ _|refine kD ?_|refine kA ?_ _)); refine blk_put (cs := #[.int .i64 0, .int .i64 0]) ?_ 0 _ rfl; (with_reducible repeat (first|refine kN ?_ _|refine kD ?_|refine kA ?_ _)); exact BK433.out⟩, ⟨bX1 HB.out GE433.out⟩⟩
          ·rw [if_neg c11] at H
           have c11b0 : decide (((rd_T38 l0 x20_2).f0) < 0) = false := decide_eq_false c11
           clear c11
           (first | rw [c11b0] | (simp only [i64_w, i32_w]; rw [c11b0]) | skip)
           by_cases c13 : ((rd_T38 l0 x20_2).f0) > 9
           ·rw [if_pos c13] at H
            have c13b0 : decide (9 < ((rd_T38 l0 x20_2).f0)) = true := decide_eq_true c13
            clear c13
            have H' := Aside0.mk H
            clear H
            have hcz14_0 : w9.cell? ⟨gb433, 0, none⟩ = some (.int .i64 0) := (blk_cell BK433.out 0).trans rfl
            have hcz14_1 : w9.cell? ⟨gb433, 1, none⟩ = some (.int .i64 0) := (blk_cell BK433.out 1).trans rfl
            have hfz14_0 := blk_frozen BK433.out 0
            have hfz14_1 := blk_frozen BK433.out 1
            go_wp2
            go_meet
            case rel => exact ⟨_, (true), vX, H', ⟨by have := HJ1.out; have := HK2.out; first | omega | exact Nat.le_refl _⟩, ⟨by (with_reducible repeat (first|refine kN ?_ _|refine kD ?_|refine kA ?_ _)); refine blk_put (cs := #[.int .i64 ((rd_T38 l0 x20_2).f0), .int .i64 0]) ?_ 1 _ rfl; (with_reducible repeat (first|refine kN ?_ _|refine kD ?_|refine kA ?_ _)); refine blk_put (cs := #[.int .i64 0, .int .i64 0]) ?_ 0 _ rfl; (with_reducible repeat (first|refine kN ?_ _|refine kD ?_|refine kA ?_ _)); exact BK433.out⟩, ⟨bX1 HB.out GE433.out⟩⟩
           ·rw [if_neg c13] at H
            have c13b0 : decide (9 < ((rd_T38 l0 x20_2).f0)) = false := decide_eq_false c13
            clear c13
            by_cases c15 : ((rd_T38 l0 x20_2).f1) < 0
            ·rw [if_pos c15] at H
             have c15b0 : decide (((rd_T38 l0 x20_2).f1) < 0) = true := decide_eq_true c15
             clear c15
             have H' := Aside0.mk H
             clear H
             have hcz16_0 : w9.cell? ⟨gb433, 0, none⟩ = some (.int .i64 0) := (blk_cell BK433.out 0).trans rfl
             have hcz16_1 : w9.cell? ⟨gb433, 1, none⟩ = some (.int .i64 0) := (blk_cell BK433.out 1).trans rfl
             have hfz16_0 := blk_frozen BK433.out 0
             have hfz16_1 := blk_frozen BK433.out 1
             go_wp2
             go_meet
             case rel => exact ⟨_, (true), vX, H', ⟨by have := HJ1.out; have := HK2.out; first | omega | exact Nat.le_refl _⟩, ⟨by (with_reducible repeat (first|refine kN ?_ _|refine kD ?_|refine kA ?_ _)); refine blk_put (cs := #[.int .i64 ((rd_T38 l0 x20_2).f0), .int .i64 0]) ?_ 1 _ rfl; (with_reducible repeat (first|refine kN ?_ _|refine kD ?_|refine kA ?_ _)); refine blk_put (cs := #[.int .i64 0, .int .i64 0]) ?_ 0 _ rfl; (with_reducible repeat (first|refine kN ?_ _|refine kD ?_|refine kA ?_ _)); exact BK433.out⟩, ⟨bX1 HB.out GE433.out⟩⟩
            ·rw [if_neg c15] at H
             have c15b0 : decide (((rd_T38 l0 x20_2).f1) < 0) = false := decide_eq_false c15
             clear c15
             have H' := Aside0.mk H
             clear H
             have hcz17_0 : w9.cell? ⟨gb433, 0, none⟩ = some (.int .i64 0) := (blk_cell BK433.out 0).trans rfl
             have hcz17_1 : w9.cell? ⟨gb433, 1, none⟩ = some (.int .i64 0) := (blk_cell BK433.out 1).trans rfl
             have hfz17_0 := blk_frozen BK433.out 0
             have hfz17_1 := blk_frozen BK433.out 1
             go_wp2
             go_meet
             case rel => exact ⟨_, (decide (((rd_T38 l0 x20_2).f1) > 9)), vX, H', ⟨by have := HJ1.out; have := HK2.out; first | omega | exact Nat.le_refl _⟩, ⟨by (with_reducible repeat (first|refine kN ?_ _|refine kD ?_|refine kA ?_ _)); refine blk_put (cs := #[.int .i64 ((rd_T38 l0 x20_2).f0), .int .i64 0]) ?_ 1 _ rfl; (with_reducible repeat (first|refine kN ?_ _|refine kD ?_|refine kA ?_ _)); refine blk_put (cs := #[.int .i64 0, .int .i64 0]) ?_ 0 _ rfl; (with_reducible repeat (first|refine kN ?_ _|refine kD ?_|refine kA ?_ _)); exact BK433.out⟩, ⟨bX1 HB.out GE433.out⟩⟩
         case rest =>
          clear HC8
          try clear c1
          try clear c2
          try clear p2
          try clear c3
          try clear c3b0
          try clear c3b1
          try clear c4
          try clear p4
          try clear q4
          try clear hx4
          try clear c5
          try clear c5b0
          try clear c6
          try clear c6b0
          try clear c7
          try clear c7b0
          try clear c11
          try clear c11b0
          try clear c13
          try clear c13b0
          try clear c15
          try clear c15b0
          try clear hcz10_0
          try clear hcz10_1
          try clear hcz12_0
          try clear hcz12_1
          try clear hcz14_0
          try clear hcz14_1
          try clear hcz16_0
          try clear hcz16_1
          try clear hcz17_0
          try clear hcz17_1
          try clear hfz10_0
          try clear hfz10_1
          try clear hfz12_0
          try clear hfz12_1
          try clear hfz14_0
          try clear hfz14_1
          try clear hfz16_0
          try clear hfz16_1
          try clear hfz17_0
          try clear hfz17_1
          try clear hx432_0
          try clear hx432_1
          try clear p2
          try clear p432
          try clear q432
          obtain ⟨kq, x42_7, rfl, HA, HJ7, BK433, HB⟩ := hcut
          cases kq with
          | zero => exact absurd HA.out (by simp [impl_TableOk.j2])
          | succ kj7 =>
           have H := HA.out
           clear HA
           simp only [impl_TableOk.j2] at H
           by_cases c18 : x42_7 = true
           ·subst c18
            have H1 : (some false) = some r := by rw [if_pos rfl] at H; exact H
            clear H
            have H := H1
            clear H1
            obtain rfl := Option.some.inj H
            go_wp2
            go_ret
            exact ⟨eX, bX1 HB.out GE433.out⟩
           ·replace c18 := Bool.eq_false_iff.mpr c18
            subst c18
            have H1 : (if x20_2 > 0 then (if 0 ≤ (wrap64 (x20_2 - 1)) then (if (wrap64 (x20_2 - 1)) < (l0.length : Int) then (if ((rd_T38 l0 x20_2).f1) < ((rd_T38 l0 (wrap64 (x20_2 - 1))).f1) then (some false) else (if ((rd_T38 l0 x20_2).f1) = ((rd_T38 l0 (wrap64 (x20_2 - 1))).f1) then (if ((rd_T38 l0 x20_2).f0) ≤ ((rd_T38 l0 (wrap64 (x20_2 - 1))).f0) then (some false) else (impl_TableOk.l0 kj7 l0 l0 (l0.length : Int) (wrap64 (x20_2 + 1)))) else (impl_TableOk.l0 kj7 l0 l0 (l0.length : Int) (wrap64 (x20_2 + 1))))) else (none)) else (none)) else (impl_TableOk.l0 kj7 l0 l0 (l0.length : Int) (wrap64 (x20_2 + 1)))) = some r := by rw [if_neg (show ¬ (false = true) by decide)] at H; exact H
            clear H
            have H := H1
            clear H1
            by_cases c19 : x20_2 > 0
            ·rw [if_pos c19] at H
             have c19b0 : decide (0 < x20_2) = true := decide_eq_true c19
             clear c19
             obtain ⟨ji20, hji20⟩ : ∃ j_ : Int, (wrap64 (x20_2 - 1)) = j_ := ⟨_, rfl⟩
             replace H : (if 0 ≤ (ji20) then (if (ji20) < (l0.length : Int) then (if ((rd_T38 l0 x20_2).f1) < ((rd_T38 l0 (ji20)).f1) then (some false) else (if ((rd_T38 l0 x20_2).f1) = ((rd_T38 l0 (ji20)).f1) then (if ((rd_T38 l0 x20_2).f0) ≤ ((rd_T38 l0 (ji20)).f0) then (some false) else (impl_TableOk.l0 kj7 l0 l0 (l0.length : Int) (wrap64 (x20_2 + 1)))) else (impl_TableOk.l0 kj7 l0 l0 (l0.length : Int) (wrap64 (x20_2 + 1))))) else (none)) else (none)) = some r := by first | (rw [hji20] at H; exact H) | (simp only [hji20] at H ⊢; exact H)
             have hji20w : (IntKind.i64.wrap (x20_2 - 1)) = ji20 := (i64_w _).trans hji20
             by_cases c21 : 0 ≤ (ji20)
             ·rw [if_pos c21] at H
              have c21b0 : decide (0 ≤ (ji20)) = true := decide_eq_true c21
              clear c21
              by_cases c22 : (ji20) < (l0.length : Int)
              ·rw [if_pos c22] at H
               have c22b0 : decide ((ji20) < (l0.length : Int)) = true := decide_eq_true c22
               clear c22
               by_cases c23 : ((rd_T38 l0 x20_2).f1) < ((rd_T38 l0 (ji20)).f1)
               ·rw [if_pos c23] at H
                have c23b0 : decide (((rd_T38 l0 x20_2).f1) < ((rd_T38 l0 (ji20)).f1)) = true := decide_eq_true c23
                clear c23
                obtain rfl := Option.some.inj H
                try go_wp2
                have n0_ := Aside0.mk (blk_drew BK433.out)
                have n1_ := Aside0.mk (below_drew1 HB.out)
                clear BK433
                clear HB
                have BK433 := n0_
                have HB := n1_
                clear n0_ n1_
                have p434 : 0 ≤ ((ji20) : Int) := dX
                have q434 : (ji20) < (l0.length : Int) := dX
                obtain ⟨ad434, e434, hx434_0, hx434_1⟩ := at_T38 HR0.out (ji20) p434 q434
                have hw434_1 := hx434_1
                have hw434_0 := hx434_0
                obtain rfl : ad432 = ad434 := (by injection e434)
                replace hx434_0 := (HB.out.cell (World.block_lt_of_cell? w _ hx434_0)).trans hx434_0
                replace hx434_1 := (HB.out.cell (World.block_lt_of_cell? w _ hx434_1)).trans hx434_1
                replace p434 := eq_true p434
                replace q434 := eq_true q434
                refine start_ (n := 35) (S := fun w' => w'.cell? ⟨gb433, 0, none⟩ = some (.int .i64 ((rd_T38 l0 x20_2).f0)) ∧ w'.cell? ⟨gb433, 1, none⟩ = some (.int .i64 ((rd_T38 l0 x20_2).f1)) ∧ w'.cell? (ad432.add (((ji20)).toNat * 2)) = some (.int .i64 ((rd_T38 l0 (ji20)).f0)) ∧ w'.cell? ⟨(ad432.add (((ji20)).toNat * 2)).block, (ad432.add (((ji20)).toNat * 2)).off + 1, none⟩ = some (.int .i64 ((rd_T38 l0 (ji20)).f1))) (ds := []) #[ff,ff,ff,ff,ff,ff,ff,ff,ff,ff,ff,ff,ff,ff,ff,ff,ff,ff,ff,ff,ff,ff,ff,ff,ff,ff,ff,ff,ff,ff,ff,ff,ff,ff,ff] (by kernel_rfl) rfl rfl ⟨(blk_cell BK433.out 0).trans rfl, (blk_cell BK433.out 1).trans rfl, ((HB.out.cell (World.block_lt_of_cell? w _ hw434_0)).trans hw434_0), ((HB.out.cell (World.block_lt_of_cell? w _ hw434_1)).trans hw434_1)⟩ (fun hHeld => ?_); refine with_tabW impl_TableOk.tab8 impl_TableOk.bits8 (fun HT_ HW_ => ?_)
                generalize wc.drew = w24 at BK433 HB hx434_0 hx434_1 hHeld ⊢
                refine pX 0 43 (fl 35 1) rfl rfl HT_.out ?_
                refine pX 1 44 (fl 35 3) rfl rfl HT_.out ?_
                refine pX 2 45 (fl 35 7) rfl rfl HT_.out ?_
                refine pX 3 46 (fl 35 15) rfl rfl HT_.out ?_
                refine pX 5 48 (fl 35 47) rfl rfl HT_.out ?_
                refine pX 6 49 (fl 35 111) rfl rfl HT_.out ?_
                refine pX 7 50 (fl 35 239) rfl rfl HT_.out ?_
                refine pX 8 51 (fl 35 495) rfl rfl HT_.out ?_
                refine pX 9 52 (fl 35 1007) rfl rfl HT_.out ?_
                refine tX4 4 47 (fl 35 1023) rfl rfl HT_.out HW_.out hHeld ?_
                refine tX4 10 53 (fl 35 2047) rfl rfl HT_.out HW_.out hHeld ?_
                refine pX 11 54 (fl 35 4095) rfl rfl HT_.out ?_
                refine pX 12 55 (fl 35 8191) rfl rfl HT_.out ?_
                refine uX 13 56 (fl 35 16383) rfl rfl HT_.out ?_
                refine uX 14 57 (fl 35 32767) rfl rfl HT_.out ?_
                refine uX 15 58 (fl 35 65535) rfl rfl HT_.out ?_
                refine uX 16 59 (fl 35 131071) rfl rfl HT_.out ?_
                refine uX 17 60 (fl 35 262143) rfl rfl HT_.out ?_
                refine uX 18 61 (fl 35 524287) rfl rfl HT_.out ?_
                refine uX 19 62 (fl 35 1048575) rfl rfl HT_.out ?_
                refine uX 20 63 (fl 35 2097151) rfl rfl HT_.out ?_
                refine uX 21 64 (fl 35 4194303) rfl rfl HT_.out ?_
                refine uX 22 65 (fl 35 8388607) rfl rfl HT_.out ?_
                refine uX 23 66 (fl 35 16777215) rfl rfl HT_.out ?_
                refine uX 24 67 (fl 35 33554431) rfl rfl HT_.out ?_
                refine uX 25 68 (fl 35 67108863) rfl rfl HT_.out ?_
                refine uX 26 69 (fl 35 134217727) rfl rfl HT_.out ?_
                refine uX 27 70 (fl 35 268435455) rfl rfl HT_.out ?_
                refine uX 28 71 (fl 35 536870911) rfl rfl HT_.out ?_
                refine uX 29 72 (fl 35 1073741823) rfl rfl HT_.out ?_
                refine uX 30 73 (fl 35 2147483647) rfl rfl HT_.out ?_
                refine uX 31 74 (fl 35 4294967295) rfl rfl HT_.out ?_
                refine uX 32 75 (fl 35 8589934591) rfl rfl HT_.out ?_
                refine pX 33 76 (fl 35 17179869183) rfl rfl HT_.out ?_
                refine pX 34 77 (fl 35 34359738367) rfl rfl HT_.out ?_
                refine done_ (done_of HT_.out (by kernel_rfl)) ?_
                try go_wp2
                go_ret
                exact ⟨by first | rfl | (simp [errW_none, errW_some] <;> rfl) | (simp only [← hji20]; first | rfl | (simp [errW_none, errW_some] <;> rfl)) | (simp [*, errW_none, errW_some] <;> rfl), bX1 HB.out GE433.out⟩
               ·rw [if_neg c23] at H
                have c23b0 : decide (((rd_T38 l0 x20_2).f1) < ((rd_T38 l0 (ji20)).f1)) = false := decide_eq_false c23
                clear c23
                by_cases c25 : ((rd_T38 l0 x20_2).f1) = ((rd_T38 l0 (ji20)).f1)
                ·rw [if_pos c25] at H
                 have c25b0 : (((rd_T38 l0 x20_2).f1) == ((rd_T38 l0 (ji20)).f1)) = true := beq_iff_eq.mpr c25
                 have c25b1 : (((rd_T38 l0 x20_2).f1) != ((rd_T38 l0 (ji20)).f1)) = false := bne_eq_false_iff_eq.mpr c25
                 clear c25
                 by_cases c26 : ((rd_T38 l0 x20_2).f0) ≤ ((rd_T38 l0 (ji20)).f0)
                 ·rw [if_pos c26] at H
                  have c26b0 : decide (((rd_T38 l0 x20_2).f0) ≤ ((rd_T38 l0 (ji20)).f0)) = true := decide_eq_true c26
                  clear c26
                  obtain rfl := Option.some.inj H
                  try go_wp2
                  have n0_ := Aside0.mk (blk_drew BK433.out)
                  have n1_ := Aside0.mk (below_drew1 HB.out)
                  clear BK433
                  clear HB
                  have BK433 := n0_
                  have HB := n1_
                  clear n0_ n1_
                  have p434 : 0 ≤ ((ji20) : Int) := dX
                  have q434 : (ji20) < (l0.length : Int) := dX
                  obtain ⟨ad434, e434, hx434_0, hx434_1⟩ := at_T38 HR0.out (ji20) p434 q434
                  have hw434_1 := hx434_1
                  have hw434_0 := hx434_0
                  obtain rfl : ad432 = ad434 := (by injection e434)
                  replace hx434_0 := (HB.out.cell (World.block_lt_of_cell? w _ hx434_0)).trans hx434_0
                  replace hx434_1 := (HB.out.cell (World.block_lt_of_cell? w _ hx434_1)).trans hx434_1
                  replace p434 := eq_true p434
                  replace q434 := eq_true q434
                  have p435 : 0 ≤ ((ji20) : Int) := dX
                  have q435 : (ji20) < (l0.length : Int) := dX
                  obtain ⟨ad435, e435, hx435_0, hx435_1⟩ := at_T38 HR0.out (ji20) p435 q435
                  have hw435_1 := hx435_1
                  have hw435_0 := hx435_0
                  obtain rfl : ad432 = ad435 := (by injection e435)
                  replace hx435_0 := (HB.out.cell (World.block_lt_of_cell? w _ hx435_0)).trans hx435_0
                  replace hx435_1 := (HB.out.cell (World.block_lt_of_cell? w _ hx435_1)).trans hx435_1
                  replace p435 := eq_true p435
                  replace q435 := eq_true q435
                  have p436 : 0 ≤ ((ji20) : Int) := dX
                  have q436 : (ji20) < (l0.length : Int) := dX
                  obtain ⟨ad436, e436, hx436_0, hx436_1⟩ := at_T38 HR0.out (ji20) p436 q436
                  have hw436_1 := hx436_1
                  have hw436_0 := hx436_0
                  obtain rfl : ad432 = ad436 := (by injection e436)
                  replace hx436_0 := (HB.out.cell (World.block_lt_of_cell? w _ hx436_0)).trans hx436_0
                  replace hx436_1 := (HB.out.cell (World.block_lt_of_cell? w _ hx436_1)).trans hx436_1
                  replace p436 := eq_true p436
                  replace q436 := eq_true q436
                  refine start_ (n := 35) (S := fun w' => w'.cell? ⟨gb433, 0, none⟩ = some (.int .i64 ((rd_T38 l0 x20_2).f0)) ∧ w'.cell? ⟨gb433, 1, none⟩ = some (.int .i64 ((rd_T38 l0 x20_2).f1)) ∧ w'.cell? (ad432.add (((ji20)).toNat * 2)) = some (.int .i64 ((rd_T38 l0 (ji20)).f0)) ∧ w'.cell? ⟨(ad432.add (((ji20)).toNat * 2)).block, (ad432.add (((ji20)).toNat * 2)).off + 1, none⟩ = some (.int .i64 ((rd_T38 l0 (ji20)).f1)) ∧ w'.cell? (ad432.add (((ji20)).toNat * 2)) = some (.int .i64 ((rd_T38 l0 (ji20)).f0)) ∧ w'.cell? ⟨(ad432.add (((ji20)).toNat * 2)).block, (ad432.add (((ji20)).toNat * 2)).off + 1, none⟩ = some (.int .i64 ((rd_T38 l0 (ji20)).f1)) ∧ w'.cell? (ad432.add (((ji20)).toNat * 2)) = some (.int .i64 ((rd_T38 l0 (ji20)).f0)) ∧ w'.cell? ⟨(ad432.add (((ji20)).toNat * 2)).block, (ad432.add (((ji20)).toNat * 2)).off + 1, none⟩ = some (.int .i64 ((rd_T38 l0 (ji20)).f1))) (ds := []) #[ff,ff,ff,ff,ff,ff,ff,ff,ff,ff,ff,ff,ff,ff,ff,ff,ff,ff,ff,ff,ff,ff,ff,ff,ff,ff,ff,ff,ff,ff,ff,ff,ff,ff,ff] (by kernel_rfl) rfl rfl ⟨(blk_cell BK433.out 0).trans rfl, (blk_cell BK433.out 1).trans rfl, ((HB.out.cell (World.block_lt_of_cell? w _ hw434_0)).trans hw434_0), ((HB.out.cell (World.block_lt_of_cell? w _ hw434_1)).trans hw434_1), ((HB.out.cell (World.block_lt_of_cell? w _ hw435_0)).trans hw435_0), ((HB.out.cell (World.block_lt_of_cell? w _ hw435_1)).trans hw435_1), ((HB.out.cell (World.block_lt_of_cell? w _ hw436_0)).trans hw436_0), ((HB.out.cell (World.block_lt_of_cell? w _ hw436_1)).trans hw436_1)⟩ (fun hHeld => ?_); refine with_tabW impl_TableOk.tab8 impl_TableOk.bits8 (fun HT_ HW_ => ?_)
                  generalize wc.drew = w27 at BK433 HB hx434_0 hx434_1 hx435_0 hx435_1 hx436_0 hx436_1 hHeld ⊢
                  refine pX 0 43 (fl 35 1) rfl rfl HT_.out ?_
                  refine pX 1 44 (fl 35 3) rfl rfl HT_.out ?_
                  refine pX 2 45 (fl 35 7) rfl rfl HT_.out ?_
                  refine pX 3 46 (fl 35 15) rfl rfl HT_.out ?_
                  refine pX 5 48 (fl 35 47) rfl rfl HT_.out ?_
                  refine pX 6 49 (fl 35 111) rfl rfl HT_.out ?_
                  refine pX 7 50 (fl 35 239) rfl rfl HT_.out ?_
                  refine pX 8 51 (fl 35 495) rfl rfl HT_.out ?_
                  refine pX 9 52 (fl 35 1007) rfl rfl HT_.out ?_
                  refine tX8 4 47 (fl 35 1023) rfl rfl HT_.out HW_.out hHeld ?_
                  refine tX8 10 53 (fl 35 2047) rfl rfl HT_.out HW_.out hHeld ?_
                  refine pX 11 54 (fl 35 4095) rfl rfl HT_.out ?_
                  refine pX 12 55 (fl 35 8191) rfl rfl HT_.out ?_
                  refine pX 13 56 (fl 35 16383) rfl rfl HT_.out ?_
                  refine pX 15 58 (fl 35 49151) rfl rfl HT_.out ?_
                  refine pX 16 59 (fl 35 114687) rfl rfl HT_.out ?_
                  refine pX 17 60 (fl 35 245759) rfl rfl HT_.out ?_
                  refine pX 18 61 (fl 35 507903) rfl rfl HT_.out ?_
                  refine pX 19 62 (fl 35 1032191) rfl rfl HT_.out ?_
                  refine tX8 14 57 (fl 35 1048575) rfl rfl HT_.out HW_.out hHeld ?_
                  refine tX8 20 63 (fl 35 2097151) rfl rfl HT_.out HW_.out hHeld ?_
                  refine pX 21 64 (fl 35 4194303) rfl rfl HT_.out ?_
                  refine pX 22 65 (fl 35 8388607) rfl rfl HT_.out ?_
                  refine pX 23 66 (fl 35 16777215) rfl rfl HT_.out ?_
                  refine pX 25 68 (fl 35 50331647) rfl rfl HT_.out ?_
                  refine pX 26 69 (fl 35 117440511) rfl rfl HT_.out ?_
                  refine pX 27 70 (fl 35 251658239) rfl rfl HT_.out ?_
                  refine pX 28 71 (fl 35 520093695) rfl rfl HT_.out ?_
                  refine pX 29 72 (fl 35 1056964607) rfl rfl HT_.out ?_
                  refine tX8 24 67 (fl 35 1073741823) rfl rfl HT_.out HW_.out hHeld ?_
                  refine tX8 30 73 (fl 35 2147483647) rfl rfl HT_.out HW_.out hHeld ?_
                  refine pX 31 74 (fl 35 4294967295) rfl rfl HT_.out ?_
                  refine pX 32 75 (fl 35 8589934591) rfl rfl HT_.out ?_
                  refine pX 33 76 (fl 35 17179869183) rfl rfl HT_.out ?_
                  refine pX 34 77 (fl 35 34359738367) rfl rfl HT_.out ?_
                  refine done_ (done_of HT_.out (by kernel_rfl)) ?_
                  try go_wp2
                  go_ret
                  exact ⟨by first | rfl | (simp [errW_none, errW_some] <;> rfl) | (simp only [← hji20]; first | rfl | (simp [errW_none, errW_some] <;> rfl)) | (simp [*, errW_none, errW_some] <;> rfl), bX1 HB.out GE433.out⟩
                 ·rw [if_neg c26] at H
                  have c26b0 : decide (((rd_T38 l0 x20_2).f0) ≤ ((rd_T38 l0 (ji20)).f0)) = false := decide_eq_false c26
                  clear c26
                  have H' := Aside0.mk H
                  clear H
                  try go_wp2
                  have n0_ := Aside0.mk (blk_drew BK433.out)
                  have n1_ := Aside0.mk (below_drew1 HB.out)
                  clear BK433
                  clear HB
                  have BK433 := n0_
                  have HB := n1_
                  clear n0_ n1_
                  have p434 : 0 ≤ ((ji20) : Int) := dX
                  have q434 : (ji20) < (l0.length : Int) := dX
                  obtain ⟨ad434, e434, hx434_0, hx434_1⟩ := at_T38 HR0.out (ji20) p434 q434
                  have hw434_1 := hx434_1
                  have hw434_0 := hx434_0
                  obtain rfl : ad432 = ad434 := (by injection e434)
                  replace hx434_0 := (HB.out.cell (World.block_lt_of_cell? w _ hx434_0)).trans hx434_0
                  replace hx434_1 := (HB.out.cell (World.block_lt_of_cell? w _ hx434_1)).trans hx434_1
                  replace p434 := eq_true p434
                  replace q434 := eq_true q434
                  have p435 : 0 ≤ ((ji20) : Int) := dX
                  have q435 : (ji20) < (l0.length : Int) := dX
                  obtain ⟨ad435, e435, hx435_0, hx435_1⟩ := at_T38 HR0.out (ji20) p435 q435
                  have hw435_1 := hx435_1
                  have hw435_0 := hx435_0
                  obtain rfl : ad432 = ad435 := (by injection e435)
                  replace hx435_0 := (HB.out.cell (World.block_lt_of_cell? w _ hx435_0)).trans hx435_0
                  replace hx435_1 := (HB.out.cell (World.block_lt_of_cell? w _ hx435_1)).trans hx435_1
                  replace p435 := eq_true p435
                  replace q435 := eq_true q435
                  have p436 : 0 ≤ ((ji20) : Int) := dX
                  have q436 : (ji20) < (l0.length : Int) := dX
                  obtain ⟨ad436, e436, hx436_0, hx436_1⟩ := at_T38 HR0.out (ji20) p436 q436
                  have hw436_1 := hx436_1
                  have hw436_0 := hx436_0
                  obtain rfl : ad432 = ad436 := (by injection e436)
                  replace hx436_0 := (HB.out.cell (World.block_lt_of_cell? w _ hx436_0)).trans hx436_0
                  replace hx436_1 := (HB.out.cell (World.block_lt_of_cell? w _ hx436_1)).trans hx436_1
                  replace p436 := eq_true p436
                  replace q436 := eq_true q436
                  refine start_ (n := 35) (S := fun w' => w'.cell? ⟨gb433, 0, none⟩ = some (.int .i64 ((rd_T38 l0 x20_2).f0)) ∧ w'.cell? ⟨gb433, 1, none⟩ = some (.int .i64 ((rd_T38 l0 x20_2).f1)) ∧ w'.cell? (ad432.add (((ji20)).toNat * 2)) = some (.int .i64 ((rd_T38 l0 (ji20)).f0)) ∧ w'.cell? ⟨(ad432.add (((ji20)).toNat * 2)).block, (ad432.add (((ji20)).toNat * 2)).off + 1, none⟩ = some (.int .i64 ((rd_T38 l0 (ji20)).f1)) ∧ w'.cell? (ad432.add (((ji20)).toNat * 2)) = some (.int .i64 ((rd_T38 l0 (ji20)).f0)) ∧ w'.cell? ⟨(ad432.add (((ji20)).toNat * 2)).block, (ad432.add (((ji20)).toNat * 2)).off + 1, none⟩ = some (.int .i64 ((rd_T38 l0 (ji20)).f1)) ∧ w'.cell? (ad432.add (((ji20)).toNat * 2)) = some (.int .i64 ((rd_T38 l0 (ji20)).f0)) ∧ w'.cell? ⟨(ad432.add (((ji20)).toNat * 2)).block, (ad432.add (((ji20)).toNat * 2)).off + 1, none⟩ = some (.int .i64 ((rd_T38 l0 (ji20)).f1))) (ds := []) #[ff,ff,ff,ff,ff,ff,ff,ff,ff,ff,ff,ff,ff,ff,ff,ff,ff,ff,ff,ff,ff,ff,ff,ff,ff,ff,ff,ff,ff,ff,ff,ff,ff,ff,ff] (by kernel_rfl) rfl rfl ⟨(blk_cell BK433.out 0).trans rfl, (blk_cell BK433.out 1).trans rfl, ((HB.out.cell (World.block_lt_of_cell? w _ hw434_0)).trans hw434_0), ((HB.out.cell (World.block_lt_of_cell? w _ hw434_1)).trans hw434_1), ((HB.out.cell (World.block_lt_of_cell? w _ hw435_0)).trans hw435_0), ((HB.out.cell (World.block_lt_of_cell? w _ hw435_1)).trans hw435_1), ((HB.out.cell (World.block_lt_of_cell? w _ hw436_0)).trans hw436_0), ((HB.out.cell (World.block_lt_of_cell? w _ hw436_1)).trans hw436_1)⟩ (fun hHeld => ?_); refine with_tabW impl_TableOk.tab8 impl_TableOk.bits8 (fun HT_ HW_ => ?_)
                  generalize wc.drew = w28 at BK433 HB hx434_0 hx434_1 hx435_0 hx435_1 hx436_0 hx436_1 hHeld ⊢
                  refine pX 0 43 (fl 35 1) rfl rfl HT_.out ?_
                  refine pX 1 44 (fl 35 3) rfl rfl HT_.out ?_
                  refine pX 2 45 (fl 35 7) rfl rfl HT_.out ?_
                  refine pX 3 46 (fl 35 15) rfl rfl HT_.out ?_
                  refine pX 5 48 (fl 35 47) rfl rfl HT_.out ?_
                  refine pX 6 49 (fl 35 111) rfl rfl HT_.out ?_
                  refine pX 7 50 (fl 35 239) rfl rfl HT_.out ?_
                  refine pX 8 51 (fl 35 495) rfl rfl HT_.out ?_
                  refine pX 9 52 (fl 35 1007) rfl rfl HT_.out ?_
                  refine tX8 4 47 (fl 35 1023) rfl rfl HT_.out HW_.out hHeld ?_
                  refine tX8 10 53 (fl 35 2047) rfl rfl HT_.out HW_.out hHeld ?_
                  refine pX 11 54 (fl 35 4095) rfl rfl HT_.out ?_
                  refine pX 12 55 (fl 35 8191) rfl rfl HT_.out ?_
                  refine pX 13 56 (fl 35 16383) rfl rfl HT_.out ?_
                  refine pX 15 58 (fl 35 49151) rfl rfl HT_.out ?_
                  refine pX 16 59 (fl 35 114687) rfl rfl HT_.out ?_
                  refine pX 17 60 (fl 35 245759) rfl rfl HT_.out ?_
                  refine pX 18 61 (fl 35 507903) rfl rfl HT_.out ?_
                  refine pX 19 62 (fl 35 1032191) rfl rfl HT_.out ?_
                  refine tX8 14 57 (fl 35 1048575) rfl rfl HT_.out HW_.out hHeld ?_
                  refine tX8 20 63 (fl 35 2097151) rfl rfl HT_.out HW_.out hHeld ?_
                  refine pX 21 64 (fl 35 4194303) rfl rfl HT_.out ?_
                  refine pX 22 65 (fl 35 8388607) rfl rfl HT_.out ?_
                  refine pX 23 66 (fl 35 16777215) rfl rfl HT_.out ?_
                  refine pX 25 68 (fl 35 50331647) rfl rfl HT_.out ?_
                  refine pX 26 69 (fl 35 117440511) rfl rfl HT_.out ?_
                  refine pX 27 70 (fl 35 251658239) rfl rfl HT_.out ?_
                  refine pX 28 71 (fl 35 520093695) rfl rfl HT_.out ?_
                  refine pX 29 72 (fl 35 1056964607) rfl rfl HT_.out ?_
                  refine tX8 24 67 (fl 35 1073741823) rfl rfl HT_.out HW_.out hHeld ?_
                  refine tX8 30 73 (fl 35 2147483647) rfl rfl HT_.out HW_.out hHeld ?_
                  refine pX 31 74 (fl 35 4294967295) rfl rfl HT_.out ?_
                  refine pX 32 75 (fl 35 8589934591) rfl rfl HT_.out ?_
                  refine pX 33 76 (fl 35 17179869183) rfl rfl HT_.out ?_
                  refine pX 34 77 (fl 35 34359738367) rfl rfl HT_.out ?_
                  refine done_ (done_of HT_.out (by kernel_rfl)) ?_
                  try go_wp2
                  go_roundg kj7
                  case measure => have := HJ1.out; have := HK2.out; have := HJ7.out; omega
                  case rel => exact ⟨(wrap64 (x20_2 + 1)), vX, H', ⟨by have := HJ1.out; have := HK2.out; have := HJ7.out; omega⟩, ⟨bX1 HB.out GE433.out⟩⟩
                ·rw [if_neg c25] at H
                 have c25b0 : (((rd_T38 l0 x20_2).f1) == ((rd_T38 l0 (ji20)).f1)) = false := beq_eq_false_iff_ne.mpr c25
                 have c25b1 : (((rd_T38 l0 x20_2).f1) != ((rd_T38 l0 (ji20)).f1)) = true := bne_iff_ne.mpr c25
                 have H' := Aside0.mk H
                 clear H
                 try go_wp2
                 have n0_ := Aside0.mk (blk_drew BK433.out)
                 have n1_ := Aside0.mk (below_drew1 HB.out)
                 clear BK433
                 clear HB
                 have BK433 := n0_
                 have HB := n1_
                 clear n0_ n1_
                 have p434 : 0 ≤ ((ji20) : Int) := dX
                 have q434 : (ji20) < (l0.length : Int) := dX
                 obtain ⟨ad434, e434, hx434_0, hx434_1⟩ := at_T38 HR0.out (ji20) p434 q434
                 have hw434_1 := hx434_1
                 have hw434_0 := hx434_0
                 obtain rfl : ad432 = ad434 := (by injection e434)
                 replace hx434_0 := (HB.out.cell (World.block_lt_of_cell? w _ hx434_0)).trans hx434_0
                 replace hx434_1 := (HB.out.cell (World.block_lt_of_cell? w _ hx434_1)).trans hx434_1
                 replace p434 := eq_true p434
                 replace q434 := eq_true q434
                 have p435 : 0 ≤ ((ji20) : Int) := dX
                 have q435 : (ji20) < (l0.length : Int) := dX
                 obtain ⟨ad435, e435, hx435_0, hx435_1⟩ := at_T38 HR0.out (ji20) p435 q435
                 have hw435_1 := hx435_1
                 have hw435_0 := hx435_0
                 obtain rfl : ad432 = ad435 := (by injection e435)
                 replace hx435_0 := (HB.out.cell (World.block_lt_of_cell? w _ hx435_0)).trans hx435_0
                 replace hx435_1 := (HB.out.cell (World.block_lt_of_cell? w _ hx435_1)).trans hx435_1
                 replace p435 := eq_true p435
                 replace q435 := eq_true q435
                 refine start_ (n := 35) (S := fun w' => w'.cell? ⟨gb433, 0, none⟩ = some (.int .i64 ((rd_T38 l0 x20_2).f0)) ∧ w'.cell? ⟨gb433, 1, none⟩ = some (.int .i64 ((rd_T38 l0 x20_2).f1)) ∧ w'.cell? (ad432.add (((ji20)).toNat * 2)) = some (.int .i64 ((rd_T38 l0 (ji20)).f0)) ∧ w'.cell? ⟨(ad432.add (((ji20)).toNat * 2)).block, (ad432.add (((ji20)).toNat * 2)).off + 1, none⟩ = some (.int .i64 ((rd_T38 l0 (ji20)).f1)) ∧ w'.cell? (ad432.add (((ji20)).toNat * 2)) = some (.int .i64 ((rd_T38 l0 (ji20)).f0)) ∧ w'.cell? ⟨(ad432.add (((ji20)).toNat * 2)).block, (ad432.add (((ji20)).toNat * 2)).off + 1, none⟩ = some (.int .i64 ((rd_T38 l0 (ji20)).f1))) (ds := []) #[ff,ff,ff,ff,ff,ff,ff,ff,ff,ff,ff,ff,ff,ff,ff,ff,ff,ff,ff,ff,ff,ff,ff,ff,ff,ff,ff,ff,ff,ff,ff,ff,ff,ff,ff] (by kernel_rfl) rfl rfl ⟨(blk_cell BK433.out 0).trans rfl, (blk_cell BK433.out 1).trans rfl, ((HB.out.cell (World.block_lt_of_cell? w _ hw434_0)).trans hw434_0), ((HB.out.cell (World.block_lt_of_cell? w _ hw434_1)).trans hw434_1), ((HB.out.cell (World.block_lt_of_cell? w _ hw435_0)).trans hw435_0), ((HB.out.cell (World.block_lt_of_cell? w _ hw435_1)).trans hw435_1)⟩ (fun hHeld => ?_); refine with_tabW impl_TableOk.tab8 impl_TableOk.bits8 (fun HT_ HW_ => ?_)
                 generalize wc.drew = w29 at BK433 HB hx434_0 hx434_1 hx435_0 hx435_1 hHeld ⊢
                 refine pX 0 43 (fl 35 1) rfl rfl HT_.out ?_
                 refine pX 1 44 (fl 35 3) rfl rfl HT_.out ?_
                 refine pX 2 45 (fl 35 7) rfl rfl HT_.out ?_
                 refine pX 3 46 (fl 35 15) rfl rfl HT_.out ?_
                 refine pX 5 48 (fl 35 47) rfl rfl HT_.out ?_
                 refine pX 6 49 (fl 35 111) rfl rfl HT_.out ?_
                 refine pX 7 50 (fl 35 239) rfl rfl HT_.out ?_
                 refine pX 8 51 (fl 35 495) rfl rfl HT_.out ?_
                 refine pX 9 52 (fl 35 1007) rfl rfl HT_.out ?_
                 refine tX6 4 47 (fl 35 1023) rfl rfl HT_.out HW_.out hHeld ?_
                 refine tX6 10 53 (fl 35 2047) rfl rfl HT_.out HW_.out hHeld ?_
                 refine pX 11 54 (fl 35 4095) rfl rfl HT_.out ?_
                 refine pX 12 55 (fl 35 8191) rfl rfl HT_.out ?_
                 refine pX 13 56 (fl 35 16383) rfl rfl HT_.out ?_
                 refine pX 15 58 (fl 35 49151) rfl rfl HT_.out ?_
                 refine pX 16 59 (fl 35 114687) rfl rfl HT_.out ?_
                 refine pX 17 60 (fl 35 245759) rfl rfl HT_.out ?_
                 refine pX 18 61 (fl 35 507903) rfl rfl HT_.out ?_
                 refine pX 19 62 (fl 35 1032191) rfl rfl HT_.out ?_
                 refine tX6 14 57 (fl 35 1048575) rfl rfl HT_.out HW_.out hHeld ?_
                 refine tX6 20 63 (fl 35 2097151) rfl rfl HT_.out HW_.out hHeld ?_
                 refine pX 21 64 (fl 35 4194303) rfl rfl HT_.out ?_
                 refine pX 22 65 (fl 35 8388607) rfl rfl HT_.out ?_
                 refine uX 23 66 (fl 35 16777215) rfl rfl HT_.out ?_
                 refine uX 24 67 (fl 35 33554431) rfl rfl HT_.out ?_
                 refine uX 25 68 (fl 35 67108863) rfl rfl HT_.out ?_
                 refine uX 26 69 (fl 35 134217727) rfl rfl HT_.out ?_
                 refine uX 27 70 (fl 35 268435455) rfl rfl HT_.out ?_
                 refine uX 28 71 (fl 35 536870911) rfl rfl HT_.out ?_
                 refine uX 29 72 (fl 35 1073741823) rfl rfl HT_.out ?_
                 refine uX 30 73 (fl 35 2147483647) rfl rfl HT_.out ?_
                 refine uX 31 74 (fl 35 4294967295) rfl rfl HT_.out ?_
                 refine pX 32 75 (fl 35 8589934591) rfl rfl HT_.out ?_
                 refine pX 33 76 (fl 35 17179869183) rfl rfl HT_.out ?_
                 refine pX 34 77 (fl 35 34359738367) rfl rfl HT_.out ?_
                 refine done_ (done_of HT_.out (by kernel_rfl)) ?_
                 try go_wp2
                 go_roundg kj7
                 case measure => have := HJ1.out; have := HK2.out; have := HJ7.out; omega
                 case rel => exact ⟨(wrap64 (x20_2 + 1)), vX, H', ⟨by have := HJ1.out; have := HK2.out; have := HJ7.out; omega⟩, ⟨bX1 HB.out GE433.out⟩⟩
              ·rw [if_neg c22] at H
               exact absurd H (by simp)
             ·rw [if_neg c21] at H
              exact absurd H (by simp)
            ·rw [if_neg c19] at H
             have c19b0 : decide (0 < x20_2) = false := decide_eq_false c19
             clear c19
             have H' := Aside0.mk H
             clear H
             try go_wp2
             have n0_ := Aside0.mk (blk_drew BK433.out)
             have n1_ := Aside0.mk (below_drew1 HB.out)
             clear BK433
             clear HB
             have BK433 := n0_
             have HB := n1_
             clear n0_ n1_
             refine start_ (n := 35) (S := fun w' => True) (ds := []) #[ff,ff,ff,ff,ff,ff,ff,ff,ff,ff,ff,ff,ff,ff,ff,ff,ff,ff,ff,ff,ff,ff,ff,ff,ff,ff,ff,ff,ff,ff,ff,ff,ff,ff,ff] (by kernel_rfl) rfl rfl trivial (fun hHeld => ?_); refine with_tabW impl_TableOk.tab8 impl_TableOk.bits8 (fun HT_ HW_ => ?_)
             generalize wc.drew = w30 at BK433 HB hHeld ⊢
             refine pX 0 43 (fl 35 1) rfl rfl HT_.out ?_
             refine pX 1 44 (fl 35 3) rfl rfl HT_.out ?_
             refine pX 2 45 (fl 35 7) rfl rfl HT_.out ?_
             refine uX 3 46 (fl 35 15) rfl rfl HT_.out ?_
             refine uX 4 47 (fl 35 31) rfl rfl HT_.out ?_
             refine uX 5 48 (fl 35 63) rfl rfl HT_.out ?_
             refine uX 6 49 (fl 35 127) rfl rfl HT_.out ?_
             refine uX 7 50 (fl 35 255) rfl rfl HT_.out ?_
             refine uX 8 51 (fl 35 511) rfl rfl HT_.out ?_
             refine uX 9 52 (fl 35 1023) rfl rfl HT_.out ?_
             refine uX 10 53 (fl 35 2047) rfl rfl HT_.out ?_
             refine uX 11 54 (fl 35 4095) rfl rfl HT_.out ?_
             refine uX 12 55 (fl 35 8191) rfl rfl HT_.out ?_
             refine uX 13 56 (fl 35 16383) rfl rfl HT_.out ?_
             refine uX 14 57 (fl 35 32767) rfl rfl HT_.out ?_
             refine uX 15 58 (fl 35 65535) rfl rfl HT_.out ?_
             refine uX 16 59 (fl 35 131071) rfl rfl HT_.out ?_
             refine uX 17 60 (fl 35 262143) rfl rfl HT_.out ?_
             refine uX 18 61 (fl 35 524287) rfl rfl HT_.out ?_
             refine uX 19 62 (fl 35 1048575) rfl rfl HT_.out ?_
             refine uX 20 63 (fl 35 2097151) rfl rfl HT_.out ?_
             refine uX 21 64 (fl 35 4194303) rfl rfl HT_.out ?_
             refine uX 22 65 (fl 35 8388607) rfl rfl HT_.out ?_
             refine uX 23 66 (fl 35 16777215) rfl rfl HT_.out ?_
             refine uX 24 67 (fl 35 33554431) rfl rfl HT_.out ?_
             refine uX 25 68 (fl 35 67108863) rfl rfl HT_.out ?_
             refine uX 26 69 (fl 35 134217727) rfl rfl HT_.out ?_
             refine uX 27 70 (fl 35 268435455) rfl rfl HT_.out ?_
             refine uX 28 71 (fl 35 536870911) rfl rfl HT_.out ?_
             refine uX 29 72 (fl 35 1073741823) rfl rfl HT_.out ?_
             refine uX 30 73 (fl 35 2147483647) rfl rfl HT_.out ?_
             refine uX 31 74 (fl 35 4294967295) rfl rfl HT_.out ?_
             refine uX 32 75 (fl 35 8589934591) rfl rfl HT_.out ?_
             refine uX 33 76 (fl 35 17179869183) rfl rfl HT_.out ?_
             refine pX 34 77 (fl 35 34359738367) rfl rfl HT_.out ?_
             refine done_ (done_of HT_.out (by kernel_rfl)) ?_
             try go_wp2
             go_roundg kj7
             case measure => have := HJ1.out; have := HK2.out; have := HJ7.out; omega
             case rel => exact ⟨(wrap64 (x20_2 + 1)), vX, H', ⟨by have := HJ1.out; have := HK2.out; have := HJ7.out; omega⟩, ⟨bX1 HB.out GE433.out⟩⟩
        ·rw [if_neg c7] at H
         exact absurd H (by simp)
       ·rw [if_neg c6] at H
        exact absurd H (by simp)
      ·rw [if_neg c5] at H
       have c5b0 : decide (x20_2 < (l0.length : Int)) = false := decide_eq_false c5
       clear c5
       obtain ⟨y437, hy437⟩ : ∃ y_ : List Int, y_ = (([0] : List Int)) := ⟨_, rfl⟩
       replace H : (impl_TableOk.l1 k2 l0 y437 0) = some r := by first | (rw [hy437]; with_reducible exact H) | (have H2_ := (Option.bind_some _ _).symm.trans H; rw [hy437]; with_reducible exact H2_) | (have H2_ := (Option.bind_some _ _).symm.trans H; with_reducible exact H2_) | with_reducible exact H | (rw [hy437]; exact H) | exact H
       have Ny437 := Aside0.mk hy437
       clear hy437
       have H' := Aside0.mk H
       clear H
       go_wp2_with (first | ((with_reducible refine gate_dst (N := 79) rfl ?_); (try (refine gate_guard (by rfl) ?_; dsimp only)); refine Kd.R_lit (Kd.int .i64) _ 3 ?hg (N := 79) ?hd (xs := ([0] : List Int)) (inner := [.int .i64 0]) (ok := fun _ => True) (okp := fun _ => True) ?hr ?hp (fun _ hk => hk) trivial (Below.refl _ _) (Nat.le_refl _) (by simp) ?_; (case hd => rfl); (case hg => rfl); (case hr => first | (go_simp; done) | (go_simp; rfl)); (case hp => exact (Reps.one (show Kd.M (Kd.int .i64) _ _ _ 0 [.int .i64 0] from rfl) (Reps.none _ _))); intro v438 w31 ho32 hb hg_ hnew_; clear hg_ hnew_; (first | rw [← Ny437.out] at ho32 | (simp only [Int.reduceToNat] at ho32; rw [← Ny437.out] at ho32)); have n0_ := Aside0.mk (Kd.R_lower ho32 (below_size (bX HB.out))); have n1_ := Aside0.mk (below_step (bX HB.out) hb); clear HB; have HO439 := n0_; have HB := n1_; clear n0_ n1_; clear hb ho32))
       go_loopg [5, 6] k2 (fun kq v5 v6 w' => ∃ (x5_3 : List Int) (x6_3 : Int), v6 = .int .i64 x6_3 ∧ Aside0 (impl_TableOk.l1 kq l0 x5_3 x6_3 = some r) ∧ Aside0 (kq ≤ k2) ∧ Aside0 (Kd.R (Kd.int .i64) 3 w' w.heap.size (fun _ => True) v5 x5_3) ∧ Aside0 (Below w.heap.size w w'))
       case atStart => exact ⟨(y437), (0), vX, H', ⟨Nat.le_refl _⟩, ⟨rX HO439.out⟩, ⟨bX HB.out⟩⟩
       case round =>
        clear H'
        try clear c1
        try clear c2
        try clear p2
        try clear p4
        try clear q4
        try clear hx4
        try clear c5
        try clear c5b0
        try clear c6
        try clear p6
        try clear c7
        try clear c19
        try clear c19b0
        try clear c21
        try clear c22
        try clear c25
        try clear c25b0
        try clear c25b1
        try clear hx434_0
        try clear hx434_1
        try clear hx435_0
        try clear hx435_1
        try clear p434
        try clear p435
        try clear q434
        try clear q435
        obtain ⟨x5_3, x6_3, rfl, HA, HK3, HO_5, HB⟩ := hrel
        cases gk with
        | zero => exact absurd HA.out (by simp [impl_TableOk.l1])
        | succ k3 =>
         have H := HA.out
         clear HA
         simp only [impl_TableOk.l1] at H
         by_cases c33 : x6_3 < (x5_3.length : Int)
         ·rw [if_pos c33] at H
          have c33b0 : decide (x6_3 < (x5_3.length : Int)) = true := decide_eq_true c33
          clear c33
          by_cases c34 : 0 ≤ x6_3
          ·rw [if_pos c34] at H
           have c34b0 : decide (0 ≤ x6_3) = true := decide_eq_true c34
           clear c34
           by_cases c35 : 0 ≤ (rd x5_3 x6_3)
           ·rw [if_pos c35] at H
            have c35b0 : decide (0 ≤ (rd x5_3 x6_3)) = true := decide_eq_true c35
            clear c35
            by_cases c36 : (rd x5_3 x6_3) < (l0.length : Int)
            ·rw [if_pos c36] at H
             have c36b0 : decide ((rd x5_3 x6_3) < (l0.length : Int)) = true := decide_eq_true c36
             clear c36
             replace H := Option.bind_eq_some_iff.mp H
             obtain ⟨t443, A370, H⟩ := H
             replace H : ((impl_CellAt.f k3 l0 (wrap64 (((rd_T38 l0 (rd x5_3 x6_3)).f0) - 1)) ((rd_T38 l0 (rd x5_3 x6_3)).f1)).bind fun t444 => ((impl_CellAt.f k3 l0 ((rd_T38 l0 (rd x5_3 x6_3)).f0) (wrap64 (((rd_T38 l0 (rd x5_3 x6_3)).f1) + 1))).bind fun t445 => ((impl_CellAt.f k3 l0 ((rd_T38 l0 (rd x5_3 x6_3)).f0) (wrap64 (((rd_T38 l0 (rd x5_3 x6_3)).f1) - 1))).bind fun t446 => ((some (([t443, t444, t445, t446] : List Int) : List Int)).bind fun y447 => (impl_TableOk.l2 k3 l0 x5_3 x6_3 y447 (y447.length : Int) 0))))) = some r := H
             have A37 := Aside0.mk A370
             clear A370
             replace H := Option.bind_eq_some_iff.mp H
             obtain ⟨t444, A380, H⟩ := H
             replace H : ((impl_CellAt.f k3 l0 ((rd_T38 l0 (rd x5_3 x6_3)).f0) (wrap64 (((rd_T38 l0 (rd x5_3 x6_3)).f1) + 1))).bind fun t445 => ((impl_CellAt.f k3 l0 ((rd_T38 l0 (rd x5_3 x6_3)).f0) (wrap64 (((rd_T38 l0 (rd x5_3 x6_3)).f1) - 1))).bind fun t446 => ((some (([t443, t444, t445, t446] : List Int) : List Int)).bind fun y447 => (impl_TableOk.l2 k3 l0 x5_3 x6_3 y447 (y447.length : Int) 0)))) = some r := H
             have A38 := Aside0.mk A380
             clear A380
             replace H := Option.bind_eq_some_iff.mp H
             obtain ⟨t445, A390, H⟩ := H
             replace H : ((impl_CellAt.f k3 l0 ((rd_T38 l0 (rd x5_3 x6_3)).f0) (wrap64 (((rd_T38 l0 (rd x5_3 x6_3)).f1) - 1))).bind fun t446 => ((some (([t443, t444, t445, t446] : List Int) : List Int)).bind fun y447 => (impl_TableOk.l2 k3 l0 x5_3 x6_3 y447 (y447.length : Int) 0))) = some r := H
             have A39 := Aside0.mk A390
             clear A390
             replace H := Option.bind_eq_some_iff.mp H
             obtain ⟨t446, A400, H⟩ := H
             replace H : ((some (([t443, t444, t445, t446] : List Int) : List Int)).bind fun y447 => (impl_TableOk.l2 k3 l0 x5_3 x6_3 y447 (y447.length : Int) 0)) = some r := H
             have A40 := Aside0.mk A400
             clear A400
             obtain ⟨y447, hy447⟩ : ∃ y_ : List Int, y_ = (([t443, t444, t445, t446] : List Int)) := ⟨_, rfl⟩
             replace H : (impl_TableOk.l2 k3 l0 x5_3 x6_3 y447 (y447.length : Int) 0) = some r := by first | (rw [hy447]; with_reducible exact H) | (have H2_ := (Option.bind_some _ _).symm.trans H; rw [hy447]; with_reducible exact H2_) | (have H2_ := (Option.bind_some _ _).symm.trans H; with_reducible exact H2_) | with_reducible exact H | (rw [hy447]; exact H) | exact H
             have Ny447 := Aside0.mk hy447
             clear hy447
             have H' := Aside0.mk H
             clear H
             obtain ⟨Ao41, co41, eo41⟩ := Kd.R_slice HO_5.out
             subst eo41
             have p440 : 0 ≤ (x6_3 : Int) := dX
             have q440 : x6_3 < (x5_3.length : Int) := dX
             obtain ⟨ad440, e440, hx440_0⟩ := Kd.at_int (Kd.R_reads' HO_5.out).2.2 x6_3 p440 q440
             cases e440
             replace p440 := eq_true p440
             replace q440 := eq_true q440
             have p441 : 0 ≤ ((rd x5_3 x6_3) : Int) := dX
             have q441 : (rd x5_3 x6_3) < (l0.length : Int) := dX
             obtain ⟨ad441, e441, hx441_0, hx441_1⟩ := at_T38 HR0.out (rd x5_3 x6_3) p441 q441
             cases e441
             replace hx441_0 := (HB.out.cell (World.block_lt_of_cell? w _ hx441_0)).trans hx441_0
             replace hx441_1 := (HB.out.cell (World.block_lt_of_cell? w _ hx441_1)).trans hx441_1
             replace p441 := eq_true p441
             replace q441 := eq_true q441
             try go_wp2_with (first | ((with_reducible refine gate_dst (N := 7) rfl ?_); (try (refine gate_guard (by rfl) ?_; dsimp only)); refine box_event ?hg (N := 7) ?hd (cs := #[.int .i64 0, .int .i64 0]) (t := 38) ?hr ?_; (case hd => rfl); (case hg => rfl); (case hr => first | (go_simp; done) | (go_simp; rfl)); intro gb442 hg w42 hbox hb; have n0_ := Aside0.mk (Kd.R_below (rX HO_5.out) hb); have n1_ := Aside0.mk (below_step (bX HB.out) hb); have n2_ := Aside0.mk (hbox); have n3_ := Aside0.mk ((by rw [hg]; exact (below_size (bX HB.out)) : w.heap.size ≤ gb442)); have n4_ := Aside0.mk ((by rw [hg]; exact (below_size (bX HB.out)) : w.heap.size ≤ gb442)); clear HO_5; clear HB; have HO_5 := n0_; have HB := n1_; have BK442 := n2_; have GW442 := n3_; have GE442 := n4_; clear n0_ n1_ n2_ n3_ n4_; clear hb hbox hg; have hcz43_0 : w42.cell? ⟨gb442, 0, none⟩ = some (.int .i64 0) := (blk_cell BK442.out 0).trans rfl; have hcz43_1 : w42.cell? ⟨gb442, 1, none⟩ = some (.int .i64 0) := (blk_cell BK442.out 1).trans rfl; have hfz43_0 := blk_frozen BK442.out 0; have hfz43_1 := blk_frozen BK442.out 1))
             have n0_ : Aside0 (Kd.R (Kd.int .i64) 3 ((w42.setCell ⟨gb442, 0, none⟩ (.int .i64 ((rd_T38 l0 (rd x5_3 x6_3)).f0))).setCell ⟨gb442, 1, none⟩ (.int .i64 ((rd_T38 l0 (rd x5_3 x6_3)).f1))) w.heap.size (fun _ => True) (.slice (some ad440) x5_3.length co41) x5_3) := ⟨by (with_reducible repeat (first|apply rA|apply rN|apply rD)); exact Kd.R_mono (Kd.R_far (p := ⟨gb442, 1, none⟩) (Kd.R_far (p := ⟨gb442, 0, none⟩) (Kd.R_types HO_5.out BK442.out (by decide)) (fun _ hk => hk.2) (.int .i64 ((rd_T38 l0 (rd x5_3 x6_3)).f0))) (fun _ hk => hk.2) (.int .i64 ((rd_T38 l0 (rd x5_3 x6_3)).f1))) (fun _ hk => trivial)⟩
             have n1_ : Aside0 (((w42.setCell ⟨gb442, 0, none⟩ (.int .i64 ((rd_T38 l0 (rd x5_3 x6_3)).f0))).setCell ⟨gb442, 1, none⟩ (.int .i64 ((rd_T38 l0 (rd x5_3 x6_3)).f1))).heap[gb442]? = some (.cells #[.int .i64 ((rd_T38 l0 (rd x5_3 x6_3)).f0), .int .i64 ((rd_T38 l0 (rd x5_3 x6_3)).f1)] 38 (0, 0))) := ⟨by (with_reducible repeat (first|refine kN ?_ _|refine kD ?_|refine kA ?_ _)); refine blk_put (cs := #[.int .i64 ((rd_T38 l0 (rd x5_3 x6_3)).f0), .int .i64 0]) ?_ 1 _ rfl; (with_reducible repeat (first|refine kN ?_ _|refine kD ?_|refine kA ?_ _)); refine blk_put (cs := #[.int .i64 0, .int .i64 0]) ?_ 0 _ rfl; (with_reducible repeat (first|refine kN ?_ _|refine kD ?_|refine kA ?_ _)); exact BK442.out⟩
             have n2_ : Aside0 (Below w.heap.size w ((w42.setCell ⟨gb442, 0, none⟩ (.int .i64 ((rd_T38 l0 (rd x5_3 x6_3)).f0))).setCell ⟨gb442, 1, none⟩ (.int .i64 ((rd_T38 l0 (rd x5_3 x6_3)).f1)))) := ⟨bX1 HB.out GE442.out⟩
             (try clear HO_5)
             (try clear BK442)
             (try clear HB)
             generalize ((w42.setCell ⟨gb442, 0, none⟩ (.int .i64 ((rd_T38 l0 (rd x5_3 x6_3)).f0))).setCell ⟨gb442, 1, none⟩ (.int .i64 ((rd_T38 l0 (rd x5_3 x6_3)).f1))) = w44 at n0_ n1_ n2_ ⊢
             have HO_5 := n0_
             have BK442 := n1_
             have HB := n2_
             clear n0_ n1_ n2_
             have n0_ := Aside0.mk (Kd.R_drew HO_5.out)
             have n1_ := Aside0.mk (blk_drew BK442.out)
             have n2_ := Aside0.mk (below_drew1 HB.out)
             clear HO_5
             clear BK442
             clear HB
             have HO_5 := n0_
             have BK442 := n1_
             have HB := n2_
             clear n0_ n1_ n2_
             refine start_ (n := 31) (S := fun w' => w'.cell? ⟨gb442, 0, none⟩ = some (.int .i64 ((rd_T38 l0 (rd x5_3 x6_3)).f0)) ∧ w'.cell? ⟨gb442, 1, none⟩ = some (.int .i64 ((rd_T38 l0 (rd x5_3 x6_3)).f1))) (ds := []) #[ff,ff,ff,ff,ff,ff,ff,ff,ff,ff,ff,ff,ff,ff,ff,ff,ff,ff,ff,ff,ff,ff,ff,ff,ff,ff,ff,ff,ff,ff,ff] (by kernel_rfl) rfl rfl ⟨(blk_cell BK442.out 0).trans rfl, (blk_cell BK442.out 1).trans rfl⟩ (fun hHeld => ?_); refine with_tabW impl_TableOk.tab16 impl_TableOk.bits16 (fun HT_ HW_ => ?_)
             generalize w44.drew = w45 at HO_5 BK442 HB hHeld ⊢
             refine pX 0 93 (fl 31 1) rfl rfl HT_.out ?_
             refine pX 1 94 (fl 31 3) rfl rfl HT_.out ?_
             refine pX 4 97 (fl 31 19) rfl rfl HT_.out ?_
             refine pX 7 100 (fl 31 147) rfl rfl HT_.out ?_
             refine pX 8 101 (fl 31 403) rfl rfl HT_.out ?_
             refine pX 11 104 (fl 31 2451) rfl rfl HT_.out ?_
             refine pX 14 107 (fl 31 18835) rfl rfl HT_.out ?_
             refine pX 15 108 (fl 31 51603) rfl rfl HT_.out ?_
             refine pX 17 110 (fl 31 182675) rfl rfl HT_.out ?_
             refine pX 21 114 (fl 31 2279827) rfl rfl HT_.out ?_
             refine pX 22 115 (fl 31 6474131) rfl rfl HT_.out ?_
             refine pX 24 117 (fl 31 23251347) rfl rfl HT_.out ?_
             refine pX 30 123 (fl 31 1096993171) rfl rfl HT_.out ?_
             refine tX2 2 95 (fl 31 1096993175) rfl rfl HT_.out HW_.out hHeld ?_
             refine pX 3 96 (fl 31 1096993183) rfl rfl HT_.out ?_
             refine tX2 5 98 (fl 31 1096993215) rfl rfl HT_.out HW_.out hHeld ?_
             refine tX2 9 102 (fl 31 1096993727) rfl rfl HT_.out HW_.out hHeld ?_
             refine pX 10 103 (fl 31 1096994751) rfl rfl HT_.out ?_
             refine tX2 12 105 (fl 31 1096998847) rfl rfl HT_.out HW_.out hHeld ?_
             refine tX2 16 109 (fl 31 1097064383) rfl rfl HT_.out HW_.out hHeld ?_
             refine tX2 18 111 (fl 31 1097326527) rfl rfl HT_.out HW_.out hHeld ?_
             refine pX 19 112 (fl 31 1097850815) rfl rfl HT_.out ?_
             refine tX2 23 116 (fl 31 1106239423) rfl rfl HT_.out HW_.out hHeld ?_
             refine tX2 25 118 (fl 31 1139793855) rfl rfl HT_.out HW_.out hHeld ?_
             refine pX 26 119 (fl 31 1206902719) rfl rfl HT_.out ?_
             refine one_ (i := 6) (N := some 99) #[tt,tt,tt,tt,tt,tt,tt,tt,tt,tt,tt,tt,tt,ff,tt,tt,tt,tt,tt,tt,ff,tt,tt,tt,tt,tt,tt,ff,ff,ff,tt] rfl rfl (one_of HT_.out (by kernel_rfl)) (by decide) (fun K hK => ?_)
             refine goes_ Tryz.func43 (by kernel_rfl) rfl #[.slice (some ad441) l0.length c0, .int .i64 (wrap64 (((rd_T38 l0 (rd x5_3 x6_3)).f0) + 1)), .int .i64 ((rd_T38 l0 (rd x5_3 x6_3)).f1)] (by rfl) rfl rfl (by (try simp only [zE,zF,zG]); first|done|rfl|(simp only [zH,zI]; rfl)) ?_
             with_reducible refine (impl_CellAt.calls k3 _ _ l0 (wrap64 (((rd_T38 l0 (rd x5_3 x6_3)).f0) + 1)) ((rd_T38 l0 (rd x5_3 x6_3)).f1) t443 _ ?side1 ?side2 A37.out).mono ?_
             (case side1 => repeat (first | exact (Kd.C_below HR0.out HB.out) | (with_reducible refine Kd.C_alloc ?_ _) | (with_reducible refine Kd.C_drewN ?_ _) | (with_reducible refine Kd.C_drew ?_)))
             (case side2 => exact HC0.out)
             rintro e w46 ⟨rfl, hb⟩
             refine ⟨_, rfl, ?_⟩
             have n0_ := Aside0.mk (Kd.R_below (rX HO_5.out) hb)
             have n1_ := Aside0.mk (blk_below (g := gb442) (o := .cells #[.int .i64 ((rd_T38 l0 (rd x5_3 x6_3)).f0), .int .i64 ((rd_T38 l0 (rd x5_3 x6_3)).f1)] 38 (0, 0)) (kX BK442.out) hb)
             have n2_ := Aside0.mk (below_step (bX1 HB.out GE442.out) hb)
             clear HO_5
             clear BK442
             clear HB
             have HO_5 := n0_
             have BK442 := n1_
             have HB := n2_
             clear n0_ n1_ n2_
             (try clear hb)
             (try clear hb2)
             (try clear hk)
             (try clear hi)
             refine hK.out _ _ ⟨(blk_cell BK442.out 0).trans rfl, (blk_cell BK442.out 1).trans rfl⟩ (fun hHeld => ?_)
             clear hK K
             refine norm_ (a' := ?_) ?_ ?_
             rotate_left
             ·show Act.put _ (some 99) _ = _
              simp only [Act.put, zA, zB, zC, i64_w, i32_w]
              rfl
             refine one_ (i := 13) (N := some 106) #[tt,tt,tt,tt,tt,tt,tt,tt,tt,tt,tt,tt,tt,tt,tt,tt,tt,tt,tt,tt,ff,tt,tt,tt,tt,tt,tt,ff,ff,ff,tt] rfl rfl (one_of HT_.out (by kernel_rfl)) (by decide) (fun K hK => ?_)
             refine goes_ Tryz.func43 (by kernel_rfl) rfl #[.slice (some ad441) l0.length c0, .int .i64 (wrap64 (((rd_T38 l0 (rd x5_3 x6_3)).f0) - 1)), .int .i64 ((rd_T38 l0 (rd x5_3 x6_3)).f1)] (by rfl) rfl rfl (by (try simp only [zE,zF,zG]); first|done|rfl|(simp only [zH,zI]; rfl)) ?_
             with_reducible refine (impl_CellAt.calls k3 _ _ l0 (wrap64 (((rd_T38 l0 (rd x5_3 x6_3)).f0) - 1)) ((rd_T38 l0 (rd x5_3 x6_3)).f1) t444 _ ?side1 ?side2 A38.out).mono ?_
             (case side1 => repeat (first | exact (Kd.C_below HR0.out HB.out) | (with_reducible refine Kd.C_alloc ?_ _) | (with_reducible refine Kd.C_drewN ?_ _) | (with_reducible refine Kd.C_drew ?_)))
             (case side2 => exact HC0.out)
             rintro e w47 ⟨rfl, hb⟩
             refine ⟨_, rfl, ?_⟩
             have n0_ := Aside0.mk (Kd.R_below (rX HO_5.out) hb)
             have n1_ := Aside0.mk (blk_below (g := gb442) (o := .cells #[.int .i64 ((rd_T38 l0 (rd x5_3 x6_3)).f0), .int .i64 ((rd_T38 l0 (rd x5_3 x6_3)).f1)] 38 (0, 0)) (kX BK442.out) hb)
             have n2_ := Aside0.mk (below_step (bX1 HB.out GE442.out) hb)
             clear HO_5
             clear BK442
             clear HB
             have HO_5 := n0_
             have BK442 := n1_
             have HB := n2_
             clear n0_ n1_ n2_
             (try clear hb)
             (try clear hb2)
             (try clear hk)
             (try clear hi)
             refine hK.out _ _ ⟨(blk_cell BK442.out 0).trans rfl, (blk_cell BK442.out 1).trans rfl⟩ (fun hHeld => ?_)
             clear hK K
             refine norm_ (a' := ?_) ?_ ?_
             rotate_left
             ·show Act.put _ (some 106) _ = _
              simp only [Act.put, zA, zB, zC, i64_w, i32_w]
              rfl
             refine one_ (i := 20) (N := some 113) #[tt,tt,tt,tt,tt,tt,tt,tt,tt,tt,tt,tt,tt,tt,tt,tt,tt,tt,tt,tt,tt,tt,tt,tt,tt,tt,tt,ff,ff,ff,tt] rfl rfl (one_of HT_.out (by kernel_rfl)) (by decide) (fun K hK => ?_)
             refine goes_ Tryz.func43 (by kernel_rfl) rfl #[.slice (some ad441) l0.length c0, .int .i64 ((rd_T38 l0 (rd x5_3 x6_3)).f0), .int .i64 (wrap64 (((rd_T38 l0 (rd x5_3 x6_3)).f1) + 1))] (by rfl) rfl rfl (by (try simp only [zE,zF,zG]); first|done|rfl|(simp only [zH,zI]; rfl)) ?_
             with_reducible refine (impl_CellAt.calls k3 _ _ l0 ((rd_T38 l0 (rd x5_3 x6_3)).f0) (wrap64 (((rd_T38 l0 (rd x5_3 x6_3)).f1) + 1)) t445 _ ?side1 ?side2 A39.out).mono ?_
             (case side1 => repeat (first | exact (Kd.C_below HR0.out HB.out) | (with_reducible refine Kd.C_alloc ?_ _) | (with_reducible refine Kd.C_drewN ?_ _) | (with_reducible refine Kd.C_drew ?_)))
             (case side2 => exact HC0.out)
             rintro e w48 ⟨rfl, hb⟩
             refine ⟨_, rfl, ?_⟩
             have n0_ := Aside0.mk (Kd.R_below (rX HO_5.out) hb)
             have n1_ := Aside0.mk (blk_below (g := gb442) (o := .cells #[.int .i64 ((rd_T38 l0 (rd x5_3 x6_3)).f0), .int .i64 ((rd_T38 l0 (rd x5_3 x6_3)).f1)] 38 (0, 0)) (kX BK442.out) hb)
             have n2_ := Aside0.mk (below_step (bX1 HB.out GE442.out) hb)
             clear HO_5
             clear BK442
             clear HB
             have HO_5 := n0_
             have BK442 := n1_
             have HB := n2_
             clear n0_ n1_ n2_
             (try clear hb)
             (try clear hb2)
             (try clear hk)
             (try clear hi)
             refine hK.out _ _ ⟨(blk_cell BK442.out 0).trans rfl, (blk_cell BK442.out 1).trans rfl⟩ (fun hHeld => ?_)
             clear hK K
             refine norm_ (a' := ?_) ?_ ?_
             rotate_left
             ·show Act.put _ (some 113) _ = _
              simp only [Act.put, zA, zB, zC, i64_w, i32_w]
              rfl
             refine one_ (i := 27) (N := some 120) #[tt,tt,tt,tt,tt,tt,tt,tt,tt,tt,tt,tt,tt,tt,tt,tt,tt,tt,tt,tt,tt,tt,tt,tt,tt,tt,tt,tt,ff,ff,tt] rfl rfl (one_of HT_.out (by kernel_rfl)) (by decide) (fun K hK => ?_)
             refine goes_ Tryz.func43 (by kernel_rfl) rfl #[.slice (some ad441) l0.length c0, .int .i64 ((rd_T38 l0 (rd x5_3 x6_3)).f0), .int .i64 (wrap64 (((rd_T38 l0 (rd x5_3 x6_3)).f1) - 1))] (by rfl) rfl rfl (by (try simp only [zE,zF,zG]); first|done|rfl|(simp only [zH,zI]; rfl)) ?_
             with_reducible refine (impl_CellAt.calls k3 _ _ l0 ((rd_T38 l0 (rd x5_3 x6_3)).f0) (wrap64 (((rd_T38 l0 (rd x5_3 x6_3)).f1) - 1)) t446 _ ?side1 ?side2 A40.out).mono ?_
             (case side1 => repeat (first | exact (Kd.C_below HR0.out HB.out) | (with_reducible refine Kd.C_alloc ?_ _) | (with_reducible refine Kd.C_drewN ?_ _) | (with_reducible refine Kd.C_drew ?_)))
             (case side2 => exact HC0.out)
             rintro e w49 ⟨rfl, hb⟩
             refine ⟨_, rfl, ?_⟩
             have n0_ := Aside0.mk (Kd.R_below (rX HO_5.out) hb)
             have n1_ := Aside0.mk (blk_below (g := gb442) (o := .cells #[.int .i64 ((rd_T38 l0 (rd x5_3 x6_3)).f0), .int .i64 ((rd_T38 l0 (rd x5_3 x6_3)).f1)] 38 (0, 0)) (kX BK442.out) hb)
             have n2_ := Aside0.mk (below_step (bX1 HB.out GE442.out) hb)
             clear HO_5
             clear BK442
             clear HB
             have HO_5 := n0_
             have BK442 := n1_
             have HB := n2_
             clear n0_ n1_ n2_
             (try clear hb)
             (try clear hb2)
             (try clear hk)
             (try clear hi)
             refine hK.out _ _ ⟨(blk_cell BK442.out 0).trans rfl, (blk_cell BK442.out 1).trans rfl⟩ (fun hHeld => ?_)
             clear hK K
             refine norm_ (a' := ?_) ?_ ?_
             rotate_left
             ·show Act.put _ (some 120) _ = _
              simp only [Act.put, zA, zB, zC, i64_w, i32_w]
              rfl
             refine one_ (i := 28) (N := some 121) #[tt,tt,tt,tt,tt,tt,tt,tt,tt,tt,tt,tt,tt,tt,tt,tt,tt,tt,tt,tt,tt,tt,tt,tt,tt,tt,tt,tt,tt,ff,tt] rfl rfl (one_of HT_.out (by kernel_rfl)) (by decide) (fun K hK => ?_)
             refine Kd.R_lit_step (Kd.int .i64) _ 3 ?hg (N := 121) ?hd (xs := ([t443, t444, t445, t446] : List Int)) (inner := [.int .i64 t443, .int .i64 t444, .int .i64 t445, .int .i64 t446]) (ok := fun _ => True) (okp := fun _ => True) ?hr ?hp (fun _ hk => hk) trivial (Below.refl _ _) (Nat.le_refl _) (by simp) ?_; (case hd => rfl); (case hg => rfl); (case hr => first | (go_simp; done) | (go_simp; rfl)); (case hp => exact (Reps.one (show Kd.M (Kd.int .i64) _ _ _ t443 [.int .i64 t443] from rfl) (Reps.one (show Kd.M (Kd.int .i64) _ _ _ t444 [.int .i64 t444] from rfl) (Reps.one (show Kd.M (Kd.int .i64) _ _ _ t445 [.int .i64 t445] from rfl) (Reps.one (show Kd.M (Kd.int .i64) _ _ _ t446 [.int .i64 t446] from rfl) (Reps.none _ _))))))
             intro v448 w50 ho51 hb hg_ hnew_
             clear hg_ hnew_
             (first | rw [← Ny447.out] at ho51 | (simp only [Int.reduceToNat] at ho51; rw [← Ny447.out] at ho51))
             have n0_ := Aside0.mk (Kd.R_elder' (rX HO_5.out) (Kd.R_base ho51) hb)
             have n1_ := Aside0.mk (Kd.R_lower (Kd.R_new' ho51 (Kd.R_lt (rX HO_5.out))) (below_size (bX1 HB.out GE442.out)))
             have n2_ := Aside0.mk (blk_below (g := gb442) (o := .cells #[.int .i64 ((rd_T38 l0 (rd x5_3 x6_3)).f0), .int .i64 ((rd_T38 l0 (rd x5_3 x6_3)).f1)] 38 (0, 0)) (kX BK442.out) hb)
             have n3_ := Aside0.mk (below_step (bX1 HB.out GE442.out) hb)
             clear HO_5
             clear BK442
             clear HB
             have HO_5 := n0_
             have HO449 := n1_
             have BK442 := n2_
             have HB := n3_
             clear n0_ n1_ n2_ n3_
             clear hb ho51
             obtain ⟨Ao52, co52, eo52⟩ := Kd.R_slice HO449.out
             (first | subst eo52 | (injection eo52 with f1_ f2_ f3_; have f4_ := f1_.symm; have f5_ := f3_.symm; clear f1_ f2_ f3_; subst f4_; subst f5_))
             refine hK.out _ _ ⟨(blk_cell BK442.out 0).trans rfl, (blk_cell BK442.out 1).trans rfl⟩ (fun hHeld => ?_)
             clear hK K
             refine norm_ (a' := ?_) ?_ ?_
             rotate_left
             ·show Act.put _ (some 121) _ = _
              simp only [Act.put, zA, zB, zC, i64_w, i32_w]
              rfl
             refine pX 29 122 (fl 31 2147483647) rfl rfl HT_.out ?_
             refine done_ (done_of HT_.out (by kernel_rfl)) ?_
             try go_wp2
             go_loopg [5, 123] k3 (fun kq v5 v123 w' => ∃ (x5_4 : List Int) (x123_4 : Int), v123 = .int .i64 x123_4 ∧ Aside0 (impl_TableOk.l2 kq l0 x5_4 x6_3 y447 (y447.length : Int) x123_4 = some r) ∧ Aside0 (kq ≤ k3) ∧ Aside0 (Kd.R (Kd.int .i64) 3 w' w.heap.size (fun k_ => some k_ ≠ ((.slice Ao52 y447.length co52) : Value).ownBlock) v5 x5_4) ∧ Aside0 (Kd.R (Kd.int .i64) 3 w' w.heap.size (fun k_ => some k_ ≠ (v5 : Value).ownBlock) (.slice Ao52 y447.length co52) y447) ∧ Aside0 (w'.heap[gb442]? = some (.cells #[.int .i64 ((rd_T38 l0 (rd x5_3 x6_3)).f0), .int .i64 ((rd_T38 l0 (rd x5_3 x6_3)).f1)] 38 (0, 0))) ∧ Aside0 (Below w.heap.size w w'))
             case atStart => exact ⟨(x5_3), (0), vX, H', ⟨Nat.le_refl _⟩, ⟨rM HO_5.out (fun _ hk => hk.2)⟩, ⟨rM HO449.out (fun _ hk => hk.2)⟩, ⟨kX BK442.out⟩, ⟨bX1 HB.out GE442.out⟩⟩
             case round =>
              clear H'
              try clear c1
              try clear c2
              try clear p2
              try clear c3
              try clear c4
              try clear p4
              try clear q4
              try clear hx4
              try clear c5
              try clear c5b0
              try clear c6
              try clear p6
              try clear c7
              try clear c19
              try clear c19b0
              try clear c21
              try clear c22
              try clear c25
              try clear c25b0
              try clear c25b1
              try clear c33
              try clear c33b0
              try clear c34
              try clear c34b0
              try clear c35
              try clear c35b0
              try clear c36
              try clear c36b0
              try clear c43
              try clear p43
              try clear q43
              try clear hx43
              try clear p44
              try clear q44
              try clear hx44
              try clear hcz43_0
              try clear hcz43_1
              try clear hfz43_0
              try clear hfz43_1
              try clear hx434_0
              try clear hx434_1
              try clear hx435_0
              try clear hx435_1
              try clear hx440_0
              try clear hx441_0
              try clear hx441_1
              try clear p2
              try clear p4
              try clear p434
              try clear p435
              try clear p440
              try clear p441
              try clear p6
              try clear q4
              try clear q434
              try clear q435
              try clear q440
              try clear q441
              obtain ⟨x5_4, x123_4, rfl, HA, HK4, HO_5, HO_121, BK442, HB⟩ := hrel
              cases gk with
              | zero => exact absurd HA.out (by simp [impl_TableOk.l2])
              | succ k4 =>
               have H := HA.out
               clear HA
               simp only [impl_TableOk.l2] at H
               by_cases c53 : x123_4 < (y447.length : Int)
               ·rw [if_pos c53] at H
                have c53b0 : decide (x123_4 < (y447.length : Int)) = true := decide_eq_true c53
                clear c53
                by_cases c54 : 0 ≤ x123_4
                ·rw [if_pos c54] at H
                 have c54b0 : decide (0 ≤ x123_4) = true := decide_eq_true c54
                 clear c54
                 by_cases c55 : x123_4 < (y447.length : Int)
                 ·rw [if_pos c55] at H
                  have c55b0 : decide (x123_4 < (y447.length : Int)) = true := decide_eq_true c55
                  clear c55
                  by_cases c56 : (rd y447 x123_4) ≥ 0
                  ·rw [if_pos c56] at H
                   have c56b0 : decide (0 ≤ (rd y447 x123_4)) = true := decide_eq_true c56
                   clear c56
                   replace H := Option.bind_eq_some_iff.mp H
                   obtain ⟨t451, A570, H⟩ := H
                   replace H : (if t451 = true then (impl_TableOk.l2 k4 l0 x5_4 x6_3 y447 (y447.length : Int) (wrap64 (x123_4 + 1))) else (if x5_4.length < 17592186044416 then (impl_TableOk.l2 k4 l0 (x5_4 ++ [rd y447 x123_4]) x6_3 y447 (y447.length : Int) (wrap64 (x123_4 + 1))) else (none))) = some r := H
                   have A57 := Aside0.mk A570
                   clear A570
                   by_cases c58 : t451 = true
                   ·subst c58
                    have H1 : (impl_TableOk.l2 k4 l0 x5_4 x6_3 y447 (y447.length : Int) (wrap64 (x123_4 + 1))) = some r := by rw [if_pos rfl] at H; exact H
                    clear H
                    have H := H1
                    clear H1
                    have H' := Aside0.mk H
                    clear H
                    have p450 : 0 ≤ (x123_4 : Int) := dX
                    have q450 : x123_4 < (y447.length : Int) := dX
                    obtain ⟨ad450, e450, hx450_0⟩ := Kd.at_int (Kd.R_reads' HO_121.out).2.2 x123_4 p450 q450
                    cases e450
                    replace p450 := eq_true p450
                    replace q450 := eq_true q450
                    obtain ⟨Ao59, co59, eo59⟩ := Kd.R_slice HO_5.out
                    subst eo59
                    go_wp2_with (first | (go_at_call 44; (with_reducible refine (slices_Contains_int_int.calls k4 _ _ x5_4 (rd y447 x123_4) true _ ?side1 ?side2 A57.out).mono ?_); (case side1 => exact cX (Kd.R_reads' HO_5.out).2.2); (case side2 => exact (Kd.R_reads' HO_5.out).2.1); rintro e w' ⟨rfl, ⟨nd, rfl⟩⟩))
                    go_roundg k4
                    case measure => have := HJ1.out; have := HK2.out; have := HK3.out; have := HK4.out; omega
                    case rel => exact ⟨(x5_4), (wrap64 (x123_4 + 1)), vX, H', ⟨by have := HJ1.out; have := HK2.out; have := HK3.out; have := HK4.out; omega⟩, ⟨rX HO_5.out⟩, ⟨rX HO_121.out⟩, ⟨kX BK442.out⟩, ⟨bX1 HB.out GE442.out⟩⟩
                   ·replace c58 := Bool.eq_false_iff.mpr c58
                    subst c58
                    have H1 : (if x5_4.length < 17592186044416 then (impl_TableOk.l2 k4 l0 (x5_4 ++ [rd y447 x123_4]) x6_3 y447 (y447.length : Int) (wrap64 (x123_4 + 1))) else (none)) = some r := by rw [if_neg (show ¬ (false = true) by decide)] at H; exact H
                    clear H
                    have H := H1
                    clear H1
                    by_cases c60 : x5_4.length < 17592186044416
                    ·rw [if_pos c60] at H
                     have LMc60 := Aside0.mk c60
                     clear c60
                     obtain ⟨y452, hy452⟩ : ∃ y_ : List Int, y_ = (x5_4 ++ [rd y447 x123_4]) := ⟨_, rfl⟩
                     replace H : (impl_TableOk.l2 k4 l0 y452 x6_3 y447 (y447.length : Int) (wrap64 (x123_4 + 1))) = some r := by first | (rw [hy452]; with_reducible exact H) | (have H2_ := (Option.bind_some _ _).symm.trans H; rw [hy452]; with_reducible exact H2_) | (have H2_ := (Option.bind_some _ _).symm.trans H; with_reducible exact H2_) | with_reducible exact H | (rw [hy452]; exact H) | exact H
                     have Ny452 := Aside0.mk hy452
                     clear hy452
                     have H' := Aside0.mk H
                     clear H
                     have p450 : 0 ≤ (x123_4 : Int) := dX
                     have q450 : x123_4 < (y447.length : Int) := dX
                     obtain ⟨ad450, e450, hx450_0⟩ := Kd.at_int (Kd.R_reads' HO_121.out).2.2 x123_4 p450 q450
                     cases e450
                     replace p450 := eq_true p450
                     replace q450 := eq_true q450
                     obtain ⟨Ao61, co61, eo61⟩ := Kd.R_slice HO_5.out
                     subst eo61
                     go_wp2_with (first | (go_at_call 44; (with_reducible refine (slices_Contains_int_int.calls k4 _ _ x5_4 (rd y447 x123_4) false _ ?side1 ?side2 A57.out).mono ?_); (case side1 => exact cX (Kd.R_reads' HO_5.out).2.2); (case side2 => exact (Kd.R_reads' HO_5.out).2.1); rintro e w' ⟨rfl, ⟨nd, rfl⟩⟩) | ((with_reducible refine gate_builtin (b := .append) (xs := #[.tmp 135, .tmp 137]) rfl ?_); (try (refine gate_guard (by rfl) ?_; dsimp only)); at_builtin; refine Kd.R_append (Kd.int .i64) (w0 := w) w.heap.size rfl (.tmp 135) (.tmp 137) 23 3 (.int .i64 0) 8 rfl Tryz.underlying23 info3 rfl (by decide) (by omega) (.slice Ao61 x5_4.length co61) x5_4 (rd y447 x123_4) [.int .i64 (rd y447 x123_4)] (fun k_ => some k_ ≠ (.slice (some ad450) y447.length co52 : Value).ownBlock) (fun _ => False) rfl rfl ?aP (fun _ hk => hk.elim) ?aF ?aO ?aB ?aS ?aL ?_; (case aP => exact rfl); (case aB => exact (bX1 HB.out GE442.out)); (case aF => exact (fun k_ hk => Kd.fresh' (Kd.R_lt (rX HO_121.out)) k_ hk)); (case aO => exact (rX HO_5.out)); (case aS => exact (below_size (bX1 HB.out GE442.out))); (case aL => have := LMc60.out; omega); intro v453 w62 ho hb hg hat; rw [← Ny452.out] at ho; have n0_ := Aside0.mk (Kd.R_after (ok := (fun _ => True)) (rM HO_121.out (fun _ hk => ⟨trivial, hk⟩)) hg hat); have n1_ := Aside0.mk (blk_grown (g := gb442) (o := .cells #[.int .i64 ((rd_T38 l0 (rd x5_3 x6_3)).f0), .int .i64 ((rd_T38 l0 (rd x5_3 x6_3)).f1)] 38 (0, 0)) (kX BK442.out) hg (Kd.R_ne HO_5.out BK442.out (by decide))); have n2_ := Aside0.mk (hb); have n3_ := Aside0.mk (ho); clear HO_121; clear BK442; clear HB; clear HO_5; have HO_121 := n0_; have BK442 := n1_; have HB := n2_; have HO454 := n3_; clear n0_ n1_ n2_ n3_; clear ho hb hg hat))
                     go_roundg k4
                     case measure => have := HJ1.out; have := HK2.out; have := HK3.out; have := HK4.out; omega
                     case rel => exact ⟨(y452), (wrap64 (x123_4 + 1)), vX, H', ⟨by have := HJ1.out; have := HK2.out; have := HK3.out; have := HK4.out; omega⟩, ⟨rX HO454.out⟩, ⟨rM HO_121.out (fun _ hk => hk.2)⟩, ⟨kX BK442.out⟩, ⟨bX1 HB.out GE442.out⟩⟩
                    ·rw [if_neg c60] at H
                     exact absurd H (by simp)
                  ·rw [if_neg c56] at H
                   have c56b0 : decide (0 ≤ (rd y447 x123_4)) = false := decide_eq_false c56
                   clear c56
                   have H' := Aside0.mk H
                   clear H
                   have p450 : 0 ≤ (x123_4 : Int) := dX
                   have q450 : x123_4 < (y447.length : Int) := dX
                   obtain ⟨ad450, e450, hx450_0⟩ := Kd.at_int (Kd.R_reads' HO_121.out).2.2 x123_4 p450 q450
                   cases e450
                   replace p450 := eq_true p450
                   replace q450 := eq_true q450
                   go_wp2
                   go_roundg k4
                   case measure => have := HJ1.out; have := HK2.out; have := HK3.out; have := HK4.out; omega
                   case rel => exact ⟨(x5_4), (wrap64 (x123_4 + 1)), vX, H', ⟨by have := HJ1.out; have := HK2.out; have := HK3.out; have := HK4.out; omega⟩, ⟨rX HO_5.out⟩, ⟨rX HO_121.out⟩, ⟨kX BK442.out⟩, ⟨bX1 HB.out GE442.out⟩⟩
                 ·rw [if_neg c55] at H
                  exact absurd H (by simp)
                ·rw [if_neg c54] at H
                 exact absurd H (by simp)
               ·rw [if_neg c53] at H
                have c53b0 : decide (x123_4 < (y447.length : Int)) = false := decide_eq_false c53
                clear c53
                have H' := Aside0.mk H
                clear H
                go_wp2
                go_roundg k4
                case measure => have := HJ1.out; have := HK2.out; have := HK3.out; have := HK4.out; omega
                case rel => exact ⟨(x5_4), (wrap64 (x6_3 + 1)), vX, H', ⟨by have := HJ1.out; have := HK2.out; have := HK3.out; have := HK4.out; omega⟩, ⟨rM HO_5.out (fun _ hk => trivial)⟩, ⟨bX1 HB.out GE442.out⟩⟩
            ·rw [if_neg c36] at H
             exact absurd H (by simp)
           ·rw [if_neg c35] at H
            exact absurd H (by simp)
          ·rw [if_neg c34] at H
           exact absurd H (by simp)
         ·rw [if_neg c33] at H
          have c33b0 : decide (x6_3 < (x5_3.length : Int)) = false := decide_eq_false c33
          clear c33
          obtain rfl := Option.some.inj H
          obtain ⟨Ao63, co63, eo63⟩ := Kd.R_slice HO_5.out
          subst eo63
          go_wp2
          go_ret
          exact ⟨eX, bX HB.out⟩

/-! ### impl_FormatTable: function 9 -/
def impl_FormatTable.l0 : Nat → List ByteArray → List (S38) → Int → Int → Option (ByteArray)
 | 0, _, _, _, _ => none
 | k + 1, x3, x10, x11, x12 => if x12 < x11 then (if 0 ≤ x12 then (if x12 < (x10.length : Int) then ((impl_FormatInt.f ((rd_T38 x10 x12).f0)).bind fun t461 => (if t461.size + 1 ≤ 9223372036854775807 then ((impl_FormatInt.f ((rd_T38 x10 x12).f1)).bind fun t462 => (if (t461 ++ (⟨#[44]⟩ : ByteArray)).size + t462.size ≤ 9223372036854775807 then (if x3.length < 8796093022208 then (impl_FormatTable.l0 k (x3 ++ [(t461 ++ (⟨#[44]⟩ : ByteArray)) ++ t462]) x10 x11 (wrap64 (x12 + 1))) else (none)) else (none))) else (none))) else (none)) else (none)) else ((impl_Join.f x3 (⟨#[32]⟩ : ByteArray)).bind fun t466 => (some t466))
def impl_FormatTable.f (k : Nat) (l0 : List (S38)) : Option (ByteArray) := (impl_TableOk.f k l0).bind fun t455 => (if t455 = true then (impl_FormatTable.l0 k (([] : List ByteArray)) l0 (l0.length : Int) 0) else (some (⟨#[]⟩ : ByteArray)))
def impl_FormatTable.T7 : Bool × List (List Nat × List Nat) := (true, [([], []), ([], []), ([1], [1]), ([2], [2]), ([3], [3]), ([], []), ([5], [5]), ([6, 3], [6]), ([4, 7], [4, 7]), ([8], [8]), ([0, 9, 7], [0, 9]), ([10, 10, 0, 1, 2, 3, 4, 5, 6, 7, 8, 9, 10], [0, 10])])
def impl_FormatTable.B7 : List Nat := [0, 0, 2, 6, 14, 0, 32, 110, 254, 510, 1023, 2047]
theorem impl_FormatTable.tab7 : rtab .any (opsOf Tryz.f9 7) = impl_FormatTable.T7 := by kernel_rfl
theorem impl_FormatTable.bits7 : waitsOk impl_FormatTable.T7.2 impl_FormatTable.B7 = true := by kernel_rfl
set_option maxHeartbeats 8000000 in
set_option maxRecDepth 100000 in
theorem impl_FormatTable.calls (k : Nat) (A0 : Option Addr) (c0 : Nat) (l0 : List (S38)) (r : ByteArray) (w : World) (hr0 : Kd.C k38 w A0 l0.length l0) (hc0 : l0.length ≤ c0) (htab_ : PowTab w) (h : impl_FormatTable.f k l0 = some r) :
  Calls Tryz.prog 9 #[.slice A0 l0.length c0] w fun e w' => e = .returned (.string r) ∧ Below w.heap.size w w' := by
 have hu38 := Tryz.underlying38
 have HR0 := Aside0.mk hr0
 have HC0 := Aside0.mk hc0
 clear hr0 hc0
 have HB := Aside0.mk (Below.refl w.heap.size w)
 have H : ((impl_TableOk.f k l0).bind fun t455 => (if t455 = true then (impl_FormatTable.l0 k (([] : List ByteArray)) l0 (l0.length : Int) 0) else (some (⟨#[]⟩ : ByteArray)))) = some r := h
 clear h
 have HTAB := Aside0.mk htab_
 clear htab_
 replace H := Option.bind_eq_some_iff.mp H
 obtain ⟨t455, A20, H⟩ := H
 replace H : (if t455 = true then (impl_FormatTable.l0 k (([] : List ByteArray)) l0 (l0.length : Int) 0) else (some (⟨#[]⟩ : ByteArray))) = some r := H
 have A2 := Aside0.mk A20
 clear A20
 by_cases c3 : t455 = true
 ·subst c3
  have H1 : (impl_FormatTable.l0 k (([] : List ByteArray)) l0 (l0.length : Int) 0) = some r := by rw [if_pos rfl] at H; exact H
  clear H
  have H := H1
  clear H1
  obtain ⟨y456, hy456⟩ : ∃ y_ : List ByteArray, y_ = (([] : List ByteArray)) := ⟨_, rfl⟩
  replace H : (impl_FormatTable.l0 k y456 l0 (l0.length : Int) 0) = some r := by first | (rw [hy456]; with_reducible exact H) | (have H2_ := (Option.bind_some _ _).symm.trans H; rw [hy456]; with_reducible exact H2_) | (have H2_ := (Option.bind_some _ _).symm.trans H; with_reducible exact H2_) | with_reducible exact H | (rw [hy456]; exact H) | exact H
  have Ny456 := Aside0.mk hy456
  clear hy456
  have H' := Aside0.mk H
  clear H
  go_enter Tryz.func9, Tryz.ntmps9
  go_wp2_with (first | ((with_reducible refine gate_callee (f := 24) rfl ?_); refine goesL_ (some 7) rfl rfl Tryz.func24 (by kernel_rfl) rfl #[.slice A0 l0.length c0] rfl (by (try simp only [zE,zF,zG]); first|done|rfl|(simp only [zH,zI]; rfl)) ?_; (with_reducible refine (impl_TableOk.calls k _ _ l0 true _ ?side1 ?side2 A2.out).mono ?_); (case side1 => exact cX HR0.out); (case side2 => exact HC0.out); rintro e w4 ⟨rfl, hb⟩; refine ⟨_, rfl, ?_⟩; have n0_ := Aside0.mk (below_step (bX HB.out) hb); clear HB; have HB := n0_; clear n0_; (try clear hb); (try clear hb2); (try clear hk); (try clear hi)) | ((with_reducible refine gate_dst (N := 9) rfl ?_); refine Kd.R_lit Kd.string _ 9 ?hg (N := 9) ?hd (xs := ([] : List ByteArray)) (inner := []) (ok := fun _ => True) (okp := fun _ => True) ?hr ?hp (fun _ hk => hk) trivial (Below.refl _ _) (Nat.le_refl _) (by simp) ?_; (case hd => rfl); (case hg => rfl); (case hr => first | (go_simp; done) | (go_simp; rfl)); (case hp => exact (Reps.none _ _)); intro v457 w5 ho6 hb hg_ hnew_; clear hg_ hnew_; (first | rw [← Ny456.out] at ho6 | (simp only [Int.reduceToNat] at ho6; rw [← Ny456.out] at ho6)); have n0_ := Aside0.mk (Kd.R_lower ho6 (below_size (bX HB.out))); have n1_ := Aside0.mk (below_step (bX HB.out) hb); clear HB; have HO458 := n0_; have HB := n1_; clear n0_ n1_; clear hb ho6))
  go_loopg [3, 12] k (fun kq v3 v12 w' => ∃ (x3_1 : List ByteArray) (x12_1 : Int), v12 = .int .i64 x12_1 ∧ Aside0 (impl_FormatTable.l0 kq x3_1 l0 (l0.length : Int) x12_1 = some r) ∧ Aside0 (kq ≤ k) ∧ Aside0 (Kd.R Kd.string 9 w' w.heap.size (fun _ => True) v3 x3_1) ∧ Aside0 (Below w.heap.size w w'))
  case atStart => exact ⟨(y456), (0), vX, H', ⟨Nat.le_refl _⟩, ⟨rX HO458.out⟩, ⟨bX HB.out⟩⟩
  case round =>
   clear H'
   try clear c2
   try clear p2
   try clear c3
   obtain ⟨x3_1, x12_1, rfl, HA, HK1, HO_3, HB⟩ := hrel
   cases gk with
   | zero => exact absurd HA.out (by simp [impl_FormatTable.l0])
   | succ k1 =>
    have H := HA.out
    clear HA
    simp only [impl_FormatTable.l0] at H
    by_cases c7 : x12_1 < (l0.length : Int)
    ·rw [if_pos c7] at H
     have c7b0 : decide (x12_1 < (l0.length : Int)) = true := decide_eq_true c7
     clear c7
     by_cases c8 : 0 ≤ x12_1
     ·rw [if_pos c8] at H
      have c8b0 : decide (0 ≤ x12_1) = true := decide_eq_true c8
      clear c8
      by_cases c9 : x12_1 < (l0.length : Int)
      ·rw [if_pos c9] at H
       have c9b0 : decide (x12_1 < (l0.length : Int)) = true := decide_eq_true c9
       clear c9
       replace H := Option.bind_eq_some_iff.mp H
       obtain ⟨t461, A100, H⟩ := H
       replace H : (if t461.size + 1 ≤ 9223372036854775807 then ((impl_FormatInt.f ((rd_T38 l0 x12_1).f1)).bind fun t462 => (if (t461 ++ (⟨#[44]⟩ : ByteArray)).size + t462.size ≤ 9223372036854775807 then (if x3_1.length < 8796093022208 then (impl_FormatTable.l0 k1 (x3_1 ++ [(t461 ++ (⟨#[44]⟩ : ByteArray)) ++ t462]) l0 (l0.length : Int) (wrap64 (x12_1 + 1))) else (none)) else (none))) else (none)) = some r := H
       have A10 := Aside0.mk A100
       clear A100
       by_cases c11 : t461.size + 1 ≤ 9223372036854775807
       ·rw [if_pos c11] at H
        have c11b0 := eq_true c11
        have c11b1 : decide (t461.size + 1 ≤ 9223372036854775807) = true := decide_eq_true c11
        try have c11b2 : (9223372036854775807 < t461.size + 1) = False := eq_false (Nat.not_lt.2 c11)
        replace H := Option.bind_eq_some_iff.mp H
        obtain ⟨t462, A120, H⟩ := H
        replace H : (if (t461 ++ (⟨#[44]⟩ : ByteArray)).size + t462.size ≤ 9223372036854775807 then (if x3_1.length < 8796093022208 then (impl_FormatTable.l0 k1 (x3_1 ++ [(t461 ++ (⟨#[44]⟩ : ByteArray)) ++ t462]) l0 (l0.length : Int) (wrap64 (x12_1 + 1))) else (none)) else (none)) = some r := H
        have A12 := Aside0.mk A120
        clear A120
        by_cases c13 : (t461 ++ (⟨#[44]⟩ : ByteArray)).size + t462.size ≤ 9223372036854775807
        ·rw [if_pos c13] at H
         have c13b0 := eq_true c13
         have c13b1 : decide ((t461 ++ (⟨#[44]⟩ : ByteArray)).size + t462.size ≤ 9223372036854775807) = true := decide_eq_true c13
         try have c13b2 : (9223372036854775807 < (t461 ++ (⟨#[44]⟩ : ByteArray)).size + t462.size) = False := eq_false (Nat.not_lt.2 c13)
         try have c13b3 : (9223372036854775807 < t461.size + 1 + t462.size) = False := eq_false (Nat.not_lt.2 (by have hz_ := c13; simp only [ByteArray.size_append] at hz_; first | exact hz_ | omega))
         by_cases c14 : x3_1.length < 8796093022208
         ·rw [if_pos c14] at H
          have LMc14 := Aside0.mk c14
          clear c14
          obtain ⟨y463, hy463⟩ : ∃ y_ : List ByteArray, y_ = (x3_1 ++ [(t461 ++ (⟨#[44]⟩ : ByteArray)) ++ t462]) := ⟨_, rfl⟩
          replace H : (impl_FormatTable.l0 k1 y463 l0 (l0.length : Int) (wrap64 (x12_1 + 1))) = some r := by first | (rw [hy463]; with_reducible exact H) | (have H2_ := (Option.bind_some _ _).symm.trans H; rw [hy463]; with_reducible exact H2_) | (have H2_ := (Option.bind_some _ _).symm.trans H; with_reducible exact H2_) | with_reducible exact H | (rw [hy463]; exact H) | exact H
          have Ny463 := Aside0.mk hy463
          clear hy463
          have H' := Aside0.mk H
          clear H
          have p459 : 0 ≤ (x12_1 : Int) := dX
          have q459 : x12_1 < (l0.length : Int) := dX
          obtain ⟨ad459, e459, hx459_0, hx459_1⟩ := at_T38 HR0.out x12_1 p459 q459
          cases e459
          replace hx459_0 := (HB.out.cell (World.block_lt_of_cell? w _ hx459_0)).trans hx459_0
          replace hx459_1 := (HB.out.cell (World.block_lt_of_cell? w _ hx459_1)).trans hx459_1
          replace p459 := eq_true p459
          replace q459 := eq_true q459
          try go_wp2_with (first | ((with_reducible refine gate_dst (N := 5) rfl ?_); refine box_event ?hg (N := 5) ?hd (cs := #[.int .i64 0, .int .i64 0]) (t := 38) ?hr ?_; (case hd => rfl); (case hg => rfl); (case hr => first | (go_simp; done) | (go_simp; rfl)); intro gb460 hg w15 hbox hb; have n0_ := Aside0.mk (Kd.R_below (rX HO_3.out) hb); have n1_ := Aside0.mk (below_step (bX HB.out) hb); have n2_ := Aside0.mk (hbox); have n3_ := Aside0.mk ((by rw [hg]; exact (below_size (bX HB.out)) : w.heap.size ≤ gb460)); have n4_ := Aside0.mk ((by rw [hg]; exact (below_size (bX HB.out)) : w.heap.size ≤ gb460)); clear HO_3; clear HB; have HO_3 := n0_; have HB := n1_; have BK460 := n2_; have GW460 := n3_; have GE460 := n4_; clear n0_ n1_ n2_ n3_ n4_; clear hb hbox hg; have hcz16_0 : w15.cell? ⟨gb460, 0, none⟩ = some (.int .i64 0) := (blk_cell BK460.out 0).trans rfl; have hcz16_1 : w15.cell? ⟨gb460, 1, none⟩ = some (.int .i64 0) := (blk_cell BK460.out 1).trans rfl; have hfz16_0 := blk_frozen BK460.out 0; have hfz16_1 := blk_frozen BK460.out 1))
          have n0_ : Aside0 (Kd.R Kd.string 9 ((w15.setCell ⟨gb460, 0, none⟩ (.int .i64 ((rd_T38 l0 x12_1).f0))).setCell ⟨gb460, 1, none⟩ (.int .i64 ((rd_T38 l0 x12_1).f1))) w.heap.size (fun _ => True) u3 x3_1) := ⟨by (with_reducible repeat (first|apply rA|apply rN|apply rD)); exact Kd.R_mono (Kd.R_far (p := ⟨gb460, 1, none⟩) (Kd.R_far (p := ⟨gb460, 0, none⟩) (Kd.R_types HO_3.out BK460.out (by decide)) (fun _ hk => hk.2) (.int .i64 ((rd_T38 l0 x12_1).f0))) (fun _ hk => hk.2) (.int .i64 ((rd_T38 l0 x12_1).f1))) (fun _ hk => trivial)⟩
          have n1_ : Aside0 (((w15.setCell ⟨gb460, 0, none⟩ (.int .i64 ((rd_T38 l0 x12_1).f0))).setCell ⟨gb460, 1, none⟩ (.int .i64 ((rd_T38 l0 x12_1).f1))).heap[gb460]? = some (.cells #[.int .i64 ((rd_T38 l0 x12_1).f0), .int .i64 ((rd_T38 l0 x12_1).f1)] 38 (0, 0))) := ⟨by (with_reducible repeat (first|refine kN ?_ _|refine kD ?_|refine kA ?_ _)); refine blk_put (cs := #[.int .i64 ((rd_T38 l0 x12_1).f0), .int .i64 0]) ?_ 1 _ rfl; (with_reducible repeat (first|refine kN ?_ _|refine kD ?_|refine kA ?_ _)); refine blk_put (cs := #[.int .i64 0, .int .i64 0]) ?_ 0 _ rfl; (with_reducible repeat (first|refine kN ?_ _|refine kD ?_|refine kA ?_ _)); exact BK460.out⟩
          have n2_ : Aside0 (Below w.heap.size w ((w15.setCell ⟨gb460, 0, none⟩ (.int .i64 ((rd_T38 l0 x12_1).f0))).setCell ⟨gb460, 1, none⟩ (.int .i64 ((rd_T38 l0 x12_1).f1)))) := ⟨bX1 HB.out GE460.out⟩
          (try clear HO_3)
          (try clear BK460)
          (try clear HB)
          generalize ((w15.setCell ⟨gb460, 0, none⟩ (.int .i64 ((rd_T38 l0 x12_1).f0))).setCell ⟨gb460, 1, none⟩ (.int .i64 ((rd_T38 l0 x12_1).f1))) = w17 at n0_ n1_ n2_ ⊢
          have HO_3 := n0_
          have BK460 := n1_
          have HB := n2_
          clear n0_ n1_ n2_
          have n0_ := Aside0.mk (Kd.R_drew HO_3.out)
          have n1_ := Aside0.mk (blk_drew BK460.out)
          have n2_ := Aside0.mk (below_drew1 HB.out)
          clear HO_3
          clear BK460
          clear HB
          have HO_3 := n0_
          have BK460 := n1_
          have HB := n2_
          clear n0_ n1_ n2_
          refine start_ (n := 12) (S := fun w' => w'.cell? ⟨gb460, 0, none⟩ = some (.int .i64 ((rd_T38 l0 x12_1).f0)) ∧ w'.cell? ⟨gb460, 1, none⟩ = some (.int .i64 ((rd_T38 l0 x12_1).f1))) (ds := []) #[ff,ff,ff,ff,ff,ff,ff,ff,ff,ff,ff,ff] (by kernel_rfl) rfl rfl ⟨(blk_cell BK460.out 0).trans rfl, (blk_cell BK460.out 1).trans rfl⟩ (fun hHeld => ?_); refine with_tabW impl_FormatTable.tab7 impl_FormatTable.bits7 (fun HT_ HW_ => ?_)
          generalize w17.drew = w18 at HO_3 BK460 HB hHeld ⊢
          refine pX 0 16 (fl 12 1) rfl rfl HT_.out ?_
          refine pX 1 17 (fl 12 3) rfl rfl HT_.out ?_
          refine pX 5 21 (fl 12 35) rfl rfl HT_.out ?_
          refine tX2 2 18 (fl 12 39) rfl rfl HT_.out HW_.out hHeld ?_
          refine tX2 6 22 (fl 12 103) rfl rfl HT_.out HW_.out hHeld ?_
          refine one_ (i := 3) (N := some 19) #[tt,tt,tt,tt,ff,tt,tt,ff,ff,ff,ff,ff] rfl rfl (one_of HT_.out (by kernel_rfl)) (by decide) (fun K hK => ?_)
          refine goes_ Tryz.func25 (by kernel_rfl) rfl #[.int .i64 ((rd_T38 l0 x12_1).f0)] (by rfl) rfl rfl (by (try simp only [zE,zF,zG]); first|done|rfl|(simp only [zH,zI]; rfl)) ?_
          with_reducible refine (impl_FormatInt.calls ((rd_T38 l0 x12_1).f0) t461 _ ?side1 A10.out).mono ?_
          (case side1 => exact PowTab.below HTAB.out (bX1 HB.out GE460.out))
          rintro e w19 ⟨rfl, hb⟩
          refine ⟨_, rfl, ?_⟩
          have n0_ := Aside0.mk (Kd.R_below (rX HO_3.out) hb)
          have n1_ := Aside0.mk (blk_below (g := gb460) (o := .cells #[.int .i64 ((rd_T38 l0 x12_1).f0), .int .i64 ((rd_T38 l0 x12_1).f1)] 38 (0, 0)) (kX BK460.out) hb)
          have n2_ := Aside0.mk (below_step (bX1 HB.out GE460.out) hb)
          clear HO_3
          clear BK460
          clear HB
          have HO_3 := n0_
          have BK460 := n1_
          have HB := n2_
          clear n0_ n1_ n2_
          (try clear hb)
          (try clear hb2)
          (try clear hk)
          (try clear hi)
          refine hK.out _ _ ⟨(blk_cell BK460.out 0).trans rfl, (blk_cell BK460.out 1).trans rfl⟩ (fun hHeld => ?_)
          clear hK K
          refine norm_ (a' := ?_) ?_ ?_
          rotate_left
          ·show Act.put _ (some 19) _ = _
           simp only [Act.put, zA, zB, zC, i64_w, i32_w]
           rfl
          refine pX 4 20 (fl 12 127) rfl rfl HT_.out ?_
          refine one_ (i := 7) (N := some 23) #[tt,tt,tt,tt,tt,tt,tt,tt,ff,ff,ff,ff] rfl rfl (one_of HT_.out (by kernel_rfl)) (by decide) (fun K hK => ?_)
          refine goes_ Tryz.func25 (by kernel_rfl) rfl #[.int .i64 ((rd_T38 l0 x12_1).f1)] (by rfl) rfl rfl (by (try simp only [zE,zF,zG]); first|done|rfl|(simp only [zH,zI]; rfl)) ?_
          with_reducible refine (impl_FormatInt.calls ((rd_T38 l0 x12_1).f1) t462 _ ?side1 A12.out).mono ?_
          (case side1 => exact PowTab.below HTAB.out (bX1 HB.out GE460.out))
          rintro e w20 ⟨rfl, hb⟩
          refine ⟨_, rfl, ?_⟩
          have n0_ := Aside0.mk (Kd.R_below (rX HO_3.out) hb)
          have n1_ := Aside0.mk (blk_below (g := gb460) (o := .cells #[.int .i64 ((rd_T38 l0 x12_1).f0), .int .i64 ((rd_T38 l0 x12_1).f1)] 38 (0, 0)) (kX BK460.out) hb)
          have n2_ := Aside0.mk (below_step (bX1 HB.out GE460.out) hb)
          clear HO_3
          clear BK460
          clear HB
          have HO_3 := n0_
          have BK460 := n1_
          have HB := n2_
          clear n0_ n1_ n2_
          (try clear hb)
          (try clear hb2)
          (try clear hk)
          (try clear hi)
          refine hK.out _ _ ⟨(blk_cell BK460.out 0).trans rfl, (blk_cell BK460.out 1).trans rfl⟩ (fun hHeld => ?_)
          clear hK K
          refine norm_ (a' := ?_) ?_ ?_
          rotate_left
          ·show Act.put _ (some 23) _ = _
           simp only [Act.put, zA, zB, zC, i64_w, i32_w]
           rfl
          refine pX 8 24 (fl 12 511) rfl rfl HT_.out ?_
          refine one_ (i := 9) (N := some 25) #[tt,tt,tt,tt,tt,tt,tt,tt,tt,tt,ff,ff] rfl rfl (one_of HT_.out (by kernel_rfl)) (by decide) (fun K hK => ?_)
          refine value_ (w1 := ?_) (v := ?_) (by rfl) rfl ?_ ?_
          rotate_left 2
          ·go_simp
           constructor
           ·rfl
           ·rfl
          refine hK.out _ _ ⟨(blk_cell (blk_alloc BK460.out _) 0).trans rfl, (blk_cell (blk_alloc BK460.out _) 1).trans rfl⟩ (fun hHeld => ?_)
          clear hK K
          refine norm_ (a' := ?_) ?_ ?_
          rotate_left
          ·show Act.put _ (some 25) _ = _
           simp only [Act.put, zA, zB, zC, i64_w, i32_w]
           rfl
          refine one_ (i := 10) (N := some 26) #[tt,tt,tt,tt,tt,tt,tt,tt,tt,tt,tt,ff] rfl rfl (one_of HT_.out (by kernel_rfl)) (by decide) (fun K hK => ?_)
          refine Kd.R_append_step Kd.string (w0 := w) w.heap.size (by rfl) (.tmp 16) (.tmp 25) 52 9 (.string ⟨#[]⟩) 16 rfl Tryz.underlying52 info9 rfl (by decide) (by omega) u3 x3_1 ((t461 ++ (⟨#[44]⟩ : ByteArray)) ++ t462) [.string ((t461 ++ (⟨#[44]⟩ : ByteArray)) ++ t462)] (fun _ => True) (fun _ => False) rfl rfl ?aP (fun _ hk => hk.elim) ?aF ?aO ?aB ?aS ?aL ?_
          (case aP => exact rfl)
          (case aB => exact (bX1 HB.out GE460.out))
          (case aF => exact (fun _ _ => trivial))
          (case aO => exact (rX HO_3.out))
          (case aS => exact (below_size (bX1 HB.out GE460.out)))
          (case aL => have := LMc14.out; omega)
          intro v464 w21 ho hb hg hat
          rw [← Ny463.out] at ho
          have n0_ := Aside0.mk (blk_grown (g := gb460) (o := .cells #[.int .i64 ((rd_T38 l0 x12_1).f0), .int .i64 ((rd_T38 l0 x12_1).f1)] 38 (0, 0)) (kX BK460.out) hg (Kd.R_ne HO_3.out BK460.out (by decide)))
          have n1_ := Aside0.mk (hb)
          have n2_ := Aside0.mk (ho)
          clear BK460
          clear HB
          clear HO_3
          have BK460 := n0_
          have HB := n1_
          have HO465 := n2_
          clear n0_ n1_ n2_
          clear ho hb hg hat
          refine hK.out _ _ ⟨(blk_cell BK460.out 0).trans rfl, (blk_cell BK460.out 1).trans rfl⟩ (fun hHeld => ?_)
          clear hK K
          refine norm_ (a' := ?_) ?_ ?_
          rotate_left
          ·show Act.put _ (some 26) _ = _
           simp only [Act.put, zA, zB, zC, i64_w, i32_w]
           rfl
          refine pX 11 3 (fl 12 4095) rfl rfl HT_.out ?_
          refine done_ (done_of HT_.out (by kernel_rfl)) ?_
          try go_wp2
          go_roundg k1
          case measure => have := HK1.out; omega
          case rel => exact ⟨(y463), (wrap64 (x12_1 + 1)), vX, H', ⟨by have := HK1.out; omega⟩, ⟨rX HO465.out⟩, ⟨bX1 HB.out GE460.out⟩⟩
         ·rw [if_neg c14] at H
          exact absurd H (by simp)
        ·rw [if_neg c13] at H
         exact absurd H (by simp)
       ·rw [if_neg c11] at H
        exact absurd H (by simp)
      ·rw [if_neg c9] at H
       exact absurd H (by simp)
     ·rw [if_neg c8] at H
      exact absurd H (by simp)
    ·rw [if_neg c7] at H
     have c7b0 : decide (x12_1 < (l0.length : Int)) = false := decide_eq_false c7
     clear c7
     replace H := Option.bind_eq_some_iff.mp H
     obtain ⟨t466, A220, H⟩ := H
     replace H : (some t466) = some r := H
     have A22 := Aside0.mk A220
     clear A220
     obtain rfl := Option.some.inj H
     obtain ⟨Ao23, co23, eo23⟩ := Kd.R_slice HO_3.out
     subst eo23
     go_wp2_with (first | ((with_reducible refine gate_callee (f := 26) rfl ?_); refine goesL_ (some 29) rfl rfl Tryz.func26 (by kernel_rfl) rfl #[.slice Ao23 x3_1.length co23, .string (⟨#[32]⟩ : ByteArray)] rfl (by (try simp only [zE,zF,zG]); first|done|rfl|(simp only [zH,zI]; rfl)) ?_; (with_reducible refine (impl_Join.calls _ _ x3_1 (⟨#[32]⟩ : ByteArray) t466 _ ?side1 ?side2 A22.out).mono ?_); (case side1 => exact cX (Kd.R_reads' HO_3.out).2.2); (case side2 => exact (Kd.R_reads' HO_3.out).2.1); rintro e w24 ⟨rfl, hb⟩; refine ⟨_, rfl, ?_⟩; have n0_ := Aside0.mk (Kd.R_below (rX HO_3.out) hb); have n1_ := Aside0.mk (below_step (bX HB.out) hb); clear HO_3; clear HB; have HO_3 := n0_; have HB := n1_; clear n0_ n1_; (try clear hb); (try clear hb2); (try clear hk); (try clear hi)))
     go_ret
     exact ⟨eX, bX HB.out⟩
 ·replace c3 := Bool.eq_false_iff.mpr c3
  subst c3
  have H1 : (some (⟨#[]⟩ : ByteArray)) = some r := by rw [if_neg (show ¬ (false = true) by decide)] at H; exact H
  clear H
  have H := H1
  clear H1
  obtain rfl := Option.some.inj H
  go_enter Tryz.func9, Tryz.ntmps9
  go_wp2_with (first | ((with_reducible refine gate_callee (f := 24) rfl ?_); refine goesL_ (some 7) rfl rfl Tryz.func24 (by kernel_rfl) rfl #[.slice A0 l0.length c0] rfl (by (try simp only [zE,zF,zG]); first|done|rfl|(simp only [zH,zI]; rfl)) ?_; (with_reducible refine (impl_TableOk.calls k _ _ l0 false _ ?side1 ?side2 A2.out).mono ?_); (case side1 => exact cX HR0.out); (case side2 => exact HC0.out); rintro e w25 ⟨rfl, hb⟩; refine ⟨_, rfl, ?_⟩; have n0_ := Aside0.mk (below_step (bX HB.out) hb); clear HB; have HB := n0_; clear n0_; (try clear hb); (try clear hb2); (try clear hk); (try clear hi)))
  go_ret
  exact ⟨eX, bX HB.out⟩

end Go.Proofs.YtfomhkfgdggngaaGreatDoor.S
