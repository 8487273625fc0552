-- PRINTED by print.py (a twelfth state) out of the translation. Not trusted: Lean checks it.
import Derived.Test.YtfomhkfgdggngaaDoorS0
import Derived.Test.YtfomhkfgdggngaaDoorS4
import Derived.Test.YtfomhkfgdggngaaDoorS5
import Derived.Test.YtfomhkfgdggngaaDoorS6
namespace Go.Proofs.YtfomhkfgdggngaaDoor.S
open Go.RowKit Go.Proofs.YtfomhkfgdggngaaDoorW.PrintWords Go.Proofs.YtfomhkfgdggngaaDoorW.PrintLast Go.Proofs.YtfomhkfgdggngaaDoorW.PrintMore
attribute [local go_sem] max2_int min2_int max_two min_two max_three min_three max_four min_four   -- for this text's walks alone
set_option linter.unusedVariables false
set_option linter.unusedSimpArgs false

/-! ### impl_FixedPoints: function 16 -/
mutual
def impl_FixedPoints.l0 : Nat → List Int → List Int → List Int → Int → Int → List Int → List Int → Option (List Int × Bool)
 | 0, _, _, _, _, _, _, _ => none
 | k + 1, x1, x6, x27, x28, x29, x470000, x470001 => if x29 < x28 then (if 0 ≤ x29 then (if x29 < (x27.length : Int) then (if (rd x27 x29) = x29 then (if 0 < (x6.length : Int) then (impl_FixedPoints.j1 k x1 (x6.set (0 : Int).toNat (wrap64 ((rd x6 0) + 1))) x29 (rd x27 x29) x27 x28 x29 x470000 x470001) else (none)) else (impl_FixedPoints.j1 k x1 x6 x29 (rd x27 x29) x27 x28 x29 x470000 x470001)) else (none)) else (none)) else ((impl_InversePerm.f k x470000).bind fun t486 => ((impl_InversePerm.f k x470001).bind fun t489 => (if 0 ≤ (x1.length : Int) then (if ((x1.length : Int) : Int).toNat ≤ 35184372088832 then ((impl_CornersOf.f k x470000 x470001).bind fun t495 => (impl_FixedPoints.l1 k x1 x6 t486 t489 (List.replicate ((x1.length : Int) : Int).toNat 0) t495 t495 (t495.length : Int) 0)) else (none)) else (none))))
def impl_FixedPoints.j1 : Nat → List Int → List Int → Int → Int → List Int → Int → Int → List Int → List Int → Option (List Int × Bool)
 | 0, _, _, _, _, _, _, _, _, _ => none
 | k + 1, x1, x6, x7, x8, x27, x28, x29, x470000, x470001 => if 0 ≤ x7 then (if x7 < (x470000.length : Int) then (if x8 = (rd x470000 x7) then (if 1 < (x6.length : Int) then ((some (x6.set (1 : Int).toNat (wrap64 ((rd x6 1) + 1)) : List Int)).bind fun y479 => (if x7 < (x470001.length : Int) then (if x8 = (rd x470001 x7) then (if 2 < (x6.length : Int) then (impl_FixedPoints.l0 k x1 (y479.set (2 : Int).toNat (wrap64 ((rd y479 2) + 1))) x27 x28 (wrap64 (x29 + 1)) x470000 x470001) else (none)) else (impl_FixedPoints.l0 k x1 y479 x27 x28 (wrap64 (x29 + 1)) x470000 x470001)) else (none))) else (none)) else (if x7 < (x470001.length : Int) then (if x8 = (rd x470001 x7) then (if 2 < (x6.length : Int) then (impl_FixedPoints.l0 k x1 (x6.set (2 : Int).toNat (wrap64 ((rd x6 2) + 1))) x27 x28 (wrap64 (x29 + 1)) x470000 x470001) else (none)) else (impl_FixedPoints.l0 k x1 x6 x27 x28 (wrap64 (x29 + 1)) x470000 x470001)) else (none))) else (none)) else (none)
def impl_FixedPoints.l1 : Nat → List Int → List Int → List Int → List Int → List Int → List (List Int) → List (List Int) → Int → Int → Option (List Int × Bool)
 | 0, _, _, _, _, _, _, _, _, _ => none
 | k + 1, x1, x6, x9, x10, x11, x12, x78, x79, x80 => if x80 < x79 then (if 0 ≤ x80 then (if x80 < (x78.length : Int) then (impl_FixedPoints.l2 k x1 x6 x9 x10 x11 x12 x80 x78 x79 x80 (rd_L1 x78 x80) ((rd_L1 x78 x80).length : Int) 0) else (none)) else (none)) else (impl_FixedPoints.l3 k x1 x6 x9 x10 x11 x12 (x12.length : Int) 0)
def impl_FixedPoints.l2 : Nat → List Int → List Int → List Int → List Int → List Int → List (List Int) → Int → List (List Int) → Int → Int → List Int → Int → Int → Option (List Int × Bool)
 | 0, _, _, _, _, _, _, _, _, _, _, _, _, _ => none
 | k + 1, x1, x6, x9, x10, x11, x12, x13, x78, x79, x80, x85, x86, x87 => if x87 < x86 then (if 0 ≤ x87 then (if x87 < (x85.length : Int) then (if 0 ≤ (rd x85 x87) then (if (rd x85 x87) < (x11.length : Int) then (impl_FixedPoints.l2 k x1 x6 x9 x10 (x11.set ((rd x85 x87) : Int).toNat x13) x12 x13 x78 x79 x80 x85 x86 (wrap64 (x87 + 1))) else (none)) else (none)) else (none)) else (none)) else (impl_FixedPoints.l1 k x1 x6 x9 x10 x11 x12 x78 x79 (wrap64 (x80 + 1)))
def impl_FixedPoints.l3 : Nat → List Int → List Int → List Int → List Int → List Int → List (List Int) → Int → Int → Option (List Int × Bool)
 | 0, _, _, _, _, _, _, _, _ => none
 | k + 1, x1, x6, x9, x10, x11, x97, x98, x99 => if x99 < x98 then (if 0 ≤ x99 then (if x99 < (x97.length : Int) then (impl_FixedPoints.l4 k x1 x6 x9 x10 x11 x99 true x97 x98 x99 (rd_L1 x97 x99) ((rd_L1 x97 x99).length : Int) 0) else (none)) else (none)) else (some (x6, true))
def impl_FixedPoints.l4 : Nat → List Int → List Int → List Int → List Int → List Int → Int → Bool → List (List Int) → Int → Int → List Int → Int → Int → Option (List Int × Bool)
 | 0, _, _, _, _, _, _, _, _, _, _, _, _, _ => none
 | k + 1, x1, x6, x9, x10, x11, x17, x19, x97, x98, x99, x104, x105, x106 => if x106 < x105 then (if 0 ≤ x106 then (if x106 < (x104.length : Int) then (if x19 = true then (if 0 ≤ (rd x104 x106) then (if (rd x104 x106) < (x1.length : Int) then (if 0 ≤ (rd x1 (rd x104 x106)) then (if (rd x1 (rd x104 x106)) < (x9.length : Int) then (if 0 ≤ (rd x9 (rd x1 (rd x104 x106))) then (if (rd x9 (rd x1 (rd x104 x106))) < (x10.length : Int) then (if 0 ≤ (rd x10 (rd x9 (rd x1 (rd x104 x106)))) then (if (rd x10 (rd x9 (rd x1 (rd x104 x106)))) < (x11.length : Int) then (impl_FixedPoints.l4 k x1 x6 x9 x10 x11 x17 ((rd x11 (rd x10 (rd x9 (rd x1 (rd x104 x106))))) == x17) x97 x98 x99 x104 x105 (wrap64 (x106 + 1))) else (none)) else (none)) else (none)) else (none)) else (none)) else (none)) else (none)) else (none)) else (impl_FixedPoints.l4 k x1 x6 x9 x10 x11 x17 false x97 x98 x99 x104 x105 (wrap64 (x106 + 1)))) else (none)) else (none)) else (if x19 = true then (if 3 < (x6.length : Int) then (impl_FixedPoints.l3 k x1 (x6.set (3 : Int).toNat (wrap64 ((rd x6 3) + 1))) x9 x10 x11 x97 x98 (wrap64 (x99 + 1))) else (none)) else (impl_FixedPoints.l3 k x1 x6 x9 x10 x11 x97 x98 (wrap64 (x99 + 1))))
end
def impl_FixedPoints.f (k : Nat) (l0_0 : List Int) (l0_1 : List Int) (l1 : List Int) : Option (List Int × Bool) := (impl_IsTurn.f k l0_0 l0_1 l1).bind fun t470 => (if t470 = true then (if 4 ≤ 35184372088832 then (impl_FixedPoints.l0 k l1 (List.replicate 4 0) l1 (l1.length : Int) 0 l0_0 l0_1) else (none)) else (some (([] : List Int), false)))
set_option maxHeartbeats 8000000 in
set_option maxRecDepth 100000 in
theorem impl_FixedPoints.calls (k : Nat) (A0_0 : Option Addr) (c0_0 : Nat) (l0_0 : List Int) (A0_1 : Option Addr) (c0_1 : Nat) (l0_1 : List Int) (A1 : Option Addr) (c1 : Nat) (l1 : List Int) (r1 : List Int) (r2 : Bool) (w : World) (hr0_0 : Kd.C (Kd.int .i64) w A0_0 l0_0.length l0_0) (hc0_0 : l0_0.length ≤ c0_0) (hr0_1 : Kd.C (Kd.int .i64) w A0_1 l0_1.length l0_1) (hc0_1 : l0_1.length ≤ c0_1) (hr1 : Kd.C (Kd.int .i64) w A1 l1.length l1) (hc1 : l1.length ≤ c1) (h : impl_FixedPoints.f k l0_0 l0_1 l1 = some (r1, r2)) :
  Calls Tryd.prog 16 #[.agg #[.slice A0_0 l0_0.length c0_0, .slice A0_1 l0_1.length c0_1], .slice A1 l1.length c1] w fun e w' => ∃ v0_ : Value, e = .returned (.tuple #[v0_, .bool r2]) ∧ Kd.R (Kd.int .i64) 3 w' w.heap.size (fun _ => True) v0_ r1 ∧ Below w.heap.size w w' := by
 have hu27 := Tryd.underlying27
 have HR0_0 := Aside0.mk hr0_0
 have HC0_0 := Aside0.mk hc0_0
 clear hr0_0 hc0_0
 have HR0_1 := Aside0.mk hr0_1
 have HC0_1 := Aside0.mk hc0_1
 clear hr0_1 hc0_1
 have HR1 := Aside0.mk hr1
 have HC1 := Aside0.mk hc1
 clear hr1 hc1
 have HB := Aside0.mk (Below.refl w.heap.size w)
 have H : ((impl_IsTurn.f k l0_0 l0_1 l1).bind fun t470 => (if t470 = true then (if 4 ≤ 35184372088832 then (impl_FixedPoints.l0 k l1 (List.replicate 4 0) l1 (l1.length : Int) 0 l0_0 l0_1) else (none)) else (some (([] : List Int), false)))) = some (r1, r2) := h
 clear h
 replace H := Option.bind_eq_some_iff.mp H
 obtain ⟨t470, A30, H⟩ := H
 replace H : (if t470 = true then (if 4 ≤ 35184372088832 then (impl_FixedPoints.l0 k l1 (List.replicate 4 0) l1 (l1.length : Int) 0 l0_0 l0_1) else (none)) else (some (([] : List Int), false))) = some (r1, r2) := H
 have A3 := Aside0.mk A30
 clear A30
 by_cases c4 : t470 = true
 ·subst c4
  have H1 : (if 4 ≤ 35184372088832 then (impl_FixedPoints.l0 k l1 (List.replicate 4 0) l1 (l1.length : Int) 0 l0_0 l0_1) else (none)) = some (r1, r2) := by rw [if_pos rfl] at H; exact H
  clear H
  have H := H1
  clear H1
  by_cases c5 : 4 ≤ 35184372088832
  ·rw [if_pos c5] at H
   have c5b0 := eq_true c5
   have c5b1 : decide (4 ≤ 35184372088832) = true := decide_eq_true c5
   clear c5
   obtain ⟨y471, hy471⟩ : ∃ y_ : List Int, y_ = (List.replicate 4 0) := ⟨_, rfl⟩
   replace H : (impl_FixedPoints.l0 k l1 y471 l1 (l1.length : Int) 0 l0_0 l0_1) = some (r1, r2) := by first | (rw [hy471]; with_reducible exact H) | (have H2_ := (Option.bind_some _ _).symm.trans H; rw [hy471]; with_reducible exact H2_) | (have H2_ := (Option.bind_some _ _).symm.trans H; with_reducible exact H2_) | with_reducible exact H | (rw [hy471]; exact H) | exact H
   have Ny471 := Aside0.mk hy471
   clear hy471
   have H' := Aside0.mk H
   clear H
   go_enter Tryd.func16, Tryd.ntmps16
   go_wp2_with (first | ((with_reducible refine gate_dst (N := 2) rfl ?_); refine box_event ?hg (N := 2) ?hd (cs := #[.slice A0_0 l0_0.length c0_0, .slice A0_1 l0_1.length c0_1]) (t := 27) ?hr ?_; (case hd => rfl); (case hg => rfl); (case hr => first | (go_simp; done) | (go_simp; rfl)); intro gb469 hg w6 hbox hb; have n0_ := Aside0.mk (below_step (bX HB.out) hb); have n1_ := Aside0.mk (hbox); have n2_ := Aside0.mk ((by rw [hg]; exact (below_size (bX HB.out)) : w.heap.size ≤ gb469)); have n3_ := Aside0.mk ((by rw [hg]; exact (below_size (bX HB.out)) : w.heap.size ≤ gb469)); clear HB; have HB := n0_; have BK469 := n1_; have GW469 := n2_; have GE469 := n3_; clear n0_ n1_ n2_ n3_; clear hb hbox hg; have hcz7_0 : w6.cell? ⟨gb469, 0, none⟩ = some (.slice A0_0 l0_0.length c0_0) := (blk_cell BK469.out 0).trans rfl; have hcz7_1 : w6.cell? ⟨gb469, 1, none⟩ = some (.slice A0_1 l0_1.length c0_1) := (blk_cell BK469.out 1).trans rfl; have hfz7_0 := blk_frozen BK469.out 0; have hfz7_1 := blk_frozen BK469.out 1) | ((with_reducible refine gate_callee (f := 32) rfl ?_); refine goesL_ (some 24) rfl rfl Tryd.func32 (by kernel_rfl) rfl #[.agg #[.slice A0_0 l0_0.length c0_0, .slice A0_1 l0_1.length c0_1], .slice A1 l1.length c1] rfl (by (try simp only [zE,zF,zG]); first|done|rfl|(simp only [zH,zI]; rfl)) ?_; (with_reducible refine (impl_IsTurn.calls k _ _ l0_0 _ _ l0_1 _ _ l1 true _ ?side1 ?side2 ?side3 ?side4 ?side5 ?side6 A3.out).mono ?_); (case side1 => repeat (first | exact (Kd.C_below HR0_0.out HB.out) | (with_reducible refine Kd.C_alloc ?_ _) | (with_reducible refine Kd.C_drewN ?_ _) | (with_reducible refine Kd.C_drew ?_))); (case side2 => exact HC0_0.out); (case side3 => repeat (first | exact (Kd.C_below HR0_1.out HB.out) | (with_reducible refine Kd.C_alloc ?_ _) | (with_reducible refine Kd.C_drewN ?_ _) | (with_reducible refine Kd.C_drew ?_))); (case side4 => exact HC0_1.out); (case side5 => repeat (first | exact (Kd.C_below HR1.out HB.out) | (with_reducible refine Kd.C_alloc ?_ _) | (with_reducible refine Kd.C_drewN ?_ _) | (with_reducible refine Kd.C_drew ?_))); (case side6 => exact HC1.out); rintro e w8 ⟨rfl, hb⟩; refine ⟨_, rfl, ?_⟩; have n0_ := Aside0.mk (blk_below (g := gb469) (o := .cells #[.slice A0_0 l0_0.length c0_0, .slice A0_1 l0_1.length c0_1] 27 (0, 0)) (kX BK469.out) hb); have n1_ := Aside0.mk (below_step (bX1 HB.out GE469.out) hb); clear BK469; clear HB; have BK469 := n0_; have HB := n1_; clear n0_ n1_; (try clear hb); (try clear hb2); (try clear hk); (try clear hi)) | ((with_reducible refine gate_dst (N := 26) rfl ?_); refine Kd.R_make (Kd.int .i64) _ 3 rfl (N := 26) rfl 22 _ _ rfl 4 rfl rfl Tryd.underlying22 (.int .i64 0) 8 info3 rfl (by decide) (by omega) 0 (ok := fun _ => True) (okp := fun _ => True) rfl (fun _ hk => hk) trivial (by omega) (by omega) (Below.refl _ _) (Nat.le_refl _) ?_; intro v472 w9 ho10 hb hg_ hnew_; clear hg_ hnew_; (first | rw [← Ny471.out] at ho10 | (simp only [Int.reduceToNat] at ho10; rw [← Ny471.out] at ho10)); have n0_ := Aside0.mk (Kd.R_lower ho10 (below_size (bX1 HB.out GE469.out))); have n1_ := Aside0.mk (blk_below (g := gb469) (o := .cells #[.slice A0_0 l0_0.length c0_0, .slice A0_1 l0_1.length c0_1] 27 (0, 0)) (kX BK469.out) hb); have n2_ := Aside0.mk (below_step (bX1 HB.out GE469.out) hb); clear BK469; clear HB; have HO473 := n0_; have BK469 := n1_; have HB := n2_; clear n0_ n1_ n2_; clear hb ho10))
   go_loopg [29] k (fun kq v29 w' => ∃ (x6_1 : List Int) (x29_1 : Int), v29 = .int .i64 x29_1 ∧ Aside0 (impl_FixedPoints.l0 kq l1 x6_1 l1 (l1.length : Int) x29_1 l0_0 l0_1 = some (r1, r2)) ∧ Aside0 (kq ≤ k) ∧ Aside0 (Kd.R (Kd.int .i64) 3 w' w.heap.size (fun _ => True) v472 x6_1) ∧ Aside0 (w'.heap[gb469]? = some (.cells #[(.slice A0_0 l0_0.length c0_0), (.slice A0_1 l0_1.length c0_1)] 27 (0, 0))) ∧ Aside0 (Below w.heap.size w w'))
   case atStart => exact ⟨(y471), (0), vX, H', ⟨Nat.le_refl _⟩, ⟨rX HO473.out⟩, ⟨kX BK469.out⟩, ⟨bX1 HB.out GE469.out⟩⟩
   case round =>
    clear H'
    try clear c1
    try clear p2
    try clear c3
    try clear c4
    try clear c5
    try clear c5b0
    try clear c5b1
    try clear hcz7_0
    try clear hcz7_1
    try clear hfz7_0
    try clear hfz7_1
    obtain ⟨x6_1, x29_1, rfl, HA, HK1, HO_6, BK469, HB⟩ := hrel
    cases gk with
    | zero => exact absurd HA.out (by simp [impl_FixedPoints.l0])
    | succ k1 =>
     have H := HA.out
     clear HA
     simp only [impl_FixedPoints.l0] at H
     by_cases c11 : x29_1 < (l1.length : Int)
     ·rw [if_pos c11] at H
      have c11b0 : decide (x29_1 < (l1.length : Int)) = true := decide_eq_true c11
      clear c11
      by_cases c12 : 0 ≤ x29_1
      ·rw [if_pos c12] at H
       have c12b0 : decide (0 ≤ x29_1) = true := decide_eq_true c12
       clear c12
       by_cases c13 : x29_1 < (l1.length : Int)
       ·rw [if_pos c13] at H
        have c13b0 : decide (x29_1 < (l1.length : Int)) = true := decide_eq_true c13
        clear c13
        have HC14 := Aside0.mk H
        clear H
        have p474 : 0 ≤ (x29_1 : Int) := dX
        have q474 : x29_1 < (l1.length : Int) := dX
        obtain ⟨ad474, e474, hx474_0⟩ := Kd.at_int HR1.out x29_1 p474 q474
        cases e474
        (try replace hx474_0 := (HB.out.cell (World.block_lt_of_cell? w _ hx474_0)).trans hx474_0)
        replace p474 := eq_true p474
        replace q474 := eq_true q474
        go_upto_if 36 with (fail)
        go_cut [] (fun wc => ∃ (kq : Nat) (x6_13 : List Int), Aside0 (impl_FixedPoints.j1 kq l1 x6_13 x29_1 (rd l1 x29_1) l1 (l1.length : Int) x29_1 l0_0 l0_1 = some (r1, r2)) ∧ Aside0 (kq ≤ k1) ∧ Aside0 (Kd.R (Kd.int .i64) 3 wc w.heap.size (fun _ => True) v472 x6_13) ∧ Aside0 (wc.heap[gb469]? = some (.cells #[(.slice A0_0 l0_0.length c0_0), (.slice A0_1 l0_1.length c0_1)] 27 (0, 0))) ∧ Aside0 (Below w.heap.size w wc))
        case first =>
         have H := HC14.out
         clear HC14
         by_cases c15 : (rd l1 x29_1) = x29_1
         ·rw [if_pos c15] at H
          have c15b0 : ((rd l1 x29_1) == x29_1) = true := beq_iff_eq.mpr c15
          have c15b1 : ((rd l1 x29_1) != x29_1) = false := bne_eq_false_iff_eq.mpr c15
          clear c15
          (first | rw [c15b0] | (simp only [i64_w, i32_w]; rw [c15b0]) | skip)
          by_cases c16 : 0 < (x6_1.length : Int)
          ·rw [if_pos c16] at H
           have c16b0 : decide (0 < (x6_1.length : Int)) = true := decide_eq_true c16
           have c16b1 : decide (0 < x6_1.length) = true := decide_eq_true (by omega)
           clear c16
           obtain ⟨y476, hy476⟩ : ∃ y_ : List Int, y_ = (x6_1.set (0 : Int).toNat (wrap64 ((rd x6_1 0) + 1))) := ⟨_, rfl⟩
           replace H : (impl_FixedPoints.j1 k1 l1 y476 x29_1 (rd l1 x29_1) l1 (l1.length : Int) x29_1 l0_0 l0_1) = some (r1, r2) := by first | (rw [hy476]; with_reducible exact H) | (have H2_ := (Option.bind_some _ _).symm.trans H; rw [hy476]; with_reducible exact H2_) | (have H2_ := (Option.bind_some _ _).symm.trans H; with_reducible exact H2_) | with_reducible exact H | (rw [hy476]; exact H) | exact H
           have Ny476 := Aside0.mk hy476
           clear hy476
           have H' := Aside0.mk H
           clear H
           obtain ⟨Ao18, co18, eo18⟩ := Kd.R_slice HO_6.out
           subst eo18
           have p475 : 0 ≤ (0 : Int) := (by omega)
           have q475 : 0 < (x6_1.length : Int) := dX
           obtain ⟨ad475, e475, hx475_0⟩ := Kd.at_int (Kd.R_reads' HO_6.out).2.2 0 p475 q475
           cases e475
           have qi475 : (0 < x6_1.length) = True := eq_true (by omega)
           (try rw [show ((0 : Int)).toNat = 0 from rfl] at hx475_0)
           (try rw [Addr.add_zero'] at hx475_0)
           replace p475 := eq_true p475
           replace q475 := eq_true q475
           have p17 : 0 ≤ (0 : Int) := (by omega)
           have q17 : (0 : Int) < ((x6_1.length : Int) : Int) := dX
           have qi17 : (0 < x6_1.length) = True := eq_true (by omega)
           obtain ⟨go17, co17, eo17, gb17, gl17, cl17, HG17⟩ := Kd.R_form HO_6.out (by omega)
           (first | cases eo17 | (injection eo17 with ea_ en_ ec_; (first | subst ea_ | (injection ea_ with ea_; subst ea_)); subst ec_; clear en_))
           have GB17 := Aside0.mk gb17
           have GG17 := Aside0.mk HG17
           clear gb17 gl17 HG17
           (first | simp only [add_plain] at hx475_0 | skip)
           obtain ⟨hx17_0, hf17_0⟩ := Kd.R_celln 0 HO_6.out (0 : Int) p17 q17
           (try rw [show ((0 : Int)).toNat = 0 from rfl] at hx17_0)
           (try simp only [Nat.reduceMul, Nat.zero_mul, Nat.zero_add, Nat.reduceAdd] at hx17_0)
           (try rw [show ((0 : Int)).toNat = 0 from rfl] at hf17_0)
           (try simp only [Nat.reduceMul, Nat.zero_mul, Nat.zero_add, Nat.reduceAdd] at hf17_0)
           replace p17 := eq_true p17
           replace q17 := eq_true q17
           have HP19 := Kd.R_putg HO_6.out (0 : Int) (wrap64 ((rd x6_1 0) + 1))
           go_wp2_with (first | ((with_reducible refine gate_store (t := 3) (p := 41) rfl ?_); refine store_event (t := 3) (p := 41) (v := ?vo_w20) (w1 := (wr.setCell ⟨go17, (0 : Int).toNat, none⟩ (.int .i64 (wrap64 ((rd x6_1 0) + 1))))) ?hg ?ho ?hn ?hr ?_; (case ho => rfl); (case hg => rfl); (case hn => rfl); (case hr => first | (go_simp; done) | (go_simp; rfl)); intro w20 hw; have hg : wr.grownBy w20 (some go17) := (by rw [hw]; exact HP19.2); have hp_ : Kd.R (Kd.int .i64) 3 w20 w.heap.size (fun _ => True) (.slice (some ⟨go17, 0, none⟩) x6_1.length co18) y476 := (by rw [hw, Ny476.out]; exact HP19.1); clear HP19; have n0_ := Aside0.mk (hp_); have n1_ := Aside0.mk (blk_grown (g := gb469) (o := .cells #[.slice A0_0 l0_0.length c0_0, .slice A0_1 l0_1.length c0_1] 27 (0, 0)) (kX BK469.out) hg (Kd.R_ne HO_6.out BK469.out (by decide))); have n2_ := Aside0.mk ((by rw [hw]; exact below_set (HB.out) GB17.out : Below w.heap.size w w20)); clear HO_6; clear BK469; clear HB; have HO_6 := n0_; have BK469 := n1_; have HB := n2_; clear n0_ n1_ n2_; clear hg hw hp_))
           go_meet
           case rel => exact ⟨_, (y476), H', ⟨by have := HK1.out; first | omega | exact Nat.le_refl _⟩, ⟨rX HO_6.out⟩, ⟨kX BK469.out⟩, ⟨bX1 HB.out GE469.out⟩⟩
          ·rw [if_neg c16] at H
           exact absurd H (by simp)
         ·rw [if_neg c15] at H
          have c15b0 : ((rd l1 x29_1) == x29_1) = false := beq_eq_false_iff_ne.mpr c15
          have c15b1 : ((rd l1 x29_1) != x29_1) = true := bne_iff_ne.mpr c15
          (first | rw [c15b0] | (simp only [i64_w, i32_w]; rw [c15b0]) | skip)
          have H' := Aside0.mk H
          clear H
          go_wp2
          go_meet
          case rel => exact ⟨_, (x6_1), H', ⟨by have := HK1.out; first | omega | exact Nat.le_refl _⟩, ⟨rX HO_6.out⟩, ⟨kX BK469.out⟩, ⟨bX1 HB.out GE469.out⟩⟩
        case rest =>
         clear HC14
         try clear c1
         try clear p1
         try clear q1
         try clear hx1
         try clear qi1
         try clear p2
         try clear c3
         try clear c4
         try clear p4
         try clear q4
         try clear hx4
         try clear qi4
         try clear c5
         try clear c5b0
         try clear c5b1
         try clear p6
         try clear c11
         try clear c11b0
         try clear c12
         try clear c12b0
         try clear c13
         try clear c13b0
         try clear c15
         try clear c15b0
         try clear c15b1
         try clear c16
         try clear c16b0
         try clear c16b1
         try clear p17
         try clear q17
         try clear hx17
         try clear qi17
         try clear hf17
         try clear hcz7_0
         try clear hcz7_1
         try clear hfz7_0
         try clear hfz7_1
         try clear hx17_0
         try clear hx474_0
         try clear hx475_0
         try clear p17
         try clear p2
         try clear p474
         try clear p475
         try clear q17
         try clear q474
         try clear q475
         obtain ⟨kq, x6_13, HA, HJ13, HO_6, BK469, HB⟩ := hcut
         cases kq with
         | zero => exact absurd HA.out (by simp [impl_FixedPoints.j1])
         | succ kj13 =>
          have H := HA.out
          clear HA
          simp only [impl_FixedPoints.j1] at H
          by_cases c21 : 0 ≤ x29_1
          ·rw [if_pos c21] at H
           have c21b0 : decide (0 ≤ x29_1) = true := decide_eq_true c21
           clear c21
           by_cases c22 : x29_1 < (l0_0.length : Int)
           ·rw [if_pos c22] at H
            have c22b0 : decide (x29_1 < (l0_0.length : Int)) = true := decide_eq_true c22
            clear c22
            by_cases c23 : (rd l1 x29_1) = (rd l0_0 x29_1)
            ·rw [if_pos c23] at H
             have c23b0 : ((rd l1 x29_1) == (rd l0_0 x29_1)) = true := beq_iff_eq.mpr c23
             have c23b1 : ((rd l1 x29_1) != (rd l0_0 x29_1)) = false := bne_eq_false_iff_eq.mpr c23
             clear c23
             by_cases c24 : 1 < (x6_13.length : Int)
             ·rw [if_pos c24] at H
              have c24b0 : decide (1 < (x6_13.length : Int)) = true := decide_eq_true c24
              have c24b1 : decide (1 < x6_13.length) = true := decide_eq_true (by omega)
              clear c24
              obtain ⟨y479, hy479⟩ : ∃ y_ : List Int, y_ = (x6_13.set (1 : Int).toNat (wrap64 ((rd x6_13 1) + 1))) := ⟨_, rfl⟩
              replace H : (if x29_1 < (l0_1.length : Int) then (if (rd l1 x29_1) = (rd l0_1 x29_1) then (if 2 < (x6_13.length : Int) then (impl_FixedPoints.l0 kj13 l1 (y479.set (2 : Int).toNat (wrap64 ((rd y479 2) + 1))) l1 (l1.length : Int) (wrap64 (x29_1 + 1)) l0_0 l0_1) else (none)) else (impl_FixedPoints.l0 kj13 l1 y479 l1 (l1.length : Int) (wrap64 (x29_1 + 1)) l0_0 l0_1)) else (none)) = some (r1, r2) := by first | (rw [hy479]; with_reducible exact H) | (have H2_ := (Option.bind_some _ _).symm.trans H; rw [hy479]; with_reducible exact H2_) | (have H2_ := (Option.bind_some _ _).symm.trans H; with_reducible exact H2_) | with_reducible exact H | (rw [hy479]; exact H) | exact H
              have Ny479 := Aside0.mk hy479
              clear hy479
              by_cases c26 : x29_1 < (l0_1.length : Int)
              ·rw [if_pos c26] at H
               have c26b0 : decide (x29_1 < (l0_1.length : Int)) = true := decide_eq_true c26
               clear c26
               by_cases c27 : (rd l1 x29_1) = (rd l0_1 x29_1)
               ·rw [if_pos c27] at H
                have c27b0 : ((rd l1 x29_1) == (rd l0_1 x29_1)) = true := beq_iff_eq.mpr c27
                have c27b1 : ((rd l1 x29_1) != (rd l0_1 x29_1)) = false := bne_eq_false_iff_eq.mpr c27
                clear c27
                by_cases c28 : 2 < (x6_13.length : Int)
                ·rw [if_pos c28] at H
                 have c28b0 : decide (2 < (x6_13.length : Int)) = true := decide_eq_true c28
                 have c28b1 : decide (2 < x6_13.length) = true := decide_eq_true (by omega)
                 clear c28
                 obtain ⟨y482, hy482⟩ : ∃ y_ : List Int, y_ = (y479.set (2 : Int).toNat (wrap64 ((rd y479 2) + 1))) := ⟨_, rfl⟩
                 replace H : (impl_FixedPoints.l0 kj13 l1 y482 l1 (l1.length : Int) (wrap64 (x29_1 + 1)) l0_0 l0_1) = some (r1, r2) := by first | (rw [hy482]; with_reducible exact H) | (have H2_ := (Option.bind_some _ _).symm.trans H; rw [hy482]; with_reducible exact H2_) | (have H2_ := (Option.bind_some _ _).symm.trans H; with_reducible exact H2_) | with_reducible exact H | (rw [hy482]; exact H) | exact H
                 have Ny482 := Aside0.mk hy482
                 clear hy482
                 have H' := Aside0.mk H
                 clear H
                 have hcz30_0 : wc.cell? ⟨gb469, 0, none⟩ = some (.slice A0_0 l0_0.length c0_0) := (blk_cell BK469.out 0).trans rfl
                 have hcz30_1 : wc.cell? ⟨gb469, 1, none⟩ = some (.slice A0_1 l0_1.length c0_1) := (blk_cell BK469.out 1).trans rfl
                 have hfz30_0 := blk_frozen BK469.out 0
                 have hfz30_1 := blk_frozen BK469.out 1
                 have p477 : 0 ≤ (x29_1 : Int) := dX
                 have q477 : x29_1 < (l0_0.length : Int) := dX
                 obtain ⟨ad477, e477, hx477_0⟩ := Kd.at_int HR0_0.out x29_1 p477 q477
                 cases e477
                 (try replace hx477_0 := (HB.out.cell (World.block_lt_of_cell? w _ hx477_0)).trans hx477_0)
                 replace p477 := eq_true p477
                 replace q477 := eq_true q477
                 obtain ⟨Ao31, co31, eo31⟩ := Kd.R_slice HO_6.out
                 subst eo31
                 have p478 : 0 ≤ (1 : Int) := (by omega)
                 have q478 : 1 < (x6_13.length : Int) := dX
                 obtain ⟨ad478, e478, hx478_0⟩ := Kd.at_int (Kd.R_reads' HO_6.out).2.2 1 p478 q478
                 cases e478
                 (try simp only [show (1 : Int).toNat = 1 from rfl, Nat.reduceMul, Nat.reduceEqDiff, Go.Addr.add, ↓reduceIte] at hx478_0)
                 have qi478 : (1 < x6_13.length) = True := eq_true (by omega)
                 (try rw [show ((1 : Int)).toNat = 1 from rfl] at hx478_0)
                 replace p478 := eq_true p478
                 replace q478 := eq_true q478
                 have p25 : 0 ≤ (1 : Int) := (by omega)
                 have q25 : (1 : Int) < ((x6_13.length : Int) : Int) := dX
                 have qi25 : (1 < x6_13.length) = True := eq_true (by omega)
                 obtain ⟨go25, co25, eo25, gb25, gl25, cl25, HG25⟩ := Kd.R_form HO_6.out (by omega)
                 (first | cases eo25 | (injection eo25 with ea_ en_ ec_; (first | subst ea_ | (injection ea_ with ea_; subst ea_)); subst ec_; clear en_))
                 have GB25 := Aside0.mk gb25
                 have GG25 := Aside0.mk HG25
                 clear gb25 gl25 HG25
                 (first | simp only [add_plain] at hx478_0 | skip)
                 obtain ⟨hx25_0, hf25_0⟩ := Kd.R_celln 0 HO_6.out (1 : Int) p25 q25
                 (try rw [show ((1 : Int)).toNat = 1 from rfl] at hx25_0)
                 (try simp only [Nat.reduceMul, Nat.zero_mul, Nat.zero_add, Nat.reduceAdd] at hx25_0)
                 (try rw [show ((1 : Int)).toNat = 1 from rfl] at hf25_0)
                 (try simp only [Nat.reduceMul, Nat.zero_mul, Nat.zero_add, Nat.reduceAdd] at hf25_0)
                 replace p25 := eq_true p25
                 replace q25 := eq_true q25
                 have HP32 := Kd.R_putg HO_6.out (1 : Int) (wrap64 ((rd x6_13 1) + 1))
                 go_wp2_with (first | ((with_reducible refine gate_store (t := 3) (p := 53) rfl ?_); refine store_event (t := 3) (p := 53) (v := ?vo_w33) (w1 := (wc.setCell ⟨go25, (1 : Int).toNat, none⟩ (.int .i64 (wrap64 ((rd x6_13 1) + 1))))) ?hg ?ho ?hn ?hr ?_; (case ho => rfl); (case hg => rfl); (case hn => rfl); (case hr => first | (go_simp; done) | (go_simp; rfl)); intro w33 hw; have hg : wc.grownBy w33 (some go25) := (by rw [hw]; exact HP32.2); have hp_ : Kd.R (Kd.int .i64) 3 w33 w.heap.size (fun _ => True) (.slice (some ⟨go25, 0, none⟩) x6_13.length co31) y479 := (by rw [hw, Ny479.out]; exact HP32.1); clear HP32; have n0_ := Aside0.mk (hp_); have n1_ := Aside0.mk (blk_grown (g := gb469) (o := .cells #[.slice (some ad477) l0_0.length c0_0, .slice A0_1 l0_1.length c0_1] 27 (0, 0)) (kX BK469.out) hg (Kd.R_ne HO_6.out BK469.out (by decide))); have n2_ := Aside0.mk ((by rw [hw]; exact below_set (HB.out) GB25.out : Below w.heap.size w w33)); clear HO_6; clear BK469; clear HB; have HO_6 := n0_; have BK469 := n1_; have HB := n2_; clear n0_ n1_ n2_; clear hg hw hp_; have hcz34_0 : w33.cell? ⟨gb469, 0, none⟩ = some (.slice (some ad477) l0_0.length c0_0) := (blk_cell BK469.out 0).trans rfl; have hcz34_1 : w33.cell? ⟨gb469, 1, none⟩ = some (.slice A0_1 l0_1.length c0_1) := (blk_cell BK469.out 1).trans rfl; have hfz34_0 := blk_frozen BK469.out 0; have hfz34_1 := blk_frozen BK469.out 1; have p480 : 0 ≤ (x29_1 : Int) := dX; have q480 : x29_1 < (l0_1.length : Int) := dX; obtain ⟨ad480, e480, hx480_0⟩ := Kd.at_int HR0_1.out x29_1 p480 q480; cases e480; replace hx480_0 := (HB.out.cell (World.block_lt_of_cell? w _ hx480_0)).trans hx480_0; replace p480 := eq_true p480; replace q480 := eq_true q480; have p481 : 0 ≤ (2 : Int) := (by omega); have q481 : 2 < (y479.length : Int) := (by have h_ : (2 : Int) < ((x6_13.length : Int) : Int) := dX; first | (have e_ := (Kd.R_reads' HO_6.out).1; omega) | simpa only [Ny479.out, List.length_set] using h_); have ql481 : ((2 : Int) < ((x6_13.length : Int) : Int)) = True := eq_true (dX); (try have qn481 : (2 < x6_13.length) = True := eq_true (by have h_ : (2 : Int) < ((x6_13.length : Int) : Int) := dX; omega)); obtain ⟨ad481, e481, hx481_0⟩ := Kd.at_int (Kd.R_reads' HO_6.out).2.2 2 p481 q481; obtain rfl : (⟨go25, 0, none⟩ : Addr) = ad481 := (by injection e481); (first | simp only [add_plain] at hx481_0 | simp only [add_at] at hx481_0 | simp only [Addr.add, Nat.zero_add] at hx481_0 | skip); have qi481 : (2 < y479.length) = True := eq_true (by omega); (try rw [show ((2 : Int)).toNat = 2 from rfl] at hx481_0); replace p481 := eq_true p481; replace q481 := eq_true q481; have p29 : 0 ≤ (2 : Int) := (by omega); have q29 : (2 : Int) < ((x6_13.length : Int) : Int) := dX; have qi29 : (2 < x6_13.length) = True := eq_true (by omega); obtain ⟨hx29_0, hf29_0⟩ := Kd.R_celln 0 HO_6.out (2 : Int) p29 q29; (try rw [show ((2 : Int)).toNat = 2 from rfl] at hx29_0); (try simp only [Nat.reduceMul, Nat.zero_mul, Nat.zero_add, Nat.reduceAdd] at hx29_0); (try rw [show ((2 : Int)).toNat = 2 from rfl] at hf29_0); (try simp only [Nat.reduceMul, Nat.zero_mul, Nat.zero_add, Nat.reduceAdd] at hf29_0); replace p29 := eq_true p29; replace q29 := eq_true q29; obtain ⟨hy35_, hz35_⟩ := Kd.R_celln 0 HO_6.out (2 : Int) (by omega) (dX); (try simp only [Int.reduceToNat, Int.toNat_zero, Int.toNat_ofNat, Nat.reduceMul, Nat.zero_mul, Nat.zero_add] at hy35_ hz35_); (try rw [show ((2 : Int)).toNat = 2 from rfl] at hy35_); (try rw [show ((2 : Int)).toNat = 2 from rfl] at hz35_); have HP35 := Kd.R_putg HO_6.out (2 : Int) (wrap64 ((rd y479 2) + 1))) | ((with_reducible refine gate_store (t := 3) (p := 65) rfl ?_); refine store_event (t := 3) (p := 65) (v := ?vo_w36) (w1 := (w33.setCell ⟨go25, (2 : Int).toNat, none⟩ (.int .i64 (wrap64 ((rd y479 2) + 1))))) ?hg ?ho ?hn ?hr ?_; (case ho => rfl); (case hg => rfl); (case hn => rfl); (case hr => first | (go_simp; done) | (go_simp; rfl)); intro w36 hw; have hg : w33.grownBy w36 (some go25) := (by rw [hw]; exact HP35.2); have hp_ : Kd.R (Kd.int .i64) 3 w36 w.heap.size (fun _ => True) (.slice (some ⟨go25, 0, none⟩) x6_13.length co31) y482 := (by rw [hw, Ny482.out]; exact HP35.1); clear HP35; have n0_ := Aside0.mk (hp_); have n1_ := Aside0.mk (blk_grown (g := gb469) (o := .cells #[.slice (some ad477) l0_0.length c0_0, .slice (some ad480) l0_1.length c0_1] 27 (0, 0)) (kX BK469.out) hg (Kd.R_ne HO_6.out BK469.out (by decide))); have n2_ := Aside0.mk ((by rw [hw]; exact below_set (HB.out) GB25.out : Below w.heap.size w w36)); clear HO_6; clear BK469; clear HB; have HO_6 := n0_; have BK469 := n1_; have HB := n2_; clear n0_ n1_ n2_; clear hg hw hp_))
                 go_roundg kj13
                 case measure => have := HK1.out; have := HJ13.out; omega
                 case rel => exact ⟨(y482), (wrap64 (x29_1 + 1)), vX, H', ⟨by have := HK1.out; have := HJ13.out; omega⟩, ⟨rX HO_6.out⟩, ⟨kX BK469.out⟩, ⟨bX1 HB.out GE469.out⟩⟩
                ·rw [if_neg c28] at H
                 exact absurd H (by simp)
               ·rw [if_neg c27] at H
                have c27b0 : ((rd l1 x29_1) == (rd l0_1 x29_1)) = false := beq_eq_false_iff_ne.mpr c27
                have c27b1 : ((rd l1 x29_1) != (rd l0_1 x29_1)) = true := bne_iff_ne.mpr c27
                have H' := Aside0.mk H
                clear H
                have hcz37_0 : wc.cell? ⟨gb469, 0, none⟩ = some (.slice A0_0 l0_0.length c0_0) := (blk_cell BK469.out 0).trans rfl
                have hcz37_1 : wc.cell? ⟨gb469, 1, none⟩ = some (.slice A0_1 l0_1.length c0_1) := (blk_cell BK469.out 1).trans rfl
                have hfz37_0 := blk_frozen BK469.out 0
                have hfz37_1 := blk_frozen BK469.out 1
                have p477 : 0 ≤ (x29_1 : Int) := dX
                have q477 : x29_1 < (l0_0.length : Int) := dX
                obtain ⟨ad477, e477, hx477_0⟩ := Kd.at_int HR0_0.out x29_1 p477 q477
                cases e477
                (try replace hx477_0 := (HB.out.cell (World.block_lt_of_cell? w _ hx477_0)).trans hx477_0)
                replace p477 := eq_true p477
                replace q477 := eq_true q477
                obtain ⟨Ao38, co38, eo38⟩ := Kd.R_slice HO_6.out
                subst eo38
                have p478 : 0 ≤ (1 : Int) := (by omega)
                have q478 : 1 < (x6_13.length : Int) := dX
                obtain ⟨ad478, e478, hx478_0⟩ := Kd.at_int (Kd.R_reads' HO_6.out).2.2 1 p478 q478
                cases e478
                (try simp only [show (1 : Int).toNat = 1 from rfl, Nat.reduceMul, Nat.reduceEqDiff, Go.Addr.add, ↓reduceIte] at hx478_0)
                have qi478 : (1 < x6_13.length) = True := eq_true (by omega)
                (try rw [show ((1 : Int)).toNat = 1 from rfl] at hx478_0)
                replace p478 := eq_true p478
                replace q478 := eq_true q478
                have p25 : 0 ≤ (1 : Int) := (by omega)
                have q25 : (1 : Int) < ((x6_13.length : Int) : Int) := dX
                have qi25 : (1 < x6_13.length) = True := eq_true (by omega)
                obtain ⟨go25, co25, eo25, gb25, gl25, cl25, HG25⟩ := Kd.R_form HO_6.out (by omega)
                (first | cases eo25 | (injection eo25 with ea_ en_ ec_; (first | subst ea_ | (injection ea_ with ea_; subst ea_)); subst ec_; clear en_))
                have GB25 := Aside0.mk gb25
                have GG25 := Aside0.mk HG25
                clear gb25 gl25 HG25
                (first | simp only [add_plain] at hx478_0 | skip)
                obtain ⟨hx25_0, hf25_0⟩ := Kd.R_celln 0 HO_6.out (1 : Int) p25 q25
                (try rw [show ((1 : Int)).toNat = 1 from rfl] at hx25_0)
                (try simp only [Nat.reduceMul, Nat.zero_mul, Nat.zero_add, Nat.reduceAdd] at hx25_0)
                (try rw [show ((1 : Int)).toNat = 1 from rfl] at hf25_0)
                (try simp only [Nat.reduceMul, Nat.zero_mul, Nat.zero_add, Nat.reduceAdd] at hf25_0)
                replace p25 := eq_true p25
                replace q25 := eq_true q25
                have HP39 := Kd.R_putg HO_6.out (1 : Int) (wrap64 ((rd x6_13 1) + 1))
                go_wp2_with (first | ((with_reducible refine gate_store (t := 3) (p := 53) rfl ?_); refine store_event (t := 3) (p := 53) (v := ?vo_w40) (w1 := (wc.setCell ⟨go25, (1 : Int).toNat, none⟩ (.int .i64 (wrap64 ((rd x6_13 1) + 1))))) ?hg ?ho ?hn ?hr ?_; (case ho => rfl); (case hg => rfl); (case hn => rfl); (case hr => first | (go_simp; done) | (go_simp; rfl)); intro w40 hw; have hg : wc.grownBy w40 (some go25) := (by rw [hw]; exact HP39.2); have hp_ : Kd.R (Kd.int .i64) 3 w40 w.heap.size (fun _ => True) (.slice (some ⟨go25, 0, none⟩) x6_13.length co38) y479 := (by rw [hw, Ny479.out]; exact HP39.1); clear HP39; have n0_ := Aside0.mk (hp_); have n1_ := Aside0.mk (blk_grown (g := gb469) (o := .cells #[.slice (some ad477) l0_0.length c0_0, .slice A0_1 l0_1.length c0_1] 27 (0, 0)) (kX BK469.out) hg (Kd.R_ne HO_6.out BK469.out (by decide))); have n2_ := Aside0.mk ((by rw [hw]; exact below_set (HB.out) GB25.out : Below w.heap.size w w40)); clear HO_6; clear BK469; clear HB; have HO_6 := n0_; have BK469 := n1_; have HB := n2_; clear n0_ n1_ n2_; clear hg hw hp_; have hcz41_0 : w40.cell? ⟨gb469, 0, none⟩ = some (.slice (some ad477) l0_0.length c0_0) := (blk_cell BK469.out 0).trans rfl; have hcz41_1 : w40.cell? ⟨gb469, 1, none⟩ = some (.slice A0_1 l0_1.length c0_1) := (blk_cell BK469.out 1).trans rfl; have hfz41_0 := blk_frozen BK469.out 0; have hfz41_1 := blk_frozen BK469.out 1; have p480 : 0 ≤ (x29_1 : Int) := dX; have q480 : x29_1 < (l0_1.length : Int) := dX; obtain ⟨ad480, e480, hx480_0⟩ := Kd.at_int HR0_1.out x29_1 p480 q480; cases e480; replace hx480_0 := (HB.out.cell (World.block_lt_of_cell? w _ hx480_0)).trans hx480_0; replace p480 := eq_true p480; replace q480 := eq_true q480))
                go_roundg kj13
                case measure => have := HK1.out; have := HJ13.out; omega
                case rel => exact ⟨(y479), (wrap64 (x29_1 + 1)), vX, H', ⟨by have := HK1.out; have := HJ13.out; omega⟩, ⟨rX HO_6.out⟩, ⟨kX BK469.out⟩, ⟨bX1 HB.out GE469.out⟩⟩
              ·rw [if_neg c26] at H
               exact absurd H (by simp)
             ·rw [if_neg c24] at H
              exact absurd H (by simp)
            ·rw [if_neg c23] at H
             have c23b0 : ((rd l1 x29_1) == (rd l0_0 x29_1)) = false := beq_eq_false_iff_ne.mpr c23
             have c23b1 : ((rd l1 x29_1) != (rd l0_0 x29_1)) = true := bne_iff_ne.mpr c23
             by_cases c42 : x29_1 < (l0_1.length : Int)
             ·rw [if_pos c42] at H
              have c42b0 : decide (x29_1 < (l0_1.length : Int)) = true := decide_eq_true c42
              clear c42
              by_cases c43 : (rd l1 x29_1) = (rd l0_1 x29_1)
              ·rw [if_pos c43] at H
               have c43b0 : ((rd l1 x29_1) == (rd l0_1 x29_1)) = true := beq_iff_eq.mpr c43
               have c43b1 : ((rd l1 x29_1) != (rd l0_1 x29_1)) = false := bne_eq_false_iff_eq.mpr c43
               clear c43
               by_cases c44 : 2 < (x6_13.length : Int)
               ·rw [if_pos c44] at H
                have c44b0 : decide (2 < (x6_13.length : Int)) = true := decide_eq_true c44
                have c44b1 : decide (2 < x6_13.length) = true := decide_eq_true (by omega)
                clear c44
                obtain ⟨y485, hy485⟩ : ∃ y_ : List Int, y_ = (x6_13.set (2 : Int).toNat (wrap64 ((rd x6_13 2) + 1))) := ⟨_, rfl⟩
                replace H : (impl_FixedPoints.l0 kj13 l1 y485 l1 (l1.length : Int) (wrap64 (x29_1 + 1)) l0_0 l0_1) = some (r1, r2) := by first | (rw [hy485]; with_reducible exact H) | (have H2_ := (Option.bind_some _ _).symm.trans H; rw [hy485]; with_reducible exact H2_) | (have H2_ := (Option.bind_some _ _).symm.trans H; with_reducible exact H2_) | with_reducible exact H | (rw [hy485]; exact H) | exact H
                have Ny485 := Aside0.mk hy485
                clear hy485
                have H' := Aside0.mk H
                clear H
                have hcz46_0 : wc.cell? ⟨gb469, 0, none⟩ = some (.slice A0_0 l0_0.length c0_0) := (blk_cell BK469.out 0).trans rfl
                have hcz46_1 : wc.cell? ⟨gb469, 1, none⟩ = some (.slice A0_1 l0_1.length c0_1) := (blk_cell BK469.out 1).trans rfl
                have hfz46_0 := blk_frozen BK469.out 0
                have hfz46_1 := blk_frozen BK469.out 1
                have p477 : 0 ≤ (x29_1 : Int) := dX
                have q477 : x29_1 < (l0_0.length : Int) := dX
                obtain ⟨ad477, e477, hx477_0⟩ := Kd.at_int HR0_0.out x29_1 p477 q477
                cases e477
                (try replace hx477_0 := (HB.out.cell (World.block_lt_of_cell? w _ hx477_0)).trans hx477_0)
                replace p477 := eq_true p477
                replace q477 := eq_true q477
                have p483 : 0 ≤ (x29_1 : Int) := dX
                have q483 : x29_1 < (l0_1.length : Int) := dX
                obtain ⟨ad483, e483, hx483_0⟩ := Kd.at_int HR0_1.out x29_1 p483 q483
                cases e483
                (try replace hx483_0 := (HB.out.cell (World.block_lt_of_cell? w _ hx483_0)).trans hx483_0)
                replace p483 := eq_true p483
                replace q483 := eq_true q483
                obtain ⟨Ao47, co47, eo47⟩ := Kd.R_slice HO_6.out
                subst eo47
                have p484 : 0 ≤ (2 : Int) := (by omega)
                have q484 : 2 < (x6_13.length : Int) := dX
                obtain ⟨ad484, e484, hx484_0⟩ := Kd.at_int (Kd.R_reads' HO_6.out).2.2 2 p484 q484
                cases e484
                (try simp only [show (2 : Int).toNat = 2 from rfl, Nat.reduceMul, Nat.reduceEqDiff, Go.Addr.add, ↓reduceIte] at hx484_0)
                have qi484 : (2 < x6_13.length) = True := eq_true (by omega)
                (try rw [show ((2 : Int)).toNat = 2 from rfl] at hx484_0)
                replace p484 := eq_true p484
                replace q484 := eq_true q484
                have p45 : 0 ≤ (2 : Int) := (by omega)
                have q45 : (2 : Int) < ((x6_13.length : Int) : Int) := dX
                have qi45 : (2 < x6_13.length) = True := eq_true (by omega)
                obtain ⟨go45, co45, eo45, gb45, gl45, cl45, HG45⟩ := Kd.R_form HO_6.out (by omega)
                (first | cases eo45 | (injection eo45 with ea_ en_ ec_; (first | subst ea_ | (injection ea_ with ea_; subst ea_)); subst ec_; clear en_))
                have GB45 := Aside0.mk gb45
                have GG45 := Aside0.mk HG45
                clear gb45 gl45 HG45
                (first | simp only [add_plain] at hx484_0 | skip)
                obtain ⟨hx45_0, hf45_0⟩ := Kd.R_celln 0 HO_6.out (2 : Int) p45 q45
                (try rw [show ((2 : Int)).toNat = 2 from rfl] at hx45_0)
                (try simp only [Nat.reduceMul, Nat.zero_mul, Nat.zero_add, Nat.reduceAdd] at hx45_0)
                (try rw [show ((2 : Int)).toNat = 2 from rfl] at hf45_0)
                (try simp only [Nat.reduceMul, Nat.zero_mul, Nat.zero_add, Nat.reduceAdd] at hf45_0)
                replace p45 := eq_true p45
                replace q45 := eq_true q45
                have HP48 := Kd.R_putg HO_6.out (2 : Int) (wrap64 ((rd x6_13 2) + 1))
                go_wp2_with (first | ((with_reducible refine gate_store (t := 3) (p := 65) rfl ?_); refine store_event (t := 3) (p := 65) (v := ?vo_w49) (w1 := (wc.setCell ⟨go45, (2 : Int).toNat, none⟩ (.int .i64 (wrap64 ((rd x6_13 2) + 1))))) ?hg ?ho ?hn ?hr ?_; (case ho => rfl); (case hg => rfl); (case hn => rfl); (case hr => first | (go_simp; done) | (go_simp; rfl)); intro w49 hw; have hg : wc.grownBy w49 (some go45) := (by rw [hw]; exact HP48.2); have hp_ : Kd.R (Kd.int .i64) 3 w49 w.heap.size (fun _ => True) (.slice (some ⟨go45, 0, none⟩) x6_13.length co47) y485 := (by rw [hw, Ny485.out]; exact HP48.1); clear HP48; have n0_ := Aside0.mk (hp_); have n1_ := Aside0.mk (blk_grown (g := gb469) (o := .cells #[.slice (some ad477) l0_0.length c0_0, .slice (some ad483) l0_1.length c0_1] 27 (0, 0)) (kX BK469.out) hg (Kd.R_ne HO_6.out BK469.out (by decide))); have n2_ := Aside0.mk ((by rw [hw]; exact below_set (HB.out) GB45.out : Below w.heap.size w w49)); clear HO_6; clear BK469; clear HB; have HO_6 := n0_; have BK469 := n1_; have HB := n2_; clear n0_ n1_ n2_; clear hg hw hp_))
                go_roundg kj13
                case measure => have := HK1.out; have := HJ13.out; omega
                case rel => exact ⟨(y485), (wrap64 (x29_1 + 1)), vX, H', ⟨by have := HK1.out; have := HJ13.out; omega⟩, ⟨rX HO_6.out⟩, ⟨kX BK469.out⟩, ⟨bX1 HB.out GE469.out⟩⟩
               ·rw [if_neg c44] at H
                exact absurd H (by simp)
              ·rw [if_neg c43] at H
               have c43b0 : ((rd l1 x29_1) == (rd l0_1 x29_1)) = false := beq_eq_false_iff_ne.mpr c43
               have c43b1 : ((rd l1 x29_1) != (rd l0_1 x29_1)) = true := bne_iff_ne.mpr c43
               have H' := Aside0.mk H
               clear H
               have hcz50_0 : wc.cell? ⟨gb469, 0, none⟩ = some (.slice A0_0 l0_0.length c0_0) := (blk_cell BK469.out 0).trans rfl
               have hcz50_1 : wc.cell? ⟨gb469, 1, none⟩ = some (.slice A0_1 l0_1.length c0_1) := (blk_cell BK469.out 1).trans rfl
               have hfz50_0 := blk_frozen BK469.out 0
               have hfz50_1 := blk_frozen BK469.out 1
               have p477 : 0 ≤ (x29_1 : Int) := dX
               have q477 : x29_1 < (l0_0.length : Int) := dX
               obtain ⟨ad477, e477, hx477_0⟩ := Kd.at_int HR0_0.out x29_1 p477 q477
               cases e477
               (try replace hx477_0 := (HB.out.cell (World.block_lt_of_cell? w _ hx477_0)).trans hx477_0)
               replace p477 := eq_true p477
               replace q477 := eq_true q477
               have p483 : 0 ≤ (x29_1 : Int) := dX
               have q483 : x29_1 < (l0_1.length : Int) := dX
               obtain ⟨ad483, e483, hx483_0⟩ := Kd.at_int HR0_1.out x29_1 p483 q483
               cases e483
               (try replace hx483_0 := (HB.out.cell (World.block_lt_of_cell? w _ hx483_0)).trans hx483_0)
               replace p483 := eq_true p483
               replace q483 := eq_true q483
               go_wp2
               go_roundg kj13
               case measure => have := HK1.out; have := HJ13.out; omega
               case rel => exact ⟨(x6_13), (wrap64 (x29_1 + 1)), vX, H', ⟨by have := HK1.out; have := HJ13.out; omega⟩, ⟨rX HO_6.out⟩, ⟨kX BK469.out⟩, ⟨bX1 HB.out GE469.out⟩⟩
             ·rw [if_neg c42] at H
              exact absurd H (by simp)
           ·rw [if_neg c22] at H
            exact absurd H (by simp)
          ·rw [if_neg c21] at H
           exact absurd H (by simp)
       ·rw [if_neg c13] at H
        exact absurd H (by simp)
      ·rw [if_neg c12] at H
       exact absurd H (by simp)
     ·rw [if_neg c11] at H
      have c11b0 : decide (x29_1 < (l1.length : Int)) = false := decide_eq_false c11
      clear c11
      replace H := Option.bind_eq_some_iff.mp H
      obtain ⟨t486, A510, H⟩ := H
      replace H : ((impl_InversePerm.f k1 l0_1).bind fun t489 => (if 0 ≤ (l1.length : Int) then (if ((l1.length : Int) : Int).toNat ≤ 35184372088832 then ((impl_CornersOf.f k1 l0_0 l0_1).bind fun t495 => (impl_FixedPoints.l1 k1 l1 x6_1 t486 t489 (List.replicate ((l1.length : Int) : Int).toNat 0) t495 t495 (t495.length : Int) 0)) else (none)) else (none))) = some (r1, r2) := H
      have A51 := Aside0.mk A510
      clear A510
      replace H := Option.bind_eq_some_iff.mp H
      obtain ⟨t489, A520, H⟩ := H
      replace H : (if 0 ≤ (l1.length : Int) then (if ((l1.length : Int) : Int).toNat ≤ 35184372088832 then ((impl_CornersOf.f k1 l0_0 l0_1).bind fun t495 => (impl_FixedPoints.l1 k1 l1 x6_1 t486 t489 (List.replicate ((l1.length : Int) : Int).toNat 0) t495 t495 (t495.length : Int) 0)) else (none)) else (none)) = some (r1, r2) := H
      have A52 := Aside0.mk A520
      clear A520
      by_cases c53 : 0 ≤ (l1.length : Int)
      ·rw [if_pos c53] at H
       have c53b0 := eq_true c53
       have c53b1 : decide (0 ≤ (l1.length : Int)) = true := decide_eq_true c53
       clear c53
       by_cases c54 : ((l1.length : Int) : Int).toNat ≤ 35184372088832
       ·rw [if_pos c54] at H
        have c54b0 := eq_true c54
        have c54b1 : decide (((l1.length : Int) : Int).toNat ≤ 35184372088832) = true := decide_eq_true c54
        clear c54
        obtain ⟨y492, hy492⟩ : ∃ y_ : List Int, y_ = (List.replicate ((l1.length : Int) : Int).toNat 0) := ⟨_, rfl⟩
        replace H : ((impl_CornersOf.f k1 l0_0 l0_1).bind fun t495 => (impl_FixedPoints.l1 k1 l1 x6_1 t486 t489 y492 t495 t495 (t495.length : Int) 0)) = some (r1, r2) := by first | (rw [hy492]; with_reducible exact H) | (have H2_ := (Option.bind_some _ _).symm.trans H; rw [hy492]; with_reducible exact H2_) | (have H2_ := (Option.bind_some _ _).symm.trans H; with_reducible exact H2_) | with_reducible exact H | (rw [hy492]; exact H) | exact H
        have Ny492 := Aside0.mk hy492
        clear hy492
        replace H := Option.bind_eq_some_iff.mp H
        obtain ⟨t495, A550, H⟩ := H
        replace H : (impl_FixedPoints.l1 k1 l1 x6_1 t486 t489 y492 t495 t495 (t495.length : Int) 0) = some (r1, r2) := H
        have A55 := Aside0.mk A550
        clear A550
        have H' := Aside0.mk H
        clear H
        have hcz56_0 : wr.cell? ⟨gb469, 0, none⟩ = some (.slice A0_0 l0_0.length c0_0) := (blk_cell BK469.out 0).trans rfl
        have hcz56_1 : wr.cell? ⟨gb469, 1, none⟩ = some (.slice A0_1 l0_1.length c0_1) := (blk_cell BK469.out 1).trans rfl
        have hfz56_0 := blk_frozen BK469.out 0
        have hfz56_1 := blk_frozen BK469.out 1
        go_wp2_with (first | ((with_reducible refine gate_callee (f := 33) rfl ?_); refine goesL_ (some 69) rfl rfl Tryd.func33 (by kernel_rfl) rfl #[.slice A0_0 l0_0.length c0_0] rfl (by (try simp only [zE,zF,zG]); first|done|rfl|(simp only [zH,zI]; rfl)) ?_; (with_reducible refine (impl_InversePerm.calls k1 _ _ l0_0 t486 _ ?side1 ?side2 A51.out).mono ?_); (case side1 => repeat (first | exact (Kd.C_below HR0_0.out HB.out) | (with_reducible refine Kd.C_alloc ?_ _) | (with_reducible refine Kd.C_drewN ?_ _) | (with_reducible refine Kd.C_drew ?_))); (case side2 => exact HC0_0.out); rintro e w57 ⟨v487, rfl, ho0, hb⟩; refine ⟨_, rfl, ?_⟩; have n0_ := Aside0.mk (Kd.R_elder' (rX HO_6.out) (Kd.R_base ho0) hb); have n1_ := Aside0.mk (Kd.R_lower (Kd.R_new' ho0 (Kd.R_lt (rX HO_6.out))) (below_size (bX1 HB.out GE469.out))); have n2_ := Aside0.mk (blk_below (g := gb469) (o := .cells #[.slice A0_0 l0_0.length c0_0, .slice A0_1 l0_1.length c0_1] 27 (0, 0)) (kX BK469.out) hb); have n3_ := Aside0.mk (below_step (bX1 HB.out GE469.out) hb); clear HO_6; clear BK469; clear HB; have HO_6 := n0_; have HO488 := n1_; have BK469 := n2_; have HB := n3_; clear n0_ n1_ n2_ n3_; (try clear hb); (try clear hb2); (try clear hk); (try clear hi); (try clear ho0); have hcz58_0 : w57.cell? ⟨gb469, 0, none⟩ = some (.slice A0_0 l0_0.length c0_0) := (blk_cell BK469.out 0).trans rfl; have hcz58_1 : w57.cell? ⟨gb469, 1, none⟩ = some (.slice A0_1 l0_1.length c0_1) := (blk_cell BK469.out 1).trans rfl; have hfz58_0 := blk_frozen BK469.out 0; have hfz58_1 := blk_frozen BK469.out 1) | ((with_reducible refine gate_callee (f := 33) rfl ?_); refine goesL_ (some 72) rfl rfl Tryd.func33 (by kernel_rfl) rfl #[.slice A0_1 l0_1.length c0_1] rfl (by (try simp only [zE,zF,zG]); first|done|rfl|(simp only [zH,zI]; rfl)) ?_; (with_reducible refine (impl_InversePerm.calls k1 _ _ l0_1 t489 _ ?side1 ?side2 A52.out).mono ?_); (case side1 => repeat (first | exact (Kd.C_below HR0_1.out HB.out) | (with_reducible refine Kd.C_alloc ?_ _) | (with_reducible refine Kd.C_drewN ?_ _) | (with_reducible refine Kd.C_drew ?_))); (case side2 => exact HC0_1.out); rintro e w59 ⟨v490, rfl, ho0, hb⟩; refine ⟨_, rfl, ?_⟩; have n0_ := Aside0.mk (Kd.R_elder' (rX HO_6.out) (Kd.R_base ho0) hb); have n1_ := Aside0.mk (Kd.R_elder' (rX HO488.out) (Kd.R_base ho0) hb); have n2_ := Aside0.mk (Kd.R_lower (Kd.R_new' (Kd.R_new' ho0 (Kd.R_lt (rX HO_6.out))) (Kd.R_lt (rX HO488.out))) (below_size (bX1 HB.out GE469.out))); have n3_ := Aside0.mk (blk_below (g := gb469) (o := .cells #[.slice A0_0 l0_0.length c0_0, .slice A0_1 l0_1.length c0_1] 27 (0, 0)) (kX BK469.out) hb); have n4_ := Aside0.mk (below_step (bX1 HB.out GE469.out) hb); clear HO_6; clear HO488; clear BK469; clear HB; have HO_6 := n0_; have HO488 := n1_; have HO491 := n2_; have BK469 := n3_; have HB := n4_; clear n0_ n1_ n2_ n3_ n4_; (try clear hb); (try clear hb2); (try clear hk); (try clear hi); (try clear ho0)) | ((with_reducible refine gate_dst (N := 75) rfl ?_); refine Kd.R_make (Kd.int .i64) _ 3 rfl (N := 75) rfl 22 _ _ rfl (l1.length : Int) rfl rfl Tryd.underlying22 (.int .i64 0) 8 info3 rfl (by decide) (by omega) 0 (ok := fun _ => True) (okp := fun _ => True) rfl (fun _ hk => hk) trivial (dX) (Nat.le_trans (Nat.mul_le_mul_right _ (dX : (l1.length : Int).toNat ≤ 35184372088832)) (by omega)) (Below.refl _ _) (Nat.le_refl _) ?_; intro v493 w60 ho61 hb hg_ hnew_; clear hg_ hnew_; (first | rw [← Ny492.out] at ho61 | (simp only [Int.reduceToNat] at ho61; rw [← Ny492.out] at ho61)); have n0_ := Aside0.mk (Kd.R_elder' (rX HO_6.out) (Kd.R_base ho61) hb); have n1_ := Aside0.mk (Kd.R_elder' (rX HO488.out) (Kd.R_base ho61) hb); have n2_ := Aside0.mk (Kd.R_elder' (rX HO491.out) (Kd.R_base ho61) hb); have n3_ := Aside0.mk (Kd.R_lower (Kd.R_new' (Kd.R_new' (Kd.R_new' ho61 (Kd.R_lt (rX HO_6.out))) (Kd.R_lt (rX HO488.out))) (Kd.R_lt (rX HO491.out))) (below_size (bX1 HB.out GE469.out))); have n4_ := Aside0.mk (blk_below (g := gb469) (o := .cells #[.slice A0_0 l0_0.length c0_0, .slice A0_1 l0_1.length c0_1] 27 (0, 0)) (kX BK469.out) hb); have n5_ := Aside0.mk (below_step (bX1 HB.out GE469.out) hb); clear HO_6; clear HO488; clear HO491; clear BK469; clear HB; have HO_6 := n0_; have HO488 := n1_; have HO491 := n2_; have HO494 := n3_; have BK469 := n4_; have HB := n5_; clear n0_ n1_ n2_ n3_ n4_ n5_; clear hb ho61; have hcz62_0 : w60.cell? ⟨gb469, 0, none⟩ = some (.slice A0_0 l0_0.length c0_0) := (blk_cell BK469.out 0).trans rfl; have hcz62_1 : w60.cell? ⟨gb469, 1, none⟩ = some (.slice A0_1 l0_1.length c0_1) := (blk_cell BK469.out 1).trans rfl; have hfz62_0 := blk_frozen BK469.out 0; have hfz62_1 := blk_frozen BK469.out 1) | ((with_reducible refine gate_callee (f := 34) rfl ?_); refine goesL_ (some 77) rfl rfl Tryd.func34 (by kernel_rfl) rfl #[.agg #[.slice A0_0 l0_0.length c0_0, .slice A0_1 l0_1.length c0_1]] rfl (by (try simp only [zE,zF,zG]); first|done|rfl|(simp only [zH,zI]; rfl)) ?_; (with_reducible refine (impl_CornersOf.calls k1 _ _ l0_0 _ _ l0_1 t495 _ ?side1 ?side2 ?side3 ?side4 A55.out).mono ?_); (case side1 => repeat (first | exact (Kd.C_below HR0_0.out HB.out) | (with_reducible refine Kd.C_alloc ?_ _) | (with_reducible refine Kd.C_drewN ?_ _) | (with_reducible refine Kd.C_drew ?_))); (case side2 => exact HC0_0.out); (case side3 => repeat (first | exact (Kd.C_below HR0_1.out HB.out) | (with_reducible refine Kd.C_alloc ?_ _) | (with_reducible refine Kd.C_drewN ?_ _) | (with_reducible refine Kd.C_drew ?_))); (case side4 => exact HC0_1.out); rintro e w63 ⟨v496, rfl, ho0, hb⟩; refine ⟨_, rfl, ?_⟩; have n0_ := Aside0.mk (Kd.R_below (rX HO_6.out) hb); have n1_ := Aside0.mk (Kd.R_below (rX HO488.out) hb); have n2_ := Aside0.mk (Kd.R_below (rX HO491.out) hb); have n3_ := Aside0.mk (Kd.R_below (rX HO494.out) hb); have n4_ := Aside0.mk (Kd.S_lower (Kd.S_new' (Kd.S_new' (Kd.S_new' (Kd.S_new' ho0 (Kd.R_lt (rX HO_6.out))) (Kd.R_lt (rX HO488.out))) (Kd.R_lt (rX HO491.out))) (Kd.R_lt (rX HO494.out))) (below_size (bX1 HB.out GE469.out))); have n5_ := Aside0.mk (blk_below (g := gb469) (o := .cells #[.slice A0_0 l0_0.length c0_0, .slice A0_1 l0_1.length c0_1] 27 (0, 0)) (kX BK469.out) hb); have n6_ := Aside0.mk (below_step (bX1 HB.out GE469.out) hb); clear HO_6; clear HO488; clear HO491; clear HO494; clear BK469; clear HB; have HO_6 := n0_; have HO488 := n1_; have HO491 := n2_; have HO494 := n3_; have HO497 := n4_; have BK469 := n5_; have HB := n6_; clear n0_ n1_ n2_ n3_ n4_ n5_ n6_; (try clear hb); (try clear hb2); (try clear hk); (try clear hi); (try clear ho0); obtain ⟨Ao64, co64, eo64⟩ := Kd.S_slice HO497.out; subst eo64))
        go_loopg [80] k1 (fun kq v80 w' => ∃ (x11_2 : List Int) (x80_2 : Int), v80 = .int .i64 x80_2 ∧ Aside0 (impl_FixedPoints.l1 kq l1 x6_1 t486 t489 x11_2 t495 t495 (t495.length : Int) x80_2 = some (r1, r2)) ∧ Aside0 (kq ≤ k1) ∧ Aside0 (Kd.R (Kd.int .i64) 3 w' w.heap.size (fun k_ => some k_ ≠ (v487 : Value).ownBlock ∧ some k_ ≠ (v490 : Value).ownBlock ∧ some k_ ≠ (v493 : Value).ownBlock) v472 x6_1) ∧ Aside0 (Kd.R (Kd.int .i64) 3 w' w.heap.size (fun k_ => some k_ ≠ (v472 : Value).ownBlock ∧ some k_ ≠ (v490 : Value).ownBlock ∧ some k_ ≠ (v493 : Value).ownBlock) v487 t486) ∧ Aside0 (Kd.R (Kd.int .i64) 3 w' w.heap.size (fun k_ => some k_ ≠ (v472 : Value).ownBlock ∧ some k_ ≠ (v487 : Value).ownBlock ∧ some k_ ≠ (v493 : Value).ownBlock) v490 t489) ∧ Aside0 (Kd.R (Kd.int .i64) 3 w' w.heap.size (fun k_ => some k_ ≠ (v472 : Value).ownBlock ∧ some k_ ≠ (v487 : Value).ownBlock ∧ some k_ ≠ (v490 : Value).ownBlock) v493 x11_2) ∧ Aside0 (Kd.S (Kd.slice 3 (Kd.int .i64)) 22 w' w.heap.size (fun k_ => some k_ ≠ (v472 : Value).ownBlock ∧ some k_ ≠ (v487 : Value).ownBlock ∧ some k_ ≠ (v490 : Value).ownBlock ∧ some k_ ≠ (v493 : Value).ownBlock) (.slice Ao64 t495.length co64) t495) ∧ Aside0 (Kd.S (Kd.slice 3 (Kd.int .i64)) 22 w' w.heap.size (fun k_ => some k_ ≠ (v472 : Value).ownBlock ∧ some k_ ≠ (v487 : Value).ownBlock ∧ some k_ ≠ (v490 : Value).ownBlock ∧ some k_ ≠ (v493 : Value).ownBlock) (.slice Ao64 t495.length co64) t495) ∧ Aside0 (w'.heap[gb469]? = some (.cells #[(.slice A0_0 l0_0.length c0_0), (.slice A0_1 l0_1.length c0_1)] 27 (0, 0))) ∧ Aside0 (Below w.heap.size w w'))
        case atStart => exact ⟨(y492), (0), vX, H', ⟨Nat.le_refl _⟩, ⟨rM HO_6.out (fun _ hk => ⟨hk.1.1.2, ⟨hk.1.2, hk.2⟩⟩)⟩, ⟨rM HO488.out (fun _ hk => ⟨hk.1.1.2, ⟨hk.1.2, hk.2⟩⟩)⟩, ⟨rM HO491.out (fun _ hk => ⟨hk.1.1.2, ⟨hk.1.2, hk.2⟩⟩)⟩, ⟨rM HO494.out (fun _ hk => ⟨hk.1.1.2, ⟨hk.1.2, hk.2⟩⟩)⟩, ⟨by (with_reducible repeat (first | apply Kd.S_alloc | apply Kd.S_drewN | apply Kd.S_drew)); exact Kd.S_mono HO497.out (fun _ hk => ⟨hk.1.1.1.2, ⟨hk.1.1.2, ⟨hk.1.2, hk.2⟩⟩⟩)⟩, ⟨by (with_reducible repeat (first | apply Kd.S_alloc | apply Kd.S_drewN | apply Kd.S_drew)); exact Kd.S_mono HO497.out (fun _ hk => ⟨hk.1.1.1.2, ⟨hk.1.1.2, ⟨hk.1.2, hk.2⟩⟩⟩)⟩, ⟨kX BK469.out⟩, ⟨bX1 HB.out GE469.out⟩⟩
        case round =>
         clear H'
         try clear c1
         try clear p1
         try clear q1
         try clear hx1
         try clear qi1
         try clear c2
         try clear p2
         try clear q2
         try clear hx2
         try clear qi2
         try clear hf2
         try clear c3
         try clear c4
         try clear p4
         try clear q4
         try clear hx4
         try clear qi4
         try clear hf4
         try clear c5
         try clear c5b0
         try clear c5b1
         try clear p6
         try clear c11
         try clear c11b0
         try clear c12
         try clear c12b0
         try clear c13
         try clear c13b0
         try clear c15
         try clear c15b0
         try clear c15b1
         try clear c16
         try clear c16b0
         try clear c16b1
         try clear p17
         try clear q17
         try clear hx17
         try clear qi17
         try clear hf17
         try clear c21
         try clear c21b0
         try clear c22
         try clear c22b0
         try clear c23
         try clear c23b0
         try clear c23b1
         try clear c24
         try clear c24b0
         try clear c24b1
         try clear p25
         try clear q25
         try clear hx25
         try clear qi25
         try clear hf25
         try clear c26
         try clear c26b0
         try clear c27
         try clear c27b0
         try clear c27b1
         try clear c28
         try clear c28b0
         try clear c28b1
         try clear p29
         try clear q29
         try clear hx29
         try clear qi29
         try clear hf29
         try clear c32
         try clear c33
         try clear c34
         try clear c42
         try clear c42b0
         try clear c43
         try clear c43b0
         try clear c43b1
         try clear c44
         try clear c44b0
         try clear c44b1
         try clear p45
         try clear q45
         try clear hx45
         try clear qi45
         try clear hf45
         try clear p47
         try clear q47
         try clear hx47
         try clear qi47
         try clear p48
         try clear q48
         try clear hx48
         try clear qi48
         try clear c53
         try clear c53b0
         try clear c53b1
         try clear c54
         try clear c54b0
         try clear c54b1
         try clear p64
         try clear hcz30_0
         try clear hcz30_1
         try clear hcz34_0
         try clear hcz34_1
         try clear hcz37_0
         try clear hcz37_1
         try clear hcz41_0
         try clear hcz41_1
         try clear hcz46_0
         try clear hcz46_1
         try clear hcz50_0
         try clear hcz50_1
         try clear hcz56_0
         try clear hcz56_1
         try clear hcz58_0
         try clear hcz58_1
         try clear hcz62_0
         try clear hcz62_1
         try clear hcz7_0
         try clear hcz7_1
         try clear hfz30_0
         try clear hfz30_1
         try clear hfz34_0
         try clear hfz34_1
         try clear hfz37_0
         try clear hfz37_1
         try clear hfz41_0
         try clear hfz41_1
         try clear hfz46_0
         try clear hfz46_1
         try clear hfz50_0
         try clear hfz50_1
         try clear hfz56_0
         try clear hfz56_1
         try clear hfz58_0
         try clear hfz58_1
         try clear hfz62_0
         try clear hfz62_1
         try clear hfz7_0
         try clear hfz7_1
         try clear hx17_0
         try clear hx25_0
         try clear hx29_0
         try clear hx45_0
         try clear hx474_0
         try clear hx475_0
         try clear hx477_0
         try clear hx478_0
         try clear hx480_0
         try clear hx481_0
         try clear hx483_0
         try clear hx484_0
         try clear p1
         try clear p17
         try clear p2
         try clear p25
         try clear p29
         try clear p4
         try clear p45
         try clear p474
         try clear p475
         try clear p477
         try clear p478
         try clear p480
         try clear p481
         try clear p483
         try clear p484
         try clear p6
         try clear q1
         try clear q17
         try clear q25
         try clear q29
         try clear q4
         try clear q45
         try clear q474
         try clear q475
         try clear q477
         try clear q478
         try clear q480
         try clear q481
         try clear q483
         try clear q484
         obtain ⟨x11_2, x80_2, rfl, HA, HK2, HO_6, HO_9, HO_10, HO_11, HO_12, HO_78, BK469, HB⟩ := hrel
         cases gk with
         | zero => exact absurd HA.out (by simp [impl_FixedPoints.l1])
         | succ k2 =>
          have H := HA.out
          clear HA
          simp only [impl_FixedPoints.l1] at H
          by_cases c65 : x80_2 < (t495.length : Int)
          ·rw [if_pos c65] at H
           have c65b0 : decide (x80_2 < (t495.length : Int)) = true := decide_eq_true c65
           clear c65
           by_cases c66 : 0 ≤ x80_2
           ·rw [if_pos c66] at H
            have c66b0 : decide (0 ≤ x80_2) = true := decide_eq_true c66
            clear c66
            by_cases c67 : x80_2 < (t495.length : Int)
            ·rw [if_pos c67] at H
             have c67b0 : decide (x80_2 < (t495.length : Int)) = true := decide_eq_true c67
             clear c67
             have H' := Aside0.mk H
             clear H
             have p498 : 0 ≤ (x80_2 : Int) := dX
             have q498 : x80_2 < (t495.length : Int) := dX
             obtain ⟨ad498, A498_0, c498_0, e498, hx498_0, hl498_0, hi498_0⟩ := at_L1 (Kd.S_reads' HO_78.out).2.2 x80_2 p498 q498
             cases e498
             obtain ⟨ce498, hce498, hMe498, hcc498⟩ := Kd.S_get HO_78.out [] x80_2 p498 (by first | exact q498 | exact dX | (have e_ := (Kd.S_reads' HO_78.out).1; omega))
             obtain ⟨ve498_0, rfl, ge498_0⟩ := hMe498
             have hv498_0 := hcc498 0 _ rfl
             rw [Nat.add_zero, show ((Kd.slice 3 (Kd.int .i64))).sz = 1 from rfl, Nat.mul_one] at hv498_0
             replace hv498_0 := Option.some.inj (hv498_0.symm.trans hx498_0)
             rw [hv498_0] at ge498_0
             have HL498_0 := Aside0.mk (show Kd.R (Kd.int .i64) 3 _ _ _ _ (rd_L1 t495 x80_2) from ge498_0)
             clear hv498_0 ge498_0
             clear hcc498 hce498
             have HR498_0 := Aside0.mk hi498_0
             have HC498_0 := Aside0.mk hl498_0
             clear hi498_0 hl498_0
             replace p498 := eq_true p498
             replace q498 := eq_true q498
             go_wp2
             go_loopg [87] k2 (fun kq v87 w' => ∃ (x11_3 : List Int) (x87_3 : Int), v87 = .int .i64 x87_3 ∧ Aside0 (impl_FixedPoints.l2 kq l1 x6_1 t486 t489 x11_3 t495 x80_2 t495 (t495.length : Int) x80_2 (rd_L1 t495 x80_2) ((rd_L1 t495 x80_2).length : Int) x87_3 = some (r1, r2)) ∧ Aside0 (kq ≤ k2) ∧ Aside0 (Kd.R (Kd.int .i64) 3 w' w.heap.size (fun k_ => some k_ ≠ (v487 : Value).ownBlock ∧ some k_ ≠ (v490 : Value).ownBlock ∧ some k_ ≠ (v493 : Value).ownBlock) v472 x6_1) ∧ Aside0 (Kd.R (Kd.int .i64) 3 w' w.heap.size (fun k_ => some k_ ≠ (v472 : Value).ownBlock ∧ some k_ ≠ (v490 : Value).ownBlock ∧ some k_ ≠ (v493 : Value).ownBlock) v487 t486) ∧ Aside0 (Kd.R (Kd.int .i64) 3 w' w.heap.size (fun k_ => some k_ ≠ (v472 : Value).ownBlock ∧ some k_ ≠ (v487 : Value).ownBlock ∧ some k_ ≠ (v493 : Value).ownBlock) v490 t489) ∧ Aside0 (Kd.R (Kd.int .i64) 3 w' w.heap.size (fun k_ => some k_ ≠ (v472 : Value).ownBlock ∧ some k_ ≠ (v487 : Value).ownBlock ∧ some k_ ≠ (v490 : Value).ownBlock) v493 x11_3) ∧ Aside0 (Kd.S (Kd.slice 3 (Kd.int .i64)) 22 w' w.heap.size (fun k_ => some k_ ≠ (v472 : Value).ownBlock ∧ some k_ ≠ (v487 : Value).ownBlock ∧ some k_ ≠ (v490 : Value).ownBlock ∧ some k_ ≠ (v493 : Value).ownBlock) (.slice (some ad498) t495.length co64) t495) ∧ Aside0 (Kd.S (Kd.slice 3 (Kd.int .i64)) 22 w' w.heap.size (fun k_ => some k_ ≠ (v472 : Value).ownBlock ∧ some k_ ≠ (v487 : Value).ownBlock ∧ some k_ ≠ (v490 : Value).ownBlock ∧ some k_ ≠ (v493 : Value).ownBlock) (.slice (some ad498) t495.length co64) t495) ∧ Aside0 (Kd.R (Kd.int .i64) 3 w' w.heap.size (fun k_ => some k_ ≠ (v472 : Value).ownBlock ∧ some k_ ≠ (v487 : Value).ownBlock ∧ some k_ ≠ (v490 : Value).ownBlock ∧ some k_ ≠ (v493 : Value).ownBlock) (.slice A498_0 (rd_L1 t495 x80_2).length c498_0) (rd_L1 t495 x80_2)) ∧ Aside0 (w'.heap[gb469]? = some (.cells #[(.slice A0_0 l0_0.length c0_0), (.slice A0_1 l0_1.length c0_1)] 27 (0, 0))) ∧ Aside0 (Below w.heap.size w w'))
             case atStart => exact ⟨(x11_2), (0), vX, H', ⟨Nat.le_refl _⟩, ⟨rX HO_6.out⟩, ⟨rX HO_9.out⟩, ⟨rX HO_10.out⟩, ⟨rX HO_11.out⟩, ⟨by (with_reducible repeat (first | apply Kd.S_alloc | apply Kd.S_drewN | apply Kd.S_drew)); exact HO_12.out⟩, ⟨by (with_reducible repeat (first | apply Kd.S_alloc | apply Kd.S_drewN | apply Kd.S_drew)); exact HO_78.out⟩, ⟨rM HL498_0.out (fun _ hk => hk.1)⟩, ⟨kX BK469.out⟩, ⟨bX1 HB.out GE469.out⟩⟩
             case round =>
              clear H'
              try clear c1
              try clear p1
              try clear q1
              try clear hx1
              try clear qi1
              try clear c2
              try clear p2
              try clear q2
              try clear hx2
              try clear qi2
              try clear hf2
              try clear c3
              try clear c4
              try clear p4
              try clear q4
              try clear hx4
              try clear qi4
              try clear hf4
              try clear c5
              try clear c5b0
              try clear c5b1
              try clear c6
              try clear p6
              try clear c11
              try clear c11b0
              try clear c12
              try clear c12b0
              try clear c13
              try clear c13b0
              try clear c15
              try clear c15b0
              try clear c15b1
              try clear c16
              try clear c16b0
              try clear c16b1
              try clear p17
              try clear q17
              try clear hx17
              try clear qi17
              try clear hf17
              try clear c21
              try clear c21b0
              try clear c22
              try clear c22b0
              try clear c23
              try clear c23b0
              try clear c23b1
              try clear c24
              try clear c24b0
              try clear c24b1
              try clear p25
              try clear q25
              try clear hx25
              try clear qi25
              try clear hf25
              try clear c26
              try clear c26b0
              try clear c27
              try clear c27b0
              try clear c27b1
              try clear c28
              try clear c28b0
              try clear c28b1
              try clear p29
              try clear q29
              try clear hx29
              try clear qi29
              try clear hf29
              try clear c32
              try clear c33
              try clear c34
              try clear c42
              try clear c42b0
              try clear c43
              try clear c43b0
              try clear c43b1
              try clear c44
              try clear c44b0
              try clear c44b1
              try clear p45
              try clear q45
              try clear hx45
              try clear qi45
              try clear hf45
              try clear p47
              try clear q47
              try clear hx47
              try clear qi47
              try clear p48
              try clear q48
              try clear hx48
              try clear qi48
              try clear c49
              try clear p49
              try clear q49
              try clear hx49
              try clear c53
              try clear c53b0
              try clear c53b1
              try clear c54
              try clear c54b0
              try clear c54b1
              try clear p64
              try clear c65
              try clear c65b0
              try clear c66
              try clear c66b0
              try clear c67
              try clear c67b0
              try clear hcz30_0
              try clear hcz30_1
              try clear hcz34_0
              try clear hcz34_1
              try clear hcz37_0
              try clear hcz37_1
              try clear hcz41_0
              try clear hcz41_1
              try clear hcz46_0
              try clear hcz46_1
              try clear hcz50_0
              try clear hcz50_1
              try clear hcz56_0
              try clear hcz56_1
              try clear hcz58_0
              try clear hcz58_1
              try clear hcz62_0
              try clear hcz62_1
              try clear hcz7_0
              try clear hcz7_1
              try clear hfz30_0
              try clear hfz30_1
              try clear hfz34_0
              try clear hfz34_1
              try clear hfz37_0
              try clear hfz37_1
              try clear hfz41_0
              try clear hfz41_1
              try clear hfz46_0
              try clear hfz46_1
              try clear hfz50_0
              try clear hfz50_1
              try clear hfz56_0
              try clear hfz56_1
              try clear hfz58_0
              try clear hfz58_1
              try clear hfz62_0
              try clear hfz62_1
              try clear hfz7_0
              try clear hfz7_1
              try clear hx17_0
              try clear hx25_0
              try clear hx29_0
              try clear hx45_0
              try clear hx474_0
              try clear hx475_0
              try clear hx477_0
              try clear hx478_0
              try clear hx480_0
              try clear hx481_0
              try clear hx483_0
              try clear hx484_0
              try clear hx498_0
              try clear p1
              try clear p17
              try clear p2
              try clear p25
              try clear p29
              try clear p4
              try clear p45
              try clear p47
              try clear p474
              try clear p475
              try clear p477
              try clear p478
              try clear p48
              try clear p480
              try clear p481
              try clear p483
              try clear p484
              try clear p498
              try clear p6
              try clear p64
              try clear q1
              try clear q17
              try clear q2
              try clear q25
              try clear q29
              try clear q4
              try clear q45
              try clear q47
              try clear q474
              try clear q475
              try clear q477
              try clear q478
              try clear q48
              try clear q480
              try clear q481
              try clear q483
              try clear q484
              try clear q498
              obtain ⟨x11_3, x87_3, rfl, HA, HK3, HO_6, HO_9, HO_10, HO_11, HO_12, HO_78, HL498_0, BK469, HB⟩ := hrel
              cases gk with
              | zero => exact absurd HA.out (by simp [impl_FixedPoints.l2])
              | succ k3 =>
               have H := HA.out
               clear HA
               simp only [impl_FixedPoints.l2] at H
               by_cases c68 : x87_3 < ((rd_L1 t495 x80_2).length : Int)
               ·rw [if_pos c68] at H
                have c68b0 : decide (x87_3 < ((rd_L1 t495 x80_2).length : Int)) = true := decide_eq_true c68
                clear c68
                by_cases c69 : 0 ≤ x87_3
                ·rw [if_pos c69] at H
                 have c69b0 : decide (0 ≤ x87_3) = true := decide_eq_true c69
                 clear c69
                 by_cases c70 : x87_3 < ((rd_L1 t495 x80_2).length : Int)
                 ·rw [if_pos c70] at H
                  have c70b0 : decide (x87_3 < ((rd_L1 t495 x80_2).length : Int)) = true := decide_eq_true c70
                  clear c70
                  by_cases c71 : 0 ≤ (rd (rd_L1 t495 x80_2) x87_3)
                  ·rw [if_pos c71] at H
                   have c71b0 : decide (0 ≤ (rd (rd_L1 t495 x80_2) x87_3)) = true := decide_eq_true c71
                   clear c71
                   by_cases c72 : (rd (rd_L1 t495 x80_2) x87_3) < (x11_3.length : Int)
                   ·rw [if_pos c72] at H
                    have c72b0 : decide ((rd (rd_L1 t495 x80_2) x87_3) < (x11_3.length : Int)) = true := decide_eq_true c72
                    clear c72
                    obtain ⟨y500, hy500⟩ : ∃ y_ : List Int, y_ = (x11_3.set ((rd (rd_L1 t495 x80_2) x87_3) : Int).toNat x80_2) := ⟨_, rfl⟩
                    replace H : (impl_FixedPoints.l2 k3 l1 x6_1 t486 t489 y500 t495 x80_2 t495 (t495.length : Int) x80_2 (rd_L1 t495 x80_2) ((rd_L1 t495 x80_2).length : Int) (wrap64 (x87_3 + 1))) = some (r1, r2) := by first | (rw [hy500]; with_reducible exact H) | (have H2_ := (Option.bind_some _ _).symm.trans H; rw [hy500]; with_reducible exact H2_) | (have H2_ := (Option.bind_some _ _).symm.trans H; with_reducible exact H2_) | with_reducible exact H | (rw [hy500]; exact H) | exact H
                    have Ny500 := Aside0.mk hy500
                    clear hy500
                    have H' := Aside0.mk H
                    clear H
                    have p499 : 0 ≤ (x87_3 : Int) := dX
                    have q499 : x87_3 < ((rd_L1 t495 x80_2).length : Int) := dX
                    obtain ⟨ad499, e499, hx499_0⟩ := Kd.at_int (Kd.R_reads' HL498_0.out).2.2 x87_3 p499 q499
                    cases e499
                    replace p499 := eq_true p499
                    replace q499 := eq_true q499
                    have p73 : 0 ≤ ((rd (rd_L1 t495 x80_2) x87_3) : Int) := dX
                    have q73 : ((rd (rd_L1 t495 x80_2) x87_3) : Int) < ((x11_3.length : Int) : Int) := dX
                    obtain ⟨go73, co73, eo73, gb73, gl73, cl73, HG73⟩ := Kd.R_form HO_11.out (by omega)
                    (first | cases eo73 | (injection eo73 with ea_ en_ ec_; (first | subst ea_ | (injection ea_ with ea_; subst ea_)); subst ec_; clear en_))
                    have GB73 := Aside0.mk gb73
                    have GG73 := Aside0.mk HG73
                    clear gb73 gl73 HG73
                    obtain ⟨hx73_0, hf73_0⟩ := Kd.R_celln 0 HO_11.out ((rd (rd_L1 t495 x80_2) x87_3) : Int) p73 q73
                    replace p73 := eq_true p73
                    replace q73 := eq_true q73
                    have HP74 := Kd.R_putg HO_11.out ((rd (rd_L1 t495 x80_2) x87_3) : Int) x80_2
                    go_wp2_with (first | ((with_reducible refine gate_store (t := 3) (p := 94) rfl ?_); refine store_event (t := 3) (p := 94) (v := ?vo_w75) (w1 := (wr.setCell ⟨go73, ((rd (rd_L1 t495 x80_2) x87_3) : Int).toNat, none⟩ (.int .i64 x80_2))) ?hg ?ho ?hn ?hr ?_; (case ho => rfl); (case hg => rfl); (case hn => rfl); (case hr => first | (go_simp; done) | (go_simp; rfl)); intro w75 hw; have hg : wr.grownBy w75 (some go73) := (by rw [hw]; exact HP74.2); have hp_ : Kd.R (Kd.int .i64) 3 w75 w.heap.size (fun k_ => some k_ ≠ (v472 : Value).ownBlock ∧ some k_ ≠ (v487 : Value).ownBlock ∧ some k_ ≠ (v490 : Value).ownBlock) (.slice (some ⟨go73, 0, none⟩) x11_3.length co73) y500 := (by rw [hw, Ny500.out]; exact HP74.1); clear HP74; have n0_ := Aside0.mk (Kd.R_after (v := (.slice (some ⟨go73, 0, none⟩) x11_3.length co73)) (v1 := (.slice (some ⟨go73, 0, none⟩) x11_3.length co73)) (ok := (fun k_ => some k_ ≠ (v487 : Value).ownBlock ∧ some k_ ≠ (v490 : Value).ownBlock)) (rM HO_6.out (fun _ hk => ⟨⟨hk.1, hk.2.1⟩, hk.2.2⟩)) hg (.inl rfl)); have n1_ := Aside0.mk (Kd.R_after (v := (.slice (some ⟨go73, 0, none⟩) x11_3.length co73)) (v1 := (.slice (some ⟨go73, 0, none⟩) x11_3.length co73)) (ok := (fun k_ => some k_ ≠ (v472 : Value).ownBlock ∧ some k_ ≠ (v490 : Value).ownBlock)) (rM HO_9.out (fun _ hk => ⟨⟨hk.1, hk.2.1⟩, hk.2.2⟩)) hg (.inl rfl)); have n2_ := Aside0.mk (Kd.R_after (v := (.slice (some ⟨go73, 0, none⟩) x11_3.length co73)) (v1 := (.slice (some ⟨go73, 0, none⟩) x11_3.length co73)) (ok := (fun k_ => some k_ ≠ (v472 : Value).ownBlock ∧ some k_ ≠ (v487 : Value).ownBlock)) (rM HO_10.out (fun _ hk => ⟨⟨hk.1, hk.2.1⟩, hk.2.2⟩)) hg (.inl rfl)); have n3_ := Aside0.mk (hp_); have n4_ := Aside0.mk (Kd.S_after (v := (.slice (some ⟨go73, 0, none⟩) x11_3.length co73)) (v1 := (.slice (some ⟨go73, 0, none⟩) x11_3.length co73)) (ok := (fun k_ => some k_ ≠ (v472 : Value).ownBlock ∧ some k_ ≠ (v487 : Value).ownBlock ∧ some k_ ≠ (v490 : Value).ownBlock)) (by (with_reducible repeat (first | apply Kd.S_alloc | apply Kd.S_drewN | apply Kd.S_drew)); exact Kd.S_mono HO_12.out (fun _ hk => ⟨⟨hk.1, ⟨hk.2.1, hk.2.2.1⟩⟩, hk.2.2.2⟩)) hg (.inl rfl)); have n5_ := Aside0.mk (Kd.S_after (v := (.slice (some ⟨go73, 0, none⟩) x11_3.length co73)) (v1 := (.slice (some ⟨go73, 0, none⟩) x11_3.length co73)) (ok := (fun k_ => some k_ ≠ (v472 : Value).ownBlock ∧ some k_ ≠ (v487 : Value).ownBlock ∧ some k_ ≠ (v490 : Value).ownBlock)) (by (with_reducible repeat (first | apply Kd.S_alloc | apply Kd.S_drewN | apply Kd.S_drew)); exact Kd.S_mono HO_78.out (fun _ hk => ⟨⟨hk.1, ⟨hk.2.1, hk.2.2.1⟩⟩, hk.2.2.2⟩)) hg (.inl rfl)); have n6_ := Aside0.mk (blk_grown (g := gb469) (o := .cells #[.slice A0_0 l0_0.length c0_0, .slice A0_1 l0_1.length c0_1] 27 (0, 0)) (kX BK469.out) hg (Kd.R_ne HO_11.out BK469.out (by decide))); have n7_ := Aside0.mk ((by rw [hw]; exact below_set (HB.out) GB73.out : Below w.heap.size w w75)); have nL_ := Aside0.mk (Kd.R_after (v := (.slice (some ⟨go73, 0, none⟩) x11_3.length co73)) (v1 := (.slice (some ⟨go73, 0, none⟩) x11_3.length co73)) (ok := (fun k_ => some k_ ≠ (v472 : Value).ownBlock ∧ some k_ ≠ (v487 : Value).ownBlock ∧ some k_ ≠ (v490 : Value).ownBlock)) (rM HL498_0.out (fun _ hk => ⟨⟨hk.1, ⟨hk.2.1, hk.2.2.1⟩⟩, hk.2.2.2⟩)) hg (.inl rfl)); clear HL498_0; have HL498_0 := nL_; clear nL_; clear HO_6; clear HO_9; clear HO_10; clear HO_11; clear HO_12; clear HO_78; clear BK469; clear HB; have HO_6 := n0_; have HO_9 := n1_; have HO_10 := n2_; have HO_11 := n3_; have HO_12 := n4_; have HO_78 := n5_; have BK469 := n6_; have HB := n7_; clear n0_ n1_ n2_ n3_ n4_ n5_ n6_ n7_; clear hg hw hp_))
                    go_roundg k3
                    case measure => have := HK1.out; have := HK2.out; have := HK3.out; omega
                    case rel => exact ⟨(y500), (wrap64 (x87_3 + 1)), vX, H', ⟨by have := HK1.out; have := HK2.out; have := HK3.out; omega⟩, ⟨rM HO_6.out (fun _ hk => ⟨hk.1.1, ⟨hk.1.2, hk.2⟩⟩)⟩, ⟨rM HO_9.out (fun _ hk => ⟨hk.1.1, ⟨hk.1.2, hk.2⟩⟩)⟩, ⟨rM HO_10.out (fun _ hk => ⟨hk.1.1, ⟨hk.1.2, hk.2⟩⟩)⟩, ⟨rX HO_11.out⟩, ⟨by (with_reducible repeat (first | apply Kd.S_alloc | apply Kd.S_drewN | apply Kd.S_drew)); exact Kd.S_mono HO_12.out (fun _ hk => ⟨hk.1.1, ⟨hk.1.2.1, ⟨hk.1.2.2, hk.2⟩⟩⟩)⟩, ⟨by (with_reducible repeat (first | apply Kd.S_alloc | apply Kd.S_drewN | apply Kd.S_drew)); exact Kd.S_mono HO_78.out (fun _ hk => ⟨hk.1.1, ⟨hk.1.2.1, ⟨hk.1.2.2, hk.2⟩⟩⟩)⟩, ⟨rM HL498_0.out (fun _ hk => ⟨hk.1.1, ⟨hk.1.2.1, ⟨hk.1.2.2, hk.2⟩⟩⟩)⟩, ⟨kX BK469.out⟩, ⟨bX1 HB.out GE469.out⟩⟩
                   ·rw [if_neg c72] at H
                    exact absurd H (by simp)
                  ·rw [if_neg c71] at H
                   exact absurd H (by simp)
                 ·rw [if_neg c70] at H
                  exact absurd H (by simp)
                ·rw [if_neg c69] at H
                 exact absurd H (by simp)
               ·rw [if_neg c68] at H
                have c68b0 : decide (x87_3 < ((rd_L1 t495 x80_2).length : Int)) = false := decide_eq_false c68
                clear c68
                have H' := Aside0.mk H
                clear H
                go_wp2
                go_roundg k3
                case measure => have := HK1.out; have := HK2.out; have := HK3.out; omega
                case rel => exact ⟨(x11_3), (wrap64 (x80_2 + 1)), vX, H', ⟨by have := HK1.out; have := HK2.out; have := HK3.out; omega⟩, ⟨rX HO_6.out⟩, ⟨rX HO_9.out⟩, ⟨rX HO_10.out⟩, ⟨rX HO_11.out⟩, ⟨by (with_reducible repeat (first | apply Kd.S_alloc | apply Kd.S_drewN | apply Kd.S_drew)); exact HO_12.out⟩, ⟨by (with_reducible repeat (first | apply Kd.S_alloc | apply Kd.S_drewN | apply Kd.S_drew)); exact HO_78.out⟩, ⟨kX BK469.out⟩, ⟨bX1 HB.out GE469.out⟩⟩
            ·rw [if_neg c67] at H
             exact absurd H (by simp)
           ·rw [if_neg c66] at H
            exact absurd H (by simp)
          ·rw [if_neg c65] at H
           have c65b0 : decide (x80_2 < (t495.length : Int)) = false := decide_eq_false c65
           clear c65
           have H' := Aside0.mk H
           clear H
           go_wp2
           go_loopg [99] k2 (fun kq v99 w' => ∃ (x6_3 : List Int) (x99_3 : Int), v99 = .int .i64 x99_3 ∧ Aside0 (impl_FixedPoints.l3 kq l1 x6_3 t486 t489 x11_2 t495 (t495.length : Int) x99_3 = some (r1, r2)) ∧ Aside0 (kq ≤ k2) ∧ Aside0 (Kd.R (Kd.int .i64) 3 w' w.heap.size (fun k_ => some k_ ≠ (v487 : Value).ownBlock ∧ some k_ ≠ (v490 : Value).ownBlock ∧ some k_ ≠ (v493 : Value).ownBlock) v472 x6_3) ∧ Aside0 (Kd.R (Kd.int .i64) 3 w' w.heap.size (fun k_ => some k_ ≠ (v472 : Value).ownBlock ∧ some k_ ≠ (v490 : Value).ownBlock ∧ some k_ ≠ (v493 : Value).ownBlock) v487 t486) ∧ Aside0 (Kd.R (Kd.int .i64) 3 w' w.heap.size (fun k_ => some k_ ≠ (v472 : Value).ownBlock ∧ some k_ ≠ (v487 : Value).ownBlock ∧ some k_ ≠ (v493 : Value).ownBlock) v490 t489) ∧ Aside0 (Kd.R (Kd.int .i64) 3 w' w.heap.size (fun k_ => some k_ ≠ (v472 : Value).ownBlock ∧ some k_ ≠ (v487 : Value).ownBlock ∧ some k_ ≠ (v490 : Value).ownBlock) v493 x11_2) ∧ Aside0 (Kd.S (Kd.slice 3 (Kd.int .i64)) 22 w' w.heap.size (fun k_ => some k_ ≠ (v472 : Value).ownBlock ∧ some k_ ≠ (v487 : Value).ownBlock ∧ some k_ ≠ (v490 : Value).ownBlock ∧ some k_ ≠ (v493 : Value).ownBlock) (.slice Ao64 t495.length co64) t495) ∧ Aside0 (w'.heap[gb469]? = some (.cells #[(.slice A0_0 l0_0.length c0_0), (.slice A0_1 l0_1.length c0_1)] 27 (0, 0))) ∧ Aside0 (Below w.heap.size w w'))
           case atStart => exact ⟨(x6_1), (0), vX, H', ⟨Nat.le_refl _⟩, ⟨rX HO_6.out⟩, ⟨rX HO_9.out⟩, ⟨rX HO_10.out⟩, ⟨rX HO_11.out⟩, ⟨by (with_reducible repeat (first | apply Kd.S_alloc | apply Kd.S_drewN | apply Kd.S_drew)); exact HO_12.out⟩, ⟨kX BK469.out⟩, ⟨bX1 HB.out GE469.out⟩⟩
           case round =>
            clear H'
            try clear c1
            try clear p1
            try clear q1
            try clear hx1
            try clear qi1
            try clear c2
            try clear p2
            try clear q2
            try clear hx2
            try clear qi2
            try clear hf2
            try clear c3
            try clear c4
            try clear p4
            try clear q4
            try clear hx4
            try clear qi4
            try clear hf4
            try clear c5
            try clear c5b0
            try clear c5b1
            try clear c6
            try clear p6
            try clear c7
            try clear p7
            try clear q7
            try clear hx7
            try clear hf7
            try clear c11
            try clear c11b0
            try clear c12
            try clear c12b0
            try clear c13
            try clear c13b0
            try clear c15
            try clear c15b0
            try clear c15b1
            try clear c16
            try clear c16b0
            try clear c16b1
            try clear p17
            try clear q17
            try clear hx17
            try clear qi17
            try clear hf17
            try clear c21
            try clear c21b0
            try clear c22
            try clear c22b0
            try clear c23
            try clear c23b0
            try clear c23b1
            try clear c24
            try clear c24b0
            try clear c24b1
            try clear p25
            try clear q25
            try clear hx25
            try clear qi25
            try clear hf25
            try clear c26
            try clear c26b0
            try clear c27
            try clear c27b0
            try clear c27b1
            try clear c28
            try clear c28b0
            try clear c28b1
            try clear p29
            try clear q29
            try clear hx29
            try clear qi29
            try clear hf29
            try clear c32
            try clear c33
            try clear c34
            try clear c42
            try clear c42b0
            try clear c43
            try clear c43b0
            try clear c43b1
            try clear c44
            try clear c44b0
            try clear c44b1
            try clear p45
            try clear q45
            try clear hx45
            try clear qi45
            try clear hf45
            try clear p47
            try clear q47
            try clear hx47
            try clear qi47
            try clear p48
            try clear q48
            try clear hx48
            try clear qi48
            try clear c49
            try clear p49
            try clear q49
            try clear hx49
            try clear c53
            try clear c53b0
            try clear c53b1
            try clear c54
            try clear c54b0
            try clear c54b1
            try clear p64
            try clear c65
            try clear c65b0
            try clear c66
            try clear c66b0
            try clear c67
            try clear c67b0
            try clear c68
            try clear c68b0
            try clear c69
            try clear c69b0
            try clear c70
            try clear c70b0
            try clear c71
            try clear c71b0
            try clear c72
            try clear c72b0
            try clear p73
            try clear q73
            try clear hx73
            try clear hf73
            try clear hcz30_0
            try clear hcz30_1
            try clear hcz34_0
            try clear hcz34_1
            try clear hcz37_0
            try clear hcz37_1
            try clear hcz41_0
            try clear hcz41_1
            try clear hcz46_0
            try clear hcz46_1
            try clear hcz50_0
            try clear hcz50_1
            try clear hcz56_0
            try clear hcz56_1
            try clear hcz58_0
            try clear hcz58_1
            try clear hcz62_0
            try clear hcz62_1
            try clear hcz7_0
            try clear hcz7_1
            try clear hfz30_0
            try clear hfz30_1
            try clear hfz34_0
            try clear hfz34_1
            try clear hfz37_0
            try clear hfz37_1
            try clear hfz41_0
            try clear hfz41_1
            try clear hfz46_0
            try clear hfz46_1
            try clear hfz50_0
            try clear hfz50_1
            try clear hfz56_0
            try clear hfz56_1
            try clear hfz58_0
            try clear hfz58_1
            try clear hfz62_0
            try clear hfz62_1
            try clear hfz7_0
            try clear hfz7_1
            try clear hx17_0
            try clear hx25_0
            try clear hx29_0
            try clear hx45_0
            try clear hx474_0
            try clear hx475_0
            try clear hx477_0
            try clear hx478_0
            try clear hx480_0
            try clear hx481_0
            try clear hx483_0
            try clear hx484_0
            try clear hx498_0
            try clear hx499_0
            try clear hx73_0
            try clear p1
            try clear p17
            try clear p2
            try clear p25
            try clear p29
            try clear p4
            try clear p45
            try clear p47
            try clear p474
            try clear p475
            try clear p477
            try clear p478
            try clear p48
            try clear p480
            try clear p481
            try clear p483
            try clear p484
            try clear p49
            try clear p498
            try clear p499
            try clear p6
            try clear p64
            try clear p73
            try clear q1
            try clear q17
            try clear q2
            try clear q25
            try clear q29
            try clear q4
            try clear q45
            try clear q47
            try clear q474
            try clear q475
            try clear q477
            try clear q478
            try clear q48
            try clear q480
            try clear q481
            try clear q483
            try clear q484
            try clear q49
            try clear q498
            try clear q499
            try clear q73
            obtain ⟨x6_3, x99_3, rfl, HA, HK3, HO_6, HO_9, HO_10, HO_11, HO_97, BK469, HB⟩ := hrel
            cases gk with
            | zero => exact absurd HA.out (by simp [impl_FixedPoints.l3])
            | succ k3 =>
             have H := HA.out
             clear HA
             simp only [impl_FixedPoints.l3] at H
             by_cases c76 : x99_3 < (t495.length : Int)
             ·rw [if_pos c76] at H
              have c76b0 : decide (x99_3 < (t495.length : Int)) = true := decide_eq_true c76
              clear c76
              by_cases c77 : 0 ≤ x99_3
              ·rw [if_pos c77] at H
               have c77b0 : decide (0 ≤ x99_3) = true := decide_eq_true c77
               clear c77
               by_cases c78 : x99_3 < (t495.length : Int)
               ·rw [if_pos c78] at H
                have c78b0 : decide (x99_3 < (t495.length : Int)) = true := decide_eq_true c78
                clear c78
                have H' := Aside0.mk H
                clear H
                have p501 : 0 ≤ (x99_3 : Int) := dX
                have q501 : x99_3 < (t495.length : Int) := dX
                obtain ⟨ad501, A501_0, c501_0, e501, hx501_0, hl501_0, hi501_0⟩ := at_L1 (Kd.S_reads' HO_97.out).2.2 x99_3 p501 q501
                cases e501
                obtain ⟨ce501, hce501, hMe501, hcc501⟩ := Kd.S_get HO_97.out [] x99_3 p501 (by first | exact q501 | exact dX | (have e_ := (Kd.S_reads' HO_97.out).1; omega))
                obtain ⟨ve501_0, rfl, ge501_0⟩ := hMe501
                have hv501_0 := hcc501 0 _ rfl
                rw [Nat.add_zero, show ((Kd.slice 3 (Kd.int .i64))).sz = 1 from rfl, Nat.mul_one] at hv501_0
                replace hv501_0 := Option.some.inj (hv501_0.symm.trans hx501_0)
                rw [hv501_0] at ge501_0
                have HL501_0 := Aside0.mk (show Kd.R (Kd.int .i64) 3 _ _ _ _ (rd_L1 t495 x99_3) from ge501_0)
                clear hv501_0 ge501_0
                clear hcc501 hce501
                have HR501_0 := Aside0.mk hi501_0
                have HC501_0 := Aside0.mk hl501_0
                clear hi501_0 hl501_0
                replace p501 := eq_true p501
                replace q501 := eq_true q501
                go_wp2
                go_loopg [19, 106] k3 (fun kq v19 v106 w' => ∃ (x19_4 : Bool) (x106_4 : Int), v19 = .bool x19_4 ∧ v106 = .int .i64 x106_4 ∧ Aside0 (impl_FixedPoints.l4 kq l1 x6_3 t486 t489 x11_2 x99_3 x19_4 t495 (t495.length : Int) x99_3 (rd_L1 t495 x99_3) ((rd_L1 t495 x99_3).length : Int) x106_4 = some (r1, r2)) ∧ Aside0 (kq ≤ k3) ∧ Aside0 (Kd.R (Kd.int .i64) 3 w' w.heap.size (fun k_ => some k_ ≠ (v487 : Value).ownBlock ∧ some k_ ≠ (v490 : Value).ownBlock ∧ some k_ ≠ (v493 : Value).ownBlock) v472 x6_3) ∧ Aside0 (Kd.R (Kd.int .i64) 3 w' w.heap.size (fun k_ => some k_ ≠ (v472 : Value).ownBlock ∧ some k_ ≠ (v490 : Value).ownBlock ∧ some k_ ≠ (v493 : Value).ownBlock) v487 t486) ∧ Aside0 (Kd.R (Kd.int .i64) 3 w' w.heap.size (fun k_ => some k_ ≠ (v472 : Value).ownBlock ∧ some k_ ≠ (v487 : Value).ownBlock ∧ some k_ ≠ (v493 : Value).ownBlock) v490 t489) ∧ Aside0 (Kd.R (Kd.int .i64) 3 w' w.heap.size (fun k_ => some k_ ≠ (v472 : Value).ownBlock ∧ some k_ ≠ (v487 : Value).ownBlock ∧ some k_ ≠ (v490 : Value).ownBlock) v493 x11_2) ∧ Aside0 (Kd.S (Kd.slice 3 (Kd.int .i64)) 22 w' w.heap.size (fun k_ => some k_ ≠ (v472 : Value).ownBlock ∧ some k_ ≠ (v487 : Value).ownBlock ∧ some k_ ≠ (v490 : Value).ownBlock ∧ some k_ ≠ (v493 : Value).ownBlock) (.slice (some ad501) t495.length co64) t495) ∧ Aside0 (w'.heap[gb469]? = some (.cells #[(.slice A0_0 l0_0.length c0_0), (.slice A0_1 l0_1.length c0_1)] 27 (0, 0))) ∧ Aside0 (Kd.C (Kd.int .i64) w' A501_0 (rd_L1 t495 x99_3).length (rd_L1 t495 x99_3)) ∧ Aside0 (Below w.heap.size w w'))
                case atStart => exact ⟨(true), (0), vX, vX, H', ⟨Nat.le_refl _⟩, ⟨rX HO_6.out⟩, ⟨rX HO_9.out⟩, ⟨rX HO_10.out⟩, ⟨rX HO_11.out⟩, ⟨by (with_reducible repeat (first | apply Kd.S_alloc | apply Kd.S_drewN | apply Kd.S_drew)); exact HO_97.out⟩, ⟨kX BK469.out⟩, ⟨cX HR501_0.out⟩, ⟨bX1 HB.out GE469.out⟩⟩
                case round =>
                 clear H'
                 try clear c1
                 try clear p1
                 try clear q1
                 try clear hx1
                 try clear qi1
                 try clear c2
                 try clear p2
                 try clear q2
                 try clear hx2
                 try clear qi2
                 try clear hf2
                 try clear c3
                 try clear c4
                 try clear p4
                 try clear q4
                 try clear hx4
                 try clear qi4
                 try clear hf4
                 try clear c5
                 try clear c5b0
                 try clear c5b1
                 try clear p5
                 try clear q5
                 try clear hx5
                 try clear c6
                 try clear p6
                 try clear c7
                 try clear p7
                 try clear q7
                 try clear hx7
                 try clear hf7
                 try clear c11
                 try clear c11b0
                 try clear c12
                 try clear c12b0
                 try clear c13
                 try clear c13b0
                 try clear c15
                 try clear c15b0
                 try clear c15b1
                 try clear c16
                 try clear c16b0
                 try clear c16b1
                 try clear p17
                 try clear q17
                 try clear hx17
                 try clear qi17
                 try clear hf17
                 try clear c21
                 try clear c21b0
                 try clear c22
                 try clear c22b0
                 try clear c23
                 try clear c23b0
                 try clear c23b1
                 try clear c24
                 try clear c24b0
                 try clear c24b1
                 try clear p25
                 try clear q25
                 try clear hx25
                 try clear qi25
                 try clear hf25
                 try clear c26
                 try clear c26b0
                 try clear c27
                 try clear c27b0
                 try clear c27b1
                 try clear c28
                 try clear c28b0
                 try clear c28b1
                 try clear p29
                 try clear q29
                 try clear hx29
                 try clear qi29
                 try clear hf29
                 try clear c32
                 try clear c33
                 try clear c34
                 try clear c42
                 try clear c42b0
                 try clear c43
                 try clear c43b0
                 try clear c43b1
                 try clear c44
                 try clear c44b0
                 try clear c44b1
                 try clear p45
                 try clear q45
                 try clear hx45
                 try clear qi45
                 try clear hf45
                 try clear p47
                 try clear q47
                 try clear hx47
                 try clear qi47
                 try clear p48
                 try clear q48
                 try clear hx48
                 try clear qi48
                 try clear c49
                 try clear p49
                 try clear q49
                 try clear hx49
                 try clear c50
                 try clear p50
                 try clear q50
                 try clear hx50
                 try clear c53
                 try clear c53b0
                 try clear c53b1
                 try clear c54
                 try clear c54b0
                 try clear c54b1
                 try clear p64
                 try clear c65
                 try clear c65b0
                 try clear c66
                 try clear c66b0
                 try clear c67
                 try clear c67b0
                 try clear c68
                 try clear c68b0
                 try clear c69
                 try clear c69b0
                 try clear c70
                 try clear c70b0
                 try clear c71
                 try clear c71b0
                 try clear c72
                 try clear c72b0
                 try clear p73
                 try clear q73
                 try clear hx73
                 try clear hf73
                 try clear c76
                 try clear c76b0
                 try clear c77
                 try clear c77b0
                 try clear c78
                 try clear c78b0
                 try clear hcz30_0
                 try clear hcz30_1
                 try clear hcz34_0
                 try clear hcz34_1
                 try clear hcz37_0
                 try clear hcz37_1
                 try clear hcz41_0
                 try clear hcz41_1
                 try clear hcz46_0
                 try clear hcz46_1
                 try clear hcz50_0
                 try clear hcz50_1
                 try clear hcz56_0
                 try clear hcz56_1
                 try clear hcz58_0
                 try clear hcz58_1
                 try clear hcz62_0
                 try clear hcz62_1
                 try clear hcz7_0
                 try clear hcz7_1
                 try clear hfz30_0
                 try clear hfz30_1
                 try clear hfz34_0
                 try clear hfz34_1
                 try clear hfz37_0
                 try clear hfz37_1
                 try clear hfz41_0
                 try clear hfz41_1
                 try clear hfz46_0
                 try clear hfz46_1
                 try clear hfz50_0
                 try clear hfz50_1
                 try clear hfz56_0
                 try clear hfz56_1
                 try clear hfz58_0
                 try clear hfz58_1
                 try clear hfz62_0
                 try clear hfz62_1
                 try clear hfz7_0
                 try clear hfz7_1
                 try clear hx17_0
                 try clear hx25_0
                 try clear hx29_0
                 try clear hx45_0
                 try clear hx474_0
                 try clear hx475_0
                 try clear hx477_0
                 try clear hx478_0
                 try clear hx480_0
                 try clear hx481_0
                 try clear hx483_0
                 try clear hx484_0
                 try clear hx498_0
                 try clear hx499_0
                 try clear hx501_0
                 try clear hx73_0
                 try clear p1
                 try clear p17
                 try clear p2
                 try clear p25
                 try clear p29
                 try clear p4
                 try clear p45
                 try clear p47
                 try clear p474
                 try clear p475
                 try clear p477
                 try clear p478
                 try clear p48
                 try clear p480
                 try clear p481
                 try clear p483
                 try clear p484
                 try clear p49
                 try clear p498
                 try clear p499
                 try clear p501
                 try clear p6
                 try clear p64
                 try clear p7
                 try clear p73
                 try clear q1
                 try clear q17
                 try clear q2
                 try clear q25
                 try clear q29
                 try clear q4
                 try clear q45
                 try clear q47
                 try clear q474
                 try clear q475
                 try clear q477
                 try clear q478
                 try clear q48
                 try clear q480
                 try clear q481
                 try clear q483
                 try clear q484
                 try clear q49
                 try clear q498
                 try clear q499
                 try clear q501
                 try clear q7
                 try clear q73
                 obtain ⟨x19_4, x106_4, rfl, rfl, HA, HK4, HO_6, HO_9, HO_10, HO_11, HO_97, BK469, HR501_0, HB⟩ := hrel
                 cases gk with
                 | zero => exact absurd HA.out (by simp [impl_FixedPoints.l4])
                 | succ k4 =>
                  have H := HA.out
                  clear HA
                  simp only [impl_FixedPoints.l4] at H
                  by_cases c79 : x106_4 < ((rd_L1 t495 x99_3).length : Int)
                  ·rw [if_pos c79] at H
                   have c79b0 : decide (x106_4 < ((rd_L1 t495 x99_3).length : Int)) = true := decide_eq_true c79
                   clear c79
                   by_cases c80 : 0 ≤ x106_4
                   ·rw [if_pos c80] at H
                    have c80b0 : decide (0 ≤ x106_4) = true := decide_eq_true c80
                    clear c80
                    by_cases c81 : x106_4 < ((rd_L1 t495 x99_3).length : Int)
                    ·rw [if_pos c81] at H
                     have c81b0 : decide (x106_4 < ((rd_L1 t495 x99_3).length : Int)) = true := decide_eq_true c81
                     clear c81
                     by_cases c82 : x19_4 = true
                     ·subst c82
                      have H1 : (if 0 ≤ (rd (rd_L1 t495 x99_3) x106_4) then (if (rd (rd_L1 t495 x99_3) x106_4) < (l1.length : Int) then (if 0 ≤ (rd l1 (rd (rd_L1 t495 x99_3) x106_4)) then (if (rd l1 (rd (rd_L1 t495 x99_3) x106_4)) < (t486.length : Int) then (if 0 ≤ (rd t486 (rd l1 (rd (rd_L1 t495 x99_3) x106_4))) then (if (rd t486 (rd l1 (rd (rd_L1 t495 x99_3) x106_4))) < (t489.length : Int) then (if 0 ≤ (rd t489 (rd t486 (rd l1 (rd (rd_L1 t495 x99_3) x106_4)))) then (if (rd t489 (rd t486 (rd l1 (rd (rd_L1 t495 x99_3) x106_4)))) < (x11_2.length : Int) then (impl_FixedPoints.l4 k4 l1 x6_3 t486 t489 x11_2 x99_3 ((rd x11_2 (rd t489 (rd t486 (rd l1 (rd (rd_L1 t495 x99_3) x106_4))))) == x99_3) t495 (t495.length : Int) x99_3 (rd_L1 t495 x99_3) ((rd_L1 t495 x99_3).length : Int) (wrap64 (x106_4 + 1))) else (none)) else (none)) else (none)) else (none)) else (none)) else (none)) else (none)) else (none)) = some (r1, r2) := by rw [if_pos rfl] at H; exact H
                      clear H
                      have H := H1
                      clear H1
                      by_cases c83 : 0 ≤ (rd (rd_L1 t495 x99_3) x106_4)
                      ·rw [if_pos c83] at H
                       have c83b0 : decide (0 ≤ (rd (rd_L1 t495 x99_3) x106_4)) = true := decide_eq_true c83
                       clear c83
                       by_cases c84 : (rd (rd_L1 t495 x99_3) x106_4) < (l1.length : Int)
                       ·rw [if_pos c84] at H
                        have c84b0 : decide ((rd (rd_L1 t495 x99_3) x106_4) < (l1.length : Int)) = true := decide_eq_true c84
                        clear c84
                        by_cases c85 : 0 ≤ (rd l1 (rd (rd_L1 t495 x99_3) x106_4))
                        ·rw [if_pos c85] at H
                         have c85b0 : decide (0 ≤ (rd l1 (rd (rd_L1 t495 x99_3) x106_4))) = true := decide_eq_true c85
                         clear c85
                         by_cases c86 : (rd l1 (rd (rd_L1 t495 x99_3) x106_4)) < (t486.length : Int)
                         ·rw [if_pos c86] at H
                          have c86b0 : decide ((rd l1 (rd (rd_L1 t495 x99_3) x106_4)) < (t486.length : Int)) = true := decide_eq_true c86
                          clear c86
                          by_cases c87 : 0 ≤ (rd t486 (rd l1 (rd (rd_L1 t495 x99_3) x106_4)))
                          ·rw [if_pos c87] at H
                           have c87b0 : decide (0 ≤ (rd t486 (rd l1 (rd (rd_L1 t495 x99_3) x106_4)))) = true := decide_eq_true c87
                           clear c87
                           by_cases c88 : (rd t486 (rd l1 (rd (rd_L1 t495 x99_3) x106_4))) < (t489.length : Int)
                           ·rw [if_pos c88] at H
                            have c88b0 : decide ((rd t486 (rd l1 (rd (rd_L1 t495 x99_3) x106_4))) < (t489.length : Int)) = true := decide_eq_true c88
                            clear c88
                            by_cases c89 : 0 ≤ (rd t489 (rd t486 (rd l1 (rd (rd_L1 t495 x99_3) x106_4))))
                            ·rw [if_pos c89] at H
                             have c89b0 : decide (0 ≤ (rd t489 (rd t486 (rd l1 (rd (rd_L1 t495 x99_3) x106_4))))) = true := decide_eq_true c89
                             clear c89
                             by_cases c90 : (rd t489 (rd t486 (rd l1 (rd (rd_L1 t495 x99_3) x106_4)))) < (x11_2.length : Int)
                             ·rw [if_pos c90] at H
                              have c90b0 : decide ((rd t489 (rd t486 (rd l1 (rd (rd_L1 t495 x99_3) x106_4)))) < (x11_2.length : Int)) = true := decide_eq_true c90
                              clear c90
                              have H' := Aside0.mk H
                              clear H
                              have p502 : 0 ≤ (x106_4 : Int) := dX
                              have q502 : x106_4 < ((rd_L1 t495 x99_3).length : Int) := dX
                              obtain ⟨ad502, e502, hx502_0⟩ := Kd.at_int HR501_0.out x106_4 p502 q502
                              cases e502
                              (try replace hx502_0 := (HB.out.cell (World.block_lt_of_cell? w _ hx502_0)).trans hx502_0)
                              replace p502 := eq_true p502
                              replace q502 := eq_true q502
                              have p503 : 0 ≤ ((rd (rd_L1 t495 x99_3) x106_4) : Int) := dX
                              have q503 : (rd (rd_L1 t495 x99_3) x106_4) < (l1.length : Int) := dX
                              obtain ⟨ad503, e503, hx503_0⟩ := Kd.at_int HR1.out (rd (rd_L1 t495 x99_3) x106_4) p503 q503
                              cases e503
                              (try replace hx503_0 := (HB.out.cell (World.block_lt_of_cell? w _ hx503_0)).trans hx503_0)
                              replace p503 := eq_true p503
                              replace q503 := eq_true q503
                              obtain ⟨Ao91, co91, eo91⟩ := Kd.R_slice HO_9.out
                              subst eo91
                              have p504 : 0 ≤ ((rd l1 (rd (rd_L1 t495 x99_3) x106_4)) : Int) := dX
                              have q504 : (rd l1 (rd (rd_L1 t495 x99_3) x106_4)) < (t486.length : Int) := dX
                              obtain ⟨ad504, e504, hx504_0⟩ := Kd.at_int (Kd.R_reads' HO_9.out).2.2 (rd l1 (rd (rd_L1 t495 x99_3) x106_4)) p504 q504
                              cases e504
                              replace p504 := eq_true p504
                              replace q504 := eq_true q504
                              obtain ⟨Ao92, co92, eo92⟩ := Kd.R_slice HO_10.out
                              subst eo92
                              have p505 : 0 ≤ ((rd t486 (rd l1 (rd (rd_L1 t495 x99_3) x106_4))) : Int) := dX
                              have q505 : (rd t486 (rd l1 (rd (rd_L1 t495 x99_3) x106_4))) < (t489.length : Int) := dX
                              obtain ⟨ad505, e505, hx505_0⟩ := Kd.at_int (Kd.R_reads' HO_10.out).2.2 (rd t486 (rd l1 (rd (rd_L1 t495 x99_3) x106_4))) p505 q505
                              cases e505
                              replace p505 := eq_true p505
                              replace q505 := eq_true q505
                              obtain ⟨Ao93, co93, eo93⟩ := Kd.R_slice HO_11.out
                              subst eo93
                              have p506 : 0 ≤ ((rd t489 (rd t486 (rd l1 (rd (rd_L1 t495 x99_3) x106_4)))) : Int) := dX
                              have q506 : (rd t489 (rd t486 (rd l1 (rd (rd_L1 t495 x99_3) x106_4)))) < (x11_2.length : Int) := dX
                              obtain ⟨ad506, e506, hx506_0⟩ := Kd.at_int (Kd.R_reads' HO_11.out).2.2 (rd t489 (rd t486 (rd l1 (rd (rd_L1 t495 x99_3) x106_4)))) p506 q506
                              cases e506
                              replace p506 := eq_true p506
                              replace q506 := eq_true q506
                              go_wp2
                              go_roundg k4
                              case measure => have := HK1.out; have := HK2.out; have := HK3.out; have := HK4.out; omega
                              case rel => exact ⟨(((rd x11_2 (rd t489 (rd t486 (rd l1 (rd (rd_L1 t495 x99_3) x106_4))))) == x99_3)), (wrap64 (x106_4 + 1)), vX, vX, H', ⟨by have := HK1.out; have := HK2.out; have := HK3.out; have := HK4.out; omega⟩, ⟨rX HO_6.out⟩, ⟨rX HO_9.out⟩, ⟨rX HO_10.out⟩, ⟨rX HO_11.out⟩, ⟨by (with_reducible repeat (first | apply Kd.S_alloc | apply Kd.S_drewN | apply Kd.S_drew)); exact HO_97.out⟩, ⟨kX BK469.out⟩, ⟨cX HR501_0.out⟩, ⟨bX1 HB.out GE469.out⟩⟩
                             ·rw [if_neg c90] at H
                              exact absurd H (by simp)
                            ·rw [if_neg c89] at H
                             exact absurd H (by simp)
                           ·rw [if_neg c88] at H
                            exact absurd H (by simp)
                          ·rw [if_neg c87] at H
                           exact absurd H (by simp)
                         ·rw [if_neg c86] at H
                          exact absurd H (by simp)
                        ·rw [if_neg c85] at H
                         exact absurd H (by simp)
                       ·rw [if_neg c84] at H
                        exact absurd H (by simp)
                      ·rw [if_neg c83] at H
                       exact absurd H (by simp)
                     ·replace c82 := Bool.eq_false_iff.mpr c82
                      subst c82
                      have H1 : (impl_FixedPoints.l4 k4 l1 x6_3 t486 t489 x11_2 x99_3 false t495 (t495.length : Int) x99_3 (rd_L1 t495 x99_3) ((rd_L1 t495 x99_3).length : Int) (wrap64 (x106_4 + 1))) = some (r1, r2) := by rw [if_neg (show ¬ (false = true) by decide)] at H; exact H
                      clear H
                      have H := H1
                      clear H1
                      have H' := Aside0.mk H
                      clear H
                      have p502 : 0 ≤ (x106_4 : Int) := dX
                      have q502 : x106_4 < ((rd_L1 t495 x99_3).length : Int) := dX
                      obtain ⟨ad502, e502, hx502_0⟩ := Kd.at_int HR501_0.out x106_4 p502 q502
                      cases e502
                      (try replace hx502_0 := (HB.out.cell (World.block_lt_of_cell? w _ hx502_0)).trans hx502_0)
                      replace p502 := eq_true p502
                      replace q502 := eq_true q502
                      go_wp2
                      go_roundg k4
                      case measure => have := HK1.out; have := HK2.out; have := HK3.out; have := HK4.out; omega
                      case rel => exact ⟨(false), (wrap64 (x106_4 + 1)), vX, vX, H', ⟨by have := HK1.out; have := HK2.out; have := HK3.out; have := HK4.out; omega⟩, ⟨rX HO_6.out⟩, ⟨rX HO_9.out⟩, ⟨rX HO_10.out⟩, ⟨rX HO_11.out⟩, ⟨by (with_reducible repeat (first | apply Kd.S_alloc | apply Kd.S_drewN | apply Kd.S_drew)); exact HO_97.out⟩, ⟨kX BK469.out⟩, ⟨cX HR501_0.out⟩, ⟨bX1 HB.out GE469.out⟩⟩
                    ·rw [if_neg c81] at H
                     exact absurd H (by simp)
                   ·rw [if_neg c80] at H
                    exact absurd H (by simp)
                  ·rw [if_neg c79] at H
                   have c79b0 : decide (x106_4 < ((rd_L1 t495 x99_3).length : Int)) = false := decide_eq_false c79
                   clear c79
                   by_cases c94 : x19_4 = true
                   ·subst c94
                    have H1 : (if 3 < (x6_3.length : Int) then (impl_FixedPoints.l3 k4 l1 (x6_3.set (3 : Int).toNat (wrap64 ((rd x6_3 3) + 1))) t486 t489 x11_2 t495 (t495.length : Int) (wrap64 (x99_3 + 1))) else (none)) = some (r1, r2) := by rw [if_pos rfl] at H; exact H
                    clear H
                    have H := H1
                    clear H1
                    by_cases c95 : 3 < (x6_3.length : Int)
                    ·rw [if_pos c95] at H
                     have c95b0 : decide (3 < (x6_3.length : Int)) = true := decide_eq_true c95
                     have c95b1 : decide (3 < x6_3.length) = true := decide_eq_true (by omega)
                     clear c95
                     obtain ⟨y508, hy508⟩ : ∃ y_ : List Int, y_ = (x6_3.set (3 : Int).toNat (wrap64 ((rd x6_3 3) + 1))) := ⟨_, rfl⟩
                     replace H : (impl_FixedPoints.l3 k4 l1 y508 t486 t489 x11_2 t495 (t495.length : Int) (wrap64 (x99_3 + 1))) = some (r1, r2) := by first | (rw [hy508]; with_reducible exact H) | (have H2_ := (Option.bind_some _ _).symm.trans H; rw [hy508]; with_reducible exact H2_) | (have H2_ := (Option.bind_some _ _).symm.trans H; with_reducible exact H2_) | with_reducible exact H | (rw [hy508]; exact H) | exact H
                     have Ny508 := Aside0.mk hy508
                     clear hy508
                     have H' := Aside0.mk H
                     clear H
                     obtain ⟨Ao97, co97, eo97⟩ := Kd.R_slice HO_6.out
                     subst eo97
                     have p507 : 0 ≤ (3 : Int) := (by omega)
                     have q507 : 3 < (x6_3.length : Int) := dX
                     obtain ⟨ad507, e507, hx507_0⟩ := Kd.at_int (Kd.R_reads' HO_6.out).2.2 3 p507 q507
                     cases e507
                     (try simp only [show (3 : Int).toNat = 3 from rfl, Nat.reduceMul, Nat.reduceEqDiff, Go.Addr.add, ↓reduceIte] at hx507_0)
                     have qi507 : (3 < x6_3.length) = True := eq_true (by omega)
                     (try rw [show ((3 : Int)).toNat = 3 from rfl] at hx507_0)
                     replace p507 := eq_true p507
                     replace q507 := eq_true q507
                     have p96 : 0 ≤ (3 : Int) := (by omega)
                     have q96 : (3 : Int) < ((x6_3.length : Int) : Int) := dX
                     have qi96 : (3 < x6_3.length) = True := eq_true (by omega)
                     obtain ⟨go96, co96, eo96, gb96, gl96, cl96, HG96⟩ := Kd.R_form HO_6.out (by omega)
                     (first | cases eo96 | (injection eo96 with ea_ en_ ec_; (first | subst ea_ | (injection ea_ with ea_; subst ea_)); subst ec_; clear en_))
                     have GB96 := Aside0.mk gb96
                     have GG96 := Aside0.mk HG96
                     clear gb96 gl96 HG96
                     (first | simp only [add_plain] at hx507_0 | skip)
                     obtain ⟨hx96_0, hf96_0⟩ := Kd.R_celln 0 HO_6.out (3 : Int) p96 q96
                     (try rw [show ((3 : Int)).toNat = 3 from rfl] at hx96_0)
                     (try simp only [Nat.reduceMul, Nat.zero_mul, Nat.zero_add, Nat.reduceAdd] at hx96_0)
                     (try rw [show ((3 : Int)).toNat = 3 from rfl] at hf96_0)
                     (try simp only [Nat.reduceMul, Nat.zero_mul, Nat.zero_add, Nat.reduceAdd] at hf96_0)
                     replace p96 := eq_true p96
                     replace q96 := eq_true q96
                     have HP98 := Kd.R_putg HO_6.out (3 : Int) (wrap64 ((rd x6_3 3) + 1))
                     go_wp2_with (first | ((with_reducible refine gate_store (t := 3) (p := 134) rfl ?_); refine store_event (t := 3) (p := 134) (v := ?vo_w99) (w1 := (wr.setCell ⟨go96, (3 : Int).toNat, none⟩ (.int .i64 (wrap64 ((rd x6_3 3) + 1))))) ?hg ?ho ?hn ?hr ?_; (case ho => rfl); (case hg => rfl); (case hn => rfl); (case hr => first | (go_simp; done) | (go_simp; rfl)); intro w99 hw; have hg : wr.grownBy w99 (some go96) := (by rw [hw]; exact HP98.2); have hp_ : Kd.R (Kd.int .i64) 3 w99 w.heap.size (fun k_ => some k_ ≠ (v487 : Value).ownBlock ∧ some k_ ≠ (v490 : Value).ownBlock ∧ some k_ ≠ (v493 : Value).ownBlock) (.slice (some ⟨go96, 0, none⟩) x6_3.length co97) y508 := (by rw [hw, Ny508.out]; exact HP98.1); clear HP98; have n0_ := Aside0.mk (hp_); have n1_ := Aside0.mk (Kd.R_after (v := (.slice (some ⟨go96, 0, none⟩) x6_3.length co97)) (v1 := (.slice (some ⟨go96, 0, none⟩) x6_3.length co97)) (ok := (fun k_ => some k_ ≠ (v490 : Value).ownBlock ∧ some k_ ≠ (v493 : Value).ownBlock)) (rM HO_9.out (fun _ hk => ⟨⟨hk.2.1, hk.2.2⟩, hk.1⟩)) hg (.inl rfl)); have n2_ := Aside0.mk (Kd.R_after (v := (.slice (some ⟨go96, 0, none⟩) x6_3.length co97)) (v1 := (.slice (some ⟨go96, 0, none⟩) x6_3.length co97)) (ok := (fun k_ => some k_ ≠ (v487 : Value).ownBlock ∧ some k_ ≠ (v493 : Value).ownBlock)) (rM HO_10.out (fun _ hk => ⟨⟨hk.2.1, hk.2.2⟩, hk.1⟩)) hg (.inl rfl)); have n3_ := Aside0.mk (Kd.R_after (v := (.slice (some ⟨go96, 0, none⟩) x6_3.length co97)) (v1 := (.slice (some ⟨go96, 0, none⟩) x6_3.length co97)) (ok := (fun k_ => some k_ ≠ (v487 : Value).ownBlock ∧ some k_ ≠ (v490 : Value).ownBlock)) (rM HO_11.out (fun _ hk => ⟨⟨hk.2.1, hk.2.2⟩, hk.1⟩)) hg (.inl rfl)); have n4_ := Aside0.mk (Kd.S_after (v := (.slice (some ⟨go96, 0, none⟩) x6_3.length co97)) (v1 := (.slice (some ⟨go96, 0, none⟩) x6_3.length co97)) (ok := (fun k_ => some k_ ≠ (v487 : Value).ownBlock ∧ some k_ ≠ (v490 : Value).ownBlock ∧ some k_ ≠ (v493 : Value).ownBlock)) (by (with_reducible repeat (first | apply Kd.S_alloc | apply Kd.S_drewN | apply Kd.S_drew)); exact Kd.S_mono HO_97.out (fun _ hk => ⟨⟨hk.2.1, ⟨hk.2.2.1, hk.2.2.2⟩⟩, hk.1⟩)) hg (.inl rfl)); have n5_ := Aside0.mk (blk_grown (g := gb469) (o := .cells #[.slice A0_0 l0_0.length c0_0, .slice A0_1 l0_1.length c0_1] 27 (0, 0)) (kX BK469.out) hg (Kd.R_ne HO_6.out BK469.out (by decide))); have n6_ := Aside0.mk ((by rw [hw]; exact below_set (HB.out) GB96.out : Below w.heap.size w w99)); clear HO_6; clear HO_9; clear HO_10; clear HO_11; clear HO_97; clear BK469; clear HB; have HO_6 := n0_; have HO_9 := n1_; have HO_10 := n2_; have HO_11 := n3_; have HO_97 := n4_; have BK469 := n5_; have HB := n6_; clear n0_ n1_ n2_ n3_ n4_ n5_ n6_; clear hg hw hp_))
                     go_roundg k4
                     case measure => have := HK1.out; have := HK2.out; have := HK3.out; have := HK4.out; omega
                     case rel => exact ⟨(y508), (wrap64 (x99_3 + 1)), vX, H', ⟨by have := HK1.out; have := HK2.out; have := HK3.out; have := HK4.out; omega⟩, ⟨rX HO_6.out⟩, ⟨rM HO_9.out (fun _ hk => ⟨hk.2, ⟨hk.1.1, hk.1.2⟩⟩)⟩, ⟨rM HO_10.out (fun _ hk => ⟨hk.2, ⟨hk.1.1, hk.1.2⟩⟩)⟩, ⟨rM HO_11.out (fun _ hk => ⟨hk.2, ⟨hk.1.1, hk.1.2⟩⟩)⟩, ⟨by (with_reducible repeat (first | apply Kd.S_alloc | apply Kd.S_drewN | apply Kd.S_drew)); exact Kd.S_mono HO_97.out (fun _ hk => ⟨hk.2, ⟨hk.1.1, ⟨hk.1.2.1, hk.1.2.2⟩⟩⟩)⟩, ⟨kX BK469.out⟩, ⟨bX1 HB.out GE469.out⟩⟩
                    ·rw [if_neg c95] at H
                     exact absurd H (by simp)
                   ·replace c94 := Bool.eq_false_iff.mpr c94
                    subst c94
                    have H1 : (impl_FixedPoints.l3 k4 l1 x6_3 t486 t489 x11_2 t495 (t495.length : Int) (wrap64 (x99_3 + 1))) = some (r1, r2) := by rw [if_neg (show ¬ (false = true) by decide)] at H; exact H
                    clear H
                    have H := H1
                    clear H1
                    have H' := Aside0.mk H
                    clear H
                    go_wp2
                    go_roundg k4
                    case measure => have := HK1.out; have := HK2.out; have := HK3.out; have := HK4.out; omega
                    case rel => exact ⟨(x6_3), (wrap64 (x99_3 + 1)), vX, H', ⟨by have := HK1.out; have := HK2.out; have := HK3.out; have := HK4.out; omega⟩, ⟨rX HO_6.out⟩, ⟨rX HO_9.out⟩, ⟨rX HO_10.out⟩, ⟨rX HO_11.out⟩, ⟨by (with_reducible repeat (first | apply Kd.S_alloc | apply Kd.S_drewN | apply Kd.S_drew)); exact HO_97.out⟩, ⟨kX BK469.out⟩, ⟨bX1 HB.out GE469.out⟩⟩
               ·rw [if_neg c78] at H
                exact absurd H (by simp)
              ·rw [if_neg c77] at H
               exact absurd H (by simp)
             ·rw [if_neg c76] at H
              have c76b0 : decide (x99_3 < (t495.length : Int)) = false := decide_eq_false c76
              clear c76
              simp only [Option.some.injEq, Prod.mk.injEq] at H
              obtain ⟨rfl, rfl⟩ := H
              go_wp2
              go_ret2
              exact ⟨_, eX, by (with_reducible repeat (first|apply rA|apply rN|apply rD)); exact Kd.R_mono HO_6.out (fun _ hk => trivial), bX1 HB.out GE469.out⟩
       ·rw [if_neg c54] at H
        exact absurd H (by simp)
      ·rw [if_neg c53] at H
       exact absurd H (by simp)
  ·rw [if_neg c5] at H
   exact absurd H (by simp)
 ·replace c4 := Bool.eq_false_iff.mpr c4
  subst c4
  have H1 : (some (([] : List Int), false)) = some (r1, r2) := by rw [if_neg (show ¬ (false = true) by decide)] at H; exact H
  clear H
  have H := H1
  clear H1
  simp only [Option.some.injEq, Prod.mk.injEq] at H
  obtain ⟨rfl, rfl⟩ := H
  go_enter Tryd.func16, Tryd.ntmps16
  go_wp2_with (first | ((with_reducible refine gate_dst (N := 2) rfl ?_); refine box_event ?hg (N := 2) ?hd (cs := #[.slice A0_0 l0_0.length c0_0, .slice A0_1 l0_1.length c0_1]) (t := 27) ?hr ?_; (case hd => rfl); (case hg => rfl); (case hr => first | (go_simp; done) | (go_simp; rfl)); intro gb469 hg w100 hbox hb; have n0_ := Aside0.mk (below_step (bX HB.out) hb); have n1_ := Aside0.mk (hbox); have n2_ := Aside0.mk ((by rw [hg]; exact (below_size (bX HB.out)) : w.heap.size ≤ gb469)); have n3_ := Aside0.mk ((by rw [hg]; exact (below_size (bX HB.out)) : w.heap.size ≤ gb469)); clear HB; have HB := n0_; have BK469 := n1_; have GW469 := n2_; have GE469 := n3_; clear n0_ n1_ n2_ n3_; clear hb hbox hg; have hcz101_0 : w100.cell? ⟨gb469, 0, none⟩ = some (.slice A0_0 l0_0.length c0_0) := (blk_cell BK469.out 0).trans rfl; have hcz101_1 : w100.cell? ⟨gb469, 1, none⟩ = some (.slice A0_1 l0_1.length c0_1) := (blk_cell BK469.out 1).trans rfl; have hfz101_0 := blk_frozen BK469.out 0; have hfz101_1 := blk_frozen BK469.out 1) | ((with_reducible refine gate_callee (f := 32) rfl ?_); refine goesL_ (some 24) rfl rfl Tryd.func32 (by kernel_rfl) rfl #[.agg #[.slice A0_0 l0_0.length c0_0, .slice A0_1 l0_1.length c0_1], .slice A1 l1.length c1] rfl (by (try simp only [zE,zF,zG]); first|done|rfl|(simp only [zH,zI]; rfl)) ?_; (with_reducible refine (impl_IsTurn.calls k _ _ l0_0 _ _ l0_1 _ _ l1 false _ ?side1 ?side2 ?side3 ?side4 ?side5 ?side6 A3.out).mono ?_); (case side1 => repeat (first | exact (Kd.C_below HR0_0.out HB.out) | (with_reducible refine Kd.C_alloc ?_ _) | (with_reducible refine Kd.C_drewN ?_ _) | (with_reducible refine Kd.C_drew ?_))); (case side2 => exact HC0_0.out); (case side3 => repeat (first | exact (Kd.C_below HR0_1.out HB.out) | (with_reducible refine Kd.C_alloc ?_ _) | (with_reducible refine Kd.C_drewN ?_ _) | (with_reducible refine Kd.C_drew ?_))); (case side4 => exact HC0_1.out); (case side5 => repeat (first | exact (Kd.C_below HR1.out HB.out) | (with_reducible refine Kd.C_alloc ?_ _) | (with_reducible refine Kd.C_drewN ?_ _) | (with_reducible refine Kd.C_drew ?_))); (case side6 => exact HC1.out); rintro e w102 ⟨rfl, hb⟩; refine ⟨_, rfl, ?_⟩; have n0_ := Aside0.mk (blk_below (g := gb469) (o := .cells #[.slice A0_0 l0_0.length c0_0, .slice A0_1 l0_1.length c0_1] 27 (0, 0)) (kX BK469.out) hb); have n1_ := Aside0.mk (below_step (bX1 HB.out GE469.out) hb); clear BK469; clear HB; have BK469 := n0_; have HB := n1_; clear n0_ n1_; (try clear hb); (try clear hb2); (try clear hk); (try clear hi)))
  go_ret2
  exact ⟨_, eX, by first | exact Kd.R_nil _ _ _ _ _ | exact Kd.N_nil _ _ _ _ _ | exact Kd.V_nil _ _ _ _ _ | exact Kd.Q_nil _ _ _ _ _ | exact Kd.S_nil _ _ _ _ _, bX1 HB.out GE469.out⟩

/-! ### strconv_Itoa: function 46 -/
def strconv_Itoa.f (a0 : Int) : Option (ByteArray) := if -9223372036854775808 ≤ a0 ∧ a0 ≤ 9223372036854775807 then some ⟨(Go.Lib.itoa a0).toArray⟩ else none
theorem strconv_Itoa.calls (a0 : Int) (r : ByteArray) (w : World) (htab_ : PowTab w) (h : strconv_Itoa.f a0 = some r) :
    Calls Tryd.prog 46 #[.int .i64 a0] w fun e w' => e = .returned (.string r) ∧ Below w.heap.size w w' := by
  unfold strconv_Itoa.f at h
  by_cases hh : -9223372036854775808 ≤ a0 ∧ a0 ≤ 9223372036854775807
  · rw [if_pos hh] at h
    obtain rfl := Option.some.inj h
    refine (Tryd.strconv_Itoa a0 hh.1 hh.2 w htab_.tab).mono ?_
    rintro e w' ⟨rfl, k, os, rfl⟩
    exact ⟨rfl, Go.Lib.below_grow _ w (Nat.le_refl _) k os⟩
  · rw [if_neg hh] at h
    exact absurd h (by simp)

/-! ### impl_FormatInt: function 37 -/
def impl_FormatInt.f (a0 : Int) : Option (ByteArray) := (strconv_Itoa.f a0).bind fun t509 => (some t509)
set_option maxHeartbeats 8000000 in
set_option maxRecDepth 100000 in
theorem impl_FormatInt.calls (a0 : Int) (r : ByteArray) (w : World) (htab_ : PowTab w) (h : impl_FormatInt.f a0 = some r) :
  Calls Tryd.prog 37 #[.int .i64 a0] w fun e w' => e = .returned (.string r) ∧ Below w.heap.size w w' := by
 have HB := Aside0.mk (Below.refl w.heap.size w)
 have H : ((strconv_Itoa.f a0).bind fun t509 => (some t509)) = some r := h
 clear h
 have HTAB := Aside0.mk htab_
 clear htab_
 replace H := Option.bind_eq_some_iff.mp H
 obtain ⟨t509, A20, H⟩ := H
 replace H : (some t509) = some r := H
 have A2 := Aside0.mk A20
 clear A20
 obtain rfl := Option.some.inj H
 go_enter Tryd.func37, Tryd.ntmps37
 go_wp2_with (first | ((with_reducible refine gate_callee (f := 46) rfl ?_); refine goesL_ (some 4) rfl rfl Tryd.func46 (by kernel_rfl) rfl #[.int .i64 a0] rfl (by (try simp only [List.map_toArray, List.map_cons, List.map_nil]); first | done | rfl | (simp only [List.length_drop, List.length_take]; rfl)) ?_; (with_reducible refine (strconv_Itoa.calls a0 t509 _ ?side1 A2.out).mono ?_); (case side1 => exact PowTab.below HTAB.out (by repeat (first | (with_reducible first | exact HB.out | apply below_alloc | apply pw_below_drewN | apply below_drew1) | exact HB.out))); rintro e w3 ⟨rfl, hb⟩; refine ⟨_, rfl, ?_⟩; have n0_ := Aside0.mk (below_step (by repeat (first | (with_reducible first | exact HB.out | apply below_alloc | apply pw_below_drewN | apply below_drew1) | exact HB.out)) hb); clear HB; have HB := n0_; clear n0_; (try clear hb); (try clear hb2); (try clear hk); (try clear hi)))
 go_ret
 exact ⟨eX, by repeat (first | (with_reducible first | exact HB.out | apply below_alloc | apply pw_below_drewN | apply below_drew1) | exact HB.out)⟩

/-! ### strings_Join: function 47 -/
def joinB (l : List ByteArray) (by_ : ByteArray) : List UInt8 := Go.Lib.join (l.map (·.data.toList)) by_.data.toList
def strings_Join.f (l0 : List ByteArray) (a1 : ByteArray) : Option (ByteArray) := if l0.length ≤ 140737488355328 ∧ (joinB l0 a1).length ≤ 140737488355328 then some ⟨(joinB l0 a1).toArray⟩ else none
theorem strings_Join.calls (A0 : Option Addr) (c0 : Nat) (l0 : List ByteArray) (a1 : ByteArray) (r : ByteArray) (w : World) (hr0 : Kd.C Kd.string w A0 l0.length l0) (hc0 : l0.length ≤ c0) (h : strings_Join.f l0 a1 = some r) :
    Calls Tryd.prog 47 #[.slice A0 l0.length c0, .string a1] w fun e w' => e = .returned (.string r) ∧ Below w.heap.size w w' := by
  unfold strings_Join.f at h
  by_cases hh : l0.length ≤ 140737488355328 ∧ (joinB l0 a1).length ≤ 140737488355328
  · rw [if_pos hh] at h
    obtain rfl := Option.some.inj h
    cases l0 with
    | nil =>
      refine (Tryd.strings_Join_none A0 c0 a1 w).mono ?_
      rintro e w' ⟨rfl, rfl⟩
      exact ⟨rfl, Below.refl _ _⟩
    | cons x xs =>
      obtain ⟨ad, e, hx⟩ := Kd.at_string hr0 0 (by omega) (by simp)
      subst e
      obtain ⟨b, o, s⟩ := ad
      have hs : s = none ∧ b < w.heap.size := by
        rw [show (⟨b, o, s⟩ : Addr).add (0 : Int).toNat = ⟨b, o, s⟩ from by simp [Addr.add]] at hx
        simp only [World.cell?] at hx
        split at hx
        · rename_i hb
          have hlt : b < w.heap.size := by
            rcases Nat.lt_or_ge b w.heap.size with h | h
            · exact h
            · rw [Array.getElem?_eq_none h] at hb
              cases hb
          cases s with
          | none => exact ⟨rfl, hlt⟩
          | some _ => simp at hx
        · cases hx
      obtain ⟨rfl, hlt⟩ := hs
      refine (Tryd.strings_Join b o c0 (x :: xs) a1 w ?_ hlt hh.1 hc0 hh.2).mono ?_
      · intro j y hj
        have hjl : j < (x :: xs).length := (List.getElem?_eq_some_iff.1 hj).1
        obtain ⟨ad, e, hy⟩ := Kd.at_string hr0 j (by omega) (by omega)
        obtain rfl := Option.some.inj e
        rw [show rdOf ByteArray.empty (x :: xs) j = y from by simp [rdOf, List.getD, hj]] at hy
        have e2 : (⟨b, o, none⟩ : Addr).add ((j : Int)).toNat = ⟨b, o + j, none⟩ := by cases j <;> simp [Addr.add]
        rw [e2] at hy
        exact hy
      · rintro e w' ⟨rfl, hb⟩
        exact ⟨rfl, hb⟩
  · rw [if_neg hh] at h
    exact absurd h (by simp)

/-! ### impl_Join: function 38 -/
def impl_Join.f (l0 : List ByteArray) (a1 : ByteArray) : Option (ByteArray) := (strings_Join.f l0 a1).bind fun t510 => (some t510)
set_option maxHeartbeats 8000000 in
set_option maxRecDepth 100000 in
theorem impl_Join.calls (A0 : Option Addr) (c0 : Nat) (l0 : List ByteArray) (a1 : ByteArray) (r : ByteArray) (w : World) (hr0 : Kd.C Kd.string w A0 l0.length l0) (hc0 : l0.length ≤ c0) (h : impl_Join.f l0 a1 = some r) :
  Calls Tryd.prog 38 #[.slice A0 l0.length c0, .string a1] w fun e w' => e = .returned (.string r) ∧ Below w.heap.size w w' := by
 have HR0 := Aside0.mk hr0
 have HC0 := Aside0.mk hc0
 clear hr0 hc0
 have HB := Aside0.mk (Below.refl w.heap.size w)
 have H : ((strings_Join.f l0 a1).bind fun t510 => (some t510)) = some r := h
 clear h
 replace H := Option.bind_eq_some_iff.mp H
 obtain ⟨t510, A30, H⟩ := H
 replace H : (some t510) = some r := H
 have A3 := Aside0.mk A30
 clear A30
 obtain rfl := Option.some.inj H
 go_enter Tryd.func38, Tryd.ntmps38
 go_wp2_with (first | ((with_reducible refine gate_callee (f := 47) rfl ?_); refine goesL_ (some 7) rfl rfl Tryd.func47 (by kernel_rfl) rfl #[.slice A0 l0.length c0, .string a1] rfl (by (try simp only [List.map_toArray, List.map_cons, List.map_nil]); first | done | rfl | (simp only [List.length_drop, List.length_take]; rfl)) ?_; (with_reducible refine (strings_Join.calls _ _ l0 a1 t510 _ ?side1 ?side2 A3.out).mono ?_); (case side1 => exact cX HR0.out); (case side2 => exact HC0.out); rintro e w4 ⟨rfl, hb⟩; refine ⟨_, rfl, ?_⟩; have n0_ := Aside0.mk (below_step (by repeat (first | (with_reducible first | exact HB.out | apply below_alloc | apply pw_below_drewN | apply below_drew1) | exact HB.out)) hb); clear HB; have HB := n0_; clear n0_; (try clear hb); (try clear hb2); (try clear hk); (try clear hi)))
 go_ret
 exact ⟨eX, by repeat (first | (with_reducible first | exact HB.out | apply below_alloc | apply pw_below_drewN | apply below_drew1) | exact HB.out)⟩

/-! ### impl_joinInts: function 18 -/
def impl_joinInts.l0 : Nat → ByteArray → List ByteArray → List Int → Int → Int → Option (ByteArray)
 | 0, _, _, _, _, _ => none
 | k + 1, x1, x5, x9, x10, x11 => if x11 < x10 then (if 0 ≤ x11 then (if x11 < (x9.length : Int) then ((impl_FormatInt.f (rd x9 x11)).bind fun t515 => (if x5.length < 8796093022208 then (impl_joinInts.l0 k x1 (x5 ++ [t515]) x9 x10 (wrap64 (x11 + 1))) else (none))) else (none)) else (none)) else ((impl_Join.f x5 x1).bind fun t519 => (some t519))
def impl_joinInts.f (k : Nat) (l0 : List Int) (a1 : ByteArray) : Option (ByteArray) := impl_joinInts.l0 k a1 (([] : List ByteArray)) l0 (l0.length : Int) 0
set_option maxHeartbeats 8000000 in
set_option maxRecDepth 100000 in
theorem impl_joinInts.calls (k : Nat) (A0 : Option Addr) (c0 : Nat) (l0 : List Int) (a1 : ByteArray) (r : ByteArray) (w : World) (hr0 : Kd.C (Kd.int .i64) w A0 l0.length l0) (hc0 : l0.length ≤ c0) (htab_ : PowTab w) (h : impl_joinInts.f k l0 a1 = some r) :
  Calls Tryd.prog 18 #[.slice A0 l0.length c0, .string a1] w fun e w' => e = .returned (.string r) ∧ Below w.heap.size w w' := by
 have HR0 := Aside0.mk hr0
 have HC0 := Aside0.mk hc0
 clear hr0 hc0
 have HB := Aside0.mk (Below.refl w.heap.size w)
 have H : (impl_joinInts.l0 k a1 (([] : List ByteArray)) l0 (l0.length : Int) 0) = some r := h
 clear h
 have HTAB := Aside0.mk htab_
 clear htab_
 obtain ⟨y511, hy511⟩ : ∃ y_ : List ByteArray, y_ = (([] : List ByteArray)) := ⟨_, rfl⟩
 replace H : (impl_joinInts.l0 k a1 y511 l0 (l0.length : Int) 0) = some r := by first | (rw [hy511]; with_reducible exact H) | (have H2_ := (Option.bind_some _ _).symm.trans H; rw [hy511]; with_reducible exact H2_) | (have H2_ := (Option.bind_some _ _).symm.trans H; with_reducible exact H2_) | with_reducible exact H | (rw [hy511]; exact H) | exact H
 have Ny511 := Aside0.mk hy511
 clear hy511
 have H' := Aside0.mk H
 clear H
 go_enter Tryd.func18, Tryd.ntmps18
 go_wp2_with (first | ((with_reducible refine gate_dst (N := 8) rfl ?_); refine Kd.R_lit Kd.string _ 9 ?hg (N := 8) ?hd (xs := ([] : List ByteArray)) (inner := []) (ok := fun _ => True) (okp := fun _ => True) ?hr ?hp (fun _ hk => hk) trivial (Below.refl _ _) (Nat.le_refl _) (by simp) ?_; (case hd => rfl); (case hg => rfl); (case hr => first | (go_simp; done) | (go_simp; rfl)); (case hp => exact (Reps.none _ _)); intro v512 w3 ho4 hb hg_ hnew_; clear hg_ hnew_; (first | rw [← Ny511.out] at ho4 | (simp only [Int.reduceToNat] at ho4; rw [← Ny511.out] at ho4)); have n0_ := Aside0.mk (Kd.R_lower ho4 (below_size (bX HB.out))); have n1_ := Aside0.mk (below_step (bX HB.out) hb); clear HB; have HO513 := n0_; have HB := n1_; clear n0_ n1_; clear hb ho4))
 go_loopg [5, 11] k (fun kq v5 v11 w' => ∃ (x5_1 : List ByteArray) (x11_1 : Int), v11 = .int .i64 x11_1 ∧ Aside0 (impl_joinInts.l0 kq a1 x5_1 l0 (l0.length : Int) x11_1 = some r) ∧ Aside0 (kq ≤ k) ∧ Aside0 (Kd.R Kd.string 9 w' w.heap.size (fun _ => True) v5 x5_1) ∧ Aside0 (Below w.heap.size w w'))
 case atStart => exact ⟨(y511), (0), vX, H', ⟨Nat.le_refl _⟩, ⟨rX HO513.out⟩, ⟨bX HB.out⟩⟩
 case round =>
  clear H'
  try clear c1
  try clear p2
  obtain ⟨x5_1, x11_1, rfl, HA, HK1, HO_5, HB⟩ := hrel
  cases gk with
  | zero => exact absurd HA.out (by simp [impl_joinInts.l0])
  | succ k1 =>
   have H := HA.out
   clear HA
   simp only [impl_joinInts.l0] at H
   by_cases c5 : x11_1 < (l0.length : Int)
   ·rw [if_pos c5] at H
    have c5b0 : decide (x11_1 < (l0.length : Int)) = true := decide_eq_true c5
    clear c5
    by_cases c6 : 0 ≤ x11_1
    ·rw [if_pos c6] at H
     have c6b0 : decide (0 ≤ x11_1) = true := decide_eq_true c6
     clear c6
     by_cases c7 : x11_1 < (l0.length : Int)
     ·rw [if_pos c7] at H
      have c7b0 : decide (x11_1 < (l0.length : Int)) = true := decide_eq_true c7
      clear c7
      replace H := Option.bind_eq_some_iff.mp H
      obtain ⟨t515, A80, H⟩ := H
      replace H : (if x5_1.length < 8796093022208 then (impl_joinInts.l0 k1 a1 (x5_1 ++ [t515]) l0 (l0.length : Int) (wrap64 (x11_1 + 1))) else (none)) = some r := H
      have A8 := Aside0.mk A80
      clear A80
      by_cases c9 : x5_1.length < 8796093022208
      ·rw [if_pos c9] at H
       have LMc9 := Aside0.mk c9
       clear c9
       obtain ⟨y516, hy516⟩ : ∃ y_ : List ByteArray, y_ = (x5_1 ++ [t515]) := ⟨_, rfl⟩
       replace H : (impl_joinInts.l0 k1 a1 y516 l0 (l0.length : Int) (wrap64 (x11_1 + 1))) = some r := by first | (rw [hy516]; with_reducible exact H) | (have H2_ := (Option.bind_some _ _).symm.trans H; rw [hy516]; with_reducible exact H2_) | (have H2_ := (Option.bind_some _ _).symm.trans H; with_reducible exact H2_) | with_reducible exact H | (rw [hy516]; exact H) | exact H
       have Ny516 := Aside0.mk hy516
       clear hy516
       have H' := Aside0.mk H
       clear H
       have p514 : 0 ≤ (x11_1 : Int) := dX
       have q514 : x11_1 < (l0.length : Int) := dX
       obtain ⟨ad514, e514, hx514_0⟩ := Kd.at_int HR0.out x11_1 p514 q514
       cases e514
       replace hx514_0 := (HB.out.cell (World.block_lt_of_cell? w _ hx514_0)).trans hx514_0
       replace p514 := eq_true p514
       replace q514 := eq_true q514
       go_wp2_with (first | ((with_reducible refine gate_callee (f := 37) rfl ?_); refine goesL_ (some 17) rfl rfl Tryd.func37 (by kernel_rfl) rfl #[.int .i64 (rd l0 x11_1)] rfl (by (try simp only [zE,zF,zG]); first|done|rfl|(simp only [zH,zI]; rfl)) ?_; (with_reducible refine (impl_FormatInt.calls (rd l0 x11_1) t515 _ ?side1 A8.out).mono ?_); (case side1 => exact PowTab.below HTAB.out (bX HB.out)); rintro e w10 ⟨rfl, hb⟩; refine ⟨_, rfl, ?_⟩; have n0_ := Aside0.mk (Kd.R_below (rX HO_5.out) hb); have n1_ := Aside0.mk (below_step (bX HB.out) hb); clear HO_5; clear HB; have HO_5 := n0_; have HB := n1_; clear n0_ n1_; (try clear hb); (try clear hb2); (try clear hk); (try clear hi)) | ((with_reducible refine gate_builtin (b := .append) (xs := #[.tmp 15, .tmp 18]) rfl ?_); at_builtin; refine Kd.R_append Kd.string (w0 := w) w.heap.size rfl (.tmp 15) (.tmp 18) 46 9 (.string ⟨#[]⟩) 16 rfl Tryd.underlying46 info9 rfl (by decide) (by omega) u5 x5_1 t515 [.string t515] (fun _ => True) (fun _ => False) rfl rfl ?aP (fun _ hk => hk.elim) ?aF ?aO ?aB ?aS ?aL ?_; (case aP => exact rfl); (case aB => exact (bX HB.out)); (case aF => exact (fun _ _ => trivial)); (case aO => exact (rX HO_5.out)); (case aS => exact (below_size (bX HB.out))); (case aL => have := LMc9.out; omega); intro v517 w11 ho hb hg hat; rw [← Ny516.out] at ho; have n0_ := Aside0.mk (hb); have n1_ := Aside0.mk (ho); clear HB; clear HO_5; have HB := n0_; have HO518 := n1_; clear n0_ n1_; clear ho hb hg hat))
       go_roundg k1
       case measure => have := HK1.out; omega
       case rel => exact ⟨(y516), (wrap64 (x11_1 + 1)), vX, H', ⟨by have := HK1.out; omega⟩, ⟨rX HO518.out⟩, ⟨bX HB.out⟩⟩
      ·rw [if_neg c9] at H
       exact absurd H (by simp)
     ·rw [if_neg c7] at H
      exact absurd H (by simp)
    ·rw [if_neg c6] at H
     exact absurd H (by simp)
   ·rw [if_neg c5] at H
    have c5b0 : decide (x11_1 < (l0.length : Int)) = false := decide_eq_false c5
    clear c5
    replace H := Option.bind_eq_some_iff.mp H
    obtain ⟨t519, A120, H⟩ := H
    replace H : (some t519) = some r := H
    have A12 := Aside0.mk A120
    clear A120
    obtain rfl := Option.some.inj H
    obtain ⟨Ao13, co13, eo13⟩ := Kd.R_slice HO_5.out
    subst eo13
    go_wp2_with (first | ((with_reducible refine gate_callee (f := 38) rfl ?_); refine goesL_ (some 23) rfl rfl Tryd.func38 (by kernel_rfl) rfl #[.slice Ao13 x5_1.length co13, .string a1] rfl (by (try simp only [zE,zF,zG]); first|done|rfl|(simp only [zH,zI]; rfl)) ?_; (with_reducible refine (impl_Join.calls _ _ x5_1 a1 t519 _ ?side1 ?side2 A12.out).mono ?_); (case side1 => exact cX (Kd.R_reads' HO_5.out).2.2); (case side2 => exact (Kd.R_reads' HO_5.out).2.1); rintro e w14 ⟨rfl, hb⟩; refine ⟨_, rfl, ?_⟩; have n0_ := Aside0.mk (Kd.R_below (rX HO_5.out) hb); have n1_ := Aside0.mk (below_step (bX HB.out) hb); clear HO_5; clear HB; have HO_5 := n0_; have HB := n1_; clear n0_ n1_; (try clear hb); (try clear hb2); (try clear hk); (try clear hi)))
    go_ret
    exact ⟨eX, bX HB.out⟩

/-! ### impl_FormatPerm: function 17 -/
def impl_FormatPerm.l0 : Nat → ByteArray → List (List Int) → Int → Int → Option (ByteArray)
 | 0, _, _, _, _ => none
 | k + 1, x3, x10, x11, x12 => if x12 < x11 then (if 0 ≤ x12 then (if x12 < (x10.length : Int) then (if ((rd_L1 x10 x12).length : Int) > 1 then ((impl_joinInts.f k (rd_L1 x10 x12) (⟨#[32]⟩ : ByteArray)).bind fun t525 => (if 1 + t525.size ≤ 9223372036854775807 then (if ((⟨#[40]⟩ : ByteArray) ++ t525).size + 1 ≤ 9223372036854775807 then (if x3.size + (((⟨#[40]⟩ : ByteArray) ++ t525) ++ (⟨#[41]⟩ : ByteArray)).size ≤ 9223372036854775807 then (impl_FormatPerm.l0 k (x3 ++ (((⟨#[40]⟩ : ByteArray) ++ t525) ++ (⟨#[41]⟩ : ByteArray))) x10 x11 (wrap64 (x12 + 1))) else (none)) else (none)) else (none))) else (impl_FormatPerm.l0 k x3 x10 x11 (wrap64 (x12 + 1)))) else (none)) else (none)) else (if x3.toList = ([] : List UInt8) then (some (⟨#[40, 41]⟩ : ByteArray)) else (some x3))
def impl_FormatPerm.f (k : Nat) (l0 : List Int) : Option (ByteArray) := (impl_PermOk.f l0).bind fun t520 => (if t520 = true then ((impl_CyclesOf.f k l0).bind fun t521 => (impl_FormatPerm.l0 k (⟨#[]⟩ : ByteArray) t521 (t521.length : Int) 0)) else (some (⟨#[]⟩ : ByteArray)))
set_option maxHeartbeats 8000000 in
set_option maxRecDepth 100000 in
theorem impl_FormatPerm.calls (k : Nat) (A0 : Option Addr) (c0 : Nat) (l0 : List Int) (r : ByteArray) (w : World) (hr0 : Kd.C (Kd.int .i64) w A0 l0.length l0) (hc0 : l0.length ≤ c0) (htab_ : PowTab w) (h : impl_FormatPerm.f k l0 = some r) :
  Calls Tryd.prog 17 #[.slice A0 l0.length c0] w fun e w' => e = .returned (.string r) ∧ Below w.heap.size w w' := by
 have HR0 := Aside0.mk hr0
 have HC0 := Aside0.mk hc0
 clear hr0 hc0
 have HB := Aside0.mk (Below.refl w.heap.size w)
 have H : ((impl_PermOk.f l0).bind fun t520 => (if t520 = true then ((impl_CyclesOf.f k l0).bind fun t521 => (impl_FormatPerm.l0 k (⟨#[]⟩ : ByteArray) t521 (t521.length : Int) 0)) else (some (⟨#[]⟩ : ByteArray)))) = some r := h
 clear h
 have HTAB := Aside0.mk htab_
 clear htab_
 replace H := Option.bind_eq_some_iff.mp H
 obtain ⟨t520, A20, H⟩ := H
 replace H : (if t520 = true then ((impl_CyclesOf.f k l0).bind fun t521 => (impl_FormatPerm.l0 k (⟨#[]⟩ : ByteArray) t521 (t521.length : Int) 0)) else (some (⟨#[]⟩ : ByteArray))) = some r := H
 have A2 := Aside0.mk A20
 clear A20
 by_cases c3 : t520 = true
 ·subst c3
  have H1 : ((impl_CyclesOf.f k l0).bind fun t521 => (impl_FormatPerm.l0 k (⟨#[]⟩ : ByteArray) t521 (t521.length : Int) 0)) = some r := by rw [if_pos rfl] at H; exact H
  clear H
  have H := H1
  clear H1
  replace H := Option.bind_eq_some_iff.mp H
  obtain ⟨t521, A40, H⟩ := H
  replace H : (impl_FormatPerm.l0 k (⟨#[]⟩ : ByteArray) t521 (t521.length : Int) 0) = some r := H
  have A4 := Aside0.mk A40
  clear A40
  have H' := Aside0.mk H
  clear H
  go_enter Tryd.func17, Tryd.ntmps17
  go_wp2_with (first | ((with_reducible refine gate_callee (f := 35) rfl ?_); refine goesL_ (some 7) rfl rfl Tryd.func35 (by kernel_rfl) rfl #[.slice A0 l0.length c0] rfl (by (try simp only [zE,zF,zG]); first|done|rfl|(simp only [zH,zI]; rfl)) ?_; (with_reducible refine (impl_PermOk.calls _ _ l0 true _ ?side1 ?side2 A2.out).mono ?_); (case side1 => exact cX HR0.out); (case side2 => exact HC0.out); rintro e w5 ⟨rfl, hb⟩; refine ⟨_, rfl, ?_⟩; have n0_ := Aside0.mk (below_step (bX HB.out) hb); clear HB; have HB := n0_; clear n0_; (try clear hb); (try clear hb2); (try clear hk); (try clear hi)) | ((with_reducible refine gate_callee (f := 36) rfl ?_); refine goesL_ (some 10) rfl rfl Tryd.func36 (by kernel_rfl) rfl #[.slice A0 l0.length c0] rfl (by (try simp only [zE,zF,zG]); first|done|rfl|(simp only [zH,zI]; rfl)) ?_; (with_reducible refine (impl_CyclesOf.calls k _ _ l0 t521 _ ?side1 ?side2 A4.out).mono ?_); (case side1 => repeat (first | exact (Kd.C_below HR0.out HB.out) | (with_reducible refine Kd.C_alloc ?_ _) | (with_reducible refine Kd.C_drewN ?_ _) | (with_reducible refine Kd.C_drew ?_))); (case side2 => exact HC0.out); rintro e w6 ⟨v522, rfl, ho0, hb⟩; refine ⟨_, rfl, ?_⟩; have n0_ := Aside0.mk (Kd.S_lower ho0 (below_size (bX HB.out))); have n1_ := Aside0.mk (below_step (bX HB.out) hb); clear HB; have HO523 := n0_; have HB := n1_; clear n0_ n1_; (try clear hb); (try clear hb2); (try clear hk); (try clear hi); (try clear ho0); obtain ⟨Ao7, co7, eo7⟩ := Kd.S_slice HO523.out; subst eo7))
  go_loopg [3, 12] k (fun kq v3 v12 w' => ∃ (x3_1 : ByteArray) (x12_1 : Int), v3 = .string x3_1 ∧ v12 = .int .i64 x12_1 ∧ Aside0 (impl_FormatPerm.l0 kq x3_1 t521 (t521.length : Int) x12_1 = some r) ∧ Aside0 (kq ≤ k) ∧ Aside0 (Kd.S (Kd.slice 3 (Kd.int .i64)) 22 w' w.heap.size (fun _ => True) (.slice Ao7 t521.length co7) t521) ∧ Aside0 (Below w.heap.size w w'))
  case atStart => exact ⟨((⟨#[]⟩ : ByteArray)), (0), vX, vX, H', ⟨Nat.le_refl _⟩, ⟨by (with_reducible repeat (first | apply Kd.S_alloc | apply Kd.S_drewN | apply Kd.S_drew)); exact HO523.out⟩, ⟨bX HB.out⟩⟩
  case round =>
   clear H'
   try clear c1
   try clear p2
   try clear c3
   obtain ⟨x3_1, x12_1, rfl, rfl, HA, HK1, HO_10, HB⟩ := hrel
   cases gk with
   | zero => exact absurd HA.out (by simp [impl_FormatPerm.l0])
   | succ k1 =>
    have H := HA.out
    clear HA
    simp only [impl_FormatPerm.l0] at H
    by_cases c8 : x12_1 < (t521.length : Int)
    ·rw [if_pos c8] at H
     have c8b0 : decide (x12_1 < (t521.length : Int)) = true := decide_eq_true c8
     clear c8
     by_cases c9 : 0 ≤ x12_1
     ·rw [if_pos c9] at H
      have c9b0 : decide (0 ≤ x12_1) = true := decide_eq_true c9
      clear c9
      by_cases c10 : x12_1 < (t521.length : Int)
      ·rw [if_pos c10] at H
       have c10b0 : decide (x12_1 < (t521.length : Int)) = true := decide_eq_true c10
       clear c10
       by_cases c11 : ((rd_L1 t521 x12_1).length : Int) > 1
       ·rw [if_pos c11] at H
        have c11b0 : decide (1 < ((rd_L1 t521 x12_1).length : Int)) = true := decide_eq_true c11
        have c11b1 : decide (1 < (rd_L1 t521 x12_1).length) = true := decide_eq_true (by omega)
        clear c11
        replace H := Option.bind_eq_some_iff.mp H
        obtain ⟨t525, A120, H⟩ := H
        replace H : (if 1 + t525.size ≤ 9223372036854775807 then (if ((⟨#[40]⟩ : ByteArray) ++ t525).size + 1 ≤ 9223372036854775807 then (if x3_1.size + (((⟨#[40]⟩ : ByteArray) ++ t525) ++ (⟨#[41]⟩ : ByteArray)).size ≤ 9223372036854775807 then (impl_FormatPerm.l0 k1 (x3_1 ++ (((⟨#[40]⟩ : ByteArray) ++ t525) ++ (⟨#[41]⟩ : ByteArray))) t521 (t521.length : Int) (wrap64 (x12_1 + 1))) else (none)) else (none)) else (none)) = some r := H
        have A12 := Aside0.mk A120
        clear A120
        by_cases c13 : 1 + t525.size ≤ 9223372036854775807
        ·rw [if_pos c13] at H
         have c13b0 := eq_true c13
         have c13b1 : decide (1 + t525.size ≤ 9223372036854775807) = true := decide_eq_true c13
         try have c13b2 : (9223372036854775807 < 1 + t525.size) = False := eq_false (Nat.not_lt.2 c13)
         by_cases c14 : ((⟨#[40]⟩ : ByteArray) ++ t525).size + 1 ≤ 9223372036854775807
         ·rw [if_pos c14] at H
          have c14b0 := eq_true c14
          have c14b1 : decide (((⟨#[40]⟩ : ByteArray) ++ t525).size + 1 ≤ 9223372036854775807) = true := decide_eq_true c14
          try have c14b2 : (9223372036854775807 < ((⟨#[40]⟩ : ByteArray) ++ t525).size + 1) = False := eq_false (Nat.not_lt.2 c14)
          try have c14b3 : (9223372036854775807 < 1 + t525.size + 1) = False := eq_false (Nat.not_lt.2 (by have hz_ := c14; simp only [ByteArray.size_append] at hz_; first | exact hz_ | omega))
          by_cases c15 : x3_1.size + (((⟨#[40]⟩ : ByteArray) ++ t525) ++ (⟨#[41]⟩ : ByteArray)).size ≤ 9223372036854775807
          ·rw [if_pos c15] at H
           have c15b0 := eq_true c15
           have c15b1 : decide (x3_1.size + (((⟨#[40]⟩ : ByteArray) ++ t525) ++ (⟨#[41]⟩ : ByteArray)).size ≤ 9223372036854775807) = true := decide_eq_true c15
           try have c15b2 : (9223372036854775807 < x3_1.size + (((⟨#[40]⟩ : ByteArray) ++ t525) ++ (⟨#[41]⟩ : ByteArray)).size) = False := eq_false (Nat.not_lt.2 c15)
           try have c15b3 : (9223372036854775807 < x3_1.size + (1 + t525.size + 1)) = False := eq_false (Nat.not_lt.2 (by have hz_ := c15; simp only [ByteArray.size_append] at hz_; first | exact hz_ | omega))
           have H' := Aside0.mk H
           clear H
           have p524 : 0 ≤ (x12_1 : Int) := dX
           have q524 : x12_1 < (t521.length : Int) := dX
           obtain ⟨ad524, A524_0, c524_0, e524, hx524_0, hl524_0, hi524_0⟩ := at_L1 (Kd.S_reads' HO_10.out).2.2 x12_1 p524 q524
           cases e524
           obtain ⟨ce524, hce524, hMe524, hcc524⟩ := Kd.S_get HO_10.out [] x12_1 p524 (by first | exact q524 | exact dX | (have e_ := (Kd.S_reads' HO_10.out).1; omega))
           obtain ⟨ve524_0, rfl, ge524_0⟩ := hMe524
           have hv524_0 := hcc524 0 _ rfl
           rw [Nat.add_zero, show ((Kd.slice 3 (Kd.int .i64))).sz = 1 from rfl, Nat.mul_one] at hv524_0
           replace hv524_0 := Option.some.inj (hv524_0.symm.trans hx524_0)
           rw [hv524_0] at ge524_0
           have HL524_0 := Aside0.mk (show Kd.R (Kd.int .i64) 3 _ _ _ _ (rd_L1 t521 x12_1) from ge524_0)
           clear hv524_0 ge524_0
           clear hcc524 hce524
           have HR524_0 := Aside0.mk hi524_0
           have HC524_0 := Aside0.mk hl524_0
           clear hi524_0 hl524_0
           replace p524 := eq_true p524
           replace q524 := eq_true q524
           go_wp2_with (first | ((with_reducible refine gate_callee (f := 18) rfl ?_); refine goesL_ (some 21) rfl rfl Tryd.func18 (by kernel_rfl) rfl #[.slice A524_0 (rd_L1 t521 x12_1).length c524_0, .string (⟨#[32]⟩ : ByteArray)] rfl (by (try simp only [zE,zF,zG]); first|done|rfl|(simp only [zH,zI]; rfl)) ?_; (with_reducible refine (impl_joinInts.calls k1 _ _ (rd_L1 t521 x12_1) (⟨#[32]⟩ : ByteArray) t525 _ ?side1 ?side2 ?side3 A12.out).mono ?_); (case side1 => repeat (first | exact (cX HR524_0.out) | (with_reducible refine Kd.C_alloc ?_ _) | (with_reducible refine Kd.C_drewN ?_ _) | (with_reducible refine Kd.C_drew ?_))); (case side2 => exact HC524_0.out); (case side3 => exact PowTab.below HTAB.out (bX HB.out)); rintro e w16 ⟨rfl, hb⟩; refine ⟨_, rfl, ?_⟩; have n0_ := Aside0.mk (Kd.S_below (by (with_reducible repeat (first | apply Kd.S_alloc | apply Kd.S_drewN | apply Kd.S_drew)); exact HO_10.out) hb); have n1_ := Aside0.mk (Kd.R_below (rX HL524_0.out) hb); have n2_ := Aside0.mk (Kd.C_below (cX HR524_0.out) hb); have n3_ := Aside0.mk (below_step (bX HB.out) hb); clear HO_10; clear HL524_0; clear HR524_0; clear HB; have HO_10 := n0_; have HL524_0 := n1_; have HR524_0 := n2_; have HB := n3_; clear n0_ n1_ n2_ n3_; (try clear hb); (try clear hb2); (try clear hk); (try clear hi)))
           go_roundg k1
           case measure => have := HK1.out; omega
           case rel => exact ⟨(x3_1 ++ (((⟨#[40]⟩ : ByteArray) ++ t525) ++ (⟨#[41]⟩ : ByteArray))), (wrap64 (x12_1 + 1)), vX, vX, H', ⟨by have := HK1.out; omega⟩, ⟨by (with_reducible repeat (first | apply Kd.S_alloc | apply Kd.S_drewN | apply Kd.S_drew)); exact HO_10.out⟩, ⟨bX HB.out⟩⟩
          ·rw [if_neg c15] at H
           exact absurd H (by simp)
         ·rw [if_neg c14] at H
          exact absurd H (by simp)
        ·rw [if_neg c13] at H
         exact absurd H (by simp)
       ·rw [if_neg c11] at H
        have c11b0 : decide (1 < ((rd_L1 t521 x12_1).length : Int)) = false := decide_eq_false c11
        have c11b1 : decide (1 < (rd_L1 t521 x12_1).length) = false := decide_eq_false (by omega)
        clear c11
        have H' := Aside0.mk H
        clear H
        have p524 : 0 ≤ (x12_1 : Int) := dX
        have q524 : x12_1 < (t521.length : Int) := dX
        obtain ⟨ad524, A524_0, c524_0, e524, hx524_0, hl524_0, hi524_0⟩ := at_L1 (Kd.S_reads' HO_10.out).2.2 x12_1 p524 q524
        cases e524
        obtain ⟨ce524, hce524, hMe524, hcc524⟩ := Kd.S_get HO_10.out [] x12_1 p524 (by first | exact q524 | exact dX | (have e_ := (Kd.S_reads' HO_10.out).1; omega))
        obtain ⟨ve524_0, rfl, ge524_0⟩ := hMe524
        have hv524_0 := hcc524 0 _ rfl
        rw [Nat.add_zero, show ((Kd.slice 3 (Kd.int .i64))).sz = 1 from rfl, Nat.mul_one] at hv524_0
        replace hv524_0 := Option.some.inj (hv524_0.symm.trans hx524_0)
        rw [hv524_0] at ge524_0
        have HL524_0 := Aside0.mk (show Kd.R (Kd.int .i64) 3 _ _ _ _ (rd_L1 t521 x12_1) from ge524_0)
        clear hv524_0 ge524_0
        clear hcc524 hce524
        have HR524_0 := Aside0.mk hi524_0
        have HC524_0 := Aside0.mk hl524_0
        clear hi524_0 hl524_0
        replace p524 := eq_true p524
        replace q524 := eq_true q524
        go_wp2
        go_roundg k1
        case measure => have := HK1.out; omega
        case rel => exact ⟨(x3_1), (wrap64 (x12_1 + 1)), vX, vX, H', ⟨by have := HK1.out; omega⟩, ⟨by (with_reducible repeat (first | apply Kd.S_alloc | apply Kd.S_drewN | apply Kd.S_drew)); exact HO_10.out⟩, ⟨bX HB.out⟩⟩
      ·rw [if_neg c10] at H
       exact absurd H (by simp)
     ·rw [if_neg c9] at H
      exact absurd H (by simp)
    ·rw [if_neg c8] at H
     have c8b0 : decide (x12_1 < (t521.length : Int)) = false := decide_eq_false c8
     clear c8
     by_cases c17 : x3_1.toList = ([] : List UInt8)
     ·rw [if_pos c17] at H
      have c17b0 : (x3_1.toList == ([] : List UInt8)) = true := beq_iff_eq.mpr c17
      have c17b1 : (x3_1.toList != ([] : List UInt8)) = false := bne_eq_false_iff_eq.mpr c17
      clear c17
      obtain rfl := Option.some.inj H
      go_wp2
      go_ret
      exact ⟨eX, bX HB.out⟩
     ·rw [if_neg c17] at H
      have c17b0 : (x3_1.toList == ([] : List UInt8)) = false := beq_eq_false_iff_ne.mpr c17
      have c17b1 : (x3_1.toList != ([] : List UInt8)) = true := bne_iff_ne.mpr c17
      obtain rfl := Option.some.inj H
      go_wp2
      go_ret
      exact ⟨eX, bX HB.out⟩
 ·replace c3 := Bool.eq_false_iff.mpr c3
  subst c3
  have H1 : (some (⟨#[]⟩ : ByteArray)) = some r := by rw [if_neg (show ¬ (false = true) by decide)] at H; exact H
  clear H
  have H := H1
  clear H1
  obtain rfl := Option.some.inj H
  go_enter Tryd.func17, Tryd.ntmps17
  go_wp2_with (first | ((with_reducible refine gate_callee (f := 35) rfl ?_); refine goesL_ (some 7) rfl rfl Tryd.func35 (by kernel_rfl) rfl #[.slice A0 l0.length c0] rfl (by (try simp only [zE,zF,zG]); first|done|rfl|(simp only [zH,zI]; rfl)) ?_; (with_reducible refine (impl_PermOk.calls _ _ l0 false _ ?side1 ?side2 A2.out).mono ?_); (case side1 => exact cX HR0.out); (case side2 => exact HC0.out); rintro e w18 ⟨rfl, hb⟩; refine ⟨_, rfl, ?_⟩; have n0_ := Aside0.mk (below_step (bX HB.out) hb); clear HB; have HB := n0_; clear n0_; (try clear hb); (try clear hb2); (try clear hk); (try clear hi)))
  go_ret
  exact ⟨eX, bX HB.out⟩

end Go.Proofs.YtfomhkfgdggngaaDoor.S
