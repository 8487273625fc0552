-- PRINTED by print.py (a twelfth state) out of the translation. Not trusted: Lean checks it.
import Derived.Test.YtfomhkfgdggngaaDoorS0
import Derived.Test.YtfomhkfgdggngaaDoorS4
namespace Go.Proofs.YtfomhkfgdggngaaDoor.S
open Go.RowKit Go.Proofs.YtfomhkfgdggngaaDoorW.PrintWords Go.Proofs.YtfomhkfgdggngaaDoorW.PrintLast Go.Proofs.YtfomhkfgdggngaaDoorW.PrintMore
attribute [local go_sem] max2_int min2_int max_two min_two max_three min_three max_four min_four   -- for this text's walks alone
set_option linter.unusedVariables false
set_option linter.unusedSimpArgs false

/-! ### impl_turnTo: function 31 -/
mutual
def impl_turnTo.l0 : Nat → Int → List Int → List Int → List Int → Int → Int → List Int → List Int → Option (List Int)
 | 0, _, _, _, _, _, _, _, _ => none
 | k + 1, x1, x5, x6, x7, x25, x26, x356000, x356001 => if x26 < x25 then (if 0 ≤ x26 then (if x26 < (x7.length : Int) then (impl_turnTo.l0 k x1 x5 x6 (x7.set (x26 : Int).toNat (-1)) x25 (wrap64 (x26 + 1)) x356000 x356001) else (none)) else (none)) else (if 0 < (x7.length : Int) then (impl_turnTo.l1 k x5 x6 (x7.set (0 : Int).toNat x1) (([0] : List Int)) 0 x356000 x356001) else (none))
def impl_turnTo.l1 : Nat → List Int → List Int → List Int → List Int → Int → List Int → List Int → Option (List Int)
 | 0, _, _, _, _, _, _, _ => none
 | k + 1, x5, x6, x7, x9, x10, x356000, x356001 => if x10 < (x9.length : Int) then (if 0 ≤ x10 then (if 0 ≤ (rd x9 x10) then (if (rd x9 x10) < (x356000.length : Int) then (if (rd x9 x10) < (x7.length : Int) then (if 0 ≤ (rd x7 (rd x9 x10)) then (if (rd x7 (rd x9 x10)) < (x5.length : Int) then (if (rd x9 x10) < (x356001.length : Int) then (if (rd x7 (rd x9 x10)) < (x6.length : Int) then ((some (([(⟨rd x356000 (rd x9 x10), rd x5 (rd x7 (rd x9 x10))⟩ : S54), (⟨rd x356001 (rd x9 x10), rd x6 (rd x7 (rd x9 x10))⟩ : S54)] : List (S54)) : List (S54))).bind fun y377 => (impl_turnTo.l2 k x5 x6 x7 x9 x10 y377 (y377.length : Int) 0 x356000 x356001)) else (none)) else (none)) else (none)) else (none)) else (none)) else (none)) else (none)) else (none)) else (some x7)
def impl_turnTo.l2 : Nat → List Int → List Int → List Int → List Int → Int → List (S54) → Int → Int → List Int → List Int → Option (List Int)
 | 0, _, _, _, _, _, _, _, _, _, _ => none
 | k + 1, x5, x6, x7, x9, x10, x73, x74, x75, x356000, x356001 => if x75 < x74 then (if 0 ≤ x75 then (if x75 < (x73.length : Int) then (if 0 ≤ ((rd_T54 x73 x75).f0) then (if ((rd_T54 x73 x75).f0) < (x7.length : Int) then (if (rd x7 ((rd_T54 x73 x75).f0)) < 0 then (if x9.length < 17592186044416 then (impl_turnTo.l2 k x5 x6 (x7.set (((rd_T54 x73 x75).f0) : Int).toNat ((rd_T54 x73 x75).f1)) (x9 ++ [(rd_T54 x73 x75).f0]) x10 x73 x74 (wrap64 (x75 + 1)) x356000 x356001) else (none)) else (impl_turnTo.l2 k x5 x6 x7 x9 x10 x73 x74 (wrap64 (x75 + 1)) x356000 x356001)) else (none)) else (none)) else (none)) else (none)) else (impl_turnTo.l1 k x5 x6 x7 x9 (wrap64 (x10 + 1)) x356000 x356001)
end
def impl_turnTo.f (k : Nat) (l0_0 : List Int) (l0_1 : List Int) (a1 : Int) : Option (List Int) := (impl_InversePerm.f k l0_0).bind fun t356 => ((impl_InversePerm.f k l0_1).bind fun t359 => (if 0 ≤ (l0_0.length : Int) then (if ((l0_0.length : Int) : Int).toNat ≤ 35184372088832 then ((some (List.replicate ((l0_0.length : Int) : Int).toNat 0 : List Int)).bind fun y362 => (impl_turnTo.l0 k a1 t356 t359 y362 (y362.length : Int) 0 l0_0 l0_1)) else (none)) else (none)))
def impl_turnTo.T15 : Bool × List (List Nat × List Nat) := (true, [([], []), ([0], [0]), ([], []), ([1, 2], [1, 2]), ([3], [3]), ([], []), ([], []), ([], []), ([6, 7], [6, 7]), ([8], [8]), ([5, 9], [5, 9]), ([10], [10]), ([4, 11], [4, 11]), ([], []), ([13], [13]), ([], []), ([14, 15], [14, 15]), ([16], [16]), ([], []), ([], []), ([], []), ([19, 20], [19, 20]), ([21], [21]), ([18, 22], [18, 22]), ([23], [23]), ([17, 24], [17, 24]), ([12, 25], [12, 25]), ([26], [26]), ([], [])])
def impl_turnTo.B15 : List Nat := [0, 1, 0, 7, 15, 0, 0, 0, 192, 448, 992, 2016, 4095, 0, 8192, 0, 57344, 122880, 0, 0, 0, 1572864, 3670016, 8126464, 16515072, 33546240, 67108863, 134217727, 0]
theorem impl_turnTo.tab15 : rtab .any (opsOf Tryd.f31 15) = impl_turnTo.T15 := by kernel_rfl
theorem impl_turnTo.bits15 : waitsOk impl_turnTo.T15.2 impl_turnTo.B15 = true := by kernel_rfl
set_option maxHeartbeats 8000000 in
set_option maxRecDepth 100000 in
theorem impl_turnTo.calls (k : Nat) (A0_0 : Option Addr) (c0_0 : Nat) (l0_0 : List Int) (A0_1 : Option Addr) (c0_1 : Nat) (l0_1 : List Int) (a1 : Int) (r : List Int) (w : World) (hr0_0 : Kd.C (Kd.int .i64) w A0_0 l0_0.length l0_0) (hc0_0 : l0_0.length ≤ c0_0) (hr0_1 : Kd.C (Kd.int .i64) w A0_1 l0_1.length l0_1) (hc0_1 : l0_1.length ≤ c0_1) (h : impl_turnTo.f k l0_0 l0_1 a1 = some r) :
  Calls Tryd.prog 31 #[.agg #[.slice A0_0 l0_0.length c0_0, .slice A0_1 l0_1.length c0_1], .int .i64 a1] w fun e w' => ∃ v0_ : Value, e = .returned (v0_) ∧ Kd.R (Kd.int .i64) 3 w' w.heap.size (fun _ => True) v0_ r ∧ Below w.heap.size w w' := by
 have hu27 := Tryd.underlying27
 have hu54 := Tryd.underlying54
 have HR0_0 := Aside0.mk hr0_0
 have HC0_0 := Aside0.mk hc0_0
 clear hr0_0 hc0_0
 have HR0_1 := Aside0.mk hr0_1
 have HC0_1 := Aside0.mk hc0_1
 clear hr0_1 hc0_1
 have HB := Aside0.mk (Below.refl w.heap.size w)
 have H : ((impl_InversePerm.f k l0_0).bind fun t356 => ((impl_InversePerm.f k l0_1).bind fun t359 => (if 0 ≤ (l0_0.length : Int) then (if ((l0_0.length : Int) : Int).toNat ≤ 35184372088832 then ((some (List.replicate ((l0_0.length : Int) : Int).toNat 0 : List Int)).bind fun y362 => (impl_turnTo.l0 k a1 t356 t359 y362 (y362.length : Int) 0 l0_0 l0_1)) else (none)) else (none)))) = some r := h
 clear h
 replace H := Option.bind_eq_some_iff.mp H
 obtain ⟨t356, A30, H⟩ := H
 replace H : ((impl_InversePerm.f k l0_1).bind fun t359 => (if 0 ≤ (l0_0.length : Int) then (if ((l0_0.length : Int) : Int).toNat ≤ 35184372088832 then ((some (List.replicate ((l0_0.length : Int) : Int).toNat 0 : List Int)).bind fun y362 => (impl_turnTo.l0 k a1 t356 t359 y362 (y362.length : Int) 0 l0_0 l0_1)) else (none)) else (none))) = some r := H
 have A3 := Aside0.mk A30
 clear A30
 replace H := Option.bind_eq_some_iff.mp H
 obtain ⟨t359, A40, H⟩ := H
 replace H : (if 0 ≤ (l0_0.length : Int) then (if ((l0_0.length : Int) : Int).toNat ≤ 35184372088832 then ((some (List.replicate ((l0_0.length : Int) : Int).toNat 0 : List Int)).bind fun y362 => (impl_turnTo.l0 k a1 t356 t359 y362 (y362.length : Int) 0 l0_0 l0_1)) else (none)) else (none)) = some r := H
 have A4 := Aside0.mk A40
 clear A40
 by_cases c5 : 0 ≤ (l0_0.length : Int)
 ·rw [if_pos c5] at H
  have c5b0 := eq_true c5
  have c5b1 : decide (0 ≤ (l0_0.length : Int)) = true := decide_eq_true c5
  clear c5
  by_cases c6 : ((l0_0.length : Int) : Int).toNat ≤ 35184372088832
  ·rw [if_pos c6] at H
   have c6b0 := eq_true c6
   have c6b1 : decide (((l0_0.length : Int) : Int).toNat ≤ 35184372088832) = true := decide_eq_true c6
   clear c6
   obtain ⟨y362, hy362⟩ : ∃ y_ : List Int, y_ = (List.replicate ((l0_0.length : Int) : Int).toNat 0) := ⟨_, rfl⟩
   replace H : (impl_turnTo.l0 k a1 t356 t359 y362 (y362.length : Int) 0 l0_0 l0_1) = some r := by first | (rw [hy362]; with_reducible exact H) | (have H2_ := (Option.bind_some _ _).symm.trans H; rw [hy362]; with_reducible exact H2_) | (have H2_ := (Option.bind_some _ _).symm.trans H; with_reducible exact H2_) | with_reducible exact H | (rw [hy362]; exact H) | exact H
   have Ny362 := Aside0.mk hy362
   clear hy362
   have H' := Aside0.mk H
   clear H
   go_enter Tryd.func31, Tryd.ntmps31
   go_wp2_with (first | ((with_reducible refine gate_dst (N := 2) rfl ?_); refine box_event ?hg (N := 2) ?hd (cs := #[.slice A0_0 l0_0.length c0_0, .slice A0_1 l0_1.length c0_1]) (t := 27) ?hr ?_; (case hd => rfl); (case hg => rfl); (case hr => first | (go_simp; done) | (go_simp; rfl)); intro gb355 hg w7 hbox hb; have n0_ := Aside0.mk (below_step (bX HB.out) hb); have n1_ := Aside0.mk (hbox); have n2_ := Aside0.mk ((by rw [hg]; exact (below_size (bX HB.out)) : w.heap.size ≤ gb355)); have n3_ := Aside0.mk ((by rw [hg]; exact (below_size (bX HB.out)) : w.heap.size ≤ gb355)); clear HB; have HB := n0_; have BK355 := n1_; have GW355 := n2_; have GE355 := n3_; clear n0_ n1_ n2_ n3_; clear hb hbox hg; have hcz8_0 : w7.cell? ⟨gb355, 0, none⟩ = some (.slice A0_0 l0_0.length c0_0) := (blk_cell BK355.out 0).trans rfl; have hcz8_1 : w7.cell? ⟨gb355, 1, none⟩ = some (.slice A0_1 l0_1.length c0_1) := (blk_cell BK355.out 1).trans rfl; have hfz8_0 := blk_frozen BK355.out 0; have hfz8_1 := blk_frozen BK355.out 1) | ((with_reducible refine gate_callee (f := 33) rfl ?_); refine goesL_ (some 16) rfl rfl Tryd.func33 (by kernel_rfl) rfl #[.slice A0_0 l0_0.length c0_0] rfl (by (try simp only [zE,zF,zG]); first|done|rfl|(simp only [zH,zI]; rfl)) ?_; (with_reducible refine (impl_InversePerm.calls k _ _ l0_0 t356 _ ?side1 ?side2 A3.out).mono ?_); (case side1 => repeat (first | exact (Kd.C_below HR0_0.out HB.out) | (with_reducible refine Kd.C_alloc ?_ _) | (with_reducible refine Kd.C_drewN ?_ _) | (with_reducible refine Kd.C_drew ?_))); (case side2 => exact HC0_0.out); rintro e w9 ⟨v357, rfl, ho0, hb⟩; refine ⟨_, rfl, ?_⟩; have n0_ := Aside0.mk (Kd.R_lower ho0 (below_size (bX1 HB.out GE355.out))); have n1_ := Aside0.mk (blk_below (g := gb355) (o := .cells #[.slice A0_0 l0_0.length c0_0, .slice A0_1 l0_1.length c0_1] 27 (0, 0)) (kX BK355.out) hb); have n2_ := Aside0.mk (below_step (bX1 HB.out GE355.out) hb); clear BK355; clear HB; have HO358 := n0_; have BK355 := n1_; have HB := n2_; clear n0_ n1_ n2_; (try clear hb); (try clear hb2); (try clear hk); (try clear hi); (try clear ho0); have hcz10_0 : w9.cell? ⟨gb355, 0, none⟩ = some (.slice A0_0 l0_0.length c0_0) := (blk_cell BK355.out 0).trans rfl; have hcz10_1 : w9.cell? ⟨gb355, 1, none⟩ = some (.slice A0_1 l0_1.length c0_1) := (blk_cell BK355.out 1).trans rfl; have hfz10_0 := blk_frozen BK355.out 0; have hfz10_1 := blk_frozen BK355.out 1) | ((with_reducible refine gate_callee (f := 33) rfl ?_); refine goesL_ (some 19) rfl rfl Tryd.func33 (by kernel_rfl) rfl #[.slice A0_1 l0_1.length c0_1] rfl (by (try simp only [zE,zF,zG]); first|done|rfl|(simp only [zH,zI]; rfl)) ?_; (with_reducible refine (impl_InversePerm.calls k _ _ l0_1 t359 _ ?side1 ?side2 A4.out).mono ?_); (case side1 => repeat (first | exact (Kd.C_below HR0_1.out HB.out) | (with_reducible refine Kd.C_alloc ?_ _) | (with_reducible refine Kd.C_drewN ?_ _) | (with_reducible refine Kd.C_drew ?_))); (case side2 => exact HC0_1.out); rintro e w11 ⟨v360, rfl, ho0, hb⟩; refine ⟨_, rfl, ?_⟩; have n0_ := Aside0.mk (Kd.R_elder' (rX HO358.out) (Kd.R_base ho0) hb); have n1_ := Aside0.mk (Kd.R_lower (Kd.R_new' ho0 (Kd.R_lt (rX HO358.out))) (below_size (bX1 HB.out GE355.out))); have n2_ := Aside0.mk (blk_below (g := gb355) (o := .cells #[.slice A0_0 l0_0.length c0_0, .slice A0_1 l0_1.length c0_1] 27 (0, 0)) (kX BK355.out) hb); have n3_ := Aside0.mk (below_step (bX1 HB.out GE355.out) hb); clear HO358; clear BK355; clear HB; have HO358 := n0_; have HO361 := n1_; have BK355 := n2_; have HB := n3_; clear n0_ n1_ n2_ n3_; (try clear hb); (try clear hb2); (try clear hk); (try clear hi); (try clear ho0); have hcz12_0 : w11.cell? ⟨gb355, 0, none⟩ = some (.slice A0_0 l0_0.length c0_0) := (blk_cell BK355.out 0).trans rfl; have hcz12_1 : w11.cell? ⟨gb355, 1, none⟩ = some (.slice A0_1 l0_1.length c0_1) := (blk_cell BK355.out 1).trans rfl; have hfz12_0 := blk_frozen BK355.out 0; have hfz12_1 := blk_frozen BK355.out 1) | ((with_reducible refine gate_dst (N := 23) rfl ?_); refine Kd.R_make (Kd.int .i64) _ 3 rfl (N := 23) rfl 22 _ _ rfl (l0_0.length : Int) rfl rfl Tryd.underlying22 (.int .i64 0) 8 info3 rfl (by decide) (by omega) 0 (ok := fun _ => True) (okp := fun _ => True) rfl (fun _ hk => hk) trivial (dX) (Nat.le_trans (Nat.mul_le_mul_right _ (dX : (l0_0.length : Int).toNat ≤ 35184372088832)) (by omega)) (Below.refl _ _) (Nat.le_refl _) ?_; intro v363 w13 ho14 hb hg_ hnew_; clear hg_ hnew_; (first | rw [← Ny362.out] at ho14 | (simp only [Int.reduceToNat] at ho14; rw [← Ny362.out] at ho14)); have n0_ := Aside0.mk (Kd.R_elder' (rX HO358.out) (Kd.R_base ho14) hb); have n1_ := Aside0.mk (Kd.R_elder' (rX HO361.out) (Kd.R_base ho14) hb); have n2_ := Aside0.mk (Kd.R_lower (Kd.R_new' (Kd.R_new' ho14 (Kd.R_lt (rX HO358.out))) (Kd.R_lt (rX HO361.out))) (below_size (bX1 HB.out GE355.out))); have n3_ := Aside0.mk (blk_below (g := gb355) (o := .cells #[.slice A0_0 l0_0.length c0_0, .slice A0_1 l0_1.length c0_1] 27 (0, 0)) (kX BK355.out) hb); have n4_ := Aside0.mk (below_step (bX1 HB.out GE355.out) hb); clear HO358; clear HO361; clear BK355; clear HB; have HO358 := n0_; have HO361 := n1_; have HO364 := n2_; have BK355 := n3_; have HB := n4_; clear n0_ n1_ n2_ n3_ n4_; clear hb ho14; obtain ⟨Ao15, co15, eo15⟩ := Kd.R_slice HO364.out; subst eo15))
   go_loopg [26] k (fun kq v26 w' => ∃ (x7_1 : List Int) (x26_1 : Int), v26 = .int .i64 x26_1 ∧ Aside0 (impl_turnTo.l0 kq a1 t356 t359 x7_1 (y362.length : Int) x26_1 l0_0 l0_1 = some r) ∧ Aside0 (kq ≤ k) ∧ Aside0 (Kd.R (Kd.int .i64) 3 w' w.heap.size (fun k_ => some k_ ≠ (v360 : Value).ownBlock ∧ some k_ ≠ ((.slice Ao15 y362.length co15) : Value).ownBlock) v357 t356) ∧ Aside0 (Kd.R (Kd.int .i64) 3 w' w.heap.size (fun k_ => some k_ ≠ (v357 : Value).ownBlock ∧ some k_ ≠ ((.slice Ao15 y362.length co15) : Value).ownBlock) v360 t359) ∧ Aside0 (Kd.R (Kd.int .i64) 3 w' w.heap.size (fun k_ => some k_ ≠ (v357 : Value).ownBlock ∧ some k_ ≠ (v360 : Value).ownBlock) (.slice Ao15 y362.length co15) x7_1) ∧ Aside0 (w'.heap[gb355]? = some (.cells #[(.slice A0_0 l0_0.length c0_0), (.slice A0_1 l0_1.length c0_1)] 27 (0, 0))) ∧ Aside0 (Below w.heap.size w w'))
   case atStart => exact ⟨(y362), (0), vX, H', ⟨Nat.le_refl _⟩, ⟨rM HO358.out (fun _ hk => ⟨hk.1.2, hk.2⟩)⟩, ⟨rM HO361.out (fun _ hk => ⟨hk.1.2, hk.2⟩)⟩, ⟨rM HO364.out (fun _ hk => ⟨hk.1.2, hk.2⟩)⟩, ⟨kX BK355.out⟩, ⟨bX1 HB.out GE355.out⟩⟩
   case round =>
    clear H'
    try clear p2
    try clear c3
    try clear c5
    try clear c5b0
    try clear c5b1
    try clear c6
    try clear c6b0
    try clear c6b1
    try clear hcz10_0
    try clear hcz10_1
    try clear hcz12_0
    try clear hcz12_1
    try clear hcz8_0
    try clear hcz8_1
    try clear hfz10_0
    try clear hfz10_1
    try clear hfz12_0
    try clear hfz12_1
    try clear hfz8_0
    try clear hfz8_1
    obtain ⟨x7_1, x26_1, rfl, HA, HK1, HO_5, HO_6, HO_7, BK355, HB⟩ := hrel
    have hl7_1 := (Kd.R_reads' HO_7.out).1
    rw [hl7_1] at HO_7
    (try simp only [hl7_1])
    (try simp only [hl7_1] at BK355)
    (try simp only [hl7_1] at HO_5)
    (try simp only [hl7_1] at HO_6)
    cases gk with
    | zero => exact absurd HA.out (by simp [impl_turnTo.l0])
    | succ k1 =>
     have H := HA.out
     clear HA
     simp only [impl_turnTo.l0] at H
     by_cases c16 : x26_1 < (y362.length : Int)
     ·rw [if_pos c16] at H
      have c16b0 : decide (x26_1 < (y362.length : Int)) = true := decide_eq_true c16
      clear c16
      by_cases c17 : 0 ≤ x26_1
      ·rw [if_pos c17] at H
       have c17b0 : decide (0 ≤ x26_1) = true := decide_eq_true c17
       clear c17
       by_cases c18 : x26_1 < (x7_1.length : Int)
       ·rw [if_pos c18] at H
        have c18b0 : decide (x26_1 < (x7_1.length : Int)) = true := decide_eq_true c18
        clear c18
        obtain ⟨y365, hy365⟩ : ∃ y_ : List Int, y_ = (x7_1.set (x26_1 : Int).toNat (-1)) := ⟨_, rfl⟩
        replace H : (impl_turnTo.l0 k1 a1 t356 t359 y365 (y362.length : Int) (wrap64 (x26_1 + 1)) l0_0 l0_1) = some r := by first | (rw [hy365]; with_reducible exact H) | (have H2_ := (Option.bind_some _ _).symm.trans H; rw [hy365]; with_reducible exact H2_) | (have H2_ := (Option.bind_some _ _).symm.trans H; with_reducible exact H2_) | with_reducible exact H | (rw [hy365]; exact H) | exact H
        have Ny365 := Aside0.mk hy365
        clear hy365
        have H' := Aside0.mk H
        clear H
        have p19 : 0 ≤ (x26_1 : Int) := dX
        have q19 : (x26_1 : Int) < ((x7_1.length : Int) : Int) := dX
        obtain ⟨go19, co19, eo19, gb19, gl19, cl19, HG19⟩ := Kd.R_form HO_7.out (by omega)
        (first | cases eo19 | (injection eo19 with ea_ en_ ec_; (first | subst ea_ | (injection ea_ with ea_; subst ea_)); subst ec_; clear en_))
        have GB19 := Aside0.mk gb19
        have GG19 := Aside0.mk HG19
        clear gb19 gl19 HG19
        obtain ⟨hx19_0, hf19_0⟩ := Kd.R_celln 0 HO_7.out (x26_1 : Int) p19 q19
        replace p19 := eq_true p19
        replace q19 := eq_true q19
        have HP20 := Kd.R_putg HO_7.out (x26_1 : Int) (-1)
        go_wp2_with (first | ((with_reducible refine gate_store (t := 3) (p := 31) rfl ?_); refine store_event (t := 3) (p := 31) (v := ?vo_w21) (w1 := (wr.setCell ⟨go19, (x26_1 : Int).toNat, none⟩ (.int .i64 (-1)))) ?hg ?ho ?hn ?hr ?_; (case ho => rfl); (case hg => rfl); (case hn => rfl); (case hr => first | (go_simp; done) | (go_simp; rfl)); intro w21 hw; have hg : wr.grownBy w21 (some go19) := (by rw [hw]; exact HP20.2); have hp_ : Kd.R (Kd.int .i64) 3 w21 w.heap.size (fun k_ => some k_ ≠ (v357 : Value).ownBlock ∧ some k_ ≠ (v360 : Value).ownBlock) (.slice (some ⟨go19, 0, none⟩) x7_1.length co15) y365 := (by rw [hw, Ny365.out]; exact HP20.1); clear HP20; have n0_ := Aside0.mk (Kd.R_after (v := (.slice (some ⟨go19, 0, none⟩) x7_1.length co15)) (v1 := (.slice (some ⟨go19, 0, none⟩) x7_1.length co15)) (ok := (fun k_ => some k_ ≠ (v360 : Value).ownBlock)) (rX HO_5.out) hg (.inl rfl)); have n1_ := Aside0.mk (Kd.R_after (v := (.slice (some ⟨go19, 0, none⟩) x7_1.length co15)) (v1 := (.slice (some ⟨go19, 0, none⟩) x7_1.length co15)) (ok := (fun k_ => some k_ ≠ (v357 : Value).ownBlock)) (rX HO_6.out) hg (.inl rfl)); have n2_ := Aside0.mk (hp_); have n3_ := Aside0.mk (blk_grown (g := gb355) (o := .cells #[.slice A0_0 l0_0.length c0_0, .slice A0_1 l0_1.length c0_1] 27 (0, 0)) (kX BK355.out) hg (Kd.R_ne HO_7.out BK355.out (by decide))); have n4_ := Aside0.mk ((by rw [hw]; exact below_set (HB.out) GB19.out : Below w.heap.size w w21)); clear HO_5; clear HO_6; clear HO_7; clear BK355; clear HB; have HO_5 := n0_; have HO_6 := n1_; have HO_7 := n2_; have BK355 := n3_; have HB := n4_; clear n0_ n1_ n2_ n3_ n4_; clear hg hw hp_))
        (try simp only [← hl7_1])
        go_roundg k1
        case measure => have := HK1.out; omega
        case rel => exact ⟨(y365), (wrap64 (x26_1 + 1)), vX, H', ⟨by have := HK1.out; omega⟩, ⟨by (try simp only [hl7_1]); (with_reducible repeat (first|apply rA|apply rN|apply rD)); exact HO_5.out⟩, ⟨by (try simp only [hl7_1]); (with_reducible repeat (first|apply rA|apply rN|apply rD)); exact HO_6.out⟩, ⟨by (try simp only [hl7_1]); (with_reducible repeat (first|apply rA|apply rN|apply rD)); exact HO_7.out⟩, ⟨by (try simp only [hl7_1]); (with_reducible repeat (first|refine kN ?_ _|refine kD ?_|refine kA ?_ _)); exact BK355.out⟩, ⟨bX1 HB.out GE355.out⟩⟩
       ·rw [if_neg c18] at H
        exact absurd H (by simp)
      ·rw [if_neg c17] at H
       exact absurd H (by simp)
     ·rw [if_neg c16] at H
      have c16b0 : decide (x26_1 < (y362.length : Int)) = false := decide_eq_false c16
      (try rw [hl7_1] at c16b0)
      clear c16
      by_cases c22 : 0 < (x7_1.length : Int)
      ·rw [if_pos c22] at H
       have c22b0 : decide (0 < (x7_1.length : Int)) = true := decide_eq_true c22
       have c22b1 : decide (0 < x7_1.length) = true := decide_eq_true (by omega)
       clear c22
       obtain ⟨y366, hy366⟩ : ∃ y_ : List Int, y_ = (x7_1.set (0 : Int).toNat a1) := ⟨_, rfl⟩
       replace H : (impl_turnTo.l1 k1 t356 t359 y366 (([0] : List Int)) 0 l0_0 l0_1) = some r := by first | (rw [hy366]; with_reducible exact H) | (have H2_ := (Option.bind_some _ _).symm.trans H; rw [hy366]; with_reducible exact H2_) | (have H2_ := (Option.bind_some _ _).symm.trans H; with_reducible exact H2_) | with_reducible exact H | (rw [hy366]; exact H) | exact H
       have Ny366 := Aside0.mk hy366
       clear hy366
       obtain ⟨y367, hy367⟩ : ∃ y_ : List Int, y_ = (([0] : List Int)) := ⟨_, rfl⟩
       replace H : (impl_turnTo.l1 k1 t356 t359 y366 y367 0 l0_0 l0_1) = some r := by first | (rw [hy367]; with_reducible exact H) | (have H2_ := (Option.bind_some _ _).symm.trans H; rw [hy367]; with_reducible exact H2_) | (have H2_ := (Option.bind_some _ _).symm.trans H; with_reducible exact H2_) | with_reducible exact H | (rw [hy367]; exact H) | exact H
       have Ny367 := Aside0.mk hy367
       clear hy367
       have H' := Aside0.mk H
       clear H
       have p23 : 0 ≤ (0 : Int) := (by omega)
       have q23 : (0 : Int) < ((x7_1.length : Int) : Int) := dX
       have qi23 : (0 < x7_1.length) = True := eq_true (by omega)
       obtain ⟨go23, co23, eo23, gb23, gl23, cl23, HG23⟩ := Kd.R_form HO_7.out (by omega)
       (first | cases eo23 | (injection eo23 with ea_ en_ ec_; (first | subst ea_ | (injection ea_ with ea_; subst ea_)); subst ec_; clear en_))
       have GB23 := Aside0.mk gb23
       have GG23 := Aside0.mk HG23
       clear gb23 gl23 HG23
       obtain ⟨hx23_0, hf23_0⟩ := Kd.R_celln 0 HO_7.out (0 : Int) p23 q23
       (try rw [show ((0 : Int)).toNat = 0 from rfl] at hx23_0)
       (try simp only [Nat.reduceMul, Nat.zero_mul, Nat.zero_add, Nat.reduceAdd] at hx23_0)
       (try rw [show ((0 : Int)).toNat = 0 from rfl] at hf23_0)
       (try simp only [Nat.reduceMul, Nat.zero_mul, Nat.zero_add, Nat.reduceAdd] at hf23_0)
       replace p23 := eq_true p23
       replace q23 := eq_true q23
       have HP24 := Kd.R_putg HO_7.out (0 : Int) a1
       go_wp2_with (first | ((with_reducible refine gate_store (t := 3) (p := 35) rfl ?_); refine store_event (t := 3) (p := 35) (v := ?vo_w25) (w1 := (wr.setCell ⟨go23, (0 : Int).toNat, none⟩ (.int .i64 a1))) ?hg ?ho ?hn ?hr ?_; (case ho => rfl); (case hg => rfl); (case hn => rfl); (case hr => first | (go_simp; done) | (go_simp; rfl)); intro w25 hw; have hg : wr.grownBy w25 (some go23) := (by rw [hw]; exact HP24.2); have hp_ : Kd.R (Kd.int .i64) 3 w25 w.heap.size (fun k_ => some k_ ≠ (v357 : Value).ownBlock ∧ some k_ ≠ (v360 : Value).ownBlock) (.slice (some ⟨go23, 0, none⟩) x7_1.length co15) y366 := (by rw [hw, Ny366.out]; exact HP24.1); clear HP24; have n0_ := Aside0.mk (Kd.R_after (v := (.slice (some ⟨go23, 0, none⟩) x7_1.length co15)) (v1 := (.slice (some ⟨go23, 0, none⟩) x7_1.length co15)) (ok := (fun k_ => some k_ ≠ (v360 : Value).ownBlock)) (rX HO_5.out) hg (.inl rfl)); have n1_ := Aside0.mk (Kd.R_after (v := (.slice (some ⟨go23, 0, none⟩) x7_1.length co15)) (v1 := (.slice (some ⟨go23, 0, none⟩) x7_1.length co15)) (ok := (fun k_ => some k_ ≠ (v357 : Value).ownBlock)) (rX HO_6.out) hg (.inl rfl)); have n2_ := Aside0.mk (hp_); have n3_ := Aside0.mk (blk_grown (g := gb355) (o := .cells #[.slice A0_0 l0_0.length c0_0, .slice A0_1 l0_1.length c0_1] 27 (0, 0)) (kX BK355.out) hg (Kd.R_ne HO_7.out BK355.out (by decide))); have n4_ := Aside0.mk ((by rw [hw]; exact below_set (HB.out) GB23.out : Below w.heap.size w w25)); clear HO_5; clear HO_6; clear HO_7; clear BK355; clear HB; have HO_5 := n0_; have HO_6 := n1_; have HO_7 := n2_; have BK355 := n3_; have HB := n4_; clear n0_ n1_ n2_ n3_ n4_; clear hg hw hp_) | ((with_reducible refine gate_dst (N := 36) rfl ?_); refine Kd.R_lit (Kd.int .i64) _ 3 ?hg (N := 36) ?hd (xs := ([0] : List Int)) (inner := [.int .i64 0]) (ok := fun _ => True) (okp := fun _ => True) ?hr ?hp (fun _ hk => hk) trivial (Below.refl _ _) (Nat.le_refl _) (by simp) ?_; (case hd => rfl); (case hg => rfl); (case hr => first | (go_simp; done) | (go_simp; rfl)); (case hp => exact (Reps.one (show Kd.M (Kd.int .i64) _ _ _ 0 [.int .i64 0] from rfl) (Reps.none _ _))); intro v368 w26 ho27 hb hg_ hnew_; clear hg_ hnew_; (first | rw [← Ny367.out] at ho27 | (simp only [Int.reduceToNat] at ho27; rw [← Ny367.out] at ho27)); have n0_ := Aside0.mk (Kd.R_elder' (rX HO_5.out) (Kd.R_base ho27) hb); have n1_ := Aside0.mk (Kd.R_elder' (rX HO_6.out) (Kd.R_base ho27) hb); have n2_ := Aside0.mk (Kd.R_elder' (rX HO_7.out) (Kd.R_base ho27) hb); have n3_ := Aside0.mk (Kd.R_lower (Kd.R_new' (Kd.R_new' (Kd.R_new' ho27 (Kd.R_lt (rX HO_5.out))) (Kd.R_lt (rX HO_6.out))) (Kd.R_lt (rX HO_7.out))) (below_size (bX1 HB.out GE355.out))); have n4_ := Aside0.mk (blk_below (g := gb355) (o := .cells #[.slice A0_0 l0_0.length c0_0, .slice A0_1 l0_1.length c0_1] 27 (0, 0)) (kX BK355.out) hb); have n5_ := Aside0.mk (below_step (bX1 HB.out GE355.out) hb); clear HO_5; clear HO_6; clear HO_7; clear BK355; clear HB; have HO_5 := n0_; have HO_6 := n1_; have HO_7 := n2_; have HO369 := n3_; have BK355 := n4_; have HB := n5_; clear n0_ n1_ n2_ n3_ n4_ n5_; clear hb ho27))
       go_loopg [9, 10] k1 (fun kq v9 v10 w' => ∃ (x7_2 : List Int) (x9_2 : List Int) (x10_2 : Int), v10 = .int .i64 x10_2 ∧ Aside0 (impl_turnTo.l1 kq t356 t359 x7_2 x9_2 x10_2 l0_0 l0_1 = some r) ∧ Aside0 (kq ≤ k1) ∧ Aside0 (Kd.R (Kd.int .i64) 3 w' w.heap.size (fun k_ => some k_ ≠ (v360 : Value).ownBlock ∧ some k_ ≠ ((.slice (some ⟨go23, 0, none⟩) x7_1.length co15) : Value).ownBlock ∧ some k_ ≠ (v9 : Value).ownBlock) v357 t356) ∧ Aside0 (Kd.R (Kd.int .i64) 3 w' w.heap.size (fun k_ => some k_ ≠ (v357 : Value).ownBlock ∧ some k_ ≠ ((.slice (some ⟨go23, 0, none⟩) x7_1.length co15) : Value).ownBlock ∧ some k_ ≠ (v9 : Value).ownBlock) v360 t359) ∧ Aside0 (Kd.R (Kd.int .i64) 3 w' w.heap.size (fun k_ => some k_ ≠ (v357 : Value).ownBlock ∧ some k_ ≠ (v360 : Value).ownBlock ∧ some k_ ≠ (v9 : Value).ownBlock) (.slice (some ⟨go23, 0, none⟩) x7_1.length co15) x7_2) ∧ Aside0 (Kd.R (Kd.int .i64) 3 w' w.heap.size (fun k_ => some k_ ≠ (v357 : Value).ownBlock ∧ some k_ ≠ (v360 : Value).ownBlock ∧ some k_ ≠ ((.slice (some ⟨go23, 0, none⟩) x7_1.length co15) : Value).ownBlock) v9 x9_2) ∧ Aside0 (w'.heap[gb355]? = some (.cells #[(.slice A0_0 l0_0.length c0_0), (.slice A0_1 l0_1.length c0_1)] 27 (0, 0))) ∧ Aside0 (Below w.heap.size w w'))
       case atStart => exact ⟨(y366), (y367), (0), vX, H', ⟨Nat.le_refl _⟩, ⟨by (try simp only [hl7_1]); (with_reducible repeat (first|apply rA|apply rN|apply rD)); exact Kd.R_mono HO_5.out (fun _ hk => ⟨hk.1.1, ⟨hk.1.2, hk.2⟩⟩)⟩, ⟨by (try simp only [hl7_1]); (with_reducible repeat (first|apply rA|apply rN|apply rD)); exact Kd.R_mono HO_6.out (fun _ hk => ⟨hk.1.1, ⟨hk.1.2, hk.2⟩⟩)⟩, ⟨by (try simp only [hl7_1]); (with_reducible repeat (first|apply rA|apply rN|apply rD)); exact Kd.R_mono HO_7.out (fun _ hk => ⟨hk.1.1, ⟨hk.1.2, hk.2⟩⟩)⟩, ⟨by (try simp only [hl7_1]); (with_reducible repeat (first|apply rA|apply rN|apply rD)); exact Kd.R_mono HO369.out (fun _ hk => ⟨hk.1.1.2, ⟨hk.1.2, hk.2⟩⟩)⟩, ⟨by (try simp only [hl7_1]); (with_reducible repeat (first|refine kN ?_ _|refine kD ?_|refine kA ?_ _)); exact BK355.out⟩, ⟨bX1 HB.out GE355.out⟩⟩
       case round =>
        clear H'
        try clear c1
        try clear p1
        try clear q1
        try clear hx1
        try clear c2
        try clear p2
        try clear q2
        try clear hx2
        try clear qi2
        try clear hf2
        try clear c3
        try clear c5
        try clear c5b0
        try clear c5b1
        try clear c6
        try clear c6b0
        try clear c6b1
        try clear p6
        try clear c16
        try clear c16b0
        try clear c17
        try clear c17b0
        try clear c18
        try clear c18b0
        try clear p19
        try clear q19
        try clear hx19
        try clear hf19
        try clear c22
        try clear c22b0
        try clear c22b1
        try clear p23
        try clear q23
        try clear hx23
        try clear qi23
        try clear hf23
        try clear hcz10_0
        try clear hcz10_1
        try clear hcz12_0
        try clear hcz12_1
        try clear hcz8_0
        try clear hcz8_1
        try clear hfz10_0
        try clear hfz10_1
        try clear hfz12_0
        try clear hfz12_1
        try clear hfz8_0
        try clear hfz8_1
        try clear hx19_0
        try clear hx23_0
        try clear p19
        try clear p2
        try clear p23
        try clear q19
        try clear q23
        obtain ⟨x7_2, x9_2, x10_2, rfl, HA, HK2, HO_5, HO_6, HO_7, HO_9, BK355, HB⟩ := hrel
        have hl7_2 := (Kd.R_reads' HO_7.out).1
        rw [hl7_2] at HO_7
        (try simp only [hl7_2])
        (try simp only [hl7_2] at BK355)
        (try simp only [hl7_2] at HO_5)
        (try simp only [hl7_2] at HO_6)
        (try simp only [hl7_2] at HO_9)
        cases gk with
        | zero => exact absurd HA.out (by simp [impl_turnTo.l1])
        | succ k2 =>
         have H := HA.out
         clear HA
         simp only [impl_turnTo.l1] at H
         by_cases c28 : x10_2 < (x9_2.length : Int)
         ·rw [if_pos c28] at H
          have c28b0 : decide (x10_2 < (x9_2.length : Int)) = true := decide_eq_true c28
          clear c28
          by_cases c29 : 0 ≤ x10_2
          ·rw [if_pos c29] at H
           have c29b0 : decide (0 ≤ x10_2) = true := decide_eq_true c29
           clear c29
           by_cases c30 : 0 ≤ (rd x9_2 x10_2)
           ·rw [if_pos c30] at H
            have c30b0 : decide (0 ≤ (rd x9_2 x10_2)) = true := decide_eq_true c30
            clear c30
            by_cases c31 : (rd x9_2 x10_2) < (l0_0.length : Int)
            ·rw [if_pos c31] at H
             have c31b0 : decide ((rd x9_2 x10_2) < (l0_0.length : Int)) = true := decide_eq_true c31
             clear c31
             by_cases c32 : (rd x9_2 x10_2) < (x7_2.length : Int)
             ·rw [if_pos c32] at H
              have c32b0 : decide ((rd x9_2 x10_2) < (x7_2.length : Int)) = true := decide_eq_true c32
              clear c32
              by_cases c33 : 0 ≤ (rd x7_2 (rd x9_2 x10_2))
              ·rw [if_pos c33] at H
               have c33b0 : decide (0 ≤ (rd x7_2 (rd x9_2 x10_2))) = true := decide_eq_true c33
               clear c33
               by_cases c34 : (rd x7_2 (rd x9_2 x10_2)) < (t356.length : Int)
               ·rw [if_pos c34] at H
                have c34b0 : decide ((rd x7_2 (rd x9_2 x10_2)) < (t356.length : Int)) = true := decide_eq_true c34
                clear c34
                by_cases c35 : (rd x9_2 x10_2) < (l0_1.length : Int)
                ·rw [if_pos c35] at H
                 have c35b0 : decide ((rd x9_2 x10_2) < (l0_1.length : Int)) = true := decide_eq_true c35
                 clear c35
                 by_cases c36 : (rd x7_2 (rd x9_2 x10_2)) < (t359.length : Int)
                 ·rw [if_pos c36] at H
                  have c36b0 : decide ((rd x7_2 (rd x9_2 x10_2)) < (t359.length : Int)) = true := decide_eq_true c36
                  clear c36
                  obtain ⟨y377, hy377⟩ : ∃ y_ : List (S54), y_ = (([(⟨rd l0_0 (rd x9_2 x10_2), rd t356 (rd x7_2 (rd x9_2 x10_2))⟩ : S54), (⟨rd l0_1 (rd x9_2 x10_2), rd t359 (rd x7_2 (rd x9_2 x10_2))⟩ : S54)] : List (S54))) := ⟨_, rfl⟩
                  replace H : (impl_turnTo.l2 k2 t356 t359 x7_2 x9_2 x10_2 y377 (y377.length : Int) 0 l0_0 l0_1) = some r := by first | (rw [hy377]; with_reducible exact H) | (have H2_ := (Option.bind_some _ _).symm.trans H; rw [hy377]; with_reducible exact H2_) | (have H2_ := (Option.bind_some _ _).symm.trans H; with_reducible exact H2_) | with_reducible exact H | (rw [hy377]; exact H) | exact H
                  have Ny377 := Aside0.mk hy377
                  clear hy377
                  have H' := Aside0.mk H
                  clear H
                  obtain ⟨Ao37, co37, eo37⟩ := Kd.R_slice HO_9.out
                  subst eo37
                  have p370 : 0 ≤ (x10_2 : Int) := dX
                  have q370 : x10_2 < (x9_2.length : Int) := dX
                  obtain ⟨ad370, e370, hx370_0⟩ := Kd.at_int (Kd.R_reads' HO_9.out).2.2 x10_2 p370 q370
                  cases e370
                  replace p370 := eq_true p370
                  replace q370 := eq_true q370
                  try go_wp2
                  have n0_ := Aside0.mk (Kd.R_drew HO_5.out)
                  have n1_ := Aside0.mk (Kd.R_drew HO_6.out)
                  have n2_ := Aside0.mk (Kd.R_drew HO_7.out)
                  have n3_ := Aside0.mk (Kd.R_drew HO_9.out)
                  have n4_ := Aside0.mk (blk_drew BK355.out)
                  have n5_ := Aside0.mk (below_drew1 HB.out)
                  clear HO_5
                  clear HO_6
                  clear HO_7
                  clear HO_9
                  clear BK355
                  clear HB
                  have HO_5 := n0_
                  have HO_6 := n1_
                  have HO_7 := n2_
                  have HO_9 := n3_
                  have BK355 := n4_
                  have HB := n5_
                  clear n0_ n1_ n2_ n3_ n4_ n5_
                  have p371 : 0 ≤ ((rd x9_2 x10_2) : Int) := dX
                  have q371 : (rd x9_2 x10_2) < (l0_0.length : Int) := dX
                  obtain ⟨ad371, e371, hx371_0⟩ := Kd.at_int HR0_0.out (rd x9_2 x10_2) p371 q371
                  have hw371_0 := hx371_0
                  cases e371
                  replace hx371_0 := (HB.out.cell (World.block_lt_of_cell? w _ hx371_0)).trans hx371_0
                  replace p371 := eq_true p371
                  replace q371 := eq_true q371
                  have p372 : 0 ≤ ((rd x9_2 x10_2) : Int) := dX
                  have q372 : (rd x9_2 x10_2) < (x7_2.length : Int) := dX
                  obtain ⟨ad372, e372, hx372_0⟩ := Kd.at_int (Kd.R_reads' HO_7.out).2.2 (rd x9_2 x10_2) p372 q372
                  obtain rfl : (⟨go23, 0, none⟩ : Addr) = ad372 := (by injection e372)
                  (first | simp only [add_plain] at hx372_0 | simp only [add_at] at hx372_0 | simp only [Addr.add, Nat.zero_add] at hx372_0 | skip)
                  replace p372 := eq_true p372
                  replace q372 := eq_true q372
                  obtain ⟨Ao39, co39, eo39⟩ := Kd.R_slice HO_5.out
                  (first | subst eo39 | (injection eo39 with f1_ f2_ f3_; have f4_ := f1_.symm; have f5_ := f3_.symm; clear f1_ f2_ f3_; subst f4_; subst f5_))
                  have p373 : 0 ≤ ((rd x7_2 (rd x9_2 x10_2)) : Int) := dX
                  have q373 : (rd x7_2 (rd x9_2 x10_2)) < (t356.length : Int) := dX
                  obtain ⟨ad373, e373, hx373_0⟩ := Kd.at_int (Kd.R_reads' HO_5.out).2.2 (rd x7_2 (rd x9_2 x10_2)) p373 q373
                  cases e373
                  replace p373 := eq_true p373
                  replace q373 := eq_true q373
                  have p374 : 0 ≤ ((rd x9_2 x10_2) : Int) := dX
                  have q374 : (rd x9_2 x10_2) < (l0_1.length : Int) := dX
                  obtain ⟨ad374, e374, hx374_0⟩ := Kd.at_int HR0_1.out (rd x9_2 x10_2) p374 q374
                  have hw374_0 := hx374_0
                  cases e374
                  replace hx374_0 := (HB.out.cell (World.block_lt_of_cell? w _ hx374_0)).trans hx374_0
                  replace p374 := eq_true p374
                  replace q374 := eq_true q374
                  have p375 : 0 ≤ ((rd x9_2 x10_2) : Int) := dX
                  have q375 : (rd x9_2 x10_2) < (x7_2.length : Int) := dX
                  obtain ⟨ad375, e375, hx375_0⟩ := Kd.at_int (Kd.R_reads' HO_7.out).2.2 (rd x9_2 x10_2) p375 q375
                  obtain rfl : (⟨go23, 0, none⟩ : Addr) = ad375 := (by injection e375)
                  (first | simp only [add_plain] at hx375_0 | simp only [add_at] at hx375_0 | simp only [Addr.add, Nat.zero_add] at hx375_0 | skip)
                  replace p375 := eq_true p375
                  replace q375 := eq_true q375
                  obtain ⟨Ao40, co40, eo40⟩ := Kd.R_slice HO_6.out
                  (first | subst eo40 | (injection eo40 with f1_ f2_ f3_; have f4_ := f1_.symm; have f5_ := f3_.symm; clear f1_ f2_ f3_; subst f4_; subst f5_))
                  have p376 : 0 ≤ ((rd x7_2 (rd x9_2 x10_2)) : Int) := dX
                  have q376 : (rd x7_2 (rd x9_2 x10_2)) < (t359.length : Int) := dX
                  obtain ⟨ad376, e376, hx376_0⟩ := Kd.at_int (Kd.R_reads' HO_6.out).2.2 (rd x7_2 (rd x9_2 x10_2)) p376 q376
                  cases e376
                  replace p376 := eq_true p376
                  replace q376 := eq_true q376
                  refine start_ (n := 29) (S := fun w' => w'.cell? ⟨gb355, 0, none⟩ = some (.slice (some ad371) l0_0.length c0_0) ∧ w'.cell? ⟨gb355, 1, none⟩ = some (.slice (some ad374) l0_1.length c0_1) ∧ w'.cell? (ad371.add ((rd x9_2 x10_2)).toNat) = some (.int .i64 (rd l0_0 (rd x9_2 x10_2))) ∧ w'.cell? ⟨go23, ((rd x9_2 x10_2)).toNat, none⟩ = some (.int .i64 (rd x7_2 (rd x9_2 x10_2))) ∧ w'.cell? (ad373.add ((rd x7_2 (rd x9_2 x10_2))).toNat) = some (.int .i64 (rd t356 (rd x7_2 (rd x9_2 x10_2)))) ∧ w'.cell? (ad374.add ((rd x9_2 x10_2)).toNat) = some (.int .i64 (rd l0_1 (rd x9_2 x10_2))) ∧ w'.cell? ⟨go23, ((rd x9_2 x10_2)).toNat, none⟩ = some (.int .i64 (rd x7_2 (rd x9_2 x10_2))) ∧ w'.cell? (ad376.add ((rd x7_2 (rd x9_2 x10_2))).toNat) = some (.int .i64 (rd t359 (rd x7_2 (rd x9_2 x10_2))))) (ds := []) #[ff,ff,ff,ff,ff,ff,ff,ff,ff,ff,ff,ff,ff,ff,ff,ff,ff,ff,ff,ff,ff,ff,ff,ff,ff,ff,ff,ff,ff] (by kernel_rfl) rfl rfl ⟨(blk_cell BK355.out 0).trans rfl, (blk_cell BK355.out 1).trans rfl, ((HB.out.cell (World.block_lt_of_cell? w _ hw371_0)).trans hw371_0), hx372_0, hx373_0, ((HB.out.cell (World.block_lt_of_cell? w _ hw374_0)).trans hw374_0), hx375_0, hx376_0⟩ (fun hHeld => ?_); refine with_tabW impl_turnTo.tab15 impl_turnTo.bits15 (fun HT_ HW_ => ?_)
                  generalize wr.drew = w38 at HO_5 HO_6 HO_7 HO_9 BK355 HB hx371_0 hx372_0 hx373_0 hx374_0 hx375_0 hx376_0 hHeld ⊢
                  refine pX 0 47 (fl 29 1) rfl rfl HT_.out ?_
                  refine pX 2 49 (fl 29 5) rfl rfl HT_.out ?_
                  refine pX 5 52 (fl 29 37) rfl rfl HT_.out ?_
                  refine pX 6 53 (fl 29 101) rfl rfl HT_.out ?_
                  refine pX 7 54 (fl 29 229) rfl rfl HT_.out ?_
                  refine pX 8 55 (fl 29 485) rfl rfl HT_.out ?_
                  refine pX 13 60 (fl 29 8677) rfl rfl HT_.out ?_
                  refine pX 15 62 (fl 29 41445) rfl rfl HT_.out ?_
                  refine pX 18 65 (fl 29 303589) rfl rfl HT_.out ?_
                  refine pX 19 66 (fl 29 827877) rfl rfl HT_.out ?_
                  refine pX 20 67 (fl 29 1876453) rfl rfl HT_.out ?_
                  refine pX 21 68 (fl 29 3973605) rfl rfl HT_.out ?_
                  refine pX 28 75 (fl 29 272409061) rfl rfl HT_.out ?_
                  refine tX8 1 48 (fl 29 272409063) rfl rfl HT_.out HW_.out hHeld ?_
                  refine pX 3 50 (fl 29 272409071) rfl rfl HT_.out ?_
                  refine tX8 4 51 (fl 29 272409087) rfl rfl HT_.out HW_.out hHeld ?_
                  refine tX8 9 56 (fl 29 272409599) rfl rfl HT_.out HW_.out hHeld ?_
                  refine pX 10 57 (fl 29 272410623) rfl rfl HT_.out ?_
                  refine tX8 11 58 (fl 29 272412671) rfl rfl HT_.out HW_.out hHeld ?_
                  refine pX 12 59 (fl 29 272416767) rfl rfl HT_.out ?_
                  refine tX8 14 61 (fl 29 272433151) rfl rfl HT_.out HW_.out hHeld ?_
                  refine pX 16 63 (fl 29 272498687) rfl rfl HT_.out ?_
                  refine tX8 17 64 (fl 29 272629759) rfl rfl HT_.out HW_.out hHeld ?_
                  refine tX8 22 69 (fl 29 276824063) rfl rfl HT_.out HW_.out hHeld ?_
                  refine pX 23 70 (fl 29 285212671) rfl rfl HT_.out ?_
                  refine tX8 24 71 (fl 29 301989887) rfl rfl HT_.out HW_.out hHeld ?_
                  refine pX 25 72 (fl 29 335544319) rfl rfl HT_.out ?_
                  refine one_ (i := 26) (N := some 73) #[tt,tt,tt,tt,tt,tt,tt,tt,tt,tt,tt,tt,tt,tt,tt,tt,tt,tt,tt,tt,tt,tt,tt,tt,tt,tt,tt,ff,tt] rfl rfl (one_of HT_.out (by kernel_rfl)) (by decide) (fun K hK => ?_)
                  refine Kd.R_lit_step k54 _ 54 ?hg (N := 73) ?hd (xs := ([(⟨rd l0_0 (rd x9_2 x10_2), rd t356 (rd x7_2 (rd x9_2 x10_2))⟩ : S54), (⟨rd l0_1 (rd x9_2 x10_2), rd t359 (rd x7_2 (rd x9_2 x10_2))⟩ : S54)] : List (S54))) (inner := [.int .i64 (rd l0_0 (rd x9_2 x10_2)), .int .i64 (rd t356 (rd x7_2 (rd x9_2 x10_2))), .int .i64 (rd l0_1 (rd x9_2 x10_2)), .int .i64 (rd t359 (rd x7_2 (rd x9_2 x10_2)))]) (ok := fun _ => True) (okp := fun _ => True) ?hr ?hp (fun _ hk => hk) trivial (Below.refl _ _) (Nat.le_refl _) (by simp) ?_; (case hd => rfl); (case hg => rfl); (case hr => first | (go_simp; done) | (go_simp; rfl)); (case hp => exact (Reps.c2 (show Kd.M k54 _ _ _ (⟨rd l0_0 (rd x9_2 x10_2), rd t356 (rd x7_2 (rd x9_2 x10_2))⟩ : S54) [.int .i64 (rd l0_0 (rd x9_2 x10_2)), .int .i64 (rd t356 (rd x7_2 (rd x9_2 x10_2)))] from (k54_mkM _ _ _ (⟨rd l0_0 (rd x9_2 x10_2), rd t356 (rd x7_2 (rd x9_2 x10_2))⟩ : S54) )) (Reps.c2 (show Kd.M k54 _ _ _ (⟨rd l0_1 (rd x9_2 x10_2), rd t359 (rd x7_2 (rd x9_2 x10_2))⟩ : S54) [.int .i64 (rd l0_1 (rd x9_2 x10_2)), .int .i64 (rd t359 (rd x7_2 (rd x9_2 x10_2)))] from (k54_mkM _ _ _ (⟨rd l0_1 (rd x9_2 x10_2), rd t359 (rd x7_2 (rd x9_2 x10_2))⟩ : S54) )) (Reps.none _ _))))
                  intro v378 w41 ho42 hb hg_ hnew_
                  have HS3_ := (hb.cell (World.block_lt_of_cell? _ _ (hHeld.2.2.2.1))).trans (hHeld.2.2.2.1)
                  have HS4_ := (hb.cell (World.block_lt_of_cell? _ _ (hHeld.2.2.2.2.1))).trans (hHeld.2.2.2.2.1)
                  have HS6_ := (hb.cell (World.block_lt_of_cell? _ _ (hHeld.2.2.2.2.2.2.1))).trans (hHeld.2.2.2.2.2.2.1)
                  have HS7_ := (hb.cell (World.block_lt_of_cell? _ _ (hHeld.2.2.2.2.2.2.2))).trans (hHeld.2.2.2.2.2.2.2)
                  clear hg_ hnew_
                  (first | rw [← Ny377.out] at ho42 | (simp only [Int.reduceToNat] at ho42; rw [← Ny377.out] at ho42))
                  have n0_ := Aside0.mk (Kd.R_below (rX HO_5.out) hb)
                  have n1_ := Aside0.mk (Kd.R_below (rX HO_6.out) hb)
                  have n2_ := Aside0.mk (Kd.R_below (rX HO_7.out) hb)
                  have n3_ := Aside0.mk (Kd.R_below (rX HO_9.out) hb)
                  have n4_ := Aside0.mk (Kd.R_lower ho42 (below_size (bX1 HB.out GE355.out)))
                  have n5_ := Aside0.mk (blk_below (g := gb355) (o := .cells #[.slice (some ad371) l0_0.length c0_0, .slice (some ad374) l0_1.length c0_1] 27 (0, 0)) (kX BK355.out) hb)
                  have n6_ := Aside0.mk (below_step (bX1 HB.out GE355.out) hb)
                  clear HO_5
                  clear HO_6
                  clear HO_7
                  clear HO_9
                  clear BK355
                  clear HB
                  have HO_5 := n0_
                  have HO_6 := n1_
                  have HO_7 := n2_
                  have HO_9 := n3_
                  have HO379 := n4_
                  have BK355 := n5_
                  have HB := n6_
                  clear n0_ n1_ n2_ n3_ n4_ n5_ n6_
                  clear hb ho42
                  obtain ⟨Ao43, co43, eo43⟩ := Kd.R_slice HO379.out
                  (first | subst eo43 | (injection eo43 with f1_ f2_ f3_; have f4_ := f1_.symm; have f5_ := f3_.symm; clear f1_ f2_ f3_; subst f4_; subst f5_))
                  refine hK.out _ _ ⟨(blk_cell BK355.out 0).trans rfl, (blk_cell BK355.out 1).trans rfl, ((HB.out.cell (World.block_lt_of_cell? w _ hw371_0)).trans hw371_0), HS3_, HS4_, ((HB.out.cell (World.block_lt_of_cell? w _ hw374_0)).trans hw374_0), HS6_, HS7_⟩ (fun hHeld => ?_)
                  clear hK K
                  refine norm_ (a' := ?_) ?_ ?_
                  rotate_left
                  ·show Act.put _ (some 73) _ = _
                   simp only [Act.put, zA, zB, zC, i64_w, i32_w]
                   rfl
                  refine pX 27 74 (fl 29 536870911) rfl rfl HT_.out ?_
                  refine done_ (done_of HT_.out (by kernel_rfl)) ?_
                  try go_wp2
                  go_loopg [9, 75] k2 (fun kq v9 v75 w' => ∃ (x7_3 : List Int) (x9_3 : List Int) (x75_3 : Int), v75 = .int .i64 x75_3 ∧ Aside0 (impl_turnTo.l2 kq t356 t359 x7_3 x9_3 x10_2 y377 (y377.length : Int) x75_3 l0_0 l0_1 = some r) ∧ Aside0 (kq ≤ k2) ∧ Aside0 (Kd.R (Kd.int .i64) 3 w' w.heap.size (fun k_ => some k_ ≠ ((.slice (some ad376) t359.length co40) : Value).ownBlock ∧ some k_ ≠ ((.slice (some ⟨go23, 0, none⟩) x7_2.length co15) : Value).ownBlock ∧ some k_ ≠ (v9 : Value).ownBlock) (.slice (some ad373) t356.length co39) t356) ∧ Aside0 (Kd.R (Kd.int .i64) 3 w' w.heap.size (fun k_ => some k_ ≠ ((.slice (some ad373) t356.length co39) : Value).ownBlock ∧ some k_ ≠ ((.slice (some ⟨go23, 0, none⟩) x7_2.length co15) : Value).ownBlock ∧ some k_ ≠ (v9 : Value).ownBlock) (.slice (some ad376) t359.length co40) t359) ∧ Aside0 (Kd.R (Kd.int .i64) 3 w' w.heap.size (fun k_ => some k_ ≠ ((.slice (some ad373) t356.length co39) : Value).ownBlock ∧ some k_ ≠ ((.slice (some ad376) t359.length co40) : Value).ownBlock ∧ some k_ ≠ (v9 : Value).ownBlock) (.slice (some ⟨go23, 0, none⟩) x7_2.length co15) x7_3) ∧ Aside0 (Kd.R (Kd.int .i64) 3 w' w.heap.size (fun k_ => some k_ ≠ ((.slice (some ad373) t356.length co39) : Value).ownBlock ∧ some k_ ≠ ((.slice (some ad376) t359.length co40) : Value).ownBlock ∧ some k_ ≠ ((.slice (some ⟨go23, 0, none⟩) x7_2.length co15) : Value).ownBlock) v9 x9_3) ∧ Aside0 (Kd.R k54 54 w' w.heap.size (fun _ => True) (.slice Ao43 y377.length co43) y377) ∧ Aside0 (w'.heap[gb355]? = some (.cells #[(.slice (some ad371) l0_0.length c0_0), (.slice (some ad374) l0_1.length c0_1)] 27 (0, 0))) ∧ Aside0 (Below w.heap.size w w'))
                  case atStart => exact ⟨(x7_2), (x9_2), (0), vX, H', ⟨Nat.le_refl _⟩, ⟨by (try simp only [hl7_1]); (try simp only [hl7_2]); (with_reducible repeat (first|apply rA|apply rN|apply rD)); exact HO_5.out⟩, ⟨by (try simp only [hl7_1]); (try simp only [hl7_2]); (with_reducible repeat (first|apply rA|apply rN|apply rD)); exact HO_6.out⟩, ⟨by (try simp only [hl7_1]); (try simp only [hl7_2]); (with_reducible repeat (first|apply rA|apply rN|apply rD)); exact HO_7.out⟩, ⟨by (try simp only [hl7_1]); (try simp only [hl7_2]); (with_reducible repeat (first|apply rA|apply rN|apply rD)); exact HO_9.out⟩, ⟨by (try simp only [hl7_1]); (try simp only [hl7_2]); (with_reducible repeat (first|apply rA|apply rN|apply rD)); exact HO379.out⟩, ⟨by (try simp only [hl7_1]); (try simp only [hl7_2]); (with_reducible repeat (first|refine kN ?_ _|refine kD ?_|refine kA ?_ _)); exact BK355.out⟩, ⟨bX1 HB.out GE355.out⟩⟩
                  case round =>
                   clear H'
                   try clear c1
                   try clear p1
                   try clear q1
                   try clear hx1
                   try clear c2
                   try clear p2
                   try clear q2
                   try clear hx2
                   try clear qi2
                   try clear hf2
                   try clear c3
                   try clear p3
                   try clear q3
                   try clear hx3
                   try clear c5
                   try clear c5b0
                   try clear c5b1
                   try clear c6
                   try clear c6b0
                   try clear c6b1
                   try clear p6
                   try clear c16
                   try clear c16b0
                   try clear c17
                   try clear c17b0
                   try clear c18
                   try clear c18b0
                   try clear p19
                   try clear q19
                   try clear hx19
                   try clear hf19
                   try clear c22
                   try clear c22b0
                   try clear c22b1
                   try clear p23
                   try clear q23
                   try clear hx23
                   try clear qi23
                   try clear hf23
                   try clear c28
                   try clear c28b0
                   try clear c29
                   try clear c29b0
                   try clear c30
                   try clear c30b0
                   try clear c31
                   try clear c31b0
                   try clear c32
                   try clear c32b0
                   try clear c33
                   try clear c33b0
                   try clear c34
                   try clear c34b0
                   try clear c35
                   try clear c35b0
                   try clear c36
                   try clear c36b0
                   try clear p37
                   try clear q37
                   try clear hx37
                   try clear hcz10_0
                   try clear hcz10_1
                   try clear hcz12_0
                   try clear hcz12_1
                   try clear hcz8_0
                   try clear hcz8_1
                   try clear hfz10_0
                   try clear hfz10_1
                   try clear hfz12_0
                   try clear hfz12_1
                   try clear hfz8_0
                   try clear hfz8_1
                   try clear hx19_0
                   try clear hx23_0
                   try clear hx370_0
                   try clear hx371_0
                   try clear hx372_0
                   try clear hx373_0
                   try clear hx374_0
                   try clear hx375_0
                   try clear hx376_0
                   try clear p1
                   try clear p19
                   try clear p2
                   try clear p23
                   try clear p370
                   try clear p371
                   try clear p372
                   try clear p373
                   try clear p374
                   try clear p375
                   try clear p376
                   try clear p6
                   try clear q1
                   try clear q19
                   try clear q2
                   try clear q23
                   try clear q370
                   try clear q371
                   try clear q372
                   try clear q373
                   try clear q374
                   try clear q375
                   try clear q376
                   obtain ⟨x7_3, x9_3, x75_3, rfl, HA, HK3, HO_5, HO_6, HO_7, HO_9, HO_73, BK355, HB⟩ := hrel
                   have hl7_3 := (Kd.R_reads' HO_7.out).1
                   rw [hl7_3] at HO_7
                   (try simp only [hl7_3])
                   (try simp only [hl7_3] at BK355)
                   (try simp only [hl7_3] at HO_5)
                   (try simp only [hl7_3] at HO_6)
                   (try simp only [hl7_3] at HO_9)
                   (try simp only [hl7_3] at HO_73)
                   cases gk with
                   | zero => exact absurd HA.out (by simp [impl_turnTo.l2])
                   | succ k3 =>
                    have H := HA.out
                    clear HA
                    simp only [impl_turnTo.l2] at H
                    by_cases c44 : x75_3 < (y377.length : Int)
                    ·rw [if_pos c44] at H
                     have c44b0 : decide (x75_3 < (y377.length : Int)) = true := decide_eq_true c44
                     clear c44
                     by_cases c45 : 0 ≤ x75_3
                     ·rw [if_pos c45] at H
                      have c45b0 : decide (0 ≤ x75_3) = true := decide_eq_true c45
                      clear c45
                      by_cases c46 : x75_3 < (y377.length : Int)
                      ·rw [if_pos c46] at H
                       have c46b0 : decide (x75_3 < (y377.length : Int)) = true := decide_eq_true c46
                       clear c46
                       by_cases c47 : 0 ≤ ((rd_T54 y377 x75_3).f0)
                       ·rw [if_pos c47] at H
                        have c47b0 : decide (0 ≤ ((rd_T54 y377 x75_3).f0)) = true := decide_eq_true c47
                        clear c47
                        by_cases c48 : ((rd_T54 y377 x75_3).f0) < (x7_3.length : Int)
                        ·rw [if_pos c48] at H
                         have c48b0 : decide (((rd_T54 y377 x75_3).f0) < (x7_3.length : Int)) = true := decide_eq_true c48
                         clear c48
                         by_cases c49 : (rd x7_3 ((rd_T54 y377 x75_3).f0)) < 0
                         ·rw [if_pos c49] at H
                          have c49b0 : decide ((rd x7_3 ((rd_T54 y377 x75_3).f0)) < 0) = true := decide_eq_true c49
                          clear c49
                          obtain ⟨y383, hy383⟩ : ∃ y_ : List Int, y_ = (x7_3.set (((rd_T54 y377 x75_3).f0) : Int).toNat ((rd_T54 y377 x75_3).f1)) := ⟨_, rfl⟩
                          replace H : (if x9_3.length < 17592186044416 then (impl_turnTo.l2 k3 t356 t359 y383 (x9_3 ++ [(rd_T54 y377 x75_3).f0]) x10_2 y377 (y377.length : Int) (wrap64 (x75_3 + 1)) l0_0 l0_1) else (none)) = some r := by first | (rw [hy383]; with_reducible exact H) | (have H2_ := (Option.bind_some _ _).symm.trans H; rw [hy383]; with_reducible exact H2_) | (have H2_ := (Option.bind_some _ _).symm.trans H; with_reducible exact H2_) | with_reducible exact H | (rw [hy383]; exact H) | exact H
                          have Ny383 := Aside0.mk hy383
                          clear hy383
                          by_cases c51 : x9_3.length < 17592186044416
                          ·rw [if_pos c51] at H
                           have LMc51 := Aside0.mk c51
                           clear c51
                           obtain ⟨y384, hy384⟩ : ∃ y_ : List Int, y_ = (x9_3 ++ [(rd_T54 y377 x75_3).f0]) := ⟨_, rfl⟩
                           replace H : (impl_turnTo.l2 k3 t356 t359 y383 y384 x10_2 y377 (y377.length : Int) (wrap64 (x75_3 + 1)) l0_0 l0_1) = some r := by first | (rw [hy384]; with_reducible exact H) | (have H2_ := (Option.bind_some _ _).symm.trans H; rw [hy384]; with_reducible exact H2_) | (have H2_ := (Option.bind_some _ _).symm.trans H; with_reducible exact H2_) | with_reducible exact H | (rw [hy384]; exact H) | exact H
                           have Ny384 := Aside0.mk hy384
                           clear hy384
                           have H' := Aside0.mk H
                           clear H
                           have p380 : 0 ≤ (x75_3 : Int) := dX
                           have q380 : x75_3 < (y377.length : Int) := dX
                           obtain ⟨ad380, e380, hx380_0, hx380_1⟩ := at_T54 (Kd.R_reads' HO_73.out).2.2 x75_3 p380 q380
                           cases e380
                           replace p380 := eq_true p380
                           replace q380 := eq_true q380
                           go_wp2_with (first | ((with_reducible refine gate_dst (N := 13) rfl ?_); refine box_event ?hg (N := 13) ?hd (cs := #[.int .i64 0, .int .i64 0]) (t := 54) ?hr ?_; (case hd => rfl); (case hg => rfl); (case hr => first | (go_simp; done) | (go_simp; rfl)); intro gb381 hg w52 hbox hb; have n0_ := Aside0.mk (Kd.R_below (rX HO_5.out) hb); have n1_ := Aside0.mk (Kd.R_below (rX HO_6.out) hb); have n2_ := Aside0.mk (Kd.R_below (rX HO_7.out) hb); have n3_ := Aside0.mk (Kd.R_below (rX HO_9.out) hb); have n4_ := Aside0.mk (Kd.R_below (Kd.R_elderB (rX HO_73.out) gb381 (Nat.le_of_eq hg.symm)) hb); have n5_ := Aside0.mk (blk_below (g := gb355) (o := .cells #[.slice (some ad371) l0_0.length c0_0, .slice (some ad374) l0_1.length c0_1] 27 (0, 0)) (kX BK355.out) hb); have n6_ := Aside0.mk (below_step (bX1 HB.out GE355.out) hb); have n7_ := Aside0.mk (hbox); have n8_ := Aside0.mk ((by rw [hg]; exact (below_size (bX1 HB.out GE355.out)) : w.heap.size ≤ gb381)); have n9_ := Aside0.mk ((by rw [hg]; exact (below_size (bX1 HB.out GE355.out)) : w.heap.size ≤ gb381)); have n10_ := Aside0.mk ((by rw [hg]; exact Nat.ne_of_lt (blk_lt (g := gb355) (o := .cells #[.slice (some ad371) l0_0.length c0_0, .slice (some ad374) l0_1.length c0_1] 27 (0, 0)) (kX BK355.out)) : gb355 ≠ gb381)); have n11_ := Aside0.mk ((by rw [hg]; exact Nat.ne_of_gt (blk_lt (g := gb355) (o := .cells #[.slice (some ad371) l0_0.length c0_0, .slice (some ad374) l0_1.length c0_1] 27 (0, 0)) (kX BK355.out)) : gb381 ≠ gb355)); clear HO_5; clear HO_6; clear HO_7; clear HO_9; clear HO_73; clear BK355; clear HB; have HO_5 := n0_; have HO_6 := n1_; have HO_7 := n2_; have HO_9 := n3_; have HO_73 := n4_; have BK355 := n5_; have HB := n6_; have BK381 := n7_; have GW381 := n8_; have GE381 := n9_; have NB355_381 := n10_; have NB381_355 := n11_; clear n0_ n1_ n2_ n3_ n4_ n5_ n6_ n7_ n8_ n9_ n10_ n11_; clear hb hbox hg; have hnb53 := NB381_355.out; have hnc53 := NB355_381.out; have hcz54_0 : w52.cell? ⟨gb381, 0, none⟩ = some (.int .i64 0) := (blk_cell BK381.out 0).trans rfl; have hcz54_1 : w52.cell? ⟨gb381, 1, none⟩ = some (.int .i64 0) := (blk_cell BK381.out 1).trans rfl; have hfz54_0 := blk_frozen BK381.out 0; have hfz54_1 := blk_frozen BK381.out 1) | ((with_reducible refine gate_store (t := 54) (p := 13) rfl ?_); refine store_event (t := 54) (p := 13) (v := ?vo_w55) (w1 := ((w52.setCell ⟨gb381, 0, none⟩ (.int .i64 ((rd_T54 y377 x75_3).f0))).setCell ⟨gb381, 1, none⟩ (.int .i64 ((rd_T54 y377 x75_3).f1)))) ?hg ?ho ?hn ?hr ?_; (case ho => rfl); (case hg => rfl); (case hn => rfl); (case hr => first | (go_simp; done) | (go_simp; rfl)); intro w55 hw; have n0_ : Aside0 (Kd.R (Kd.int .i64) 3 w55 w.heap.size (fun k_ => some k_ ≠ (.slice (some ad376) t359.length co40 : Value).ownBlock ∧ some k_ ≠ (.slice (some ⟨go23, 0, none⟩) x7_3.length co15 : Value).ownBlock ∧ some k_ ≠ (u9 : Value).ownBlock) (.slice (some ad373) t356.length co39) t356) := ⟨(by rw [hw]; exact (by (with_reducible repeat (first|apply rA|apply rN|apply rD)); exact Kd.R_mono (Kd.R_far (p := ⟨gb381, 1, none⟩) (Kd.R_far (p := ⟨gb381, 0, none⟩) (Kd.R_types HO_5.out BK381.out (by decide)) (fun _ hk => hk.2) (.int .i64 ((rd_T54 y377 x75_3).f0))) (fun _ hk => hk.2) (.int .i64 ((rd_T54 y377 x75_3).f1))) (fun _ hk => ⟨hk.1.1, ⟨hk.1.2.1, hk.1.2.2⟩⟩)))⟩; have n1_ : Aside0 (Kd.R (Kd.int .i64) 3 w55 w.heap.size (fun k_ => some k_ ≠ (.slice (some ad373) t356.length co39 : Value).ownBlock ∧ some k_ ≠ (.slice (some ⟨go23, 0, none⟩) x7_3.length co15 : Value).ownBlock ∧ some k_ ≠ (u9 : Value).ownBlock) (.slice (some ad376) t359.length co40) t359) := ⟨(by rw [hw]; exact (by (with_reducible repeat (first|apply rA|apply rN|apply rD)); exact Kd.R_mono (Kd.R_far (p := ⟨gb381, 1, none⟩) (Kd.R_far (p := ⟨gb381, 0, none⟩) (Kd.R_types HO_6.out BK381.out (by decide)) (fun _ hk => hk.2) (.int .i64 ((rd_T54 y377 x75_3).f0))) (fun _ hk => hk.2) (.int .i64 ((rd_T54 y377 x75_3).f1))) (fun _ hk => ⟨hk.1.1, ⟨hk.1.2.1, hk.1.2.2⟩⟩)))⟩; have n2_ : Aside0 (Kd.R (Kd.int .i64) 3 w55 w.heap.size (fun k_ => some k_ ≠ (.slice (some ad373) t356.length co39 : Value).ownBlock ∧ some k_ ≠ (.slice (some ad376) t359.length co40 : Value).ownBlock ∧ some k_ ≠ (u9 : Value).ownBlock) (.slice (some ⟨go23, 0, none⟩) x7_3.length co15) x7_3) := ⟨(by rw [hw]; exact (by (with_reducible repeat (first|apply rA|apply rN|apply rD)); exact Kd.R_mono (Kd.R_far (p := ⟨gb381, 1, none⟩) (Kd.R_far (p := ⟨gb381, 0, none⟩) (Kd.R_types HO_7.out BK381.out (by decide)) (fun _ hk => hk.2) (.int .i64 ((rd_T54 y377 x75_3).f0))) (fun _ hk => hk.2) (.int .i64 ((rd_T54 y377 x75_3).f1))) (fun _ hk => ⟨hk.1.1, ⟨hk.1.2.1, hk.1.2.2⟩⟩)))⟩; have n3_ : Aside0 (Kd.R (Kd.int .i64) 3 w55 w.heap.size (fun k_ => some k_ ≠ (.slice (some ad373) t356.length co39 : Value).ownBlock ∧ some k_ ≠ (.slice (some ad376) t359.length co40 : Value).ownBlock ∧ some k_ ≠ (.slice (some ⟨go23, 0, none⟩) x7_3.length co15 : Value).ownBlock) u9 x9_3) := ⟨(by rw [hw]; exact (by (with_reducible repeat (first|apply rA|apply rN|apply rD)); exact Kd.R_mono (Kd.R_far (p := ⟨gb381, 1, none⟩) (Kd.R_far (p := ⟨gb381, 0, none⟩) (Kd.R_types HO_9.out BK381.out (by decide)) (fun _ hk => hk.2) (.int .i64 ((rd_T54 y377 x75_3).f0))) (fun _ hk => hk.2) (.int .i64 ((rd_T54 y377 x75_3).f1))) (fun _ hk => ⟨hk.1.1, ⟨hk.1.2.1, hk.1.2.2⟩⟩)))⟩; have n4_ : Aside0 (Kd.R k54 54 w55 w.heap.size (fun k_ => k_ ≠ gb381) (.slice (some ad380) y377.length co43) y377) := ⟨(by rw [hw]; exact (by (with_reducible repeat (first|apply rA|apply rN|apply rD)); exact Kd.R_mono (Kd.R_far (p := ⟨gb381, 1, none⟩) (Kd.R_far (p := ⟨gb381, 0, none⟩) (Kd.R_mono HO_73.out (fun k_ hk => (⟨hk, hk.2⟩ : _ ∧ k_ ≠ gb381))) (fun _ hk => hk.2) (.int .i64 ((rd_T54 y377 x75_3).f0))) (fun _ hk => hk.2) (.int .i64 ((rd_T54 y377 x75_3).f1))) (fun _ hk => hk.1.2)))⟩; have n5_ : Aside0 (w55.heap[gb355]? = some (.cells #[.slice (some ad371) l0_0.length c0_0, .slice (some ad374) l0_1.length c0_1] 27 (0, 0))) := ⟨(by rw [hw]; exact (by (with_reducible repeat (first|refine kN ?_ _|refine kD ?_|refine kA ?_ _)); refine blk_far ?_ NB355_381.out _; (with_reducible repeat (first|refine kN ?_ _|refine kD ?_|refine kA ?_ _)); refine blk_far ?_ NB355_381.out _; (with_reducible repeat (first|refine kN ?_ _|refine kD ?_|refine kA ?_ _)); exact BK355.out))⟩; have n6_ : Aside0 (w55.heap[gb381]? = some (.cells #[.int .i64 ((rd_T54 y377 x75_3).f0), .int .i64 ((rd_T54 y377 x75_3).f1)] 54 (0, 0))) := ⟨(by rw [hw]; exact (by (with_reducible repeat (first|refine kN ?_ _|refine kD ?_|refine kA ?_ _)); refine blk_put (cs := #[.int .i64 ((rd_T54 y377 x75_3).f0), .int .i64 0]) ?_ 1 _ rfl; (with_reducible repeat (first|refine kN ?_ _|refine kD ?_|refine kA ?_ _)); refine blk_put (cs := #[.int .i64 0, .int .i64 0]) ?_ 0 _ rfl; (with_reducible repeat (first|refine kN ?_ _|refine kD ?_|refine kA ?_ _)); exact BK381.out))⟩; have n7_ : Aside0 (Below w.heap.size w w55) := ⟨(by rw [hw]; exact (bX2 HB.out GE355.out GE381.out))⟩; clear hw; clear HO_5; clear HO_6; clear HO_7; clear HO_9; clear HO_73; clear BK355; clear BK381; clear HB; have HO_5 := n0_; have HO_6 := n1_; have HO_7 := n2_; have HO_9 := n3_; have HO_73 := n4_; have BK355 := n5_; have BK381 := n6_; have HB := n7_; clear n0_ n1_ n2_ n3_ n4_ n5_ n6_ n7_; have hcz56_0 : w55.cell? ⟨gb381, 0, none⟩ = some (.int .i64 ((rd_T54 y377 x75_3).f0)) := (blk_cell BK381.out 0).trans rfl; have hcz56_1 : w55.cell? ⟨gb381, 1, none⟩ = some (.int .i64 ((rd_T54 y377 x75_3).f1)) := (blk_cell BK381.out 1).trans rfl; have hfz56_0 := blk_frozen BK381.out 0; have hfz56_1 := blk_frozen BK381.out 1; have p382 : 0 ≤ (((rd_T54 y377 x75_3).f0) : Int) := dX; have q382 : ((rd_T54 y377 x75_3).f0) < (x7_3.length : Int) := dX; obtain ⟨ad382, e382, hx382_0⟩ := Kd.at_int (Kd.R_reads' HO_7.out).2.2 ((rd_T54 y377 x75_3).f0) p382 q382; obtain rfl : (⟨go23, 0, none⟩ : Addr) = ad382 := (by injection e382); (first | simp only [add_plain] at hx382_0 | simp only [add_at] at hx382_0 | simp only [Addr.add, Nat.zero_add] at hx382_0 | skip); replace p382 := eq_true p382; replace q382 := eq_true q382; have p50 : 0 ≤ (((rd_T54 y377 x75_3).f0) : Int) := dX; have q50 : (((rd_T54 y377 x75_3).f0) : Int) < ((x7_3.length : Int) : Int) := dX; obtain ⟨hx50_0, hf50_0⟩ := Kd.R_celln 0 HO_7.out (((rd_T54 y377 x75_3).f0) : Int) p50 q50; replace p50 := eq_true p50; replace q50 := eq_true q50; obtain ⟨hy57_, hz57_⟩ := Kd.R_celln 0 HO_7.out (((rd_T54 y377 x75_3).f0) : Int) (dX) (dX); have HP57 := Kd.R_putg HO_7.out (((rd_T54 y377 x75_3).f0) : Int) ((rd_T54 y377 x75_3).f1)) | ((with_reducible refine gate_store (t := 3) (p := 90) rfl ?_); refine store_event (t := 3) (p := 90) (v := ?vo_w58) (w1 := (w55.setCell ⟨go23, (((rd_T54 y377 x75_3).f0) : Int).toNat, none⟩ (.int .i64 ((rd_T54 y377 x75_3).f1)))) ?hg ?ho ?hn ?hr ?_; (case ho => rfl); (case hg => rfl); (case hn => rfl); (case hr => first | (go_simp; done) | (go_simp; rfl)); intro w58 hw; have hg : w55.grownBy w58 (some go23) := (by rw [hw]; exact HP57.2); have hp_ : Kd.R (Kd.int .i64) 3 w58 w.heap.size (fun k_ => some k_ ≠ (.slice (some ad373) t356.length co39 : Value).ownBlock ∧ some k_ ≠ (.slice (some ad376) t359.length co40 : Value).ownBlock ∧ some k_ ≠ (u9 : Value).ownBlock) (.slice (some ⟨go23, 0, none⟩) x7_3.length co15) y383 := (by rw [hw, Ny383.out]; exact HP57.1); clear HP57; have n0_ := Aside0.mk (Kd.R_after (v := (.slice (some ⟨go23, 0, none⟩) x7_3.length co15)) (v1 := (.slice (some ⟨go23, 0, none⟩) x7_3.length co15)) (ok := (fun k_ => some k_ ≠ (.slice (some ad376) t359.length co40 : Value).ownBlock ∧ some k_ ≠ (u9 : Value).ownBlock)) (rM HO_5.out (fun _ hk => ⟨⟨hk.1, hk.2.2⟩, hk.2.1⟩)) hg (.inl rfl)); have n1_ := Aside0.mk (Kd.R_after (v := (.slice (some ⟨go23, 0, none⟩) x7_3.length co15)) (v1 := (.slice (some ⟨go23, 0, none⟩) x7_3.length co15)) (ok := (fun k_ => some k_ ≠ (.slice (some ad373) t356.length co39 : Value).ownBlock ∧ some k_ ≠ (u9 : Value).ownBlock)) (rM HO_6.out (fun _ hk => ⟨⟨hk.1, hk.2.2⟩, hk.2.1⟩)) hg (.inl rfl)); have n2_ := Aside0.mk (hp_); have n3_ := Aside0.mk (Kd.R_after (v := (.slice (some ⟨go23, 0, none⟩) x7_3.length co15)) (v1 := (.slice (some ⟨go23, 0, none⟩) x7_3.length co15)) (ok := (fun k_ => some k_ ≠ (.slice (some ad373) t356.length co39 : Value).ownBlock ∧ some k_ ≠ (.slice (some ad376) t359.length co40 : Value).ownBlock)) (rM HO_9.out (fun _ hk => ⟨⟨hk.1, hk.2.1⟩, hk.2.2⟩)) hg (.inl rfl)); have n4_ := Aside0.mk (Kd.R_over' (v := (.slice (some ⟨go23, 0, none⟩) x7_3.length co15)) (rX HO_73.out) (Kd.R_typed HO_7.out) (by decide) hg); have n5_ := Aside0.mk (blk_grown (g := gb355) (o := .cells #[.slice (some ad371) l0_0.length c0_0, .slice (some ad374) l0_1.length c0_1] 27 (0, 0)) (kX BK355.out) hg (Kd.R_ne HO_7.out BK355.out (by decide))); have n6_ := Aside0.mk (blk_grown (g := gb381) (o := .cells #[.int .i64 ((rd_T54 y377 x75_3).f0), .int .i64 ((rd_T54 y377 x75_3).f1)] 54 (0, 0)) (kX BK381.out) hg (Kd.R_ne HO_7.out BK381.out (by decide))); have n7_ := Aside0.mk ((by rw [hw]; exact below_set (HB.out) GB23.out : Below w.heap.size w w58)); clear HO_5; clear HO_6; clear HO_7; clear HO_9; clear HO_73; clear BK355; clear BK381; clear HB; have HO_5 := n0_; have HO_6 := n1_; have HO_7 := n2_; have HO_9 := n3_; have HO_73 := n4_; have BK355 := n5_; have BK381 := n6_; have HB := n7_; clear n0_ n1_ n2_ n3_ n4_ n5_ n6_ n7_; clear hg hw hp_; have hcz59_0 : w58.cell? ⟨gb381, 0, none⟩ = some (.int .i64 ((rd_T54 y377 x75_3).f0)) := (blk_cell BK381.out 0).trans rfl; have hcz59_1 : w58.cell? ⟨gb381, 1, none⟩ = some (.int .i64 ((rd_T54 y377 x75_3).f1)) := (blk_cell BK381.out 1).trans rfl; have hfz59_0 := blk_frozen BK381.out 0; have hfz59_1 := blk_frozen BK381.out 1) | ((with_reducible refine gate_builtin (b := .append) (xs := #[.tmp 91, .tmp 94]) rfl ?_); at_builtin; refine Kd.R_append (Kd.int .i64) (w0 := w) w.heap.size rfl (.tmp 91) (.tmp 94) 22 3 (.int .i64 0) 8 rfl Tryd.underlying22 info3 rfl (by decide) (by omega) u9 x9_3 ((rd_T54 y377 x75_3).f0) [.int .i64 ((rd_T54 y377 x75_3).f0)] (fun k_ => some k_ ≠ (.slice (some ad373) t356.length co39 : Value).ownBlock ∧ some k_ ≠ (.slice (some ad376) t359.length co40 : Value).ownBlock ∧ some k_ ≠ (.slice (some ⟨go23, 0, none⟩) x7_3.length co15 : Value).ownBlock) (fun _ => False) rfl rfl ?aP (fun _ hk => hk.elim) ?aF ?aO ?aB ?aS ?aL ?_; (case aP => exact rfl); (case aB => exact (bX2 HB.out GE355.out GE381.out)); (case aF => exact (fun k_ hk => ⟨Kd.fresh' (Kd.R_lt (rX HO_5.out)) k_ hk, Kd.fresh' (Kd.R_lt (rX HO_6.out)) k_ hk, Kd.fresh' (Kd.R_lt (rX HO_7.out)) k_ hk⟩)); (case aO => exact (rM HO_9.out (fun _ hk => ⟨hk.1.1, ⟨hk.1.2, hk.2⟩⟩))); (case aS => exact (below_size (bX2 HB.out GE355.out GE381.out))); (case aL => have := LMc51.out; omega); intro v385 w60 ho hb hg hat; rw [← Ny384.out] at ho; have n0_ := Aside0.mk (Kd.R_after (ok := (fun k_ => some k_ ≠ (.slice (some ad376) t359.length co40 : Value).ownBlock ∧ some k_ ≠ (.slice (some ⟨go23, 0, none⟩) x7_3.length co15 : Value).ownBlock)) (rM HO_5.out (fun _ hk => ⟨⟨hk.1.1, hk.2⟩, hk.1.2⟩)) hg hat); have n1_ := Aside0.mk (Kd.R_after (ok := (fun k_ => some k_ ≠ (.slice (some ad373) t356.length co39 : Value).ownBlock ∧ some k_ ≠ (.slice (some ⟨go23, 0, none⟩) x7_3.length co15 : Value).ownBlock)) (rM HO_6.out (fun _ hk => ⟨⟨hk.1.1, hk.2⟩, hk.1.2⟩)) hg hat); have n2_ := Aside0.mk (Kd.R_after (ok := (fun k_ => some k_ ≠ (.slice (some ad373) t356.length co39 : Value).ownBlock ∧ some k_ ≠ (.slice (some ad376) t359.length co40 : Value).ownBlock)) (rM HO_7.out (fun _ hk => ⟨⟨hk.1, hk.2.1⟩, hk.2.2⟩)) hg hat); have n3_ := Aside0.mk (Kd.R_over' (rX HO_73.out) (Kd.R_typed (rX HO_9.out)) (by decide) hg); have n4_ := Aside0.mk (blk_grown (g := gb355) (o := .cells #[.slice (some ad371) l0_0.length c0_0, .slice (some ad374) l0_1.length c0_1] 27 (0, 0)) (kX BK355.out) hg (Kd.R_ne HO_9.out BK355.out (by decide))); have n5_ := Aside0.mk (blk_grown (g := gb381) (o := .cells #[.int .i64 ((rd_T54 y377 x75_3).f0), .int .i64 ((rd_T54 y377 x75_3).f1)] 54 (0, 0)) (kX BK381.out) hg (Kd.R_ne HO_9.out BK381.out (by decide))); have n6_ := Aside0.mk (hb); have n7_ := Aside0.mk (ho); clear HO_5; clear HO_6; clear HO_7; clear HO_73; clear BK355; clear BK381; clear HB; clear HO_9; have HO_5 := n0_; have HO_6 := n1_; have HO_7 := n2_; have HO_73 := n3_; have BK355 := n4_; have BK381 := n5_; have HB := n6_; have HO386 := n7_; clear n0_ n1_ n2_ n3_ n4_ n5_ n6_ n7_; clear ho hb hg hat))
                           (try simp only [← hl7_3])
                           go_roundg k3
                           case measure => have := HK1.out; have := HK2.out; have := HK3.out; omega
                           case rel => exact ⟨(y383), (y384), (wrap64 (x75_3 + 1)), vX, H', ⟨by have := HK1.out; have := HK2.out; have := HK3.out; omega⟩, ⟨by (try simp only [hl7_1]); (try simp only [hl7_2]); (try simp only [hl7_3]); (with_reducible repeat (first|apply rA|apply rN|apply rD)); exact Kd.R_mono HO_5.out (fun _ hk => ⟨hk.1.1, ⟨hk.1.2, hk.2⟩⟩)⟩, ⟨by (try simp only [hl7_1]); (try simp only [hl7_2]); (try simp only [hl7_3]); (with_reducible repeat (first|apply rA|apply rN|apply rD)); exact Kd.R_mono HO_6.out (fun _ hk => ⟨hk.1.1, ⟨hk.1.2, hk.2⟩⟩)⟩, ⟨by (try simp only [hl7_1]); (try simp only [hl7_2]); (try simp only [hl7_3]); (with_reducible repeat (first|apply rA|apply rN|apply rD)); exact Kd.R_mono HO_7.out (fun _ hk => ⟨hk.1.1, ⟨hk.1.2, hk.2⟩⟩)⟩, ⟨by (try simp only [hl7_1]); (try simp only [hl7_2]); (try simp only [hl7_3]); (with_reducible repeat (first|apply rA|apply rN|apply rD)); exact HO386.out⟩, ⟨by (try simp only [hl7_1]); (try simp only [hl7_2]); (try simp only [hl7_3]); (with_reducible repeat (first|apply rA|apply rN|apply rD)); exact Kd.R_mono HO_73.out (fun _ hk => trivial)⟩, ⟨by (try simp only [hl7_1]); (try simp only [hl7_2]); (try simp only [hl7_3]); (with_reducible repeat (first|refine kN ?_ _|refine kD ?_|refine kA ?_ _)); exact BK355.out⟩, ⟨bX2 HB.out GE355.out GE381.out⟩⟩
                          ·rw [if_neg c51] at H
                           exact absurd H (by simp)
                         ·rw [if_neg c49] at H
                          have c49b0 : decide ((rd x7_3 ((rd_T54 y377 x75_3).f0)) < 0) = false := decide_eq_false c49
                          clear c49
                          have H' := Aside0.mk H
                          clear H
                          have p380 : 0 ≤ (x75_3 : Int) := dX
                          have q380 : x75_3 < (y377.length : Int) := dX
                          obtain ⟨ad380, e380, hx380_0, hx380_1⟩ := at_T54 (Kd.R_reads' HO_73.out).2.2 x75_3 p380 q380
                          cases e380
                          replace p380 := eq_true p380
                          replace q380 := eq_true q380
                          go_wp2_with (first | ((with_reducible refine gate_dst (N := 13) rfl ?_); refine box_event ?hg (N := 13) ?hd (cs := #[.int .i64 0, .int .i64 0]) (t := 54) ?hr ?_; (case hd => rfl); (case hg => rfl); (case hr => first | (go_simp; done) | (go_simp; rfl)); intro gb381 hg w61 hbox hb; have n0_ := Aside0.mk (Kd.R_below (rX HO_5.out) hb); have n1_ := Aside0.mk (Kd.R_below (rX HO_6.out) hb); have n2_ := Aside0.mk (Kd.R_below (rX HO_7.out) hb); have n3_ := Aside0.mk (Kd.R_below (rX HO_9.out) hb); have n4_ := Aside0.mk (Kd.R_below (Kd.R_elderB (rX HO_73.out) gb381 (Nat.le_of_eq hg.symm)) hb); have n5_ := Aside0.mk (blk_below (g := gb355) (o := .cells #[.slice (some ad371) l0_0.length c0_0, .slice (some ad374) l0_1.length c0_1] 27 (0, 0)) (kX BK355.out) hb); have n6_ := Aside0.mk (below_step (bX1 HB.out GE355.out) hb); have n7_ := Aside0.mk (hbox); have n8_ := Aside0.mk ((by rw [hg]; exact (below_size (bX1 HB.out GE355.out)) : w.heap.size ≤ gb381)); have n9_ := Aside0.mk ((by rw [hg]; exact (below_size (bX1 HB.out GE355.out)) : w.heap.size ≤ gb381)); have n10_ := Aside0.mk ((by rw [hg]; exact Nat.ne_of_lt (blk_lt (g := gb355) (o := .cells #[.slice (some ad371) l0_0.length c0_0, .slice (some ad374) l0_1.length c0_1] 27 (0, 0)) (kX BK355.out)) : gb355 ≠ gb381)); have n11_ := Aside0.mk ((by rw [hg]; exact Nat.ne_of_gt (blk_lt (g := gb355) (o := .cells #[.slice (some ad371) l0_0.length c0_0, .slice (some ad374) l0_1.length c0_1] 27 (0, 0)) (kX BK355.out)) : gb381 ≠ gb355)); clear HO_5; clear HO_6; clear HO_7; clear HO_9; clear HO_73; clear BK355; clear HB; have HO_5 := n0_; have HO_6 := n1_; have HO_7 := n2_; have HO_9 := n3_; have HO_73 := n4_; have BK355 := n5_; have HB := n6_; have BK381 := n7_; have GW381 := n8_; have GE381 := n9_; have NB355_381 := n10_; have NB381_355 := n11_; clear n0_ n1_ n2_ n3_ n4_ n5_ n6_ n7_ n8_ n9_ n10_ n11_; clear hb hbox hg; have hnb62 := NB381_355.out; have hnc62 := NB355_381.out; have hcz63_0 : w61.cell? ⟨gb381, 0, none⟩ = some (.int .i64 0) := (blk_cell BK381.out 0).trans rfl; have hcz63_1 : w61.cell? ⟨gb381, 1, none⟩ = some (.int .i64 0) := (blk_cell BK381.out 1).trans rfl; have hfz63_0 := blk_frozen BK381.out 0; have hfz63_1 := blk_frozen BK381.out 1; have p382 : 0 ≤ (((rd_T54 y377 x75_3).f0) : Int) := dX; have q382 : ((rd_T54 y377 x75_3).f0) < (x7_3.length : Int) := dX; obtain ⟨ad382, e382, hx382_0⟩ := Kd.at_int (Kd.R_reads' HO_7.out).2.2 ((rd_T54 y377 x75_3).f0) p382 q382; obtain rfl : (⟨go23, 0, none⟩ : Addr) = ad382 := (by injection e382); (first | simp only [add_plain] at hx382_0 | simp only [add_at] at hx382_0 | simp only [Addr.add, Nat.zero_add] at hx382_0 | skip); have hn382_0 : (⟨go23, 0, none⟩ : Addr).block ≠ gb381 := Kd.own_blk (Kd.R_ne HO_7.out BK381.out (by decide)); have hn382_1 : (⟨go23, 0, none⟩ : Addr).block ≠ gb381 := Kd.own_blk (Kd.R_ne HO_7.out BK381.out (by decide)); replace hx382_0 := (cell_far (p := ⟨gb381, 0, none⟩) (by first | (rw [add_block]; exact hn382_0) | (show (Addr.add _ _).block ≠ _; rw [add_block]; exact hn382_0) | exact hn382_0) (.int .i64 ((rd_T54 y377 x75_3).f0))).trans hx382_0; replace hx382_0 := (cell_far (p := ⟨gb381, 1, none⟩) (by first | (rw [add_block]; exact hn382_1) | (show (Addr.add _ _).block ≠ _; rw [add_block]; exact hn382_1) | exact hn382_1) (.int .i64 ((rd_T54 y377 x75_3).f1))).trans hx382_0; clear hn382_0; clear hn382_1; replace p382 := eq_true p382; replace q382 := eq_true q382))
                          (try simp only [← hl7_3])
                          go_roundg k3
                          case measure => have := HK1.out; have := HK2.out; have := HK3.out; omega
                          case rel => exact ⟨(x7_3), (x9_3), (wrap64 (x75_3 + 1)), vX, H', ⟨by have := HK1.out; have := HK2.out; have := HK3.out; omega⟩, ⟨by (try simp only [hl7_1]); (try simp only [hl7_2]); (try simp only [hl7_3]); (with_reducible repeat (first|apply rA|apply rN|apply rD)); exact Kd.R_mono (Kd.R_far (p := ⟨gb381, 1, none⟩) (Kd.R_far (p := ⟨gb381, 0, none⟩) (Kd.R_types HO_5.out BK381.out (by decide)) (fun _ hk => hk.2) (.int .i64 ((rd_T54 y377 x75_3).f0))) (fun _ hk => hk.2) (.int .i64 ((rd_T54 y377 x75_3).f1))) (fun _ hk => ⟨hk.1.1, ⟨hk.1.2.1, hk.1.2.2⟩⟩)⟩, ⟨by (try simp only [hl7_1]); (try simp only [hl7_2]); (try simp only [hl7_3]); (with_reducible repeat (first|apply rA|apply rN|apply rD)); exact Kd.R_mono (Kd.R_far (p := ⟨gb381, 1, none⟩) (Kd.R_far (p := ⟨gb381, 0, none⟩) (Kd.R_types HO_6.out BK381.out (by decide)) (fun _ hk => hk.2) (.int .i64 ((rd_T54 y377 x75_3).f0))) (fun _ hk => hk.2) (.int .i64 ((rd_T54 y377 x75_3).f1))) (fun _ hk => ⟨hk.1.1, ⟨hk.1.2.1, hk.1.2.2⟩⟩)⟩, ⟨by (try simp only [hl7_1]); (try simp only [hl7_2]); (try simp only [hl7_3]); (with_reducible repeat (first|apply rA|apply rN|apply rD)); exact Kd.R_mono (Kd.R_far (p := ⟨gb381, 1, none⟩) (Kd.R_far (p := ⟨gb381, 0, none⟩) (Kd.R_types HO_7.out BK381.out (by decide)) (fun _ hk => hk.2) (.int .i64 ((rd_T54 y377 x75_3).f0))) (fun _ hk => hk.2) (.int .i64 ((rd_T54 y377 x75_3).f1))) (fun _ hk => ⟨hk.1.1, ⟨hk.1.2.1, hk.1.2.2⟩⟩)⟩, ⟨by (try simp only [hl7_1]); (try simp only [hl7_2]); (try simp only [hl7_3]); (with_reducible repeat (first|apply rA|apply rN|apply rD)); exact Kd.R_mono (Kd.R_far (p := ⟨gb381, 1, none⟩) (Kd.R_far (p := ⟨gb381, 0, none⟩) (Kd.R_types HO_9.out BK381.out (by decide)) (fun _ hk => hk.2) (.int .i64 ((rd_T54 y377 x75_3).f0))) (fun _ hk => hk.2) (.int .i64 ((rd_T54 y377 x75_3).f1))) (fun _ hk => ⟨hk.1.1, ⟨hk.1.2.1, hk.1.2.2⟩⟩)⟩, ⟨by (try simp only [hl7_1]); (try simp only [hl7_2]); (try simp only [hl7_3]); (with_reducible repeat (first|apply rA|apply rN|apply rD)); exact Kd.R_mono (Kd.R_far (p := ⟨gb381, 1, none⟩) (Kd.R_far (p := ⟨gb381, 0, none⟩) (Kd.R_mono HO_73.out (fun k_ hk => (⟨hk, hk.2⟩ : _ ∧ k_ ≠ gb381))) (fun _ hk => hk.2) (.int .i64 ((rd_T54 y377 x75_3).f0))) (fun _ hk => hk.2) (.int .i64 ((rd_T54 y377 x75_3).f1))) (fun _ hk => trivial)⟩, ⟨by (try simp only [hl7_1]); (try simp only [hl7_2]); (try simp only [hl7_3]); (with_reducible repeat (first|refine kN ?_ _|refine kD ?_|refine kA ?_ _)); refine blk_far ?_ NB355_381.out _; (with_reducible repeat (first|refine kN ?_ _|refine kD ?_|refine kA ?_ _)); refine blk_far ?_ NB355_381.out _; (with_reducible repeat (first|refine kN ?_ _|refine kD ?_|refine kA ?_ _)); exact BK355.out⟩, ⟨bX2 HB.out GE355.out GE381.out⟩⟩
                        ·rw [if_neg c48] at H
                         exact absurd H (by simp)
                       ·rw [if_neg c47] at H
                        exact absurd H (by simp)
                      ·rw [if_neg c46] at H
                       exact absurd H (by simp)
                     ·rw [if_neg c45] at H
                      exact absurd H (by simp)
                    ·rw [if_neg c44] at H
                     have c44b0 : decide (x75_3 < (y377.length : Int)) = false := decide_eq_false c44
                     clear c44
                     have H' := Aside0.mk H
                     clear H
                     go_wp2
                     (try simp only [← hl7_2, ← hl7_3])
                     go_roundg k3
                     case measure => have := HK1.out; have := HK2.out; have := HK3.out; omega
                     case rel => exact ⟨(x7_3), (x9_3), (wrap64 (x10_2 + 1)), vX, H', ⟨by have := HK1.out; have := HK2.out; have := HK3.out; omega⟩, ⟨by (try simp only [hl7_1]); (try simp only [hl7_2]); (try simp only [hl7_3]); (with_reducible repeat (first|apply rA|apply rN|apply rD)); exact HO_5.out⟩, ⟨by (try simp only [hl7_1]); (try simp only [hl7_2]); (try simp only [hl7_3]); (with_reducible repeat (first|apply rA|apply rN|apply rD)); exact HO_6.out⟩, ⟨by (try simp only [hl7_1]); (try simp only [hl7_2]); (try simp only [hl7_3]); (with_reducible repeat (first|apply rA|apply rN|apply rD)); exact HO_7.out⟩, ⟨by (try simp only [hl7_1]); (try simp only [hl7_2]); (try simp only [hl7_3]); (with_reducible repeat (first|apply rA|apply rN|apply rD)); exact HO_9.out⟩, ⟨by (try simp only [hl7_1]); (try simp only [hl7_2]); (try simp only [hl7_3]); (with_reducible repeat (first|refine kN ?_ _|refine kD ?_|refine kA ?_ _)); exact BK355.out⟩, ⟨bX1 HB.out GE355.out⟩⟩
                 ·rw [if_neg c36] at H
                  exact absurd H (by simp)
                ·rw [if_neg c35] at H
                 exact absurd H (by simp)
               ·rw [if_neg c34] at H
                exact absurd H (by simp)
              ·rw [if_neg c33] at H
               exact absurd H (by simp)
             ·rw [if_neg c32] at H
              exact absurd H (by simp)
            ·rw [if_neg c31] at H
             exact absurd H (by simp)
           ·rw [if_neg c30] at H
            exact absurd H (by simp)
          ·rw [if_neg c29] at H
           exact absurd H (by simp)
         ·rw [if_neg c28] at H
          have c28b0 : decide (x10_2 < (x9_2.length : Int)) = false := decide_eq_false c28
          clear c28
          obtain rfl := Option.some.inj H
          obtain ⟨Ao64, co64, eo64⟩ := Kd.R_slice HO_9.out
          subst eo64
          go_wp2
          go_ret
          exact ⟨_, eX, by (with_reducible repeat (first|apply rA|apply rN|apply rD)); exact Kd.R_mono HO_7.out (fun _ hk => trivial), bX1 HB.out GE355.out⟩
      ·rw [if_neg c22] at H
       exact absurd H (by simp)
  ·rw [if_neg c6] at H
   exact absurd H (by simp)
 ·rw [if_neg c5] at H
  exact absurd H (by simp)

/-! ### impl_IsTurn: function 32 -/
mutual
def impl_IsTurn.j0 : Nat → List Int → Bool → List Int → List Int → Option (Bool)
 | 0, _, _, _, _ => none
 | k + 1, x1, x23, x388000, x388001 => if x23 = true then (some false) else ((impl_InversePerm.f k x388000).bind fun t390 => ((impl_InversePerm.f k x388001).bind fun t393 => (impl_IsTurn.l0 k x1 t390 t393 (x1.length : Int) 0 x388000 x388001)))
def impl_IsTurn.l0 : Nat → List Int → List Int → List Int → Int → Int → List Int → List Int → Option (Bool)
 | 0, _, _, _, _, _, _, _ => none
 | k + 1, x1, x5, x6, x31, x32, x388000, x388001 => if x32 < x31 then (if 0 ≤ x32 then (if x32 < (x388000.length : Int) then (if 0 ≤ (rd x388000 x32) then (if (rd x388000 x32) < (x1.length : Int) then (if x32 < (x1.length : Int) then (if 0 ≤ (rd x1 x32) then (if (rd x1 x32) < (x5.length : Int) then (if (rd x1 (rd x388000 x32)) = (rd x5 (rd x1 x32)) then (if x32 < (x388001.length : Int) then (if 0 ≤ (rd x388001 x32) then (if (rd x388001 x32) < (x1.length : Int) then (if (rd x1 x32) < (x6.length : Int) then (if (rd x1 (rd x388001 x32)) = (rd x6 (rd x1 x32)) then (impl_IsTurn.l0 k x1 x5 x6 x31 (wrap64 (x32 + 1)) x388000 x388001) else (some false)) else (none)) else (none)) else (none)) else (none)) else (some false)) else (none)) else (none)) else (none)) else (none)) else (none)) else (none)) else (none)) else (some true)
end
def impl_IsTurn.f (k : Nat) (l0_0 : List Int) (l0_1 : List Int) (l1 : List Int) : Option (Bool) := (impl_SurfaceOk.f k l0_0 l0_1).bind fun t388 => (if t388 = true then ((impl_PermOk.f l1).bind fun t389 => (if t389 = true then (impl_IsTurn.j0 k l1 ((l1.length : Int) != (l0_0.length : Int)) l0_0 l0_1) else (impl_IsTurn.j0 k l1 true l0_0 l0_1))) else (impl_IsTurn.j0 k l1 true l0_0 l0_1))
set_option maxHeartbeats 8000000 in
set_option maxRecDepth 100000 in
theorem impl_IsTurn.calls (k : Nat) (A0_0 : Option Addr) (c0_0 : Nat) (l0_0 : List Int) (A0_1 : Option Addr) (c0_1 : Nat) (l0_1 : List Int) (A1 : Option Addr) (c1 : Nat) (l1 : List Int) (r : Bool) (w : World) (hr0_0 : Kd.C (Kd.int .i64) w A0_0 l0_0.length l0_0) (hc0_0 : l0_0.length ≤ c0_0) (hr0_1 : Kd.C (Kd.int .i64) w A0_1 l0_1.length l0_1) (hc0_1 : l0_1.length ≤ c0_1) (hr1 : Kd.C (Kd.int .i64) w A1 l1.length l1) (hc1 : l1.length ≤ c1) (h : impl_IsTurn.f k l0_0 l0_1 l1 = some r) :
  Calls Tryd.prog 32 #[.agg #[.slice A0_0 l0_0.length c0_0, .slice A0_1 l0_1.length c0_1], .slice A1 l1.length c1] w fun e w' => e = .returned (.bool r) ∧ Below w.heap.size w w' := by
 have hu27 := Tryd.underlying27
 have HR0_0 := Aside0.mk hr0_0
 have HC0_0 := Aside0.mk hc0_0
 clear hr0_0 hc0_0
 have HR0_1 := Aside0.mk hr0_1
 have HC0_1 := Aside0.mk hc0_1
 clear hr0_1 hc0_1
 have HR1 := Aside0.mk hr1
 have HC1 := Aside0.mk hc1
 clear hr1 hc1
 have HB := Aside0.mk (Below.refl w.heap.size w)
 have H : ((impl_SurfaceOk.f k l0_0 l0_1).bind fun t388 => (if t388 = true then ((impl_PermOk.f l1).bind fun t389 => (if t389 = true then (impl_IsTurn.j0 k l1 ((l1.length : Int) != (l0_0.length : Int)) l0_0 l0_1) else (impl_IsTurn.j0 k l1 true l0_0 l0_1))) else (impl_IsTurn.j0 k l1 true l0_0 l0_1))) = some r := h
 clear h
 have HC3 := Aside0.mk H
 clear H
 go_enter Tryd.func32, Tryd.ntmps32
 go_upto_region 1 with (first | ((with_reducible refine gate_dst (N := 2) rfl ?_); (try (refine gate_guard (by rfl) ?_; dsimp only)); refine box_event ?hg (N := 2) ?hd (cs := #[.slice A0_0 l0_0.length c0_0, .slice A0_1 l0_1.length c0_1]) (t := 27) ?hr ?_; (case hd => rfl); (case hg => rfl); (case hr => first | (go_simp; done) | (go_simp; rfl)); intro gb387 hg w4 hbox hb; have n0_ := Aside0.mk (below_step (bX HB.out) hb); have n1_ := Aside0.mk (hbox); have n2_ := Aside0.mk ((by rw [hg]; exact (below_size (bX HB.out)) : w.heap.size ≤ gb387)); have n3_ := Aside0.mk ((by rw [hg]; exact (below_size (bX HB.out)) : w.heap.size ≤ gb387)); clear HB; have HB := n0_; have BK387 := n1_; have GW387 := n2_; have GE387 := n3_; clear n0_ n1_ n2_ n3_; clear hb hbox hg))
 repeat (go_quiet (first | ((with_reducible refine gate_dst (N := 2) rfl ?_); (try (refine gate_guard (by rfl) ?_; dsimp only)); refine box_event ?hg (N := 2) ?hd (cs := #[.slice A0_0 l0_0.length c0_0, .slice A0_1 l0_1.length c0_1]) (t := 27) ?hr ?_; (case hd => rfl); (case hg => rfl); (case hr => first | (go_simp; done) | (go_simp; rfl)); intro gb387 hg w4 hbox hb; have n0_ := Aside0.mk (below_step (bX HB.out) hb); have n1_ := Aside0.mk (hbox); have n2_ := Aside0.mk ((by rw [hg]; exact (below_size (bX HB.out)) : w.heap.size ≤ gb387)); have n3_ := Aside0.mk ((by rw [hg]; exact (below_size (bX HB.out)) : w.heap.size ≤ gb387)); clear HB; have HB := n0_; have BK387 := n1_; have GW387 := n2_; have GE387 := n3_; clear n0_ n1_ n2_ n3_; clear hb hbox hg)); go_upto_region 1 with (first | ((with_reducible refine gate_dst (N := 2) rfl ?_); (try (refine gate_guard (by rfl) ?_; dsimp only)); refine box_event ?hg (N := 2) ?hd (cs := #[.slice A0_0 l0_0.length c0_0, .slice A0_1 l0_1.length c0_1]) (t := 27) ?hr ?_; (case hd => rfl); (case hg => rfl); (case hr => first | (go_simp; done) | (go_simp; rfl)); intro gb387 hg w4 hbox hb; have n0_ := Aside0.mk (below_step (bX HB.out) hb); have n1_ := Aside0.mk (hbox); have n2_ := Aside0.mk ((by rw [hg]; exact (below_size (bX HB.out)) : w.heap.size ≤ gb387)); have n3_ := Aside0.mk ((by rw [hg]; exact (below_size (bX HB.out)) : w.heap.size ≤ gb387)); clear HB; have HB := n0_; have BK387 := n1_; have GW387 := n2_; have GE387 := n3_; clear n0_ n1_ n2_ n3_; clear hb hbox hg)))
 (try simp only [Act.put, List.setIfInBounds_toArray, List.set_cons_zero, List.set_cons_succ])
 go_cut [23] (fun v23 wc => ∃ (kq : Nat) (x23_2 : Bool), v23 = .bool x23_2 ∧ Aside0 (impl_IsTurn.j0 kq l1 x23_2 l0_0 l0_1 = some r) ∧ Aside0 (kq ≤ k) ∧ Aside0 (wc.heap[gb387]? = some (.cells #[(.slice A0_0 l0_0.length c0_0), (.slice A0_1 l0_1.length c0_1)] 27 (0, 0))) ∧ Aside0 (Below w.heap.size w wc))
 case first =>
  have H := HC3.out
  clear HC3
  replace H := Option.bind_eq_some_iff.mp H
  obtain ⟨t388, A50, H⟩ := H
  replace H : (if t388 = true then ((impl_PermOk.f l1).bind fun t389 => (if t389 = true then (impl_IsTurn.j0 k l1 ((l1.length : Int) != (l0_0.length : Int)) l0_0 l0_1) else (impl_IsTurn.j0 k l1 true l0_0 l0_1))) else (impl_IsTurn.j0 k l1 true l0_0 l0_1)) = some r := H
  have A5 := Aside0.mk A50
  clear A50
  by_cases c6 : t388 = true
  ·subst c6
   have H1 : ((impl_PermOk.f l1).bind fun t389 => (if t389 = true then (impl_IsTurn.j0 k l1 ((l1.length : Int) != (l0_0.length : Int)) l0_0 l0_1) else (impl_IsTurn.j0 k l1 true l0_0 l0_1))) = some r := by rw [if_pos rfl] at H; exact H
   clear H
   have H := H1
   clear H1
   replace H := Option.bind_eq_some_iff.mp H
   obtain ⟨t389, A70, H⟩ := H
   replace H : (if t389 = true then (impl_IsTurn.j0 k l1 ((l1.length : Int) != (l0_0.length : Int)) l0_0 l0_1) else (impl_IsTurn.j0 k l1 true l0_0 l0_1)) = some r := H
   have A7 := Aside0.mk A70
   clear A70
   by_cases c8 : t389 = true
   ·subst c8
    have H1 : (impl_IsTurn.j0 k l1 ((l1.length : Int) != (l0_0.length : Int)) l0_0 l0_1) = some r := by rw [if_pos rfl] at H; exact H
    clear H
    have H := H1
    clear H1
    have H' := Aside0.mk H
    clear H
    have hcz9_0 : w4.cell? ⟨gb387, 0, none⟩ = some (.slice A0_0 l0_0.length c0_0) := (blk_cell BK387.out 0).trans rfl
    have hcz9_1 : w4.cell? ⟨gb387, 1, none⟩ = some (.slice A0_1 l0_1.length c0_1) := (blk_cell BK387.out 1).trans rfl
    have hfz9_0 := blk_frozen BK387.out 0
    have hfz9_1 := blk_frozen BK387.out 1
    go_wp2_with (first | (go_at_call 30; (with_reducible refine (impl_SurfaceOk.calls k _ _ l0_0 _ _ l0_1 true _ ?side1 ?side2 ?side3 ?side4 A5.out).mono ?_); (case side1 => repeat (first | exact (Kd.C_below HR0_0.out HB.out) | (with_reducible refine Kd.C_alloc ?_ _) | (with_reducible refine Kd.C_drewN ?_ _) | (with_reducible refine Kd.C_drew ?_))); (case side2 => exact HC0_0.out); (case side3 => repeat (first | exact (Kd.C_below HR0_1.out HB.out) | (with_reducible refine Kd.C_alloc ?_ _) | (with_reducible refine Kd.C_drewN ?_ _) | (with_reducible refine Kd.C_drew ?_))); (case side4 => exact HC0_1.out); rintro e w10 ⟨rfl, hb⟩; have n0_ := Aside0.mk (blk_below (g := gb387) (o := .cells #[.slice A0_0 l0_0.length c0_0, .slice A0_1 l0_1.length c0_1] 27 (0, 0)) (kX BK387.out) hb); have n1_ := Aside0.mk (below_step (bX1 HB.out GE387.out) hb); clear BK387; clear HB; have BK387 := n0_; have HB := n1_; clear n0_ n1_; (try clear hb); (try clear hb2); (try clear hk); (try clear hi)) | (go_at_call 35; (with_reducible refine (impl_PermOk.calls _ _ l1 true _ ?side1 ?side2 A7.out).mono ?_); (case side1 => repeat (first | exact (Kd.C_below HR1.out HB.out) | (with_reducible refine Kd.C_alloc ?_ _) | (with_reducible refine Kd.C_drewN ?_ _) | (with_reducible refine Kd.C_drew ?_))); (case side2 => exact HC1.out); rintro e w11 ⟨rfl, hb⟩; have n0_ := Aside0.mk (blk_below (g := gb387) (o := .cells #[.slice A0_0 l0_0.length c0_0, .slice A0_1 l0_1.length c0_1] 27 (0, 0)) (kX BK387.out) hb); have n1_ := Aside0.mk (below_step (bX1 HB.out GE387.out) hb); clear BK387; clear HB; have BK387 := n0_; have HB := n1_; clear n0_ n1_; (try clear hb); (try clear hb2); (try clear hk); (try clear hi); have hcz12_0 : w11.cell? ⟨gb387, 0, none⟩ = some (.slice A0_0 l0_0.length c0_0) := (blk_cell BK387.out 0).trans rfl; have hcz12_1 : w11.cell? ⟨gb387, 1, none⟩ = some (.slice A0_1 l0_1.length c0_1) := (blk_cell BK387.out 1).trans rfl; have hfz12_0 := blk_frozen BK387.out 0; have hfz12_1 := blk_frozen BK387.out 1))
    repeat (go_quiet (first | (go_at_call 30; (with_reducible refine (impl_SurfaceOk.calls k _ _ l0_0 _ _ l0_1 true _ ?side1 ?side2 ?side3 ?side4 A5.out).mono ?_); (case side1 => repeat (first | exact (Kd.C_below HR0_0.out HB.out) | (with_reducible refine Kd.C_alloc ?_ _) | (with_reducible refine Kd.C_drewN ?_ _) | (with_reducible refine Kd.C_drew ?_))); (case side2 => exact HC0_0.out); (case side3 => repeat (first | exact (Kd.C_below HR0_1.out HB.out) | (with_reducible refine Kd.C_alloc ?_ _) | (with_reducible refine Kd.C_drewN ?_ _) | (with_reducible refine Kd.C_drew ?_))); (case side4 => exact HC0_1.out); rintro e w10 ⟨rfl, hb⟩; have n0_ := Aside0.mk (blk_below (g := gb387) (o := .cells #[.slice A0_0 l0_0.length c0_0, .slice A0_1 l0_1.length c0_1] 27 (0, 0)) (kX BK387.out) hb); have n1_ := Aside0.mk (below_step (bX1 HB.out GE387.out) hb); clear BK387; clear HB; have BK387 := n0_; have HB := n1_; clear n0_ n1_; (try clear hb); (try clear hb2); (try clear hk); (try clear hi)) | (go_at_call 35; (with_reducible refine (impl_PermOk.calls _ _ l1 true _ ?side1 ?side2 A7.out).mono ?_); (case side1 => repeat (first | exact (Kd.C_below HR1.out HB.out) | (with_reducible refine Kd.C_alloc ?_ _) | (with_reducible refine Kd.C_drewN ?_ _) | (with_reducible refine Kd.C_drew ?_))); (case side2 => exact HC1.out); rintro e w11 ⟨rfl, hb⟩; have n0_ := Aside0.mk (blk_below (g := gb387) (o := .cells #[.slice A0_0 l0_0.length c0_0, .slice A0_1 l0_1.length c0_1] 27 (0, 0)) (kX BK387.out) hb); have n1_ := Aside0.mk (below_step (bX1 HB.out GE387.out) hb); clear BK387; clear HB; have BK387 := n0_; have HB := n1_; clear n0_ n1_; (try clear hb); (try clear hb2); (try clear hk); (try clear hi); have hcz12_0 : w11.cell? ⟨gb387, 0, none⟩ = some (.slice A0_0 l0_0.length c0_0) := (blk_cell BK387.out 0).trans rfl; have hcz12_1 : w11.cell? ⟨gb387, 1, none⟩ = some (.slice A0_1 l0_1.length c0_1) := (blk_cell BK387.out 1).trans rfl; have hfz12_0 := blk_frozen BK387.out 0; have hfz12_1 := blk_frozen BK387.out 1)); try go_wp2_with (first | (go_at_call 30; (with_reducible refine (impl_SurfaceOk.calls k _ _ l0_0 _ _ l0_1 true _ ?side1 ?side2 ?side3 ?side4 A5.out).mono ?_); (case side1 => repeat (first | exact (Kd.C_below HR0_0.out HB.out) | (with_reducible refine Kd.C_alloc ?_ _) | (with_reducible refine Kd.C_drewN ?_ _) | (with_reducible refine Kd.C_drew ?_))); (case side2 => exact HC0_0.out); (case side3 => repeat (first | exact (Kd.C_below HR0_1.out HB.out) | (with_reducible refine Kd.C_alloc ?_ _) | (with_reducible refine Kd.C_drewN ?_ _) | (with_reducible refine Kd.C_drew ?_))); (case side4 => exact HC0_1.out); rintro e w10 ⟨rfl, hb⟩; have n0_ := Aside0.mk (blk_below (g := gb387) (o := .cells #[.slice A0_0 l0_0.length c0_0, .slice A0_1 l0_1.length c0_1] 27 (0, 0)) (kX BK387.out) hb); have n1_ := Aside0.mk (below_step (bX1 HB.out GE387.out) hb); clear BK387; clear HB; have BK387 := n0_; have HB := n1_; clear n0_ n1_; (try clear hb); (try clear hb2); (try clear hk); (try clear hi)) | (go_at_call 35; (with_reducible refine (impl_PermOk.calls _ _ l1 true _ ?side1 ?side2 A7.out).mono ?_); (case side1 => repeat (first | exact (Kd.C_below HR1.out HB.out) | (with_reducible refine Kd.C_alloc ?_ _) | (with_reducible refine Kd.C_drewN ?_ _) | (with_reducible refine Kd.C_drew ?_))); (case side2 => exact HC1.out); rintro e w11 ⟨rfl, hb⟩; have n0_ := Aside0.mk (blk_below (g := gb387) (o := .cells #[.slice A0_0 l0_0.length c0_0, .slice A0_1 l0_1.length c0_1] 27 (0, 0)) (kX BK387.out) hb); have n1_ := Aside0.mk (below_step (bX1 HB.out GE387.out) hb); clear BK387; clear HB; have BK387 := n0_; have HB := n1_; clear n0_ n1_; (try clear hb); (try clear hb2); (try clear hk); (try clear hi); have hcz12_0 : w11.cell? ⟨gb387, 0, none⟩ = some (.slice A0_0 l0_0.length c0_0) := (blk_cell BK387.out 0).trans rfl; have hcz12_1 : w11.cell? ⟨gb387, 1, none⟩ = some (.slice A0_1 l0_1.length c0_1) := (blk_cell BK387.out 1).trans rfl; have hfz12_0 := blk_frozen BK387.out 0; have hfz12_1 := blk_frozen BK387.out 1)))
    go_meet
    case rel => exact ⟨_, (((l1.length : Int) != (l0_0.length : Int))), vX, H', ⟨by first | omega | exact Nat.le_refl _⟩, ⟨kX BK387.out⟩, ⟨bX1 HB.out GE387.out⟩⟩
   ·replace c8 := Bool.eq_false_iff.mpr c8
    subst c8
    have H1 : (impl_IsTurn.j0 k l1 true l0_0 l0_1) = some r := by rw [if_neg (show ¬ (false = true) by decide)] at H; exact H
    clear H
    have H := H1
    clear H1
    have H' := Aside0.mk H
    clear H
    have hcz13_0 : w4.cell? ⟨gb387, 0, none⟩ = some (.slice A0_0 l0_0.length c0_0) := (blk_cell BK387.out 0).trans rfl
    have hcz13_1 : w4.cell? ⟨gb387, 1, none⟩ = some (.slice A0_1 l0_1.length c0_1) := (blk_cell BK387.out 1).trans rfl
    have hfz13_0 := blk_frozen BK387.out 0
    have hfz13_1 := blk_frozen BK387.out 1
    go_wp2_with (first | (go_at_call 30; (with_reducible refine (impl_SurfaceOk.calls k _ _ l0_0 _ _ l0_1 true _ ?side1 ?side2 ?side3 ?side4 A5.out).mono ?_); (case side1 => repeat (first | exact (Kd.C_below HR0_0.out HB.out) | (with_reducible refine Kd.C_alloc ?_ _) | (with_reducible refine Kd.C_drewN ?_ _) | (with_reducible refine Kd.C_drew ?_))); (case side2 => exact HC0_0.out); (case side3 => repeat (first | exact (Kd.C_below HR0_1.out HB.out) | (with_reducible refine Kd.C_alloc ?_ _) | (with_reducible refine Kd.C_drewN ?_ _) | (with_reducible refine Kd.C_drew ?_))); (case side4 => exact HC0_1.out); rintro e w14 ⟨rfl, hb⟩; have n0_ := Aside0.mk (blk_below (g := gb387) (o := .cells #[.slice A0_0 l0_0.length c0_0, .slice A0_1 l0_1.length c0_1] 27 (0, 0)) (kX BK387.out) hb); have n1_ := Aside0.mk (below_step (bX1 HB.out GE387.out) hb); clear BK387; clear HB; have BK387 := n0_; have HB := n1_; clear n0_ n1_; (try clear hb); (try clear hb2); (try clear hk); (try clear hi)) | (go_at_call 35; (with_reducible refine (impl_PermOk.calls _ _ l1 false _ ?side1 ?side2 A7.out).mono ?_); (case side1 => repeat (first | exact (Kd.C_below HR1.out HB.out) | (with_reducible refine Kd.C_alloc ?_ _) | (with_reducible refine Kd.C_drewN ?_ _) | (with_reducible refine Kd.C_drew ?_))); (case side2 => exact HC1.out); rintro e w15 ⟨rfl, hb⟩; have n0_ := Aside0.mk (blk_below (g := gb387) (o := .cells #[.slice A0_0 l0_0.length c0_0, .slice A0_1 l0_1.length c0_1] 27 (0, 0)) (kX BK387.out) hb); have n1_ := Aside0.mk (below_step (bX1 HB.out GE387.out) hb); clear BK387; clear HB; have BK387 := n0_; have HB := n1_; clear n0_ n1_; (try clear hb); (try clear hb2); (try clear hk); (try clear hi)))
    repeat (go_quiet (first | (go_at_call 30; (with_reducible refine (impl_SurfaceOk.calls k _ _ l0_0 _ _ l0_1 true _ ?side1 ?side2 ?side3 ?side4 A5.out).mono ?_); (case side1 => repeat (first | exact (Kd.C_below HR0_0.out HB.out) | (with_reducible refine Kd.C_alloc ?_ _) | (with_reducible refine Kd.C_drewN ?_ _) | (with_reducible refine Kd.C_drew ?_))); (case side2 => exact HC0_0.out); (case side3 => repeat (first | exact (Kd.C_below HR0_1.out HB.out) | (with_reducible refine Kd.C_alloc ?_ _) | (with_reducible refine Kd.C_drewN ?_ _) | (with_reducible refine Kd.C_drew ?_))); (case side4 => exact HC0_1.out); rintro e w14 ⟨rfl, hb⟩; have n0_ := Aside0.mk (blk_below (g := gb387) (o := .cells #[.slice A0_0 l0_0.length c0_0, .slice A0_1 l0_1.length c0_1] 27 (0, 0)) (kX BK387.out) hb); have n1_ := Aside0.mk (below_step (bX1 HB.out GE387.out) hb); clear BK387; clear HB; have BK387 := n0_; have HB := n1_; clear n0_ n1_; (try clear hb); (try clear hb2); (try clear hk); (try clear hi)) | (go_at_call 35; (with_reducible refine (impl_PermOk.calls _ _ l1 false _ ?side1 ?side2 A7.out).mono ?_); (case side1 => repeat (first | exact (Kd.C_below HR1.out HB.out) | (with_reducible refine Kd.C_alloc ?_ _) | (with_reducible refine Kd.C_drewN ?_ _) | (with_reducible refine Kd.C_drew ?_))); (case side2 => exact HC1.out); rintro e w15 ⟨rfl, hb⟩; have n0_ := Aside0.mk (blk_below (g := gb387) (o := .cells #[.slice A0_0 l0_0.length c0_0, .slice A0_1 l0_1.length c0_1] 27 (0, 0)) (kX BK387.out) hb); have n1_ := Aside0.mk (below_step (bX1 HB.out GE387.out) hb); clear BK387; clear HB; have BK387 := n0_; have HB := n1_; clear n0_ n1_; (try clear hb); (try clear hb2); (try clear hk); (try clear hi))); try go_wp2_with (first | (go_at_call 30; (with_reducible refine (impl_SurfaceOk.calls k _ _ l0_0 _ _ l0_1 true _ ?side1 ?side2 ?side3 ?side4 A5.out).mono ?_); (case side1 => repeat (first | exact (Kd.C_below HR0_0.out HB.out) | (with_reducible refine Kd.C_alloc ?_ _) | (with_reducible refine Kd.C_drewN ?_ _) | (with_reducible refine Kd.C_drew ?_))); (case side2 => exact HC0_0.out); (case side3 => repeat (first | exact (Kd.C_below HR0_1.out HB.out) | (with_reducible refine Kd.C_alloc ?_ _) | (with_reducible refine Kd.C_drewN ?_ _) | (with_reducible refine Kd.C_drew ?_))); (case side4 => exact HC0_1.out); rintro e w14 ⟨rfl, hb⟩; have n0_ := Aside0.mk (blk_below (g := gb387) (o := .cells #[.slice A0_0 l0_0.length c0_0, .slice A0_1 l0_1.length c0_1] 27 (0, 0)) (kX BK387.out) hb); have n1_ := Aside0.mk (below_step (bX1 HB.out GE387.out) hb); clear BK387; clear HB; have BK387 := n0_; have HB := n1_; clear n0_ n1_; (try clear hb); (try clear hb2); (try clear hk); (try clear hi)) | (go_at_call 35; (with_reducible refine (impl_PermOk.calls _ _ l1 false _ ?side1 ?side2 A7.out).mono ?_); (case side1 => repeat (first | exact (Kd.C_below HR1.out HB.out) | (with_reducible refine Kd.C_alloc ?_ _) | (with_reducible refine Kd.C_drewN ?_ _) | (with_reducible refine Kd.C_drew ?_))); (case side2 => exact HC1.out); rintro e w15 ⟨rfl, hb⟩; have n0_ := Aside0.mk (blk_below (g := gb387) (o := .cells #[.slice A0_0 l0_0.length c0_0, .slice A0_1 l0_1.length c0_1] 27 (0, 0)) (kX BK387.out) hb); have n1_ := Aside0.mk (below_step (bX1 HB.out GE387.out) hb); clear BK387; clear HB; have BK387 := n0_; have HB := n1_; clear n0_ n1_; (try clear hb); (try clear hb2); (try clear hk); (try clear hi))))
    go_meet
    case rel => exact ⟨_, (true), vX, H', ⟨by first | omega | exact Nat.le_refl _⟩, ⟨kX BK387.out⟩, ⟨bX1 HB.out GE387.out⟩⟩
  ·replace c6 := Bool.eq_false_iff.mpr c6
   subst c6
   have H1 : (impl_IsTurn.j0 k l1 true l0_0 l0_1) = some r := by rw [if_neg (show ¬ (false = true) by decide)] at H; exact H
   clear H
   have H := H1
   clear H1
   have H' := Aside0.mk H
   clear H
   have hcz16_0 : w4.cell? ⟨gb387, 0, none⟩ = some (.slice A0_0 l0_0.length c0_0) := (blk_cell BK387.out 0).trans rfl
   have hcz16_1 : w4.cell? ⟨gb387, 1, none⟩ = some (.slice A0_1 l0_1.length c0_1) := (blk_cell BK387.out 1).trans rfl
   have hfz16_0 := blk_frozen BK387.out 0
   have hfz16_1 := blk_frozen BK387.out 1
   go_wp2_with (first | (go_at_call 30; (with_reducible refine (impl_SurfaceOk.calls k _ _ l0_0 _ _ l0_1 false _ ?side1 ?side2 ?side3 ?side4 A5.out).mono ?_); (case side1 => repeat (first | exact (Kd.C_below HR0_0.out HB.out) | (with_reducible refine Kd.C_alloc ?_ _) | (with_reducible refine Kd.C_drewN ?_ _) | (with_reducible refine Kd.C_drew ?_))); (case side2 => exact HC0_0.out); (case side3 => repeat (first | exact (Kd.C_below HR0_1.out HB.out) | (with_reducible refine Kd.C_alloc ?_ _) | (with_reducible refine Kd.C_drewN ?_ _) | (with_reducible refine Kd.C_drew ?_))); (case side4 => exact HC0_1.out); rintro e w17 ⟨rfl, hb⟩; have n0_ := Aside0.mk (blk_below (g := gb387) (o := .cells #[.slice A0_0 l0_0.length c0_0, .slice A0_1 l0_1.length c0_1] 27 (0, 0)) (kX BK387.out) hb); have n1_ := Aside0.mk (below_step (bX1 HB.out GE387.out) hb); clear BK387; clear HB; have BK387 := n0_; have HB := n1_; clear n0_ n1_; (try clear hb); (try clear hb2); (try clear hk); (try clear hi)))
   repeat (go_quiet (first | (go_at_call 30; (with_reducible refine (impl_SurfaceOk.calls k _ _ l0_0 _ _ l0_1 false _ ?side1 ?side2 ?side3 ?side4 A5.out).mono ?_); (case side1 => repeat (first | exact (Kd.C_below HR0_0.out HB.out) | (with_reducible refine Kd.C_alloc ?_ _) | (with_reducible refine Kd.C_drewN ?_ _) | (with_reducible refine Kd.C_drew ?_))); (case side2 => exact HC0_0.out); (case side3 => repeat (first | exact (Kd.C_below HR0_1.out HB.out) | (with_reducible refine Kd.C_alloc ?_ _) | (with_reducible refine Kd.C_drewN ?_ _) | (with_reducible refine Kd.C_drew ?_))); (case side4 => exact HC0_1.out); rintro e w17 ⟨rfl, hb⟩; have n0_ := Aside0.mk (blk_below (g := gb387) (o := .cells #[.slice A0_0 l0_0.length c0_0, .slice A0_1 l0_1.length c0_1] 27 (0, 0)) (kX BK387.out) hb); have n1_ := Aside0.mk (below_step (bX1 HB.out GE387.out) hb); clear BK387; clear HB; have BK387 := n0_; have HB := n1_; clear n0_ n1_; (try clear hb); (try clear hb2); (try clear hk); (try clear hi))); try go_wp2_with (first | (go_at_call 30; (with_reducible refine (impl_SurfaceOk.calls k _ _ l0_0 _ _ l0_1 false _ ?side1 ?side2 ?side3 ?side4 A5.out).mono ?_); (case side1 => repeat (first | exact (Kd.C_below HR0_0.out HB.out) | (with_reducible refine Kd.C_alloc ?_ _) | (with_reducible refine Kd.C_drewN ?_ _) | (with_reducible refine Kd.C_drew ?_))); (case side2 => exact HC0_0.out); (case side3 => repeat (first | exact (Kd.C_below HR0_1.out HB.out) | (with_reducible refine Kd.C_alloc ?_ _) | (with_reducible refine Kd.C_drewN ?_ _) | (with_reducible refine Kd.C_drew ?_))); (case side4 => exact HC0_1.out); rintro e w17 ⟨rfl, hb⟩; have n0_ := Aside0.mk (blk_below (g := gb387) (o := .cells #[.slice A0_0 l0_0.length c0_0, .slice A0_1 l0_1.length c0_1] 27 (0, 0)) (kX BK387.out) hb); have n1_ := Aside0.mk (below_step (bX1 HB.out GE387.out) hb); clear BK387; clear HB; have BK387 := n0_; have HB := n1_; clear n0_ n1_; (try clear hb); (try clear hb2); (try clear hk); (try clear hi))))
   go_meet
   case rel => exact ⟨_, (true), vX, H', ⟨by first | omega | exact Nat.le_refl _⟩, ⟨kX BK387.out⟩, ⟨bX1 HB.out GE387.out⟩⟩
 case rest =>
  clear HC3
  try clear c1
  try clear p2
  try clear c3
  try clear c6
  try clear c8
  try clear hcz12_0
  try clear hcz12_1
  try clear hcz13_0
  try clear hcz13_1
  try clear hcz16_0
  try clear hcz16_1
  try clear hcz9_0
  try clear hcz9_1
  try clear hfz12_0
  try clear hfz12_1
  try clear hfz13_0
  try clear hfz13_1
  try clear hfz16_0
  try clear hfz16_1
  try clear hfz9_0
  try clear hfz9_1
  obtain ⟨kq, x23_2, rfl, HA, HJ2, BK387, HB⟩ := hcut
  cases kq with
  | zero => exact absurd HA.out (by simp [impl_IsTurn.j0])
  | succ kj2 =>
   have H := HA.out
   clear HA
   simp only [impl_IsTurn.j0] at H
   by_cases c18 : x23_2 = true
   ·subst c18
    have H1 : (some false) = some r := by rw [if_pos rfl] at H; exact H
    clear H
    have H := H1
    clear H1
    obtain rfl := Option.some.inj H
    go_wp2
    repeat (go_quiet (fail); try go_wp2)
    go_ret
    exact ⟨eX, bX1 HB.out GE387.out⟩
   ·replace c18 := Bool.eq_false_iff.mpr c18
    subst c18
    have H1 : ((impl_InversePerm.f kj2 l0_0).bind fun t390 => ((impl_InversePerm.f kj2 l0_1).bind fun t393 => (impl_IsTurn.l0 kj2 l1 t390 t393 (l1.length : Int) 0 l0_0 l0_1))) = some r := by rw [if_neg (show ¬ (false = true) by decide)] at H; exact H
    clear H
    have H := H1
    clear H1
    replace H := Option.bind_eq_some_iff.mp H
    obtain ⟨t390, A190, H⟩ := H
    replace H : ((impl_InversePerm.f kj2 l0_1).bind fun t393 => (impl_IsTurn.l0 kj2 l1 t390 t393 (l1.length : Int) 0 l0_0 l0_1)) = some r := H
    have A19 := Aside0.mk A190
    clear A190
    replace H := Option.bind_eq_some_iff.mp H
    obtain ⟨t393, A200, H⟩ := H
    replace H : (impl_IsTurn.l0 kj2 l1 t390 t393 (l1.length : Int) 0 l0_0 l0_1) = some r := H
    have A20 := Aside0.mk A200
    clear A200
    have H' := Aside0.mk H
    clear H
    have hcz21_0 : wc.cell? ⟨gb387, 0, none⟩ = some (.slice A0_0 l0_0.length c0_0) := (blk_cell BK387.out 0).trans rfl
    have hcz21_1 : wc.cell? ⟨gb387, 1, none⟩ = some (.slice A0_1 l0_1.length c0_1) := (blk_cell BK387.out 1).trans rfl
    have hfz21_0 := blk_frozen BK387.out 0
    have hfz21_1 := blk_frozen BK387.out 1
    go_wp2_with (first | (go_at_call 33; (with_reducible refine (impl_InversePerm.calls kj2 _ _ l0_0 t390 _ ?side1 ?side2 A19.out).mono ?_); (case side1 => repeat (first | exact (Kd.C_below HR0_0.out HB.out) | (with_reducible refine Kd.C_alloc ?_ _) | (with_reducible refine Kd.C_drewN ?_ _) | (with_reducible refine Kd.C_drew ?_))); (case side2 => exact HC0_0.out); rintro e w22 ⟨v391, rfl, ho0, hb⟩; have n0_ := Aside0.mk (Kd.R_lower ho0 (below_size (bX1 HB.out GE387.out))); have n1_ := Aside0.mk (blk_below (g := gb387) (o := .cells #[.slice A0_0 l0_0.length c0_0, .slice A0_1 l0_1.length c0_1] 27 (0, 0)) (kX BK387.out) hb); have n2_ := Aside0.mk (below_step (bX1 HB.out GE387.out) hb); clear BK387; clear HB; have HO392 := n0_; have BK387 := n1_; have HB := n2_; clear n0_ n1_ n2_; (try clear hb); (try clear hb2); (try clear hk); (try clear hi); (try clear ho0); have hcz23_0 : w22.cell? ⟨gb387, 0, none⟩ = some (.slice A0_0 l0_0.length c0_0) := (blk_cell BK387.out 0).trans rfl; have hcz23_1 : w22.cell? ⟨gb387, 1, none⟩ = some (.slice A0_1 l0_1.length c0_1) := (blk_cell BK387.out 1).trans rfl; have hfz23_0 := blk_frozen BK387.out 0; have hfz23_1 := blk_frozen BK387.out 1) | (go_at_call 33; (with_reducible refine (impl_InversePerm.calls kj2 _ _ l0_1 t393 _ ?side1 ?side2 A20.out).mono ?_); (case side1 => repeat (first | exact (Kd.C_below HR0_1.out HB.out) | (with_reducible refine Kd.C_alloc ?_ _) | (with_reducible refine Kd.C_drewN ?_ _) | (with_reducible refine Kd.C_drew ?_))); (case side2 => exact HC0_1.out); rintro e w24 ⟨v394, rfl, ho0, hb⟩; have n0_ := Aside0.mk (Kd.R_elder' (rX HO392.out) (Kd.R_base ho0) hb); have n1_ := Aside0.mk (Kd.R_lower (Kd.R_new' ho0 (Kd.R_lt (rX HO392.out))) (below_size (bX1 HB.out GE387.out))); have n2_ := Aside0.mk (blk_below (g := gb387) (o := .cells #[.slice A0_0 l0_0.length c0_0, .slice A0_1 l0_1.length c0_1] 27 (0, 0)) (kX BK387.out) hb); have n3_ := Aside0.mk (below_step (bX1 HB.out GE387.out) hb); clear HO392; clear BK387; clear HB; have HO392 := n0_; have HO395 := n1_; have BK387 := n2_; have HB := n3_; clear n0_ n1_ n2_ n3_; (try clear hb); (try clear hb2); (try clear hk); (try clear hi); (try clear ho0)))
    repeat (go_quiet (first | (go_at_call 33; (with_reducible refine (impl_InversePerm.calls kj2 _ _ l0_0 t390 _ ?side1 ?side2 A19.out).mono ?_); (case side1 => repeat (first | exact (Kd.C_below HR0_0.out HB.out) | (with_reducible refine Kd.C_alloc ?_ _) | (with_reducible refine Kd.C_drewN ?_ _) | (with_reducible refine Kd.C_drew ?_))); (case side2 => exact HC0_0.out); rintro e w22 ⟨v391, rfl, ho0, hb⟩; have n0_ := Aside0.mk (Kd.R_lower ho0 (below_size (bX1 HB.out GE387.out))); have n1_ := Aside0.mk (blk_below (g := gb387) (o := .cells #[.slice A0_0 l0_0.length c0_0, .slice A0_1 l0_1.length c0_1] 27 (0, 0)) (kX BK387.out) hb); have n2_ := Aside0.mk (below_step (bX1 HB.out GE387.out) hb); clear BK387; clear HB; have HO392 := n0_; have BK387 := n1_; have HB := n2_; clear n0_ n1_ n2_; (try clear hb); (try clear hb2); (try clear hk); (try clear hi); (try clear ho0); have hcz23_0 : w22.cell? ⟨gb387, 0, none⟩ = some (.slice A0_0 l0_0.length c0_0) := (blk_cell BK387.out 0).trans rfl; have hcz23_1 : w22.cell? ⟨gb387, 1, none⟩ = some (.slice A0_1 l0_1.length c0_1) := (blk_cell BK387.out 1).trans rfl; have hfz23_0 := blk_frozen BK387.out 0; have hfz23_1 := blk_frozen BK387.out 1) | (go_at_call 33; (with_reducible refine (impl_InversePerm.calls kj2 _ _ l0_1 t393 _ ?side1 ?side2 A20.out).mono ?_); (case side1 => repeat (first | exact (Kd.C_below HR0_1.out HB.out) | (with_reducible refine Kd.C_alloc ?_ _) | (with_reducible refine Kd.C_drewN ?_ _) | (with_reducible refine Kd.C_drew ?_))); (case side2 => exact HC0_1.out); rintro e w24 ⟨v394, rfl, ho0, hb⟩; have n0_ := Aside0.mk (Kd.R_elder' (rX HO392.out) (Kd.R_base ho0) hb); have n1_ := Aside0.mk (Kd.R_lower (Kd.R_new' ho0 (Kd.R_lt (rX HO392.out))) (below_size (bX1 HB.out GE387.out))); have n2_ := Aside0.mk (blk_below (g := gb387) (o := .cells #[.slice A0_0 l0_0.length c0_0, .slice A0_1 l0_1.length c0_1] 27 (0, 0)) (kX BK387.out) hb); have n3_ := Aside0.mk (below_step (bX1 HB.out GE387.out) hb); clear HO392; clear BK387; clear HB; have HO392 := n0_; have HO395 := n1_; have BK387 := n2_; have HB := n3_; clear n0_ n1_ n2_ n3_; (try clear hb); (try clear hb2); (try clear hk); (try clear hi); (try clear ho0))); try go_wp2_with (first | (go_at_call 33; (with_reducible refine (impl_InversePerm.calls kj2 _ _ l0_0 t390 _ ?side1 ?side2 A19.out).mono ?_); (case side1 => repeat (first | exact (Kd.C_below HR0_0.out HB.out) | (with_reducible refine Kd.C_alloc ?_ _) | (with_reducible refine Kd.C_drewN ?_ _) | (with_reducible refine Kd.C_drew ?_))); (case side2 => exact HC0_0.out); rintro e w22 ⟨v391, rfl, ho0, hb⟩; have n0_ := Aside0.mk (Kd.R_lower ho0 (below_size (bX1 HB.out GE387.out))); have n1_ := Aside0.mk (blk_below (g := gb387) (o := .cells #[.slice A0_0 l0_0.length c0_0, .slice A0_1 l0_1.length c0_1] 27 (0, 0)) (kX BK387.out) hb); have n2_ := Aside0.mk (below_step (bX1 HB.out GE387.out) hb); clear BK387; clear HB; have HO392 := n0_; have BK387 := n1_; have HB := n2_; clear n0_ n1_ n2_; (try clear hb); (try clear hb2); (try clear hk); (try clear hi); (try clear ho0); have hcz23_0 : w22.cell? ⟨gb387, 0, none⟩ = some (.slice A0_0 l0_0.length c0_0) := (blk_cell BK387.out 0).trans rfl; have hcz23_1 : w22.cell? ⟨gb387, 1, none⟩ = some (.slice A0_1 l0_1.length c0_1) := (blk_cell BK387.out 1).trans rfl; have hfz23_0 := blk_frozen BK387.out 0; have hfz23_1 := blk_frozen BK387.out 1) | (go_at_call 33; (with_reducible refine (impl_InversePerm.calls kj2 _ _ l0_1 t393 _ ?side1 ?side2 A20.out).mono ?_); (case side1 => repeat (first | exact (Kd.C_below HR0_1.out HB.out) | (with_reducible refine Kd.C_alloc ?_ _) | (with_reducible refine Kd.C_drewN ?_ _) | (with_reducible refine Kd.C_drew ?_))); (case side2 => exact HC0_1.out); rintro e w24 ⟨v394, rfl, ho0, hb⟩; have n0_ := Aside0.mk (Kd.R_elder' (rX HO392.out) (Kd.R_base ho0) hb); have n1_ := Aside0.mk (Kd.R_lower (Kd.R_new' ho0 (Kd.R_lt (rX HO392.out))) (below_size (bX1 HB.out GE387.out))); have n2_ := Aside0.mk (blk_below (g := gb387) (o := .cells #[.slice A0_0 l0_0.length c0_0, .slice A0_1 l0_1.length c0_1] 27 (0, 0)) (kX BK387.out) hb); have n3_ := Aside0.mk (below_step (bX1 HB.out GE387.out) hb); clear HO392; clear BK387; clear HB; have HO392 := n0_; have HO395 := n1_; have BK387 := n2_; have HB := n3_; clear n0_ n1_ n2_ n3_; (try clear hb); (try clear hb2); (try clear hk); (try clear hi); (try clear ho0))))
    go_loopg [32] kj2 (fun kq v32 w' => ∃ (x32_2 : Int), v32 = .int .i64 x32_2 ∧ Aside0 (impl_IsTurn.l0 kq l1 t390 t393 (l1.length : Int) x32_2 l0_0 l0_1 = some r) ∧ Aside0 (kq ≤ kj2) ∧ Aside0 (Kd.R (Kd.int .i64) 3 w' w.heap.size (fun k_ => some k_ ≠ (v394 : Value).ownBlock) v391 t390) ∧ Aside0 (Kd.R (Kd.int .i64) 3 w' w.heap.size (fun k_ => some k_ ≠ (v391 : Value).ownBlock) v394 t393) ∧ Aside0 (w'.heap[gb387]? = some (.cells #[(.slice A0_0 l0_0.length c0_0), (.slice A0_1 l0_1.length c0_1)] 27 (0, 0))) ∧ Aside0 (Below w.heap.size w w'))
    case atStart => exact ⟨(0), vX, H', ⟨Nat.le_refl _⟩, ⟨rM HO392.out (fun _ hk => hk.2)⟩, ⟨rM HO395.out (fun _ hk => hk.2)⟩, ⟨kX BK387.out⟩, ⟨bX1 HB.out GE387.out⟩⟩
    case round =>
     clear H'
     try clear c1
     try clear p2
     try clear c3
     try clear c6
     try clear c8
     try clear c18
     try clear hcz12_0
     try clear hcz12_1
     try clear hcz13_0
     try clear hcz13_1
     try clear hcz16_0
     try clear hcz16_1
     try clear hcz21_0
     try clear hcz21_1
     try clear hcz23_0
     try clear hcz23_1
     try clear hcz9_0
     try clear hcz9_1
     try clear hfz12_0
     try clear hfz12_1
     try clear hfz13_0
     try clear hfz13_1
     try clear hfz16_0
     try clear hfz16_1
     try clear hfz21_0
     try clear hfz21_1
     try clear hfz23_0
     try clear hfz23_1
     try clear hfz9_0
     try clear hfz9_1
     try clear p2
     obtain ⟨x32_2, rfl, HA, HK2, HO_5, HO_6, BK387, HB⟩ := hrel
     cases gk with
     | zero => exact absurd HA.out (by simp [impl_IsTurn.l0])
     | succ k2 =>
      have H := HA.out
      clear HA
      simp only [impl_IsTurn.l0] at H
      by_cases c25 : x32_2 < (l1.length : Int)
      ·rw [if_pos c25] at H
       have c25b0 : decide (x32_2 < (l1.length : Int)) = true := decide_eq_true c25
       clear c25
       by_cases c26 : 0 ≤ x32_2
       ·rw [if_pos c26] at H
        have c26b0 : decide (0 ≤ x32_2) = true := decide_eq_true c26
        clear c26
        by_cases c27 : x32_2 < (l0_0.length : Int)
        ·rw [if_pos c27] at H
         have c27b0 : decide (x32_2 < (l0_0.length : Int)) = true := decide_eq_true c27
         clear c27
         by_cases c28 : 0 ≤ (rd l0_0 x32_2)
         ·rw [if_pos c28] at H
          have c28b0 : decide (0 ≤ (rd l0_0 x32_2)) = true := decide_eq_true c28
          clear c28
          by_cases c29 : (rd l0_0 x32_2) < (l1.length : Int)
          ·rw [if_pos c29] at H
           have c29b0 : decide ((rd l0_0 x32_2) < (l1.length : Int)) = true := decide_eq_true c29
           clear c29
           by_cases c30 : x32_2 < (l1.length : Int)
           ·rw [if_pos c30] at H
            have c30b0 : decide (x32_2 < (l1.length : Int)) = true := decide_eq_true c30
            clear c30
            by_cases c31 : 0 ≤ (rd l1 x32_2)
            ·rw [if_pos c31] at H
             have c31b0 : decide (0 ≤ (rd l1 x32_2)) = true := decide_eq_true c31
             clear c31
             by_cases c32 : (rd l1 x32_2) < (t390.length : Int)
             ·rw [if_pos c32] at H
              have c32b0 : decide ((rd l1 x32_2) < (t390.length : Int)) = true := decide_eq_true c32
              clear c32
              by_cases c33 : (rd l1 (rd l0_0 x32_2)) = (rd t390 (rd l1 x32_2))
              ·rw [if_pos c33] at H
               have c33b0 : ((rd l1 (rd l0_0 x32_2)) == (rd t390 (rd l1 x32_2))) = true := beq_iff_eq.mpr c33
               have c33b1 : ((rd l1 (rd l0_0 x32_2)) != (rd t390 (rd l1 x32_2))) = false := bne_eq_false_iff_eq.mpr c33
               clear c33
               by_cases c34 : x32_2 < (l0_1.length : Int)
               ·rw [if_pos c34] at H
                have c34b0 : decide (x32_2 < (l0_1.length : Int)) = true := decide_eq_true c34
                clear c34
                by_cases c35 : 0 ≤ (rd l0_1 x32_2)
                ·rw [if_pos c35] at H
                 have c35b0 : decide (0 ≤ (rd l0_1 x32_2)) = true := decide_eq_true c35
                 clear c35
                 by_cases c36 : (rd l0_1 x32_2) < (l1.length : Int)
                 ·rw [if_pos c36] at H
                  have c36b0 : decide ((rd l0_1 x32_2) < (l1.length : Int)) = true := decide_eq_true c36
                  clear c36
                  by_cases c37 : (rd l1 x32_2) < (t393.length : Int)
                  ·rw [if_pos c37] at H
                   have c37b0 : decide ((rd l1 x32_2) < (t393.length : Int)) = true := decide_eq_true c37
                   clear c37
                   by_cases c38 : (rd l1 (rd l0_1 x32_2)) = (rd t393 (rd l1 x32_2))
                   ·rw [if_pos c38] at H
                    have c38b0 : ((rd l1 (rd l0_1 x32_2)) == (rd t393 (rd l1 x32_2))) = true := beq_iff_eq.mpr c38
                    have c38b1 : ((rd l1 (rd l0_1 x32_2)) != (rd t393 (rd l1 x32_2))) = false := bne_eq_false_iff_eq.mpr c38
                    clear c38
                    have H' := Aside0.mk H
                    clear H
                    have hcz39_0 : wr.cell? ⟨gb387, 0, none⟩ = some (.slice A0_0 l0_0.length c0_0) := (blk_cell BK387.out 0).trans rfl
                    have hcz39_1 : wr.cell? ⟨gb387, 1, none⟩ = some (.slice A0_1 l0_1.length c0_1) := (blk_cell BK387.out 1).trans rfl
                    have hfz39_0 := blk_frozen BK387.out 0
                    have hfz39_1 := blk_frozen BK387.out 1
                    have p396 : 0 ≤ (x32_2 : Int) := dX
                    have q396 : x32_2 < (l0_0.length : Int) := dX
                    obtain ⟨ad396, e396, hx396_0⟩ := Kd.at_int HR0_0.out x32_2 p396 q396
                    cases e396
                    replace hx396_0 := (HB.out.cell (World.block_lt_of_cell? w _ hx396_0)).trans hx396_0
                    replace p396 := eq_true p396
                    replace q396 := eq_true q396
                    have p397 : 0 ≤ ((rd l0_0 x32_2) : Int) := dX
                    have q397 : (rd l0_0 x32_2) < (l1.length : Int) := dX
                    obtain ⟨ad397, e397, hx397_0⟩ := Kd.at_int HR1.out (rd l0_0 x32_2) p397 q397
                    cases e397
                    replace hx397_0 := (HB.out.cell (World.block_lt_of_cell? w _ hx397_0)).trans hx397_0
                    replace p397 := eq_true p397
                    replace q397 := eq_true q397
                    have p398 : 0 ≤ (x32_2 : Int) := dX
                    have q398 : x32_2 < (l1.length : Int) := dX
                    obtain ⟨ad398, e398, hx398_0⟩ := Kd.at_int HR1.out x32_2 p398 q398
                    obtain rfl : ad397 = ad398 := (by injection e398)
                    replace hx398_0 := (HB.out.cell (World.block_lt_of_cell? w _ hx398_0)).trans hx398_0
                    replace p398 := eq_true p398
                    replace q398 := eq_true q398
                    obtain ⟨Ao40, co40, eo40⟩ := Kd.R_slice HO_5.out
                    subst eo40
                    have p399 : 0 ≤ ((rd l1 x32_2) : Int) := dX
                    have q399 : (rd l1 x32_2) < (t390.length : Int) := dX
                    obtain ⟨ad399, e399, hx399_0⟩ := Kd.at_int (Kd.R_reads' HO_5.out).2.2 (rd l1 x32_2) p399 q399
                    cases e399
                    replace p399 := eq_true p399
                    replace q399 := eq_true q399
                    have p400 : 0 ≤ (x32_2 : Int) := dX
                    have q400 : x32_2 < (l0_1.length : Int) := dX
                    obtain ⟨ad400, e400, hx400_0⟩ := Kd.at_int HR0_1.out x32_2 p400 q400
                    cases e400
                    replace hx400_0 := (HB.out.cell (World.block_lt_of_cell? w _ hx400_0)).trans hx400_0
                    replace p400 := eq_true p400
                    replace q400 := eq_true q400
                    have p401 : 0 ≤ ((rd l0_1 x32_2) : Int) := dX
                    have q401 : (rd l0_1 x32_2) < (l1.length : Int) := dX
                    obtain ⟨ad401, e401, hx401_0⟩ := Kd.at_int HR1.out (rd l0_1 x32_2) p401 q401
                    obtain rfl : ad397 = ad401 := (by injection e401)
                    replace hx401_0 := (HB.out.cell (World.block_lt_of_cell? w _ hx401_0)).trans hx401_0
                    replace p401 := eq_true p401
                    replace q401 := eq_true q401
                    have p402 : 0 ≤ (x32_2 : Int) := dX
                    have q402 : x32_2 < (l1.length : Int) := dX
                    obtain ⟨ad402, e402, hx402_0⟩ := Kd.at_int HR1.out x32_2 p402 q402
                    obtain rfl : ad397 = ad402 := (by injection e402)
                    replace hx402_0 := (HB.out.cell (World.block_lt_of_cell? w _ hx402_0)).trans hx402_0
                    replace p402 := eq_true p402
                    replace q402 := eq_true q402
                    obtain ⟨Ao41, co41, eo41⟩ := Kd.R_slice HO_6.out
                    subst eo41
                    have p403 : 0 ≤ ((rd l1 x32_2) : Int) := dX
                    have q403 : (rd l1 x32_2) < (t393.length : Int) := dX
                    obtain ⟨ad403, e403, hx403_0⟩ := Kd.at_int (Kd.R_reads' HO_6.out).2.2 (rd l1 x32_2) p403 q403
                    cases e403
                    replace p403 := eq_true p403
                    replace q403 := eq_true q403
                    go_wp2
                    repeat (go_quiet (fail); try go_wp2)
                    go_roundg k2
                    case measure => have := HJ2.out; have := HK2.out; omega
                    case rel => exact ⟨(wrap64 (x32_2 + 1)), vX, H', ⟨by have := HJ2.out; have := HK2.out; omega⟩, ⟨rX HO_5.out⟩, ⟨rX HO_6.out⟩, ⟨kX BK387.out⟩, ⟨bX1 HB.out GE387.out⟩⟩
                   ·rw [if_neg c38] at H
                    have c38b0 : ((rd l1 (rd l0_1 x32_2)) == (rd t393 (rd l1 x32_2))) = false := beq_eq_false_iff_ne.mpr c38
                    have c38b1 : ((rd l1 (rd l0_1 x32_2)) != (rd t393 (rd l1 x32_2))) = true := bne_iff_ne.mpr c38
                    obtain rfl := Option.some.inj H
                    have hcz42_0 : wr.cell? ⟨gb387, 0, none⟩ = some (.slice A0_0 l0_0.length c0_0) := (blk_cell BK387.out 0).trans rfl
                    have hcz42_1 : wr.cell? ⟨gb387, 1, none⟩ = some (.slice A0_1 l0_1.length c0_1) := (blk_cell BK387.out 1).trans rfl
                    have hfz42_0 := blk_frozen BK387.out 0
                    have hfz42_1 := blk_frozen BK387.out 1
                    have p396 : 0 ≤ (x32_2 : Int) := dX
                    have q396 : x32_2 < (l0_0.length : Int) := dX
                    obtain ⟨ad396, e396, hx396_0⟩ := Kd.at_int HR0_0.out x32_2 p396 q396
                    cases e396
                    replace hx396_0 := (HB.out.cell (World.block_lt_of_cell? w _ hx396_0)).trans hx396_0
                    replace p396 := eq_true p396
                    replace q396 := eq_true q396
                    have p397 : 0 ≤ ((rd l0_0 x32_2) : Int) := dX
                    have q397 : (rd l0_0 x32_2) < (l1.length : Int) := dX
                    obtain ⟨ad397, e397, hx397_0⟩ := Kd.at_int HR1.out (rd l0_0 x32_2) p397 q397
                    cases e397
                    replace hx397_0 := (HB.out.cell (World.block_lt_of_cell? w _ hx397_0)).trans hx397_0
                    replace p397 := eq_true p397
                    replace q397 := eq_true q397
                    have p398 : 0 ≤ (x32_2 : Int) := dX
                    have q398 : x32_2 < (l1.length : Int) := dX
                    obtain ⟨ad398, e398, hx398_0⟩ := Kd.at_int HR1.out x32_2 p398 q398
                    obtain rfl : ad397 = ad398 := (by injection e398)
                    replace hx398_0 := (HB.out.cell (World.block_lt_of_cell? w _ hx398_0)).trans hx398_0
                    replace p398 := eq_true p398
                    replace q398 := eq_true q398
                    obtain ⟨Ao43, co43, eo43⟩ := Kd.R_slice HO_5.out
                    subst eo43
                    have p399 : 0 ≤ ((rd l1 x32_2) : Int) := dX
                    have q399 : (rd l1 x32_2) < (t390.length : Int) := dX
                    obtain ⟨ad399, e399, hx399_0⟩ := Kd.at_int (Kd.R_reads' HO_5.out).2.2 (rd l1 x32_2) p399 q399
                    cases e399
                    replace p399 := eq_true p399
                    replace q399 := eq_true q399
                    have p400 : 0 ≤ (x32_2 : Int) := dX
                    have q400 : x32_2 < (l0_1.length : Int) := dX
                    obtain ⟨ad400, e400, hx400_0⟩ := Kd.at_int HR0_1.out x32_2 p400 q400
                    cases e400
                    replace hx400_0 := (HB.out.cell (World.block_lt_of_cell? w _ hx400_0)).trans hx400_0
                    replace p400 := eq_true p400
                    replace q400 := eq_true q400
                    have p401 : 0 ≤ ((rd l0_1 x32_2) : Int) := dX
                    have q401 : (rd l0_1 x32_2) < (l1.length : Int) := dX
                    obtain ⟨ad401, e401, hx401_0⟩ := Kd.at_int HR1.out (rd l0_1 x32_2) p401 q401
                    obtain rfl : ad397 = ad401 := (by injection e401)
                    replace hx401_0 := (HB.out.cell (World.block_lt_of_cell? w _ hx401_0)).trans hx401_0
                    replace p401 := eq_true p401
                    replace q401 := eq_true q401
                    have p402 : 0 ≤ (x32_2 : Int) := dX
                    have q402 : x32_2 < (l1.length : Int) := dX
                    obtain ⟨ad402, e402, hx402_0⟩ := Kd.at_int HR1.out x32_2 p402 q402
                    obtain rfl : ad397 = ad402 := (by injection e402)
                    replace hx402_0 := (HB.out.cell (World.block_lt_of_cell? w _ hx402_0)).trans hx402_0
                    replace p402 := eq_true p402
                    replace q402 := eq_true q402
                    obtain ⟨Ao44, co44, eo44⟩ := Kd.R_slice HO_6.out
                    subst eo44
                    have p403 : 0 ≤ ((rd l1 x32_2) : Int) := dX
                    have q403 : (rd l1 x32_2) < (t393.length : Int) := dX
                    obtain ⟨ad403, e403, hx403_0⟩ := Kd.at_int (Kd.R_reads' HO_6.out).2.2 (rd l1 x32_2) p403 q403
                    cases e403
                    replace p403 := eq_true p403
                    replace q403 := eq_true q403
                    go_wp2
                    repeat (go_quiet (fail); try go_wp2)
                    go_ret
                    exact ⟨eX, bX1 HB.out GE387.out⟩
                  ·rw [if_neg c37] at H
                   exact absurd H (by simp)
                 ·rw [if_neg c36] at H
                  exact absurd H (by simp)
                ·rw [if_neg c35] at H
                 exact absurd H (by simp)
               ·rw [if_neg c34] at H
                exact absurd H (by simp)
              ·rw [if_neg c33] at H
               have c33b0 : ((rd l1 (rd l0_0 x32_2)) == (rd t390 (rd l1 x32_2))) = false := beq_eq_false_iff_ne.mpr c33
               have c33b1 : ((rd l1 (rd l0_0 x32_2)) != (rd t390 (rd l1 x32_2))) = true := bne_iff_ne.mpr c33
               obtain rfl := Option.some.inj H
               have hcz45_0 : wr.cell? ⟨gb387, 0, none⟩ = some (.slice A0_0 l0_0.length c0_0) := (blk_cell BK387.out 0).trans rfl
               have hcz45_1 : wr.cell? ⟨gb387, 1, none⟩ = some (.slice A0_1 l0_1.length c0_1) := (blk_cell BK387.out 1).trans rfl
               have hfz45_0 := blk_frozen BK387.out 0
               have hfz45_1 := blk_frozen BK387.out 1
               have p396 : 0 ≤ (x32_2 : Int) := dX
               have q396 : x32_2 < (l0_0.length : Int) := dX
               obtain ⟨ad396, e396, hx396_0⟩ := Kd.at_int HR0_0.out x32_2 p396 q396
               cases e396
               replace hx396_0 := (HB.out.cell (World.block_lt_of_cell? w _ hx396_0)).trans hx396_0
               replace p396 := eq_true p396
               replace q396 := eq_true q396
               have p397 : 0 ≤ ((rd l0_0 x32_2) : Int) := dX
               have q397 : (rd l0_0 x32_2) < (l1.length : Int) := dX
               obtain ⟨ad397, e397, hx397_0⟩ := Kd.at_int HR1.out (rd l0_0 x32_2) p397 q397
               cases e397
               replace hx397_0 := (HB.out.cell (World.block_lt_of_cell? w _ hx397_0)).trans hx397_0
               replace p397 := eq_true p397
               replace q397 := eq_true q397
               have p398 : 0 ≤ (x32_2 : Int) := dX
               have q398 : x32_2 < (l1.length : Int) := dX
               obtain ⟨ad398, e398, hx398_0⟩ := Kd.at_int HR1.out x32_2 p398 q398
               obtain rfl : ad397 = ad398 := (by injection e398)
               replace hx398_0 := (HB.out.cell (World.block_lt_of_cell? w _ hx398_0)).trans hx398_0
               replace p398 := eq_true p398
               replace q398 := eq_true q398
               obtain ⟨Ao46, co46, eo46⟩ := Kd.R_slice HO_5.out
               subst eo46
               have p399 : 0 ≤ ((rd l1 x32_2) : Int) := dX
               have q399 : (rd l1 x32_2) < (t390.length : Int) := dX
               obtain ⟨ad399, e399, hx399_0⟩ := Kd.at_int (Kd.R_reads' HO_5.out).2.2 (rd l1 x32_2) p399 q399
               cases e399
               replace p399 := eq_true p399
               replace q399 := eq_true q399
               go_wp2
               repeat (go_quiet (fail); try go_wp2)
               go_ret
               exact ⟨eX, bX1 HB.out GE387.out⟩
             ·rw [if_neg c32] at H
              exact absurd H (by simp)
            ·rw [if_neg c31] at H
             exact absurd H (by simp)
           ·rw [if_neg c30] at H
            exact absurd H (by simp)
          ·rw [if_neg c29] at H
           exact absurd H (by simp)
         ·rw [if_neg c28] at H
          exact absurd H (by simp)
        ·rw [if_neg c27] at H
         exact absurd H (by simp)
       ·rw [if_neg c26] at H
        exact absurd H (by simp)
      ·rw [if_neg c25] at H
       have c25b0 : decide (x32_2 < (l1.length : Int)) = false := decide_eq_false c25
       clear c25
       obtain rfl := Option.some.inj H
       go_wp2
       repeat (go_quiet (fail); try go_wp2)
       go_ret
       exact ⟨eX, bX1 HB.out GE387.out⟩

/-! ### impl_TurnsOf: function 15 -/
def impl_TurnsOf.l0 : Nat → List (List Int) → Int → Int → List Int → List Int → Option ((List (List Int)))
 | 0, _, _, _, _, _ => none
 | k + 1, x3, x12, x13, x405000, x405001 => if x13 < x12 then ((impl_turnTo.f k x405000 x405001 x13).bind fun t409 => ((impl_IsTurn.f k x405000 x405001 t409).bind fun t412 => (if t412 = true then (if x3.length < 5864062014805 then (impl_TurnsOf.l0 k (x3 ++ [t409]) x12 (wrap64 (x13 + 1)) x405000 x405001) else (none)) else (impl_TurnsOf.l0 k x3 x12 (wrap64 (x13 + 1)) x405000 x405001)))) else (some x3)
def impl_TurnsOf.f (k : Nat) (l0_0 : List Int) (l0_1 : List Int) : Option ((List (List Int))) := (impl_SurfaceOk.f k l0_0 l0_1).bind fun t405 => (if t405 = true then (impl_TurnsOf.l0 k (([] : List (List Int))) (l0_0.length : Int) 0 l0_0 l0_1) else (some ([] : List (List Int))))
set_option maxHeartbeats 8000000 in
set_option maxRecDepth 100000 in
theorem impl_TurnsOf.calls (k : Nat) (A0_0 : Option Addr) (c0_0 : Nat) (l0_0 : List Int) (A0_1 : Option Addr) (c0_1 : Nat) (l0_1 : List Int) (r : List (List Int)) (w : World) (hr0_0 : Kd.C (Kd.int .i64) w A0_0 l0_0.length l0_0) (hc0_0 : l0_0.length ≤ c0_0) (hr0_1 : Kd.C (Kd.int .i64) w A0_1 l0_1.length l0_1) (hc0_1 : l0_1.length ≤ c0_1) (h : impl_TurnsOf.f k l0_0 l0_1 = some r) :
  Calls Tryd.prog 15 #[.agg #[.slice A0_0 l0_0.length c0_0, .slice A0_1 l0_1.length c0_1]] w fun e w' => ∃ v0_ : Value, e = .returned (v0_) ∧ Kd.S (Kd.slice 3 (Kd.int .i64)) 22 w' w.heap.size (fun _ => True) v0_ r ∧ Below w.heap.size w w' := by
 have hu27 := Tryd.underlying27
 have HR0_0 := Aside0.mk hr0_0
 have HC0_0 := Aside0.mk hc0_0
 clear hr0_0 hc0_0
 have HR0_1 := Aside0.mk hr0_1
 have HC0_1 := Aside0.mk hc0_1
 clear hr0_1 hc0_1
 have HB := Aside0.mk (Below.refl w.heap.size w)
 have H : ((impl_SurfaceOk.f k l0_0 l0_1).bind fun t405 => (if t405 = true then (impl_TurnsOf.l0 k (([] : List (List Int))) (l0_0.length : Int) 0 l0_0 l0_1) else (some ([] : List (List Int))))) = some r := h
 clear h
 replace H := Option.bind_eq_some_iff.mp H
 obtain ⟨t405, A20, H⟩ := H
 replace H : (if t405 = true then (impl_TurnsOf.l0 k (([] : List (List Int))) (l0_0.length : Int) 0 l0_0 l0_1) else (some ([] : List (List Int)))) = some r := H
 have A2 := Aside0.mk A20
 clear A20
 by_cases c3 : t405 = true
 ·subst c3
  have H1 : (impl_TurnsOf.l0 k (([] : List (List Int))) (l0_0.length : Int) 0 l0_0 l0_1) = some r := by rw [if_pos rfl] at H; exact H
  clear H
  have H := H1
  clear H1
  obtain ⟨y406, hy406⟩ : ∃ y_ : List (List Int), y_ = (([] : List (List Int))) := ⟨_, rfl⟩
  replace H : (impl_TurnsOf.l0 k y406 (l0_0.length : Int) 0 l0_0 l0_1) = some r := by first | (rw [hy406]; with_reducible exact H) | (have H2_ := (Option.bind_some _ _).symm.trans H; rw [hy406]; with_reducible exact H2_) | (have H2_ := (Option.bind_some _ _).symm.trans H; with_reducible exact H2_) | with_reducible exact H | (rw [hy406]; exact H) | exact H
  have Ny406 := Aside0.mk hy406
  clear hy406
  have H' := Aside0.mk H
  clear H
  go_enter Tryd.func15, Tryd.ntmps15
  go_wp2_with (first | ((with_reducible refine gate_dst (N := 1) rfl ?_); refine box_event ?hg (N := 1) ?hd (cs := #[.slice A0_0 l0_0.length c0_0, .slice A0_1 l0_1.length c0_1]) (t := 27) ?hr ?_; (case hd => rfl); (case hg => rfl); (case hr => first | (go_simp; done) | (go_simp; rfl)); intro gb404 hg w4 hbox hb; have n0_ := Aside0.mk (below_step (bX HB.out) hb); have n1_ := Aside0.mk (hbox); have n2_ := Aside0.mk ((by rw [hg]; exact (below_size (bX HB.out)) : w.heap.size ≤ gb404)); have n3_ := Aside0.mk ((by rw [hg]; exact (below_size (bX HB.out)) : w.heap.size ≤ gb404)); clear HB; have HB := n0_; have BK404 := n1_; have GW404 := n2_; have GE404 := n3_; clear n0_ n1_ n2_ n3_; clear hb hbox hg; have hcz5_0 : w4.cell? ⟨gb404, 0, none⟩ = some (.slice A0_0 l0_0.length c0_0) := (blk_cell BK404.out 0).trans rfl; have hcz5_1 : w4.cell? ⟨gb404, 1, none⟩ = some (.slice A0_1 l0_1.length c0_1) := (blk_cell BK404.out 1).trans rfl; have hfz5_0 := blk_frozen BK404.out 0; have hfz5_1 := blk_frozen BK404.out 1) | ((with_reducible refine gate_callee (f := 30) rfl ?_); refine goesL_ (some 7) rfl rfl Tryd.func30 (by kernel_rfl) rfl #[.agg #[.slice A0_0 l0_0.length c0_0, .slice A0_1 l0_1.length c0_1]] rfl (by (try simp only [zE,zF,zG]); first|done|rfl|(simp only [zH,zI]; rfl)) ?_; (with_reducible refine (impl_SurfaceOk.calls k _ _ l0_0 _ _ l0_1 true _ ?side1 ?side2 ?side3 ?side4 A2.out).mono ?_); (case side1 => repeat (first | exact (Kd.C_below HR0_0.out HB.out) | (with_reducible refine Kd.C_alloc ?_ _) | (with_reducible refine Kd.C_drewN ?_ _) | (with_reducible refine Kd.C_drew ?_))); (case side2 => exact HC0_0.out); (case side3 => repeat (first | exact (Kd.C_below HR0_1.out HB.out) | (with_reducible refine Kd.C_alloc ?_ _) | (with_reducible refine Kd.C_drewN ?_ _) | (with_reducible refine Kd.C_drew ?_))); (case side4 => exact HC0_1.out); rintro e w6 ⟨rfl, hb⟩; refine ⟨_, rfl, ?_⟩; have n0_ := Aside0.mk (blk_below (g := gb404) (o := .cells #[.slice A0_0 l0_0.length c0_0, .slice A0_1 l0_1.length c0_1] 27 (0, 0)) (kX BK404.out) hb); have n1_ := Aside0.mk (below_step (bX1 HB.out GE404.out) hb); clear BK404; clear HB; have BK404 := n0_; have HB := n1_; clear n0_ n1_; (try clear hb); (try clear hb2); (try clear hk); (try clear hi)) | ((with_reducible refine gate_dst (N := 9) rfl ?_); refine Kd.S_lit (Kd.slice 3 (Kd.int .i64)) _ 22 ?hg (N := 9) ?hd (xs := ([] : List (List Int))) (inner := []) (ok := fun _ => True) (okp := fun _ => True) ?hr ?hp (fun _ hk => hk) trivial (Below.refl _ _) (Nat.le_refl _) (by simp) ?_; (case hd => rfl); (case hg => rfl); (case hr => first | (go_simp; done) | (go_simp; rfl)); (case hp => exact (Reps.none _ _)); intro v407 w7 ho8 hb hg_ hnew_; clear hg_ hnew_; (first | rw [← Ny406.out] at ho8 | (simp only [Int.reduceToNat] at ho8; rw [← Ny406.out] at ho8)); have n0_ := Aside0.mk (Kd.S_lower ho8 (below_size (bX1 HB.out GE404.out))); have n1_ := Aside0.mk (blk_below (g := gb404) (o := .cells #[.slice A0_0 l0_0.length c0_0, .slice A0_1 l0_1.length c0_1] 27 (0, 0)) (kX BK404.out) hb); have n2_ := Aside0.mk (below_step (bX1 HB.out GE404.out) hb); clear BK404; clear HB; have HO408 := n0_; have BK404 := n1_; have HB := n2_; clear n0_ n1_ n2_; clear hb ho8; have hcz9_0 : w7.cell? ⟨gb404, 0, none⟩ = some (.slice A0_0 l0_0.length c0_0) := (blk_cell BK404.out 0).trans rfl; have hcz9_1 : w7.cell? ⟨gb404, 1, none⟩ = some (.slice A0_1 l0_1.length c0_1) := (blk_cell BK404.out 1).trans rfl; have hfz9_0 := blk_frozen BK404.out 0; have hfz9_1 := blk_frozen BK404.out 1))
  go_loopg [3, 13] k (fun kq v3 v13 w' => ∃ (x3_1 : List (List Int)) (x13_1 : Int), v13 = .int .i64 x13_1 ∧ Aside0 (impl_TurnsOf.l0 kq x3_1 (l0_0.length : Int) x13_1 l0_0 l0_1 = some r) ∧ Aside0 (kq ≤ k) ∧ Aside0 (Kd.S (Kd.slice 3 (Kd.int .i64)) 22 w' w.heap.size (fun _ => True) v3 x3_1) ∧ Aside0 (w'.heap[gb404]? = some (.cells #[(.slice A0_0 l0_0.length c0_0), (.slice A0_1 l0_1.length c0_1)] 27 (0, 0))) ∧ Aside0 (Below w.heap.size w w'))
  case atStart => exact ⟨(y406), (0), vX, H', ⟨Nat.le_refl _⟩, ⟨by (with_reducible repeat (first | apply Kd.S_alloc | apply Kd.S_drewN | apply Kd.S_drew)); exact HO408.out⟩, ⟨kX BK404.out⟩, ⟨bX1 HB.out GE404.out⟩⟩
  case round =>
   clear H'
   try clear c1
   try clear p2
   try clear c3
   try clear hcz5_0
   try clear hcz5_1
   try clear hcz9_0
   try clear hcz9_1
   try clear hfz5_0
   try clear hfz5_1
   try clear hfz9_0
   try clear hfz9_1
   obtain ⟨x3_1, x13_1, rfl, HA, HK1, HO_3, BK404, HB⟩ := hrel
   cases gk with
   | zero => exact absurd HA.out (by simp [impl_TurnsOf.l0])
   | succ k1 =>
    have H := HA.out
    clear HA
    simp only [impl_TurnsOf.l0] at H
    by_cases c10 : x13_1 < (l0_0.length : Int)
    ·rw [if_pos c10] at H
     have c10b0 : decide (x13_1 < (l0_0.length : Int)) = true := decide_eq_true c10
     clear c10
     replace H := Option.bind_eq_some_iff.mp H
     obtain ⟨t409, A110, H⟩ := H
     replace H : ((impl_IsTurn.f k1 l0_0 l0_1 t409).bind fun t412 => (if t412 = true then (if x3_1.length < 5864062014805 then (impl_TurnsOf.l0 k1 (x3_1 ++ [t409]) (l0_0.length : Int) (wrap64 (x13_1 + 1)) l0_0 l0_1) else (none)) else (impl_TurnsOf.l0 k1 x3_1 (l0_0.length : Int) (wrap64 (x13_1 + 1)) l0_0 l0_1))) = some r := H
     have A11 := Aside0.mk A110
     clear A110
     replace H := Option.bind_eq_some_iff.mp H
     obtain ⟨t412, A120, H⟩ := H
     replace H : (if t412 = true then (if x3_1.length < 5864062014805 then (impl_TurnsOf.l0 k1 (x3_1 ++ [t409]) (l0_0.length : Int) (wrap64 (x13_1 + 1)) l0_0 l0_1) else (none)) else (impl_TurnsOf.l0 k1 x3_1 (l0_0.length : Int) (wrap64 (x13_1 + 1)) l0_0 l0_1)) = some r := H
     have A12 := Aside0.mk A120
     clear A120
     by_cases c13 : t412 = true
     ·subst c13
      have H1 : (if x3_1.length < 5864062014805 then (impl_TurnsOf.l0 k1 (x3_1 ++ [t409]) (l0_0.length : Int) (wrap64 (x13_1 + 1)) l0_0 l0_1) else (none)) = some r := by rw [if_pos rfl] at H; exact H
      clear H
      have H := H1
      clear H1
      by_cases c14 : x3_1.length < 5864062014805
      ·rw [if_pos c14] at H
       have LMc14 := Aside0.mk c14
       clear c14
       obtain ⟨y413, hy413⟩ : ∃ y_ : List (List Int), y_ = (x3_1 ++ [t409]) := ⟨_, rfl⟩
       replace H : (impl_TurnsOf.l0 k1 y413 (l0_0.length : Int) (wrap64 (x13_1 + 1)) l0_0 l0_1) = some r := by first | (rw [hy413]; with_reducible exact H) | (have H2_ := (Option.bind_some _ _).symm.trans H; rw [hy413]; with_reducible exact H2_) | (have H2_ := (Option.bind_some _ _).symm.trans H; with_reducible exact H2_) | with_reducible exact H | (rw [hy413]; exact H) | exact H
       have Ny413 := Aside0.mk hy413
       clear hy413
       have H' := Aside0.mk H
       clear H
       have hcz15_0 : wr.cell? ⟨gb404, 0, none⟩ = some (.slice A0_0 l0_0.length c0_0) := (blk_cell BK404.out 0).trans rfl
       have hcz15_1 : wr.cell? ⟨gb404, 1, none⟩ = some (.slice A0_1 l0_1.length c0_1) := (blk_cell BK404.out 1).trans rfl
       have hfz15_0 := blk_frozen BK404.out 0
       have hfz15_1 := blk_frozen BK404.out 1
       go_wp2_with (first | ((with_reducible refine gate_callee (f := 31) rfl ?_); refine goesL_ (some 18) rfl rfl Tryd.func31 (by kernel_rfl) rfl #[.agg #[.slice A0_0 l0_0.length c0_0, .slice A0_1 l0_1.length c0_1], .int .i64 x13_1] rfl (by (try simp only [zE,zF,zG]); first|done|rfl|(simp only [zH,zI]; rfl)) ?_; (with_reducible refine (impl_turnTo.calls k1 _ _ l0_0 _ _ l0_1 x13_1 t409 _ ?side1 ?side2 ?side3 ?side4 A11.out).mono ?_); (case side1 => repeat (first | exact (Kd.C_below HR0_0.out HB.out) | (with_reducible refine Kd.C_alloc ?_ _) | (with_reducible refine Kd.C_drewN ?_ _) | (with_reducible refine Kd.C_drew ?_))); (case side2 => exact HC0_0.out); (case side3 => repeat (first | exact (Kd.C_below HR0_1.out HB.out) | (with_reducible refine Kd.C_alloc ?_ _) | (with_reducible refine Kd.C_drewN ?_ _) | (with_reducible refine Kd.C_drew ?_))); (case side4 => exact HC0_1.out); rintro e w16 ⟨v410, rfl, ho0, hb⟩; refine ⟨_, rfl, ?_⟩; have n0_ := Aside0.mk (Kd.S_elder' (by (with_reducible repeat (first | apply Kd.S_alloc | apply Kd.S_drewN | apply Kd.S_drew)); exact HO_3.out) (Kd.R_base ho0) hb); have n1_ := Aside0.mk (Kd.R_lower ho0 (below_size (bX1 HB.out GE404.out))); have n2_ := Aside0.mk (blk_below (g := gb404) (o := .cells #[.slice A0_0 l0_0.length c0_0, .slice A0_1 l0_1.length c0_1] 27 (0, 0)) (kX BK404.out) hb); have n3_ := Aside0.mk (below_step (bX1 HB.out GE404.out) hb); clear HO_3; clear BK404; clear HB; have HO_3 := n0_; have HO411 := n1_; have BK404 := n2_; have HB := n3_; clear n0_ n1_ n2_ n3_; (try clear hb); (try clear hb2); (try clear hk); (try clear hi); (try clear ho0); have hcz17_0 : w16.cell? ⟨gb404, 0, none⟩ = some (.slice A0_0 l0_0.length c0_0) := (blk_cell BK404.out 0).trans rfl; have hcz17_1 : w16.cell? ⟨gb404, 1, none⟩ = some (.slice A0_1 l0_1.length c0_1) := (blk_cell BK404.out 1).trans rfl; have hfz17_0 := blk_frozen BK404.out 0; have hfz17_1 := blk_frozen BK404.out 1; obtain ⟨Ao18, co18, eo18⟩ := Kd.R_slice HO411.out; subst eo18) | ((with_reducible refine gate_callee (f := 32) rfl ?_); refine goesL_ (some 21) rfl rfl Tryd.func32 (by kernel_rfl) rfl #[.agg #[.slice A0_0 l0_0.length c0_0, .slice A0_1 l0_1.length c0_1], .slice Ao18 t409.length co18] rfl (by (try simp only [zE,zF,zG]); first|done|rfl|(simp only [zH,zI]; rfl)) ?_; (with_reducible refine (impl_IsTurn.calls k1 _ _ l0_0 _ _ l0_1 _ _ t409 true _ ?side1 ?side2 ?side3 ?side4 ?side5 ?side6 A12.out).mono ?_); (case side1 => repeat (first | exact (Kd.C_below HR0_0.out HB.out) | (with_reducible refine Kd.C_alloc ?_ _) | (with_reducible refine Kd.C_drewN ?_ _) | (with_reducible refine Kd.C_drew ?_))); (case side2 => exact HC0_0.out); (case side3 => repeat (first | exact (Kd.C_below HR0_1.out HB.out) | (with_reducible refine Kd.C_alloc ?_ _) | (with_reducible refine Kd.C_drewN ?_ _) | (with_reducible refine Kd.C_drew ?_))); (case side4 => exact HC0_1.out); (case side5 => exact cX (Kd.R_reads' HO411.out).2.2); (case side6 => exact (Kd.R_reads' HO411.out).2.1); rintro e w19 ⟨rfl, hb⟩; refine ⟨_, rfl, ?_⟩; have n0_ := Aside0.mk (Kd.S_below (by (with_reducible repeat (first | apply Kd.S_alloc | apply Kd.S_drewN | apply Kd.S_drew)); exact HO_3.out) hb); have n1_ := Aside0.mk (Kd.R_below (rX HO411.out) hb); have n2_ := Aside0.mk (blk_below (g := gb404) (o := .cells #[.slice A0_0 l0_0.length c0_0, .slice A0_1 l0_1.length c0_1] 27 (0, 0)) (kX BK404.out) hb); have n3_ := Aside0.mk (below_step (bX1 HB.out GE404.out) hb); clear HO_3; clear HO411; clear BK404; clear HB; have HO_3 := n0_; have HO411 := n1_; have BK404 := n2_; have HB := n3_; clear n0_ n1_ n2_ n3_; (try clear hb); (try clear hb2); (try clear hk); (try clear hi)) | ((with_reducible refine gate_builtin (b := .append) (xs := #[.tmp 22, .tmp 24]) rfl ?_); at_builtin; refine Kd.S_append (Kd.slice 3 (Kd.int .i64)) (w0 := w) w.heap.size rfl (.tmp 22) (.tmp 24) 32 22 (.slice none 0 0) 24 rfl Tryd.underlying32 info22 rfl (by decide) (by omega) u3 x3_1 t409 [.slice Ao18 t409.length co18] (fun _ => True) (fun k_ => some k_ = (.slice Ao18 t409.length co18 : Value).ownBlock) rfl rfl ?aP (fun k_ hk_ => ((Kd.R_mono (ok' := fun k_ => ((fun _ => True)) k_ ∧ some k_ ≠ (u3 : Value).ownBlock) (Kd.R_apart' (HO411.out) (Kd.S_typed HO_3.out) (by decide)) (fun k_ hk => ⟨trivial, hk.2⟩))).1 k_ hk_.symm) ?aF ?aO ?aB ?aS ?aL ?_; (case aP => exact Kd.M_row (Kd.R_mono (Kd.R_tight rfl (Kd.R_mono (ok' := fun k_ => ((fun _ => True)) k_ ∧ some k_ ≠ (u3 : Value).ownBlock) (Kd.R_apart' (HO411.out) (Kd.S_typed HO_3.out) (by decide)) (fun k_ hk => ⟨trivial, hk.2⟩))) (fun _ h_ => h_))); (case aB => exact (bX1 HB.out GE404.out)); (case aF => exact (fun _ _ => trivial)); (case aO => exact (by (with_reducible repeat (first | apply Kd.S_alloc | apply Kd.S_drewN | apply Kd.S_drew)); exact Kd.S_mono HO_3.out (fun k_ hk => ⟨trivial, fun e_ => hk.2 e_⟩))); (case aS => exact (below_size (bX1 HB.out GE404.out))); (case aL => have := LMc14.out; omega); intro v414 w20 ho hb hg hat; rw [← Ny413.out] at ho; have n0_ := Aside0.mk (blk_grown (g := gb404) (o := .cells #[.slice A0_0 l0_0.length c0_0, .slice A0_1 l0_1.length c0_1] 27 (0, 0)) (kX BK404.out) hg (Kd.S_ne HO_3.out BK404.out (by decide))); have n1_ := Aside0.mk (hb); have n2_ := Aside0.mk (ho); clear BK404; clear HB; clear HO_3; clear HO411; have BK404 := n0_; have HB := n1_; have HO415 := n2_; clear n0_ n1_ n2_; clear ho hb hg hat))
       go_roundg k1
       case measure => have := HK1.out; omega
       case rel => exact ⟨(y413), (wrap64 (x13_1 + 1)), vX, H', ⟨by have := HK1.out; omega⟩, ⟨by (with_reducible repeat (first | apply Kd.S_alloc | apply Kd.S_drewN | apply Kd.S_drew)); exact HO415.out⟩, ⟨kX BK404.out⟩, ⟨bX1 HB.out GE404.out⟩⟩
      ·rw [if_neg c14] at H
       exact absurd H (by simp)
     ·replace c13 := Bool.eq_false_iff.mpr c13
      subst c13
      have H1 : (impl_TurnsOf.l0 k1 x3_1 (l0_0.length : Int) (wrap64 (x13_1 + 1)) l0_0 l0_1) = some r := by rw [if_neg (show ¬ (false = true) by decide)] at H; exact H
      clear H
      have H := H1
      clear H1
      have H' := Aside0.mk H
      clear H
      have hcz21_0 : wr.cell? ⟨gb404, 0, none⟩ = some (.slice A0_0 l0_0.length c0_0) := (blk_cell BK404.out 0).trans rfl
      have hcz21_1 : wr.cell? ⟨gb404, 1, none⟩ = some (.slice A0_1 l0_1.length c0_1) := (blk_cell BK404.out 1).trans rfl
      have hfz21_0 := blk_frozen BK404.out 0
      have hfz21_1 := blk_frozen BK404.out 1
      go_wp2_with (first | ((with_reducible refine gate_callee (f := 31) rfl ?_); refine goesL_ (some 18) rfl rfl Tryd.func31 (by kernel_rfl) rfl #[.agg #[.slice A0_0 l0_0.length c0_0, .slice A0_1 l0_1.length c0_1], .int .i64 x13_1] rfl (by (try simp only [zE,zF,zG]); first|done|rfl|(simp only [zH,zI]; rfl)) ?_; (with_reducible refine (impl_turnTo.calls k1 _ _ l0_0 _ _ l0_1 x13_1 t409 _ ?side1 ?side2 ?side3 ?side4 A11.out).mono ?_); (case side1 => repeat (first | exact (Kd.C_below HR0_0.out HB.out) | (with_reducible refine Kd.C_alloc ?_ _) | (with_reducible refine Kd.C_drewN ?_ _) | (with_reducible refine Kd.C_drew ?_))); (case side2 => exact HC0_0.out); (case side3 => repeat (first | exact (Kd.C_below HR0_1.out HB.out) | (with_reducible refine Kd.C_alloc ?_ _) | (with_reducible refine Kd.C_drewN ?_ _) | (with_reducible refine Kd.C_drew ?_))); (case side4 => exact HC0_1.out); rintro e w22 ⟨v410, rfl, ho0, hb⟩; refine ⟨_, rfl, ?_⟩; have n0_ := Aside0.mk (Kd.S_elder' (by (with_reducible repeat (first | apply Kd.S_alloc | apply Kd.S_drewN | apply Kd.S_drew)); exact HO_3.out) (Kd.R_base ho0) hb); have n1_ := Aside0.mk (Kd.R_lower ho0 (below_size (bX1 HB.out GE404.out))); have n2_ := Aside0.mk (blk_below (g := gb404) (o := .cells #[.slice A0_0 l0_0.length c0_0, .slice A0_1 l0_1.length c0_1] 27 (0, 0)) (kX BK404.out) hb); have n3_ := Aside0.mk (below_step (bX1 HB.out GE404.out) hb); clear HO_3; clear BK404; clear HB; have HO_3 := n0_; have HO411 := n1_; have BK404 := n2_; have HB := n3_; clear n0_ n1_ n2_ n3_; (try clear hb); (try clear hb2); (try clear hk); (try clear hi); (try clear ho0); have hcz23_0 : w22.cell? ⟨gb404, 0, none⟩ = some (.slice A0_0 l0_0.length c0_0) := (blk_cell BK404.out 0).trans rfl; have hcz23_1 : w22.cell? ⟨gb404, 1, none⟩ = some (.slice A0_1 l0_1.length c0_1) := (blk_cell BK404.out 1).trans rfl; have hfz23_0 := blk_frozen BK404.out 0; have hfz23_1 := blk_frozen BK404.out 1; obtain ⟨Ao24, co24, eo24⟩ := Kd.R_slice HO411.out; subst eo24) | ((with_reducible refine gate_callee (f := 32) rfl ?_); refine goesL_ (some 21) rfl rfl Tryd.func32 (by kernel_rfl) rfl #[.agg #[.slice A0_0 l0_0.length c0_0, .slice A0_1 l0_1.length c0_1], .slice Ao24 t409.length co24] rfl (by (try simp only [zE,zF,zG]); first|done|rfl|(simp only [zH,zI]; rfl)) ?_; (with_reducible refine (impl_IsTurn.calls k1 _ _ l0_0 _ _ l0_1 _ _ t409 false _ ?side1 ?side2 ?side3 ?side4 ?side5 ?side6 A12.out).mono ?_); (case side1 => repeat (first | exact (Kd.C_below HR0_0.out HB.out) | (with_reducible refine Kd.C_alloc ?_ _) | (with_reducible refine Kd.C_drewN ?_ _) | (with_reducible refine Kd.C_drew ?_))); (case side2 => exact HC0_0.out); (case side3 => repeat (first | exact (Kd.C_below HR0_1.out HB.out) | (with_reducible refine Kd.C_alloc ?_ _) | (with_reducible refine Kd.C_drewN ?_ _) | (with_reducible refine Kd.C_drew ?_))); (case side4 => exact HC0_1.out); (case side5 => exact cX (Kd.R_reads' HO411.out).2.2); (case side6 => exact (Kd.R_reads' HO411.out).2.1); rintro e w25 ⟨rfl, hb⟩; refine ⟨_, rfl, ?_⟩; have n0_ := Aside0.mk (Kd.S_below (by (with_reducible repeat (first | apply Kd.S_alloc | apply Kd.S_drewN | apply Kd.S_drew)); exact HO_3.out) hb); have n1_ := Aside0.mk (Kd.R_below (rX HO411.out) hb); have n2_ := Aside0.mk (blk_below (g := gb404) (o := .cells #[.slice A0_0 l0_0.length c0_0, .slice A0_1 l0_1.length c0_1] 27 (0, 0)) (kX BK404.out) hb); have n3_ := Aside0.mk (below_step (bX1 HB.out GE404.out) hb); clear HO_3; clear HO411; clear BK404; clear HB; have HO_3 := n0_; have HO411 := n1_; have BK404 := n2_; have HB := n3_; clear n0_ n1_ n2_ n3_; (try clear hb); (try clear hb2); (try clear hk); (try clear hi)))
      go_roundg k1
      case measure => have := HK1.out; omega
      case rel => exact ⟨(x3_1), (wrap64 (x13_1 + 1)), vX, H', ⟨by have := HK1.out; omega⟩, ⟨by (with_reducible repeat (first | apply Kd.S_alloc | apply Kd.S_drewN | apply Kd.S_drew)); exact Kd.S_mono HO_3.out (fun _ hk => trivial)⟩, ⟨kX BK404.out⟩, ⟨bX1 HB.out GE404.out⟩⟩
    ·rw [if_neg c10] at H
     have c10b0 : decide (x13_1 < (l0_0.length : Int)) = false := decide_eq_false c10
     clear c10
     obtain rfl := Option.some.inj H
     go_wp2
     go_ret
     exact ⟨_, eX, by (with_reducible repeat (first | apply Kd.S_alloc | apply Kd.S_drewN | apply Kd.S_drew)); exact HO_3.out, bX1 HB.out GE404.out⟩
 ·replace c3 := Bool.eq_false_iff.mpr c3
  subst c3
  have H1 : (some ([] : List (List Int))) = some r := by rw [if_neg (show ¬ (false = true) by decide)] at H; exact H
  clear H
  have H := H1
  clear H1
  obtain rfl := Option.some.inj H
  go_enter Tryd.func15, Tryd.ntmps15
  go_wp2_with (first | ((with_reducible refine gate_dst (N := 1) rfl ?_); refine box_event ?hg (N := 1) ?hd (cs := #[.slice A0_0 l0_0.length c0_0, .slice A0_1 l0_1.length c0_1]) (t := 27) ?hr ?_; (case hd => rfl); (case hg => rfl); (case hr => first | (go_simp; done) | (go_simp; rfl)); intro gb404 hg w26 hbox hb; have n0_ := Aside0.mk (below_step (bX HB.out) hb); have n1_ := Aside0.mk (hbox); have n2_ := Aside0.mk ((by rw [hg]; exact (below_size (bX HB.out)) : w.heap.size ≤ gb404)); have n3_ := Aside0.mk ((by rw [hg]; exact (below_size (bX HB.out)) : w.heap.size ≤ gb404)); clear HB; have HB := n0_; have BK404 := n1_; have GW404 := n2_; have GE404 := n3_; clear n0_ n1_ n2_ n3_; clear hb hbox hg; have hcz27_0 : w26.cell? ⟨gb404, 0, none⟩ = some (.slice A0_0 l0_0.length c0_0) := (blk_cell BK404.out 0).trans rfl; have hcz27_1 : w26.cell? ⟨gb404, 1, none⟩ = some (.slice A0_1 l0_1.length c0_1) := (blk_cell BK404.out 1).trans rfl; have hfz27_0 := blk_frozen BK404.out 0; have hfz27_1 := blk_frozen BK404.out 1) | ((with_reducible refine gate_callee (f := 30) rfl ?_); refine goesL_ (some 7) rfl rfl Tryd.func30 (by kernel_rfl) rfl #[.agg #[.slice A0_0 l0_0.length c0_0, .slice A0_1 l0_1.length c0_1]] rfl (by (try simp only [zE,zF,zG]); first|done|rfl|(simp only [zH,zI]; rfl)) ?_; (with_reducible refine (impl_SurfaceOk.calls k _ _ l0_0 _ _ l0_1 false _ ?side1 ?side2 ?side3 ?side4 A2.out).mono ?_); (case side1 => repeat (first | exact (Kd.C_below HR0_0.out HB.out) | (with_reducible refine Kd.C_alloc ?_ _) | (with_reducible refine Kd.C_drewN ?_ _) | (with_reducible refine Kd.C_drew ?_))); (case side2 => exact HC0_0.out); (case side3 => repeat (first | exact (Kd.C_below HR0_1.out HB.out) | (with_reducible refine Kd.C_alloc ?_ _) | (with_reducible refine Kd.C_drewN ?_ _) | (with_reducible refine Kd.C_drew ?_))); (case side4 => exact HC0_1.out); rintro e w28 ⟨rfl, hb⟩; refine ⟨_, rfl, ?_⟩; have n0_ := Aside0.mk (blk_below (g := gb404) (o := .cells #[.slice A0_0 l0_0.length c0_0, .slice A0_1 l0_1.length c0_1] 27 (0, 0)) (kX BK404.out) hb); have n1_ := Aside0.mk (below_step (bX1 HB.out GE404.out) hb); clear BK404; clear HB; have BK404 := n0_; have HB := n1_; clear n0_ n1_; (try clear hb); (try clear hb2); (try clear hk); (try clear hi)))
  go_ret
  exact ⟨_, eX, by first | exact Kd.S_nil _ _ _ _ _ | exact Kd.N_nil _ _ _ _ _ | exact Kd.V_nil _ _ _ _ _ | exact Kd.Q_nil _ _ _ _ _ | exact Kd.R_nil _ _ _ _ _, bX1 HB.out GE404.out⟩

end Go.Proofs.YtfomhkfgdggngaaDoor.S
