-- PRINTED by print.py (a twelfth state) out of the translation. Not trusted: Lean checks it.
import Derived.Test.YtfomhkfgdggngaaDoorS0
import Derived.Test.YtfomhkfgdggngaaDoorS1
import Derived.Test.YtfomhkfgdggngaaDoorS2
namespace Go.Proofs.YtfomhkfgdggngaaDoor.S
open Go.RowKit Go.Proofs.YtfomhkfgdggngaaDoorW.PrintWords Go.Proofs.YtfomhkfgdggngaaDoorW.PrintLast Go.Proofs.YtfomhkfgdggngaaDoorW.PrintMore
attribute [local go_sem] max2_int min2_int max_two min_two max_three min_three max_four min_four   -- for this text's walks alone
set_option linter.unusedVariables false
set_option linter.unusedSimpArgs false

theorem spec_l02Has.calls_b (k : Nat) (A0 : Option Addr) (c0 : Nat) (l0 : List Int) (a1 : Int) (r : Bool) (w : World) (hr0 : Kd.C (Kd.int .i64) w A0 l0.length l0) (hc0 : l0.length ≤ c0) (h : spec_l02Has.f k l0 a1 = some r) :
  Calls Tryd.prog 25 #[.slice A0 l0.length c0, .int .i64 a1] w fun e w' => e = .returned (.bool r) ∧ Below w.heap.size w w' :=
  (spec_l02Has.calls k A0 c0 l0 a1 r w hr0 hc0 h).mono fun e w' h2 => ⟨h2.1, by obtain ⟨_, n, rfl⟩ := h2; exact bN (Below.refl _ _) n⟩

/-! ### spec_FixedPoints: function 11 -/
mutual
def spec_FixedPoints.l0 : Nat → List Int → List Int → List Int → Int → Int → List Int → List Int → Option (List Int × Bool)
 | 0, _, _, _, _, _, _, _ => none
 | k + 1, x1, x6, x18, x19, x20, x237000, x237001 => if x20 < x19 then (if 0 ≤ x20 then (if x20 < (x18.length : Int) then (if (rd x18 x20) = x20 then (if 0 < (x6.length : Int) then (spec_FixedPoints.j1 k x1 (x6.set (0 : Int).toNat (wrap64 ((rd x6 0) + 1))) x20 (rd x18 x20) x18 x19 x20 x237000 x237001) else (none)) else (spec_FixedPoints.j1 k x1 x6 x20 (rd x18 x20) x18 x19 x20 x237000 x237001)) else (none)) else (none)) else ((spec_l02Inverse.f k x237000).bind fun t253 => ((spec_l02Inverse.f k x237001).bind fun t256 => ((spec_CornersOf.f k x237000 x237001).bind fun t259 => (spec_FixedPoints.l1 k x1 x6 t253 t256 t259 (t259.length : Int) 0))))
def spec_FixedPoints.j1 : Nat → List Int → List Int → Int → Int → List Int → Int → Int → List Int → List Int → Option (List Int × Bool)
 | 0, _, _, _, _, _, _, _, _, _ => none
 | k + 1, x1, x6, x7, x8, x18, x19, x20, x237000, x237001 => if 0 ≤ x7 then (if x7 < (x237000.length : Int) then (if x8 = (rd x237000 x7) then (if 1 < (x6.length : Int) then ((some (x6.set (1 : Int).toNat (wrap64 ((rd x6 1) + 1)) : List Int)).bind fun y246 => (if x7 < (x237001.length : Int) then (if x8 = (rd x237001 x7) then (if 2 < (x6.length : Int) then (spec_FixedPoints.l0 k x1 (y246.set (2 : Int).toNat (wrap64 ((rd y246 2) + 1))) x18 x19 (wrap64 (x20 + 1)) x237000 x237001) else (none)) else (spec_FixedPoints.l0 k x1 y246 x18 x19 (wrap64 (x20 + 1)) x237000 x237001)) else (none))) else (none)) else (if x7 < (x237001.length : Int) then (if x8 = (rd x237001 x7) then (if 2 < (x6.length : Int) then (spec_FixedPoints.l0 k x1 (x6.set (2 : Int).toNat (wrap64 ((rd x6 2) + 1))) x18 x19 (wrap64 (x20 + 1)) x237000 x237001) else (none)) else (spec_FixedPoints.l0 k x1 x6 x18 x19 (wrap64 (x20 + 1)) x237000 x237001)) else (none))) else (none)) else (none)
def spec_FixedPoints.l1 : Nat → List Int → List Int → List Int → List Int → List (List Int) → Int → Int → Option (List Int × Bool)
 | 0, _, _, _, _, _, _, _ => none
 | k + 1, x1, x6, x9, x10, x65, x66, x67 => if x67 < x66 then (if 0 ≤ x67 then (if x67 < (x65.length : Int) then (if 0 < ((rd_L1 x65 x67).length : Int) then (if 0 ≤ (rd (rd_L1 x65 x67) 0) then (if (rd (rd_L1 x65 x67) 0) < (x1.length : Int) then (if 0 ≤ (rd x1 (rd (rd_L1 x65 x67) 0)) then (if (rd x1 (rd (rd_L1 x65 x67) 0)) < (x9.length : Int) then (if 0 ≤ (rd x9 (rd x1 (rd (rd_L1 x65 x67) 0))) then (if (rd x9 (rd x1 (rd (rd_L1 x65 x67) 0))) < (x10.length : Int) then ((spec_l02Has.f k (rd_L1 x65 x67) (rd x10 (rd x9 (rd x1 (rd (rd_L1 x65 x67) 0))))).bind fun t267 => (if t267 = true then (if 3 < (x6.length : Int) then (spec_FixedPoints.l1 k x1 (x6.set (3 : Int).toNat (wrap64 ((rd x6 3) + 1))) x9 x10 x65 x66 (wrap64 (x67 + 1))) else (none)) else (spec_FixedPoints.l1 k x1 x6 x9 x10 x65 x66 (wrap64 (x67 + 1))))) else (none)) else (none)) else (none)) else (none)) else (none)) else (none)) else (none)) else (none)) else (none)) else (some (x6, true))
end
def spec_FixedPoints.f (k : Nat) (l0_0 : List Int) (l0_1 : List Int) (l1 : List Int) : Option (List Int × Bool) := (spec_IsTurn.f k l0_0 l0_1 l1).bind fun t237 => (if t237 = true then (spec_FixedPoints.l0 k l1 (([0, 0, 0, 0] : List Int)) l1 (l1.length : Int) 0 l0_0 l0_1) else (some (([] : List Int), false)))
set_option maxHeartbeats 8000000 in
set_option maxRecDepth 100000 in
theorem spec_FixedPoints.calls (k : Nat) (A0_0 : Option Addr) (c0_0 : Nat) (l0_0 : List Int) (A0_1 : Option Addr) (c0_1 : Nat) (l0_1 : List Int) (A1 : Option Addr) (c1 : Nat) (l1 : List Int) (r1 : List Int) (r2 : Bool) (w : World) (hr0_0 : Kd.C (Kd.int .i64) w A0_0 l0_0.length l0_0) (hc0_0 : l0_0.length ≤ c0_0) (hr0_1 : Kd.C (Kd.int .i64) w A0_1 l0_1.length l0_1) (hc0_1 : l0_1.length ≤ c0_1) (hr1 : Kd.C (Kd.int .i64) w A1 l1.length l1) (hc1 : l1.length ≤ c1) (h : spec_FixedPoints.f k l0_0 l0_1 l1 = some (r1, r2)) :
  Calls Tryd.prog 11 #[.agg #[.slice A0_0 l0_0.length c0_0, .slice A0_1 l0_1.length c0_1], .slice A1 l1.length c1] w fun e w' => ∃ v0_ : Value, e = .returned (.tuple #[v0_, .bool r2]) ∧ Kd.R (Kd.int .i64) 3 w' w.heap.size (fun _ => True) v0_ r1 ∧ Below w.heap.size w w' := by
 have hu27 := Tryd.underlying27
 have HR0_0 := Aside0.mk hr0_0
 have HC0_0 := Aside0.mk hc0_0
 clear hr0_0 hc0_0
 have HR0_1 := Aside0.mk hr0_1
 have HC0_1 := Aside0.mk hc0_1
 clear hr0_1 hc0_1
 have HR1 := Aside0.mk hr1
 have HC1 := Aside0.mk hc1
 clear hr1 hc1
 have HB := Aside0.mk (Below.refl w.heap.size w)
 have H : ((spec_IsTurn.f k l0_0 l0_1 l1).bind fun t237 => (if t237 = true then (spec_FixedPoints.l0 k l1 (([0, 0, 0, 0] : List Int)) l1 (l1.length : Int) 0 l0_0 l0_1) else (some (([] : List Int), false)))) = some (r1, r2) := h
 clear h
 replace H := Option.bind_eq_some_iff.mp H
 obtain ⟨t237, A30, H⟩ := H
 replace H : (if t237 = true then (spec_FixedPoints.l0 k l1 (([0, 0, 0, 0] : List Int)) l1 (l1.length : Int) 0 l0_0 l0_1) else (some (([] : List Int), false))) = some (r1, r2) := H
 have A3 := Aside0.mk A30
 clear A30
 by_cases c4 : t237 = true
 ·subst c4
  have H1 : (spec_FixedPoints.l0 k l1 (([0, 0, 0, 0] : List Int)) l1 (l1.length : Int) 0 l0_0 l0_1) = some (r1, r2) := by rw [if_pos rfl] at H; exact H
  clear H
  have H := H1
  clear H1
  obtain ⟨y238, hy238⟩ : ∃ y_ : List Int, y_ = (([0, 0, 0, 0] : List Int)) := ⟨_, rfl⟩
  replace H : (spec_FixedPoints.l0 k l1 y238 l1 (l1.length : Int) 0 l0_0 l0_1) = some (r1, r2) := by first | (rw [hy238]; with_reducible exact H) | (have H2_ := (Option.bind_some _ _).symm.trans H; rw [hy238]; with_reducible exact H2_) | (have H2_ := (Option.bind_some _ _).symm.trans H; with_reducible exact H2_) | with_reducible exact H | (rw [hy238]; exact H) | exact H
  have Ny238 := Aside0.mk hy238
  clear hy238
  have H' := Aside0.mk H
  clear H
  go_enter Tryd.func11, Tryd.ntmps11
  go_wp2_with (first | ((with_reducible refine gate_dst (N := 2) rfl ?_); refine box_event ?hg (N := 2) ?hd (cs := #[.slice A0_0 l0_0.length c0_0, .slice A0_1 l0_1.length c0_1]) (t := 27) ?hr ?_; (case hd => rfl); (case hg => rfl); (case hr => first | (go_simp; done) | (go_simp; rfl)); intro gb236 hg w5 hbox hb; have n0_ := Aside0.mk (below_step (bX HB.out) hb); have n1_ := Aside0.mk (hbox); have n2_ := Aside0.mk ((by rw [hg]; exact (below_size (bX HB.out)) : w.heap.size ≤ gb236)); have n3_ := Aside0.mk ((by rw [hg]; exact (below_size (bX HB.out)) : w.heap.size ≤ gb236)); clear HB; have HB := n0_; have BK236 := n1_; have GW236 := n2_; have GE236 := n3_; clear n0_ n1_ n2_ n3_; clear hb hbox hg; have hcz6_0 : w5.cell? ⟨gb236, 0, none⟩ = some (.slice A0_0 l0_0.length c0_0) := (blk_cell BK236.out 0).trans rfl; have hcz6_1 : w5.cell? ⟨gb236, 1, none⟩ = some (.slice A0_1 l0_1.length c0_1) := (blk_cell BK236.out 1).trans rfl; have hfz6_0 := blk_frozen BK236.out 0; have hfz6_1 := blk_frozen BK236.out 1) | ((with_reducible refine gate_callee (f := 22) rfl ?_); refine goesL_ (some 15) rfl rfl Tryd.func22 (by kernel_rfl) rfl #[.agg #[.slice A0_0 l0_0.length c0_0, .slice A0_1 l0_1.length c0_1], .slice A1 l1.length c1] rfl (by (try simp only [zE,zF,zG]); first|done|rfl|(simp only [zH,zI]; rfl)) ?_; (with_reducible refine (spec_IsTurn.calls k _ _ l0_0 _ _ l0_1 _ _ l1 true _ ?side1 ?side2 ?side3 ?side4 ?side5 ?side6 A3.out).mono ?_); (case side1 => repeat (first | exact (Kd.C_below HR0_0.out HB.out) | (with_reducible refine Kd.C_alloc ?_ _) | (with_reducible refine Kd.C_drewN ?_ _) | (with_reducible refine Kd.C_drew ?_))); (case side2 => exact HC0_0.out); (case side3 => repeat (first | exact (Kd.C_below HR0_1.out HB.out) | (with_reducible refine Kd.C_alloc ?_ _) | (with_reducible refine Kd.C_drewN ?_ _) | (with_reducible refine Kd.C_drew ?_))); (case side4 => exact HC0_1.out); (case side5 => repeat (first | exact (Kd.C_below HR1.out HB.out) | (with_reducible refine Kd.C_alloc ?_ _) | (with_reducible refine Kd.C_drewN ?_ _) | (with_reducible refine Kd.C_drew ?_))); (case side6 => exact HC1.out); rintro e w7 ⟨rfl, hb⟩; refine ⟨_, rfl, ?_⟩; have n0_ := Aside0.mk (blk_below (g := gb236) (o := .cells #[.slice A0_0 l0_0.length c0_0, .slice A0_1 l0_1.length c0_1] 27 (0, 0)) (kX BK236.out) hb); have n1_ := Aside0.mk (below_step (bX1 HB.out GE236.out) hb); clear BK236; clear HB; have BK236 := n0_; have HB := n1_; clear n0_ n1_; (try clear hb); (try clear hb2); (try clear hk); (try clear hi)) | ((with_reducible refine gate_dst (N := 17) rfl ?_); refine Kd.R_lit (Kd.int .i64) _ 3 ?hg (N := 17) ?hd (xs := ([0, 0, 0, 0] : List Int)) (inner := [.int .i64 0, .int .i64 0, .int .i64 0, .int .i64 0]) (ok := fun _ => True) (okp := fun _ => True) ?hr ?hp (fun _ hk => hk) trivial (Below.refl _ _) (Nat.le_refl _) (by simp) ?_; (case hd => rfl); (case hg => rfl); (case hr => first | (go_simp; done) | (go_simp; rfl)); (case hp => exact (Reps.one (show Kd.M (Kd.int .i64) _ _ _ 0 [.int .i64 0] from rfl) (Reps.one (show Kd.M (Kd.int .i64) _ _ _ 0 [.int .i64 0] from rfl) (Reps.one (show Kd.M (Kd.int .i64) _ _ _ 0 [.int .i64 0] from rfl) (Reps.one (show Kd.M (Kd.int .i64) _ _ _ 0 [.int .i64 0] from rfl) (Reps.none _ _)))))); intro v239 w8 ho9 hb hg_ hnew_; clear hg_ hnew_; (first | rw [← Ny238.out] at ho9 | (simp only [Int.reduceToNat] at ho9; rw [← Ny238.out] at ho9)); have n0_ := Aside0.mk (Kd.R_lower ho9 (below_size (bX1 HB.out GE236.out))); have n1_ := Aside0.mk (blk_below (g := gb236) (o := .cells #[.slice A0_0 l0_0.length c0_0, .slice A0_1 l0_1.length c0_1] 27 (0, 0)) (kX BK236.out) hb); have n2_ := Aside0.mk (below_step (bX1 HB.out GE236.out) hb); clear BK236; clear HB; have HO240 := n0_; have BK236 := n1_; have HB := n2_; clear n0_ n1_ n2_; clear hb ho9))
  go_loopg [20] k (fun kq v20 w' => ∃ (x6_1 : List Int) (x20_1 : Int), v20 = .int .i64 x20_1 ∧ Aside0 (spec_FixedPoints.l0 kq l1 x6_1 l1 (l1.length : Int) x20_1 l0_0 l0_1 = some (r1, r2)) ∧ Aside0 (kq ≤ k) ∧ Aside0 (Kd.R (Kd.int .i64) 3 w' w.heap.size (fun _ => True) v239 x6_1) ∧ Aside0 (w'.heap[gb236]? = some (.cells #[(.slice A0_0 l0_0.length c0_0), (.slice A0_1 l0_1.length c0_1)] 27 (0, 0))) ∧ Aside0 (Below w.heap.size w w'))
  case atStart => exact ⟨(y238), (0), vX, H', ⟨Nat.le_refl _⟩, ⟨rX HO240.out⟩, ⟨kX BK236.out⟩, ⟨bX1 HB.out GE236.out⟩⟩
  case round =>
   clear H'
   try clear c1
   try clear c2
   try clear p2
   try clear c4
   try clear hcz6_0
   try clear hcz6_1
   try clear hfz6_0
   try clear hfz6_1
   obtain ⟨x6_1, x20_1, rfl, HA, HK1, HO_6, BK236, HB⟩ := hrel
   cases gk with
   | zero => exact absurd HA.out (by simp [spec_FixedPoints.l0])
   | succ k1 =>
    have H := HA.out
    clear HA
    simp only [spec_FixedPoints.l0] at H
    by_cases c10 : x20_1 < (l1.length : Int)
    ·rw [if_pos c10] at H
     have c10b0 : decide (x20_1 < (l1.length : Int)) = true := decide_eq_true c10
     clear c10
     by_cases c11 : 0 ≤ x20_1
     ·rw [if_pos c11] at H
      have c11b0 : decide (0 ≤ x20_1) = true := decide_eq_true c11
      clear c11
      by_cases c12 : x20_1 < (l1.length : Int)
      ·rw [if_pos c12] at H
       have c12b0 : decide (x20_1 < (l1.length : Int)) = true := decide_eq_true c12
       clear c12
       have HC13 := Aside0.mk H
       clear H
       have p241 : 0 ≤ (x20_1 : Int) := dX
       have q241 : x20_1 < (l1.length : Int) := dX
       obtain ⟨ad241, e241, hx241_0⟩ := Kd.at_int HR1.out x20_1 p241 q241
       cases e241
       replace hx241_0 := (HB.out.cell (World.block_lt_of_cell? w _ hx241_0)).trans hx241_0
       replace p241 := eq_true p241
       replace q241 := eq_true q241
       go_upto_if 27 with (fail)
       go_cut [] (fun wc => ∃ (kq : Nat) (x6_12 : List Int), Aside0 (spec_FixedPoints.j1 kq l1 x6_12 x20_1 (rd l1 x20_1) l1 (l1.length : Int) x20_1 l0_0 l0_1 = some (r1, r2)) ∧ Aside0 (kq ≤ k1) ∧ Aside0 (Kd.R (Kd.int .i64) 3 wc w.heap.size (fun _ => True) v239 x6_12) ∧ Aside0 (wc.heap[gb236]? = some (.cells #[(.slice A0_0 l0_0.length c0_0), (.slice A0_1 l0_1.length c0_1)] 27 (0, 0))) ∧ Aside0 (Below w.heap.size w wc))
       case first =>
        have H := HC13.out
        clear HC13
        by_cases c14 : (rd l1 x20_1) = x20_1
        ·rw [if_pos c14] at H
         have c14b0 : ((rd l1 x20_1) == x20_1) = true := beq_iff_eq.mpr c14
         have c14b1 : ((rd l1 x20_1) != x20_1) = false := bne_eq_false_iff_eq.mpr c14
         clear c14
         (first | rw [c14b0] | (simp only [i64_w, i32_w]; rw [c14b0]) | skip)
         by_cases c15 : 0 < (x6_1.length : Int)
         ·rw [if_pos c15] at H
          have c15b0 : decide (0 < (x6_1.length : Int)) = true := decide_eq_true c15
          have c15b1 : decide (0 < x6_1.length) = true := decide_eq_true (by omega)
          clear c15
          obtain ⟨y243, hy243⟩ : ∃ y_ : List Int, y_ = (x6_1.set (0 : Int).toNat (wrap64 ((rd x6_1 0) + 1))) := ⟨_, rfl⟩
          replace H : (spec_FixedPoints.j1 k1 l1 y243 x20_1 (rd l1 x20_1) l1 (l1.length : Int) x20_1 l0_0 l0_1) = some (r1, r2) := by first | (rw [hy243]; with_reducible exact H) | (have H2_ := (Option.bind_some _ _).symm.trans H; rw [hy243]; with_reducible exact H2_) | (have H2_ := (Option.bind_some _ _).symm.trans H; with_reducible exact H2_) | with_reducible exact H | (rw [hy243]; exact H) | exact H
          have Ny243 := Aside0.mk hy243
          clear hy243
          have H' := Aside0.mk H
          clear H
          obtain ⟨Ao17, co17, eo17⟩ := Kd.R_slice HO_6.out
          subst eo17
          have p242 : 0 ≤ (0 : Int) := (by omega)
          have q242 : 0 < (x6_1.length : Int) := dX
          obtain ⟨ad242, e242, hx242_0⟩ := Kd.at_int (Kd.R_reads' HO_6.out).2.2 0 p242 q242
          cases e242
          have qi242 : (0 < x6_1.length) = True := eq_true (by omega)
          (try rw [show ((0 : Int)).toNat = 0 from rfl] at hx242_0)
          (try rw [Addr.add_zero'] at hx242_0)
          replace p242 := eq_true p242
          replace q242 := eq_true q242
          have p16 : 0 ≤ (0 : Int) := (by omega)
          have q16 : (0 : Int) < ((x6_1.length : Int) : Int) := dX
          have qi16 : (0 < x6_1.length) = True := eq_true (by omega)
          obtain ⟨go16, co16, eo16, gb16, gl16, cl16, HG16⟩ := Kd.R_form HO_6.out (by omega)
          (first | cases eo16 | (injection eo16 with ea_ en_ ec_; (first | subst ea_ | (injection ea_ with ea_; subst ea_)); subst ec_; clear en_))
          have GB16 := Aside0.mk gb16
          have GG16 := Aside0.mk HG16
          clear gb16 gl16 HG16
          (first | simp only [add_plain] at hx242_0 | skip)
          obtain ⟨hx16_0, hf16_0⟩ := Kd.R_celln 0 HO_6.out (0 : Int) p16 q16
          (try rw [show ((0 : Int)).toNat = 0 from rfl] at hx16_0)
          (try simp only [Nat.reduceMul, Nat.zero_mul, Nat.zero_add, Nat.reduceAdd] at hx16_0)
          (try rw [show ((0 : Int)).toNat = 0 from rfl] at hf16_0)
          (try simp only [Nat.reduceMul, Nat.zero_mul, Nat.zero_add, Nat.reduceAdd] at hf16_0)
          replace p16 := eq_true p16
          replace q16 := eq_true q16
          have HP18 := Kd.R_putg HO_6.out (0 : Int) (wrap64 ((rd x6_1 0) + 1))
          go_wp2_with (first | ((with_reducible refine gate_store (t := 3) (p := 32) rfl ?_); refine store_event (t := 3) (p := 32) (v := ?vo_w19) (w1 := (wr.setCell ⟨go16, (0 : Int).toNat, none⟩ (.int .i64 (wrap64 ((rd x6_1 0) + 1))))) ?hg ?ho ?hn ?hr ?_; (case ho => rfl); (case hg => rfl); (case hn => rfl); (case hr => first | (go_simp; done) | (go_simp; rfl)); intro w19 hw; have hg : wr.grownBy w19 (some go16) := (by rw [hw]; exact HP18.2); have hp_ : Kd.R (Kd.int .i64) 3 w19 w.heap.size (fun _ => True) (.slice (some ⟨go16, 0, none⟩) x6_1.length co17) y243 := (by rw [hw, Ny243.out]; exact HP18.1); clear HP18; have n0_ := Aside0.mk (hp_); have n1_ := Aside0.mk (blk_grown (g := gb236) (o := .cells #[.slice A0_0 l0_0.length c0_0, .slice A0_1 l0_1.length c0_1] 27 (0, 0)) (kX BK236.out) hg (Kd.R_ne HO_6.out BK236.out (by decide))); have n2_ := Aside0.mk ((by rw [hw]; exact below_set (HB.out) GB16.out : Below w.heap.size w w19)); clear HO_6; clear BK236; clear HB; have HO_6 := n0_; have BK236 := n1_; have HB := n2_; clear n0_ n1_ n2_; clear hg hw hp_))
          go_meet
          case rel => exact ⟨_, (y243), H', ⟨by have := HK1.out; first | omega | exact Nat.le_refl _⟩, ⟨rX HO_6.out⟩, ⟨kX BK236.out⟩, ⟨bX1 HB.out GE236.out⟩⟩
         ·rw [if_neg c15] at H
          exact absurd H (by simp)
        ·rw [if_neg c14] at H
         have c14b0 : ((rd l1 x20_1) == x20_1) = false := beq_eq_false_iff_ne.mpr c14
         have c14b1 : ((rd l1 x20_1) != x20_1) = true := bne_iff_ne.mpr c14
         (first | rw [c14b0] | (simp only [i64_w, i32_w]; rw [c14b0]) | skip)
         have H' := Aside0.mk H
         clear H
         go_wp2
         go_meet
         case rel => exact ⟨_, (x6_1), H', ⟨by have := HK1.out; first | omega | exact Nat.le_refl _⟩, ⟨rX HO_6.out⟩, ⟨kX BK236.out⟩, ⟨bX1 HB.out GE236.out⟩⟩
       case rest =>
        clear HC13
        try clear c1
        try clear p1
        try clear q1
        try clear hx1
        try clear qi1
        try clear c2
        try clear p2
        try clear q2
        try clear hx2
        try clear qi2
        try clear c4
        try clear p6
        try clear c10
        try clear c10b0
        try clear c11
        try clear c11b0
        try clear c12
        try clear c12b0
        try clear c14
        try clear c14b0
        try clear c14b1
        try clear c15
        try clear c15b0
        try clear c15b1
        try clear p16
        try clear q16
        try clear hx16
        try clear qi16
        try clear hf16
        try clear hcz6_0
        try clear hcz6_1
        try clear hfz6_0
        try clear hfz6_1
        try clear hx16_0
        try clear hx241_0
        try clear hx242_0
        try clear p16
        try clear p2
        try clear p241
        try clear p242
        try clear q16
        try clear q241
        try clear q242
        obtain ⟨kq, x6_12, HA, HJ12, HO_6, BK236, HB⟩ := hcut
        cases kq with
        | zero => exact absurd HA.out (by simp [spec_FixedPoints.j1])
        | succ kj12 =>
         have H := HA.out
         clear HA
         simp only [spec_FixedPoints.j1] at H
         by_cases c20 : 0 ≤ x20_1
         ·rw [if_pos c20] at H
          have c20b0 : decide (0 ≤ x20_1) = true := decide_eq_true c20
          clear c20
          by_cases c21 : x20_1 < (l0_0.length : Int)
          ·rw [if_pos c21] at H
           have c21b0 : decide (x20_1 < (l0_0.length : Int)) = true := decide_eq_true c21
           clear c21
           by_cases c22 : (rd l1 x20_1) = (rd l0_0 x20_1)
           ·rw [if_pos c22] at H
            have c22b0 : ((rd l1 x20_1) == (rd l0_0 x20_1)) = true := beq_iff_eq.mpr c22
            have c22b1 : ((rd l1 x20_1) != (rd l0_0 x20_1)) = false := bne_eq_false_iff_eq.mpr c22
            clear c22
            by_cases c23 : 1 < (x6_12.length : Int)
            ·rw [if_pos c23] at H
             have c23b0 : decide (1 < (x6_12.length : Int)) = true := decide_eq_true c23
             have c23b1 : decide (1 < x6_12.length) = true := decide_eq_true (by omega)
             clear c23
             obtain ⟨y246, hy246⟩ : ∃ y_ : List Int, y_ = (x6_12.set (1 : Int).toNat (wrap64 ((rd x6_12 1) + 1))) := ⟨_, rfl⟩
             replace H : (if x20_1 < (l0_1.length : Int) then (if (rd l1 x20_1) = (rd l0_1 x20_1) then (if 2 < (x6_12.length : Int) then (spec_FixedPoints.l0 kj12 l1 (y246.set (2 : Int).toNat (wrap64 ((rd y246 2) + 1))) l1 (l1.length : Int) (wrap64 (x20_1 + 1)) l0_0 l0_1) else (none)) else (spec_FixedPoints.l0 kj12 l1 y246 l1 (l1.length : Int) (wrap64 (x20_1 + 1)) l0_0 l0_1)) else (none)) = some (r1, r2) := by first | (rw [hy246]; with_reducible exact H) | (have H2_ := (Option.bind_some _ _).symm.trans H; rw [hy246]; with_reducible exact H2_) | (have H2_ := (Option.bind_some _ _).symm.trans H; with_reducible exact H2_) | with_reducible exact H | (rw [hy246]; exact H) | exact H
             have Ny246 := Aside0.mk hy246
             clear hy246
             by_cases c25 : x20_1 < (l0_1.length : Int)
             ·rw [if_pos c25] at H
              have c25b0 : decide (x20_1 < (l0_1.length : Int)) = true := decide_eq_true c25
              clear c25
              by_cases c26 : (rd l1 x20_1) = (rd l0_1 x20_1)
              ·rw [if_pos c26] at H
               have c26b0 : ((rd l1 x20_1) == (rd l0_1 x20_1)) = true := beq_iff_eq.mpr c26
               have c26b1 : ((rd l1 x20_1) != (rd l0_1 x20_1)) = false := bne_eq_false_iff_eq.mpr c26
               clear c26
               by_cases c27 : 2 < (x6_12.length : Int)
               ·rw [if_pos c27] at H
                have c27b0 : decide (2 < (x6_12.length : Int)) = true := decide_eq_true c27
                have c27b1 : decide (2 < x6_12.length) = true := decide_eq_true (by omega)
                clear c27
                obtain ⟨y249, hy249⟩ : ∃ y_ : List Int, y_ = (y246.set (2 : Int).toNat (wrap64 ((rd y246 2) + 1))) := ⟨_, rfl⟩
                replace H : (spec_FixedPoints.l0 kj12 l1 y249 l1 (l1.length : Int) (wrap64 (x20_1 + 1)) l0_0 l0_1) = some (r1, r2) := by first | (rw [hy249]; with_reducible exact H) | (have H2_ := (Option.bind_some _ _).symm.trans H; rw [hy249]; with_reducible exact H2_) | (have H2_ := (Option.bind_some _ _).symm.trans H; with_reducible exact H2_) | with_reducible exact H | (rw [hy249]; exact H) | exact H
                have Ny249 := Aside0.mk hy249
                clear hy249
                have H' := Aside0.mk H
                clear H
                have hcz29_0 : wc.cell? ⟨gb236, 0, none⟩ = some (.slice A0_0 l0_0.length c0_0) := (blk_cell BK236.out 0).trans rfl
                have hcz29_1 : wc.cell? ⟨gb236, 1, none⟩ = some (.slice A0_1 l0_1.length c0_1) := (blk_cell BK236.out 1).trans rfl
                have hfz29_0 := blk_frozen BK236.out 0
                have hfz29_1 := blk_frozen BK236.out 1
                have p244 : 0 ≤ (x20_1 : Int) := dX
                have q244 : x20_1 < (l0_0.length : Int) := dX
                obtain ⟨ad244, e244, hx244_0⟩ := Kd.at_int HR0_0.out x20_1 p244 q244
                cases e244
                replace hx244_0 := (HB.out.cell (World.block_lt_of_cell? w _ hx244_0)).trans hx244_0
                replace p244 := eq_true p244
                replace q244 := eq_true q244
                obtain ⟨Ao30, co30, eo30⟩ := Kd.R_slice HO_6.out
                subst eo30
                have p245 : 0 ≤ (1 : Int) := (by omega)
                have q245 : 1 < (x6_12.length : Int) := dX
                obtain ⟨ad245, e245, hx245_0⟩ := Kd.at_int (Kd.R_reads' HO_6.out).2.2 1 p245 q245
                cases e245
                (try simp only [show (1 : Int).toNat = 1 from rfl, Nat.reduceMul, Nat.reduceEqDiff, Go.Addr.add, ↓reduceIte] at hx245_0)
                have qi245 : (1 < x6_12.length) = True := eq_true (by omega)
                (try rw [show ((1 : Int)).toNat = 1 from rfl] at hx245_0)
                replace p245 := eq_true p245
                replace q245 := eq_true q245
                have p24 : 0 ≤ (1 : Int) := (by omega)
                have q24 : (1 : Int) < ((x6_12.length : Int) : Int) := dX
                have qi24 : (1 < x6_12.length) = True := eq_true (by omega)
                obtain ⟨go24, co24, eo24, gb24, gl24, cl24, HG24⟩ := Kd.R_form HO_6.out (by omega)
                (first | cases eo24 | (injection eo24 with ea_ en_ ec_; (first | subst ea_ | (injection ea_ with ea_; subst ea_)); subst ec_; clear en_))
                have GB24 := Aside0.mk gb24
                have GG24 := Aside0.mk HG24
                clear gb24 gl24 HG24
                (first | simp only [add_plain] at hx245_0 | skip)
                obtain ⟨hx24_0, hf24_0⟩ := Kd.R_celln 0 HO_6.out (1 : Int) p24 q24
                (try rw [show ((1 : Int)).toNat = 1 from rfl] at hx24_0)
                (try simp only [Nat.reduceMul, Nat.zero_mul, Nat.zero_add, Nat.reduceAdd] at hx24_0)
                (try rw [show ((1 : Int)).toNat = 1 from rfl] at hf24_0)
                (try simp only [Nat.reduceMul, Nat.zero_mul, Nat.zero_add, Nat.reduceAdd] at hf24_0)
                replace p24 := eq_true p24
                replace q24 := eq_true q24
                have HP31 := Kd.R_putg HO_6.out (1 : Int) (wrap64 ((rd x6_12 1) + 1))
                go_wp2_with (first | ((with_reducible refine gate_store (t := 3) (p := 44) rfl ?_); refine store_event (t := 3) (p := 44) (v := ?vo_w32) (w1 := (wc.setCell ⟨go24, (1 : Int).toNat, none⟩ (.int .i64 (wrap64 ((rd x6_12 1) + 1))))) ?hg ?ho ?hn ?hr ?_; (case ho => rfl); (case hg => rfl); (case hn => rfl); (case hr => first | (go_simp; done) | (go_simp; rfl)); intro w32 hw; have hg : wc.grownBy w32 (some go24) := (by rw [hw]; exact HP31.2); have hp_ : Kd.R (Kd.int .i64) 3 w32 w.heap.size (fun _ => True) (.slice (some ⟨go24, 0, none⟩) x6_12.length co30) y246 := (by rw [hw, Ny246.out]; exact HP31.1); clear HP31; have n0_ := Aside0.mk (hp_); have n1_ := Aside0.mk (blk_grown (g := gb236) (o := .cells #[.slice (some ad244) l0_0.length c0_0, .slice A0_1 l0_1.length c0_1] 27 (0, 0)) (kX BK236.out) hg (Kd.R_ne HO_6.out BK236.out (by decide))); have n2_ := Aside0.mk ((by rw [hw]; exact below_set (HB.out) GB24.out : Below w.heap.size w w32)); clear HO_6; clear BK236; clear HB; have HO_6 := n0_; have BK236 := n1_; have HB := n2_; clear n0_ n1_ n2_; clear hg hw hp_; have hcz33_0 : w32.cell? ⟨gb236, 0, none⟩ = some (.slice (some ad244) l0_0.length c0_0) := (blk_cell BK236.out 0).trans rfl; have hcz33_1 : w32.cell? ⟨gb236, 1, none⟩ = some (.slice A0_1 l0_1.length c0_1) := (blk_cell BK236.out 1).trans rfl; have hfz33_0 := blk_frozen BK236.out 0; have hfz33_1 := blk_frozen BK236.out 1; have p247 : 0 ≤ (x20_1 : Int) := dX; have q247 : x20_1 < (l0_1.length : Int) := dX; obtain ⟨ad247, e247, hx247_0⟩ := Kd.at_int HR0_1.out x20_1 p247 q247; cases e247; replace hx247_0 := (HB.out.cell (World.block_lt_of_cell? w _ hx247_0)).trans hx247_0; replace p247 := eq_true p247; replace q247 := eq_true q247; have p248 : 0 ≤ (2 : Int) := (by omega); have q248 : 2 < (y246.length : Int) := (by have h_ : (2 : Int) < ((x6_12.length : Int) : Int) := dX; first | (have e_ := (Kd.R_reads' HO_6.out).1; omega) | simpa only [Ny246.out, List.length_set] using h_); have ql248 : ((2 : Int) < ((x6_12.length : Int) : Int)) = True := eq_true (dX); (try have qn248 : (2 < x6_12.length) = True := eq_true (by have h_ : (2 : Int) < ((x6_12.length : Int) : Int) := dX; omega)); obtain ⟨ad248, e248, hx248_0⟩ := Kd.at_int (Kd.R_reads' HO_6.out).2.2 2 p248 q248; obtain rfl : (⟨go24, 0, none⟩ : Addr) = ad248 := (by injection e248); (first | simp only [add_plain] at hx248_0 | simp only [add_at] at hx248_0 | simp only [Addr.add, Nat.zero_add] at hx248_0 | skip); have qi248 : (2 < y246.length) = True := eq_true (by omega); (try rw [show ((2 : Int)).toNat = 2 from rfl] at hx248_0); replace p248 := eq_true p248; replace q248 := eq_true q248; have p28 : 0 ≤ (2 : Int) := (by omega); have q28 : (2 : Int) < ((x6_12.length : Int) : Int) := dX; have qi28 : (2 < x6_12.length) = True := eq_true (by omega); obtain ⟨hx28_0, hf28_0⟩ := Kd.R_celln 0 HO_6.out (2 : Int) p28 q28; (try rw [show ((2 : Int)).toNat = 2 from rfl] at hx28_0); (try simp only [Nat.reduceMul, Nat.zero_mul, Nat.zero_add, Nat.reduceAdd] at hx28_0); (try rw [show ((2 : Int)).toNat = 2 from rfl] at hf28_0); (try simp only [Nat.reduceMul, Nat.zero_mul, Nat.zero_add, Nat.reduceAdd] at hf28_0); replace p28 := eq_true p28; replace q28 := eq_true q28; obtain ⟨hy34_, hz34_⟩ := Kd.R_celln 0 HO_6.out (2 : Int) (by omega) (dX); (try simp only [Int.reduceToNat, Int.toNat_zero, Int.toNat_ofNat, Nat.reduceMul, Nat.zero_mul, Nat.zero_add] at hy34_ hz34_); (try rw [show ((2 : Int)).toNat = 2 from rfl] at hy34_); (try rw [show ((2 : Int)).toNat = 2 from rfl] at hz34_); have HP34 := Kd.R_putg HO_6.out (2 : Int) (wrap64 ((rd y246 2) + 1))) | ((with_reducible refine gate_store (t := 3) (p := 56) rfl ?_); refine store_event (t := 3) (p := 56) (v := ?vo_w35) (w1 := (w32.setCell ⟨go24, (2 : Int).toNat, none⟩ (.int .i64 (wrap64 ((rd y246 2) + 1))))) ?hg ?ho ?hn ?hr ?_; (case ho => rfl); (case hg => rfl); (case hn => rfl); (case hr => first | (go_simp; done) | (go_simp; rfl)); intro w35 hw; have hg : w32.grownBy w35 (some go24) := (by rw [hw]; exact HP34.2); have hp_ : Kd.R (Kd.int .i64) 3 w35 w.heap.size (fun _ => True) (.slice (some ⟨go24, 0, none⟩) x6_12.length co30) y249 := (by rw [hw, Ny249.out]; exact HP34.1); clear HP34; have n0_ := Aside0.mk (hp_); have n1_ := Aside0.mk (blk_grown (g := gb236) (o := .cells #[.slice (some ad244) l0_0.length c0_0, .slice (some ad247) l0_1.length c0_1] 27 (0, 0)) (kX BK236.out) hg (Kd.R_ne HO_6.out BK236.out (by decide))); have n2_ := Aside0.mk ((by rw [hw]; exact below_set (HB.out) GB24.out : Below w.heap.size w w35)); clear HO_6; clear BK236; clear HB; have HO_6 := n0_; have BK236 := n1_; have HB := n2_; clear n0_ n1_ n2_; clear hg hw hp_))
                go_roundg kj12
                case measure => have := HK1.out; have := HJ12.out; omega
                case rel => exact ⟨(y249), (wrap64 (x20_1 + 1)), vX, H', ⟨by have := HK1.out; have := HJ12.out; omega⟩, ⟨rX HO_6.out⟩, ⟨kX BK236.out⟩, ⟨bX1 HB.out GE236.out⟩⟩
               ·rw [if_neg c27] at H
                exact absurd H (by simp)
              ·rw [if_neg c26] at H
               have c26b0 : ((rd l1 x20_1) == (rd l0_1 x20_1)) = false := beq_eq_false_iff_ne.mpr c26
               have c26b1 : ((rd l1 x20_1) != (rd l0_1 x20_1)) = true := bne_iff_ne.mpr c26
               have H' := Aside0.mk H
               clear H
               have hcz36_0 : wc.cell? ⟨gb236, 0, none⟩ = some (.slice A0_0 l0_0.length c0_0) := (blk_cell BK236.out 0).trans rfl
               have hcz36_1 : wc.cell? ⟨gb236, 1, none⟩ = some (.slice A0_1 l0_1.length c0_1) := (blk_cell BK236.out 1).trans rfl
               have hfz36_0 := blk_frozen BK236.out 0
               have hfz36_1 := blk_frozen BK236.out 1
               have p244 : 0 ≤ (x20_1 : Int) := dX
               have q244 : x20_1 < (l0_0.length : Int) := dX
               obtain ⟨ad244, e244, hx244_0⟩ := Kd.at_int HR0_0.out x20_1 p244 q244
               cases e244
               replace hx244_0 := (HB.out.cell (World.block_lt_of_cell? w _ hx244_0)).trans hx244_0
               replace p244 := eq_true p244
               replace q244 := eq_true q244
               obtain ⟨Ao37, co37, eo37⟩ := Kd.R_slice HO_6.out
               subst eo37
               have p245 : 0 ≤ (1 : Int) := (by omega)
               have q245 : 1 < (x6_12.length : Int) := dX
               obtain ⟨ad245, e245, hx245_0⟩ := Kd.at_int (Kd.R_reads' HO_6.out).2.2 1 p245 q245
               cases e245
               (try simp only [show (1 : Int).toNat = 1 from rfl, Nat.reduceMul, Nat.reduceEqDiff, Go.Addr.add, ↓reduceIte] at hx245_0)
               have qi245 : (1 < x6_12.length) = True := eq_true (by omega)
               (try rw [show ((1 : Int)).toNat = 1 from rfl] at hx245_0)
               replace p245 := eq_true p245
               replace q245 := eq_true q245
               have p24 : 0 ≤ (1 : Int) := (by omega)
               have q24 : (1 : Int) < ((x6_12.length : Int) : Int) := dX
               have qi24 : (1 < x6_12.length) = True := eq_true (by omega)
               obtain ⟨go24, co24, eo24, gb24, gl24, cl24, HG24⟩ := Kd.R_form HO_6.out (by omega)
               (first | cases eo24 | (injection eo24 with ea_ en_ ec_; (first | subst ea_ | (injection ea_ with ea_; subst ea_)); subst ec_; clear en_))
               have GB24 := Aside0.mk gb24
               have GG24 := Aside0.mk HG24
               clear gb24 gl24 HG24
               (first | simp only [add_plain] at hx245_0 | skip)
               obtain ⟨hx24_0, hf24_0⟩ := Kd.R_celln 0 HO_6.out (1 : Int) p24 q24
               (try rw [show ((1 : Int)).toNat = 1 from rfl] at hx24_0)
               (try simp only [Nat.reduceMul, Nat.zero_mul, Nat.zero_add, Nat.reduceAdd] at hx24_0)
               (try rw [show ((1 : Int)).toNat = 1 from rfl] at hf24_0)
               (try simp only [Nat.reduceMul, Nat.zero_mul, Nat.zero_add, Nat.reduceAdd] at hf24_0)
               replace p24 := eq_true p24
               replace q24 := eq_true q24
               have HP38 := Kd.R_putg HO_6.out (1 : Int) (wrap64 ((rd x6_12 1) + 1))
               go_wp2_with (first | ((with_reducible refine gate_store (t := 3) (p := 44) rfl ?_); refine store_event (t := 3) (p := 44) (v := ?vo_w39) (w1 := (wc.setCell ⟨go24, (1 : Int).toNat, none⟩ (.int .i64 (wrap64 ((rd x6_12 1) + 1))))) ?hg ?ho ?hn ?hr ?_; (case ho => rfl); (case hg => rfl); (case hn => rfl); (case hr => first | (go_simp; done) | (go_simp; rfl)); intro w39 hw; have hg : wc.grownBy w39 (some go24) := (by rw [hw]; exact HP38.2); have hp_ : Kd.R (Kd.int .i64) 3 w39 w.heap.size (fun _ => True) (.slice (some ⟨go24, 0, none⟩) x6_12.length co37) y246 := (by rw [hw, Ny246.out]; exact HP38.1); clear HP38; have n0_ := Aside0.mk (hp_); have n1_ := Aside0.mk (blk_grown (g := gb236) (o := .cells #[.slice (some ad244) l0_0.length c0_0, .slice A0_1 l0_1.length c0_1] 27 (0, 0)) (kX BK236.out) hg (Kd.R_ne HO_6.out BK236.out (by decide))); have n2_ := Aside0.mk ((by rw [hw]; exact below_set (HB.out) GB24.out : Below w.heap.size w w39)); clear HO_6; clear BK236; clear HB; have HO_6 := n0_; have BK236 := n1_; have HB := n2_; clear n0_ n1_ n2_; clear hg hw hp_; have hcz40_0 : w39.cell? ⟨gb236, 0, none⟩ = some (.slice (some ad244) l0_0.length c0_0) := (blk_cell BK236.out 0).trans rfl; have hcz40_1 : w39.cell? ⟨gb236, 1, none⟩ = some (.slice A0_1 l0_1.length c0_1) := (blk_cell BK236.out 1).trans rfl; have hfz40_0 := blk_frozen BK236.out 0; have hfz40_1 := blk_frozen BK236.out 1; have p247 : 0 ≤ (x20_1 : Int) := dX; have q247 : x20_1 < (l0_1.length : Int) := dX; obtain ⟨ad247, e247, hx247_0⟩ := Kd.at_int HR0_1.out x20_1 p247 q247; cases e247; replace hx247_0 := (HB.out.cell (World.block_lt_of_cell? w _ hx247_0)).trans hx247_0; replace p247 := eq_true p247; replace q247 := eq_true q247))
               go_roundg kj12
               case measure => have := HK1.out; have := HJ12.out; omega
               case rel => exact ⟨(y246), (wrap64 (x20_1 + 1)), vX, H', ⟨by have := HK1.out; have := HJ12.out; omega⟩, ⟨rX HO_6.out⟩, ⟨kX BK236.out⟩, ⟨bX1 HB.out GE236.out⟩⟩
             ·rw [if_neg c25] at H
              exact absurd H (by simp)
            ·rw [if_neg c23] at H
             exact absurd H (by simp)
           ·rw [if_neg c22] at H
            have c22b0 : ((rd l1 x20_1) == (rd l0_0 x20_1)) = false := beq_eq_false_iff_ne.mpr c22
            have c22b1 : ((rd l1 x20_1) != (rd l0_0 x20_1)) = true := bne_iff_ne.mpr c22
            by_cases c41 : x20_1 < (l0_1.length : Int)
            ·rw [if_pos c41] at H
             have c41b0 : decide (x20_1 < (l0_1.length : Int)) = true := decide_eq_true c41
             clear c41
             by_cases c42 : (rd l1 x20_1) = (rd l0_1 x20_1)
             ·rw [if_pos c42] at H
              have c42b0 : ((rd l1 x20_1) == (rd l0_1 x20_1)) = true := beq_iff_eq.mpr c42
              have c42b1 : ((rd l1 x20_1) != (rd l0_1 x20_1)) = false := bne_eq_false_iff_eq.mpr c42
              clear c42
              by_cases c43 : 2 < (x6_12.length : Int)
              ·rw [if_pos c43] at H
               have c43b0 : decide (2 < (x6_12.length : Int)) = true := decide_eq_true c43
               have c43b1 : decide (2 < x6_12.length) = true := decide_eq_true (by omega)
               clear c43
               obtain ⟨y252, hy252⟩ : ∃ y_ : List Int, y_ = (x6_12.set (2 : Int).toNat (wrap64 ((rd x6_12 2) + 1))) := ⟨_, rfl⟩
               replace H : (spec_FixedPoints.l0 kj12 l1 y252 l1 (l1.length : Int) (wrap64 (x20_1 + 1)) l0_0 l0_1) = some (r1, r2) := by first | (rw [hy252]; with_reducible exact H) | (have H2_ := (Option.bind_some _ _).symm.trans H; rw [hy252]; with_reducible exact H2_) | (have H2_ := (Option.bind_some _ _).symm.trans H; with_reducible exact H2_) | with_reducible exact H | (rw [hy252]; exact H) | exact H
               have Ny252 := Aside0.mk hy252
               clear hy252
               have H' := Aside0.mk H
               clear H
               have hcz45_0 : wc.cell? ⟨gb236, 0, none⟩ = some (.slice A0_0 l0_0.length c0_0) := (blk_cell BK236.out 0).trans rfl
               have hcz45_1 : wc.cell? ⟨gb236, 1, none⟩ = some (.slice A0_1 l0_1.length c0_1) := (blk_cell BK236.out 1).trans rfl
               have hfz45_0 := blk_frozen BK236.out 0
               have hfz45_1 := blk_frozen BK236.out 1
               have p244 : 0 ≤ (x20_1 : Int) := dX
               have q244 : x20_1 < (l0_0.length : Int) := dX
               obtain ⟨ad244, e244, hx244_0⟩ := Kd.at_int HR0_0.out x20_1 p244 q244
               cases e244
               replace hx244_0 := (HB.out.cell (World.block_lt_of_cell? w _ hx244_0)).trans hx244_0
               replace p244 := eq_true p244
               replace q244 := eq_true q244
               have p250 : 0 ≤ (x20_1 : Int) := dX
               have q250 : x20_1 < (l0_1.length : Int) := dX
               obtain ⟨ad250, e250, hx250_0⟩ := Kd.at_int HR0_1.out x20_1 p250 q250
               cases e250
               replace hx250_0 := (HB.out.cell (World.block_lt_of_cell? w _ hx250_0)).trans hx250_0
               replace p250 := eq_true p250
               replace q250 := eq_true q250
               obtain ⟨Ao46, co46, eo46⟩ := Kd.R_slice HO_6.out
               subst eo46
               have p251 : 0 ≤ (2 : Int) := (by omega)
               have q251 : 2 < (x6_12.length : Int) := dX
               obtain ⟨ad251, e251, hx251_0⟩ := Kd.at_int (Kd.R_reads' HO_6.out).2.2 2 p251 q251
               cases e251
               (try simp only [show (2 : Int).toNat = 2 from rfl, Nat.reduceMul, Nat.reduceEqDiff, Go.Addr.add, ↓reduceIte] at hx251_0)
               have qi251 : (2 < x6_12.length) = True := eq_true (by omega)
               (try rw [show ((2 : Int)).toNat = 2 from rfl] at hx251_0)
               replace p251 := eq_true p251
               replace q251 := eq_true q251
               have p44 : 0 ≤ (2 : Int) := (by omega)
               have q44 : (2 : Int) < ((x6_12.length : Int) : Int) := dX
               have qi44 : (2 < x6_12.length) = True := eq_true (by omega)
               obtain ⟨go44, co44, eo44, gb44, gl44, cl44, HG44⟩ := Kd.R_form HO_6.out (by omega)
               (first | cases eo44 | (injection eo44 with ea_ en_ ec_; (first | subst ea_ | (injection ea_ with ea_; subst ea_)); subst ec_; clear en_))
               have GB44 := Aside0.mk gb44
               have GG44 := Aside0.mk HG44
               clear gb44 gl44 HG44
               (first | simp only [add_plain] at hx251_0 | skip)
               obtain ⟨hx44_0, hf44_0⟩ := Kd.R_celln 0 HO_6.out (2 : Int) p44 q44
               (try rw [show ((2 : Int)).toNat = 2 from rfl] at hx44_0)
               (try simp only [Nat.reduceMul, Nat.zero_mul, Nat.zero_add, Nat.reduceAdd] at hx44_0)
               (try rw [show ((2 : Int)).toNat = 2 from rfl] at hf44_0)
               (try simp only [Nat.reduceMul, Nat.zero_mul, Nat.zero_add, Nat.reduceAdd] at hf44_0)
               replace p44 := eq_true p44
               replace q44 := eq_true q44
               have HP47 := Kd.R_putg HO_6.out (2 : Int) (wrap64 ((rd x6_12 2) + 1))
               go_wp2_with (first | ((with_reducible refine gate_store (t := 3) (p := 56) rfl ?_); refine store_event (t := 3) (p := 56) (v := ?vo_w48) (w1 := (wc.setCell ⟨go44, (2 : Int).toNat, none⟩ (.int .i64 (wrap64 ((rd x6_12 2) + 1))))) ?hg ?ho ?hn ?hr ?_; (case ho => rfl); (case hg => rfl); (case hn => rfl); (case hr => first | (go_simp; done) | (go_simp; rfl)); intro w48 hw; have hg : wc.grownBy w48 (some go44) := (by rw [hw]; exact HP47.2); have hp_ : Kd.R (Kd.int .i64) 3 w48 w.heap.size (fun _ => True) (.slice (some ⟨go44, 0, none⟩) x6_12.length co46) y252 := (by rw [hw, Ny252.out]; exact HP47.1); clear HP47; have n0_ := Aside0.mk (hp_); have n1_ := Aside0.mk (blk_grown (g := gb236) (o := .cells #[.slice (some ad244) l0_0.length c0_0, .slice (some ad250) l0_1.length c0_1] 27 (0, 0)) (kX BK236.out) hg (Kd.R_ne HO_6.out BK236.out (by decide))); have n2_ := Aside0.mk ((by rw [hw]; exact below_set (HB.out) GB44.out : Below w.heap.size w w48)); clear HO_6; clear BK236; clear HB; have HO_6 := n0_; have BK236 := n1_; have HB := n2_; clear n0_ n1_ n2_; clear hg hw hp_))
               go_roundg kj12
               case measure => have := HK1.out; have := HJ12.out; omega
               case rel => exact ⟨(y252), (wrap64 (x20_1 + 1)), vX, H', ⟨by have := HK1.out; have := HJ12.out; omega⟩, ⟨rX HO_6.out⟩, ⟨kX BK236.out⟩, ⟨bX1 HB.out GE236.out⟩⟩
              ·rw [if_neg c43] at H
               exact absurd H (by simp)
             ·rw [if_neg c42] at H
              have c42b0 : ((rd l1 x20_1) == (rd l0_1 x20_1)) = false := beq_eq_false_iff_ne.mpr c42
              have c42b1 : ((rd l1 x20_1) != (rd l0_1 x20_1)) = true := bne_iff_ne.mpr c42
              have H' := Aside0.mk H
              clear H
              have hcz49_0 : wc.cell? ⟨gb236, 0, none⟩ = some (.slice A0_0 l0_0.length c0_0) := (blk_cell BK236.out 0).trans rfl
              have hcz49_1 : wc.cell? ⟨gb236, 1, none⟩ = some (.slice A0_1 l0_1.length c0_1) := (blk_cell BK236.out 1).trans rfl
              have hfz49_0 := blk_frozen BK236.out 0
              have hfz49_1 := blk_frozen BK236.out 1
              have p244 : 0 ≤ (x20_1 : Int) := dX
              have q244 : x20_1 < (l0_0.length : Int) := dX
              obtain ⟨ad244, e244, hx244_0⟩ := Kd.at_int HR0_0.out x20_1 p244 q244
              cases e244
              replace hx244_0 := (HB.out.cell (World.block_lt_of_cell? w _ hx244_0)).trans hx244_0
              replace p244 := eq_true p244
              replace q244 := eq_true q244
              have p250 : 0 ≤ (x20_1 : Int) := dX
              have q250 : x20_1 < (l0_1.length : Int) := dX
              obtain ⟨ad250, e250, hx250_0⟩ := Kd.at_int HR0_1.out x20_1 p250 q250
              cases e250
              replace hx250_0 := (HB.out.cell (World.block_lt_of_cell? w _ hx250_0)).trans hx250_0
              replace p250 := eq_true p250
              replace q250 := eq_true q250
              go_wp2
              go_roundg kj12
              case measure => have := HK1.out; have := HJ12.out; omega
              case rel => exact ⟨(x6_12), (wrap64 (x20_1 + 1)), vX, H', ⟨by have := HK1.out; have := HJ12.out; omega⟩, ⟨rX HO_6.out⟩, ⟨kX BK236.out⟩, ⟨bX1 HB.out GE236.out⟩⟩
            ·rw [if_neg c41] at H
             exact absurd H (by simp)
          ·rw [if_neg c21] at H
           exact absurd H (by simp)
         ·rw [if_neg c20] at H
          exact absurd H (by simp)
      ·rw [if_neg c12] at H
       exact absurd H (by simp)
     ·rw [if_neg c11] at H
      exact absurd H (by simp)
    ·rw [if_neg c10] at H
     have c10b0 : decide (x20_1 < (l1.length : Int)) = false := decide_eq_false c10
     clear c10
     replace H := Option.bind_eq_some_iff.mp H
     obtain ⟨t253, A500, H⟩ := H
     replace H : ((spec_l02Inverse.f k1 l0_1).bind fun t256 => ((spec_CornersOf.f k1 l0_0 l0_1).bind fun t259 => (spec_FixedPoints.l1 k1 l1 x6_1 t253 t256 t259 (t259.length : Int) 0))) = some (r1, r2) := H
     have A50 := Aside0.mk A500
     clear A500
     replace H := Option.bind_eq_some_iff.mp H
     obtain ⟨t256, A510, H⟩ := H
     replace H : ((spec_CornersOf.f k1 l0_0 l0_1).bind fun t259 => (spec_FixedPoints.l1 k1 l1 x6_1 t253 t256 t259 (t259.length : Int) 0)) = some (r1, r2) := H
     have A51 := Aside0.mk A510
     clear A510
     replace H := Option.bind_eq_some_iff.mp H
     obtain ⟨t259, A520, H⟩ := H
     replace H : (spec_FixedPoints.l1 k1 l1 x6_1 t253 t256 t259 (t259.length : Int) 0) = some (r1, r2) := H
     have A52 := Aside0.mk A520
     clear A520
     have H' := Aside0.mk H
     clear H
     have hcz53_0 : wr.cell? ⟨gb236, 0, none⟩ = some (.slice A0_0 l0_0.length c0_0) := (blk_cell BK236.out 0).trans rfl
     have hcz53_1 : wr.cell? ⟨gb236, 1, none⟩ = some (.slice A0_1 l0_1.length c0_1) := (blk_cell BK236.out 1).trans rfl
     have hfz53_0 := blk_frozen BK236.out 0
     have hfz53_1 := blk_frozen BK236.out 1
     go_wp2_with (first | ((with_reducible refine gate_callee (f := 23) rfl ?_); refine goesL_ (some 60) rfl rfl Tryd.func23 (by kernel_rfl) rfl #[.slice A0_0 l0_0.length c0_0] rfl (by (try simp only [zE,zF,zG]); first|done|rfl|(simp only [zH,zI]; rfl)) ?_; (with_reducible refine (spec_l02Inverse.calls k1 _ _ l0_0 t253 _ ?side1 ?side2 A50.out).mono ?_); (case side1 => repeat (first | exact (Kd.C_below HR0_0.out HB.out) | (with_reducible refine Kd.C_alloc ?_ _) | (with_reducible refine Kd.C_drewN ?_ _) | (with_reducible refine Kd.C_drew ?_))); (case side2 => exact HC0_0.out); rintro e w54 ⟨v254, rfl, ho0, hb⟩; refine ⟨_, rfl, ?_⟩; have n0_ := Aside0.mk (Kd.R_elder' (rX HO_6.out) (Kd.R_base ho0) hb); have n1_ := Aside0.mk (Kd.R_lower (Kd.R_new' ho0 (Kd.R_lt (rX HO_6.out))) (below_size (bX1 HB.out GE236.out))); have n2_ := Aside0.mk (blk_below (g := gb236) (o := .cells #[.slice A0_0 l0_0.length c0_0, .slice A0_1 l0_1.length c0_1] 27 (0, 0)) (kX BK236.out) hb); have n3_ := Aside0.mk (below_step (bX1 HB.out GE236.out) hb); clear HO_6; clear BK236; clear HB; have HO_6 := n0_; have HO255 := n1_; have BK236 := n2_; have HB := n3_; clear n0_ n1_ n2_ n3_; (try clear hb); (try clear hb2); (try clear hk); (try clear hi); (try clear ho0); have hcz55_0 : w54.cell? ⟨gb236, 0, none⟩ = some (.slice A0_0 l0_0.length c0_0) := (blk_cell BK236.out 0).trans rfl; have hcz55_1 : w54.cell? ⟨gb236, 1, none⟩ = some (.slice A0_1 l0_1.length c0_1) := (blk_cell BK236.out 1).trans rfl; have hfz55_0 := blk_frozen BK236.out 0; have hfz55_1 := blk_frozen BK236.out 1) | ((with_reducible refine gate_callee (f := 23) rfl ?_); refine goesL_ (some 63) rfl rfl Tryd.func23 (by kernel_rfl) rfl #[.slice A0_1 l0_1.length c0_1] rfl (by (try simp only [zE,zF,zG]); first|done|rfl|(simp only [zH,zI]; rfl)) ?_; (with_reducible refine (spec_l02Inverse.calls k1 _ _ l0_1 t256 _ ?side1 ?side2 A51.out).mono ?_); (case side1 => repeat (first | exact (Kd.C_below HR0_1.out HB.out) | (with_reducible refine Kd.C_alloc ?_ _) | (with_reducible refine Kd.C_drewN ?_ _) | (with_reducible refine Kd.C_drew ?_))); (case side2 => exact HC0_1.out); rintro e w56 ⟨v257, rfl, ho0, hb⟩; refine ⟨_, rfl, ?_⟩; have n0_ := Aside0.mk (Kd.R_elder' (rX HO_6.out) (Kd.R_base ho0) hb); have n1_ := Aside0.mk (Kd.R_elder' (rX HO255.out) (Kd.R_base ho0) hb); have n2_ := Aside0.mk (Kd.R_lower (Kd.R_new' (Kd.R_new' ho0 (Kd.R_lt (rX HO_6.out))) (Kd.R_lt (rX HO255.out))) (below_size (bX1 HB.out GE236.out))); have n3_ := Aside0.mk (blk_below (g := gb236) (o := .cells #[.slice A0_0 l0_0.length c0_0, .slice A0_1 l0_1.length c0_1] 27 (0, 0)) (kX BK236.out) hb); have n4_ := Aside0.mk (below_step (bX1 HB.out GE236.out) hb); clear HO_6; clear HO255; clear BK236; clear HB; have HO_6 := n0_; have HO255 := n1_; have HO258 := n2_; have BK236 := n3_; have HB := n4_; clear n0_ n1_ n2_ n3_ n4_; (try clear hb); (try clear hb2); (try clear hk); (try clear hi); (try clear ho0); have hcz57_0 : w56.cell? ⟨gb236, 0, none⟩ = some (.slice A0_0 l0_0.length c0_0) := (blk_cell BK236.out 0).trans rfl; have hcz57_1 : w56.cell? ⟨gb236, 1, none⟩ = some (.slice A0_1 l0_1.length c0_1) := (blk_cell BK236.out 1).trans rfl; have hfz57_0 := blk_frozen BK236.out 0; have hfz57_1 := blk_frozen BK236.out 1) | ((with_reducible refine gate_callee (f := 24) rfl ?_); refine goesL_ (some 65) rfl rfl Tryd.func24 (by kernel_rfl) rfl #[.agg #[.slice A0_0 l0_0.length c0_0, .slice A0_1 l0_1.length c0_1]] rfl (by (try simp only [zE,zF,zG]); first|done|rfl|(simp only [zH,zI]; rfl)) ?_; (with_reducible refine (spec_CornersOf.calls k1 _ _ l0_0 _ _ l0_1 t259 _ ?side1 ?side2 ?side3 ?side4 A52.out).mono ?_); (case side1 => repeat (first | exact (Kd.C_below HR0_0.out HB.out) | (with_reducible refine Kd.C_alloc ?_ _) | (with_reducible refine Kd.C_drewN ?_ _) | (with_reducible refine Kd.C_drew ?_))); (case side2 => exact HC0_0.out); (case side3 => repeat (first | exact (Kd.C_below HR0_1.out HB.out) | (with_reducible refine Kd.C_alloc ?_ _) | (with_reducible refine Kd.C_drewN ?_ _) | (with_reducible refine Kd.C_drew ?_))); (case side4 => exact HC0_1.out); rintro e w58 ⟨v260, rfl, ho0, hb⟩; refine ⟨_, rfl, ?_⟩; have n0_ := Aside0.mk (Kd.R_below (rX HO_6.out) hb); have n1_ := Aside0.mk (Kd.R_below (rX HO255.out) hb); have n2_ := Aside0.mk (Kd.R_below (rX HO258.out) hb); have n3_ := Aside0.mk (Kd.S_lower (Kd.S_new' (Kd.S_new' (Kd.S_new' ho0 (Kd.R_lt (rX HO_6.out))) (Kd.R_lt (rX HO255.out))) (Kd.R_lt (rX HO258.out))) (below_size (bX1 HB.out GE236.out))); have n4_ := Aside0.mk (blk_below (g := gb236) (o := .cells #[.slice A0_0 l0_0.length c0_0, .slice A0_1 l0_1.length c0_1] 27 (0, 0)) (kX BK236.out) hb); have n5_ := Aside0.mk (below_step (bX1 HB.out GE236.out) hb); clear HO_6; clear HO255; clear HO258; clear BK236; clear HB; have HO_6 := n0_; have HO255 := n1_; have HO258 := n2_; have HO261 := n3_; have BK236 := n4_; have HB := n5_; clear n0_ n1_ n2_ n3_ n4_ n5_; (try clear hb); (try clear hb2); (try clear hk); (try clear hi); (try clear ho0); obtain ⟨Ao59, co59, eo59⟩ := Kd.S_slice HO261.out; subst eo59))
     go_loopg [67] k1 (fun kq v67 w' => ∃ (x6_2 : List Int) (x67_2 : Int), v67 = .int .i64 x67_2 ∧ Aside0 (spec_FixedPoints.l1 kq l1 x6_2 t253 t256 t259 (t259.length : Int) x67_2 = some (r1, r2)) ∧ Aside0 (kq ≤ k1) ∧ Aside0 (Kd.R (Kd.int .i64) 3 w' w.heap.size (fun k_ => some k_ ≠ (v254 : Value).ownBlock ∧ some k_ ≠ (v257 : Value).ownBlock) v239 x6_2) ∧ Aside0 (Kd.R (Kd.int .i64) 3 w' w.heap.size (fun k_ => some k_ ≠ (v239 : Value).ownBlock ∧ some k_ ≠ (v257 : Value).ownBlock) v254 t253) ∧ Aside0 (Kd.R (Kd.int .i64) 3 w' w.heap.size (fun k_ => some k_ ≠ (v239 : Value).ownBlock ∧ some k_ ≠ (v254 : Value).ownBlock) v257 t256) ∧ Aside0 (Kd.S (Kd.slice 3 (Kd.int .i64)) 22 w' w.heap.size (fun k_ => some k_ ≠ (v239 : Value).ownBlock ∧ some k_ ≠ (v254 : Value).ownBlock ∧ some k_ ≠ (v257 : Value).ownBlock) (.slice Ao59 t259.length co59) t259) ∧ Aside0 (w'.heap[gb236]? = some (.cells #[(.slice A0_0 l0_0.length c0_0), (.slice A0_1 l0_1.length c0_1)] 27 (0, 0))) ∧ Aside0 (Below w.heap.size w w'))
     case atStart => exact ⟨(x6_1), (0), vX, H', ⟨Nat.le_refl _⟩, ⟨rM HO_6.out (fun _ hk => ⟨hk.1.2, hk.2⟩)⟩, ⟨rM HO255.out (fun _ hk => ⟨hk.1.2, hk.2⟩)⟩, ⟨rM HO258.out (fun _ hk => ⟨hk.1.2, hk.2⟩)⟩, ⟨by (with_reducible repeat (first | apply Kd.S_alloc | apply Kd.S_drewN | apply Kd.S_drew)); exact Kd.S_mono HO261.out (fun _ hk => ⟨hk.1.1.2, ⟨hk.1.2, hk.2⟩⟩)⟩, ⟨kX BK236.out⟩, ⟨bX1 HB.out GE236.out⟩⟩
     case round =>
      clear H'
      try clear c1
      try clear p1
      try clear q1
      try clear hx1
      try clear qi1
      try clear c2
      try clear p2
      try clear q2
      try clear hx2
      try clear qi2
      try clear hf2
      try clear c4
      try clear p4
      try clear q4
      try clear hx4
      try clear qi4
      try clear hf4
      try clear p6
      try clear c10
      try clear c10b0
      try clear c11
      try clear c11b0
      try clear c12
      try clear c12b0
      try clear c14
      try clear c14b0
      try clear c14b1
      try clear c15
      try clear c15b0
      try clear c15b1
      try clear p16
      try clear q16
      try clear hx16
      try clear qi16
      try clear hf16
      try clear c20
      try clear c20b0
      try clear c21
      try clear c21b0
      try clear c22
      try clear c22b0
      try clear c22b1
      try clear c23
      try clear c23b0
      try clear c23b1
      try clear c24
      try clear p24
      try clear q24
      try clear hx24
      try clear qi24
      try clear hf24
      try clear c25
      try clear c25b0
      try clear p25
      try clear q25
      try clear hx25
      try clear qi25
      try clear c26
      try clear c26b0
      try clear c26b1
      try clear c27
      try clear c27b0
      try clear c27b1
      try clear p28
      try clear q28
      try clear hx28
      try clear qi28
      try clear hf28
      try clear c41
      try clear c41b0
      try clear c42
      try clear c42b0
      try clear c42b1
      try clear c43
      try clear c43b0
      try clear c43b1
      try clear p44
      try clear q44
      try clear hx44
      try clear qi44
      try clear hf44
      try clear hcz29_0
      try clear hcz29_1
      try clear hcz33_0
      try clear hcz33_1
      try clear hcz36_0
      try clear hcz36_1
      try clear hcz40_0
      try clear hcz40_1
      try clear hcz45_0
      try clear hcz45_1
      try clear hcz49_0
      try clear hcz49_1
      try clear hcz53_0
      try clear hcz53_1
      try clear hcz55_0
      try clear hcz55_1
      try clear hcz57_0
      try clear hcz57_1
      try clear hcz6_0
      try clear hcz6_1
      try clear hfz29_0
      try clear hfz29_1
      try clear hfz33_0
      try clear hfz33_1
      try clear hfz36_0
      try clear hfz36_1
      try clear hfz40_0
      try clear hfz40_1
      try clear hfz45_0
      try clear hfz45_1
      try clear hfz49_0
      try clear hfz49_1
      try clear hfz53_0
      try clear hfz53_1
      try clear hfz55_0
      try clear hfz55_1
      try clear hfz57_0
      try clear hfz57_1
      try clear hfz6_0
      try clear hfz6_1
      try clear hx16_0
      try clear hx241_0
      try clear hx242_0
      try clear hx244_0
      try clear hx245_0
      try clear hx247_0
      try clear hx248_0
      try clear hx24_0
      try clear hx250_0
      try clear hx251_0
      try clear hx28_0
      try clear hx44_0
      try clear p1
      try clear p16
      try clear p2
      try clear p24
      try clear p241
      try clear p242
      try clear p244
      try clear p245
      try clear p247
      try clear p248
      try clear p250
      try clear p251
      try clear p28
      try clear p44
      try clear p6
      try clear q1
      try clear q16
      try clear q2
      try clear q24
      try clear q241
      try clear q242
      try clear q244
      try clear q245
      try clear q247
      try clear q248
      try clear q250
      try clear q251
      try clear q28
      try clear q44
      obtain ⟨x6_2, x67_2, rfl, HA, HK2, HO_6, HO_9, HO_10, HO_65, BK236, HB⟩ := hrel
      cases gk with
      | zero => exact absurd HA.out (by simp [spec_FixedPoints.l1])
      | succ k2 =>
       have H := HA.out
       clear HA
       simp only [spec_FixedPoints.l1] at H
       by_cases c60 : x67_2 < (t259.length : Int)
       ·rw [if_pos c60] at H
        have c60b0 : decide (x67_2 < (t259.length : Int)) = true := decide_eq_true c60
        clear c60
        by_cases c61 : 0 ≤ x67_2
        ·rw [if_pos c61] at H
         have c61b0 : decide (0 ≤ x67_2) = true := decide_eq_true c61
         clear c61
         by_cases c62 : x67_2 < (t259.length : Int)
         ·rw [if_pos c62] at H
          have c62b0 : decide (x67_2 < (t259.length : Int)) = true := decide_eq_true c62
          clear c62
          by_cases c63 : 0 < ((rd_L1 t259 x67_2).length : Int)
          ·rw [if_pos c63] at H
           have c63b0 : decide (0 < ((rd_L1 t259 x67_2).length : Int)) = true := decide_eq_true c63
           have c63b1 : decide (0 < (rd_L1 t259 x67_2).length) = true := decide_eq_true (by omega)
           clear c63
           by_cases c64 : 0 ≤ (rd (rd_L1 t259 x67_2) 0)
           ·rw [if_pos c64] at H
            have c64b0 : decide (0 ≤ (rd (rd_L1 t259 x67_2) 0)) = true := decide_eq_true c64
            clear c64
            by_cases c65 : (rd (rd_L1 t259 x67_2) 0) < (l1.length : Int)
            ·rw [if_pos c65] at H
             have c65b0 : decide ((rd (rd_L1 t259 x67_2) 0) < (l1.length : Int)) = true := decide_eq_true c65
             clear c65
             by_cases c66 : 0 ≤ (rd l1 (rd (rd_L1 t259 x67_2) 0))
             ·rw [if_pos c66] at H
              have c66b0 : decide (0 ≤ (rd l1 (rd (rd_L1 t259 x67_2) 0))) = true := decide_eq_true c66
              clear c66
              by_cases c67 : (rd l1 (rd (rd_L1 t259 x67_2) 0)) < (t253.length : Int)
              ·rw [if_pos c67] at H
               have c67b0 : decide ((rd l1 (rd (rd_L1 t259 x67_2) 0)) < (t253.length : Int)) = true := decide_eq_true c67
               clear c67
               by_cases c68 : 0 ≤ (rd t253 (rd l1 (rd (rd_L1 t259 x67_2) 0)))
               ·rw [if_pos c68] at H
                have c68b0 : decide (0 ≤ (rd t253 (rd l1 (rd (rd_L1 t259 x67_2) 0)))) = true := decide_eq_true c68
                clear c68
                by_cases c69 : (rd t253 (rd l1 (rd (rd_L1 t259 x67_2) 0))) < (t256.length : Int)
                ·rw [if_pos c69] at H
                 have c69b0 : decide ((rd t253 (rd l1 (rd (rd_L1 t259 x67_2) 0))) < (t256.length : Int)) = true := decide_eq_true c69
                 clear c69
                 replace H := Option.bind_eq_some_iff.mp H
                 obtain ⟨t267, A700, H⟩ := H
                 replace H : (if t267 = true then (if 3 < (x6_2.length : Int) then (spec_FixedPoints.l1 k2 l1 (x6_2.set (3 : Int).toNat (wrap64 ((rd x6_2 3) + 1))) t253 t256 t259 (t259.length : Int) (wrap64 (x67_2 + 1))) else (none)) else (spec_FixedPoints.l1 k2 l1 x6_2 t253 t256 t259 (t259.length : Int) (wrap64 (x67_2 + 1)))) = some (r1, r2) := H
                 have A70 := Aside0.mk A700
                 clear A700
                 by_cases c71 : t267 = true
                 ·subst c71
                  have H1 : (if 3 < (x6_2.length : Int) then (spec_FixedPoints.l1 k2 l1 (x6_2.set (3 : Int).toNat (wrap64 ((rd x6_2 3) + 1))) t253 t256 t259 (t259.length : Int) (wrap64 (x67_2 + 1))) else (none)) = some (r1, r2) := by rw [if_pos rfl] at H; exact H
                  clear H
                  have H := H1
                  clear H1
                  by_cases c72 : 3 < (x6_2.length : Int)
                  ·rw [if_pos c72] at H
                   have c72b0 : decide (3 < (x6_2.length : Int)) = true := decide_eq_true c72
                   have c72b1 : decide (3 < x6_2.length) = true := decide_eq_true (by omega)
                   clear c72
                   obtain ⟨y269, hy269⟩ : ∃ y_ : List Int, y_ = (x6_2.set (3 : Int).toNat (wrap64 ((rd x6_2 3) + 1))) := ⟨_, rfl⟩
                   replace H : (spec_FixedPoints.l1 k2 l1 y269 t253 t256 t259 (t259.length : Int) (wrap64 (x67_2 + 1))) = some (r1, r2) := by first | (rw [hy269]; with_reducible exact H) | (have H2_ := (Option.bind_some _ _).symm.trans H; rw [hy269]; with_reducible exact H2_) | (have H2_ := (Option.bind_some _ _).symm.trans H; with_reducible exact H2_) | with_reducible exact H | (rw [hy269]; exact H) | exact H
                   have Ny269 := Aside0.mk hy269
                   clear hy269
                   have H' := Aside0.mk H
                   clear H
                   have p262 : 0 ≤ (x67_2 : Int) := dX
                   have q262 : x67_2 < (t259.length : Int) := dX
                   obtain ⟨ad262, A262_0, c262_0, e262, hx262_0, hl262_0, hi262_0⟩ := at_L1 (Kd.S_reads' HO_65.out).2.2 x67_2 p262 q262
                   cases e262
                   obtain ⟨ce262, hce262, hMe262, hcc262⟩ := Kd.S_get HO_65.out [] x67_2 p262 (by first | exact q262 | exact dX | (have e_ := (Kd.S_reads' HO_65.out).1; omega))
                   obtain ⟨ve262_0, rfl, ge262_0⟩ := hMe262
                   have hv262_0 := hcc262 0 _ rfl
                   rw [Nat.add_zero, show ((Kd.slice 3 (Kd.int .i64))).sz = 1 from rfl, Nat.mul_one] at hv262_0
                   replace hv262_0 := Option.some.inj (hv262_0.symm.trans hx262_0)
                   rw [hv262_0] at ge262_0
                   have HL262_0 := Aside0.mk (show Kd.R (Kd.int .i64) 3 _ _ _ _ (rd_L1 t259 x67_2) from ge262_0)
                   clear hv262_0 ge262_0
                   clear hcc262 hce262
                   have HR262_0 := Aside0.mk hi262_0
                   have HC262_0 := Aside0.mk hl262_0
                   clear hi262_0 hl262_0
                   replace p262 := eq_true p262
                   replace q262 := eq_true q262
                   have p263 : 0 ≤ (0 : Int) := (by omega)
                   have q263 : 0 < ((rd_L1 t259 x67_2).length : Int) := dX
                   obtain ⟨ad263, e263, hx263_0⟩ := Kd.at_int (cX HR262_0.out) 0 p263 q263
                   cases e263
                   have qi263 : (0 < (rd_L1 t259 x67_2).length) = True := eq_true (by omega)
                   (try rw [show ((0 : Int)).toNat = 0 from rfl] at hx263_0)
                   (try rw [Addr.add_zero'] at hx263_0)
                   replace p263 := eq_true p263
                   replace q263 := eq_true q263
                   have p264 : 0 ≤ ((rd (rd_L1 t259 x67_2) 0) : Int) := dX
                   have q264 : (rd (rd_L1 t259 x67_2) 0) < (l1.length : Int) := dX
                   obtain ⟨ad264, e264, hx264_0⟩ := Kd.at_int HR1.out (rd (rd_L1 t259 x67_2) 0) p264 q264
                   cases e264
                   replace hx264_0 := (HB.out.cell (World.block_lt_of_cell? w _ hx264_0)).trans hx264_0
                   replace p264 := eq_true p264
                   replace q264 := eq_true q264
                   obtain ⟨Ao74, co74, eo74⟩ := Kd.R_slice HO_9.out
                   subst eo74
                   have p265 : 0 ≤ ((rd l1 (rd (rd_L1 t259 x67_2) 0)) : Int) := dX
                   have q265 : (rd l1 (rd (rd_L1 t259 x67_2) 0)) < (t253.length : Int) := dX
                   obtain ⟨ad265, e265, hx265_0⟩ := Kd.at_int (Kd.R_reads' HO_9.out).2.2 (rd l1 (rd (rd_L1 t259 x67_2) 0)) p265 q265
                   cases e265
                   replace p265 := eq_true p265
                   replace q265 := eq_true q265
                   obtain ⟨Ao75, co75, eo75⟩ := Kd.R_slice HO_10.out
                   subst eo75
                   have p266 : 0 ≤ ((rd t253 (rd l1 (rd (rd_L1 t259 x67_2) 0))) : Int) := dX
                   have q266 : (rd t253 (rd l1 (rd (rd_L1 t259 x67_2) 0))) < (t256.length : Int) := dX
                   obtain ⟨ad266, e266, hx266_0⟩ := Kd.at_int (Kd.R_reads' HO_10.out).2.2 (rd t253 (rd l1 (rd (rd_L1 t259 x67_2) 0))) p266 q266
                   cases e266
                   replace p266 := eq_true p266
                   replace q266 := eq_true q266
                   go_wp2_with (first | ((with_reducible refine gate_callee (f := 25) rfl ?_); refine goesL_ (some 84) rfl rfl Tryd.func25 (by kernel_rfl) rfl #[.slice (some ad263) (rd_L1 t259 x67_2).length c262_0, .int .i64 (rd t256 (rd t253 (rd l1 (rd (rd_L1 t259 x67_2) 0))))] rfl (by (try simp only [zE,zF,zG]); first|done|rfl|(simp only [zH,zI]; rfl)) ?_; (with_reducible refine (spec_l02Has.calls_b k2 _ _ (rd_L1 t259 x67_2) (rd t256 (rd t253 (rd l1 (rd (rd_L1 t259 x67_2) 0)))) true _ ?side1 ?side2 A70.out).mono ?_); (case side1 => repeat (first | exact (cX HR262_0.out) | (with_reducible refine Kd.C_alloc ?_ _) | (with_reducible refine Kd.C_drewN ?_ _) | (with_reducible refine Kd.C_drew ?_))); (case side2 => exact HC262_0.out); rintro e w76 ⟨rfl, hb⟩; refine ⟨_, rfl, ?_⟩; have n0_ := Aside0.mk (Kd.R_below (rX HO_6.out) hb); have n1_ := Aside0.mk (Kd.R_below (rX HO_9.out) hb); have n2_ := Aside0.mk (Kd.R_below (rX HO_10.out) hb); have n3_ := Aside0.mk (Kd.S_below (by (with_reducible repeat (first | apply Kd.S_alloc | apply Kd.S_drewN | apply Kd.S_drew)); exact HO_65.out) hb); have n4_ := Aside0.mk (Kd.R_below (rX HL262_0.out) hb); have n5_ := Aside0.mk (blk_below (g := gb236) (o := .cells #[.slice A0_0 l0_0.length c0_0, .slice A0_1 l0_1.length c0_1] 27 (0, 0)) (kX BK236.out) hb); have n6_ := Aside0.mk (Kd.C_below (cX HR262_0.out) hb); have n7_ := Aside0.mk (below_step (bX1 HB.out GE236.out) hb); clear HO_6; clear HO_9; clear HO_10; clear HO_65; clear HL262_0; clear BK236; clear HR262_0; clear HB; have HO_6 := n0_; have HO_9 := n1_; have HO_10 := n2_; have HO_65 := n3_; have HL262_0 := n4_; have BK236 := n5_; have HR262_0 := n6_; have HB := n7_; clear n0_ n1_ n2_ n3_ n4_ n5_ n6_ n7_; (try clear hb); (try clear hb2); (try clear hk); (try clear hi); obtain ⟨Ao77, co77, eo77⟩ := Kd.R_slice HO_6.out; subst eo77; have p268 : 0 ≤ (3 : Int) := (by omega); have q268 : 3 < (x6_2.length : Int) := dX; obtain ⟨ad268, e268, hx268_0⟩ := Kd.at_int (Kd.R_reads' HO_6.out).2.2 3 p268 q268; cases e268; (try simp only [show (3 : Int).toNat = 3 from rfl, Nat.reduceMul, Nat.reduceEqDiff, Go.Addr.add, ↓reduceIte] at hx268_0); have qi268 : (3 < x6_2.length) = True := eq_true (by omega); (try rw [show ((3 : Int)).toNat = 3 from rfl] at hx268_0); replace p268 := eq_true p268; replace q268 := eq_true q268; have p73 : 0 ≤ (3 : Int) := (by omega); have q73 : (3 : Int) < ((x6_2.length : Int) : Int) := dX; have qi73 : (3 < x6_2.length) = True := eq_true (by omega); obtain ⟨go73, co73, eo73, gb73, gl73, cl73, HG73⟩ := Kd.R_form HO_6.out (by omega); (first | cases eo73 | (injection eo73 with ea_ en_ ec_; (first | subst ea_ | (injection ea_ with ea_; subst ea_)); subst ec_; clear en_)); have GB73 := Aside0.mk gb73; have GG73 := Aside0.mk HG73; clear gb73 gl73 HG73; (first | simp only [add_plain] at hx268_0 | skip); obtain ⟨hx73_0, hf73_0⟩ := Kd.R_celln 0 HO_6.out (3 : Int) p73 q73; (try rw [show ((3 : Int)).toNat = 3 from rfl] at hx73_0); (try simp only [Nat.reduceMul, Nat.zero_mul, Nat.zero_add, Nat.reduceAdd] at hx73_0); (try rw [show ((3 : Int)).toNat = 3 from rfl] at hf73_0); (try simp only [Nat.reduceMul, Nat.zero_mul, Nat.zero_add, Nat.reduceAdd] at hf73_0); replace p73 := eq_true p73; replace q73 := eq_true q73; obtain ⟨hy78_, hz78_⟩ := Kd.R_celln 0 HO_6.out (3 : Int) (by omega) (dX); (try simp only [Int.reduceToNat, Int.toNat_zero, Int.toNat_ofNat, Nat.reduceMul, Nat.zero_mul, Nat.zero_add] at hy78_ hz78_); (try rw [show ((3 : Int)).toNat = 3 from rfl] at hy78_); (try rw [show ((3 : Int)).toNat = 3 from rfl] at hz78_); have HP78 := Kd.R_putg HO_6.out (3 : Int) (wrap64 ((rd x6_2 3) + 1))) | ((with_reducible refine gate_store (t := 3) (p := 89) rfl ?_); refine store_event (t := 3) (p := 89) (v := ?vo_w79) (w1 := (w76.setCell ⟨go73, (3 : Int).toNat, none⟩ (.int .i64 (wrap64 ((rd x6_2 3) + 1))))) ?hg ?ho ?hn ?hr ?_; (case ho => rfl); (case hg => rfl); (case hn => rfl); (case hr => first | (go_simp; done) | (go_simp; rfl)); intro w79 hw; have hg : w76.grownBy w79 (some go73) := (by rw [hw]; exact HP78.2); have hp_ : Kd.R (Kd.int .i64) 3 w79 w.heap.size (fun k_ => some k_ ≠ (.slice (some ad265) t253.length co74 : Value).ownBlock ∧ some k_ ≠ (.slice (some ad266) t256.length co75 : Value).ownBlock) (.slice (some ⟨go73, 0, none⟩) x6_2.length co77) y269 := (by rw [hw, Ny269.out]; exact HP78.1); clear HP78; have n0_ := Aside0.mk (hp_); have n1_ := Aside0.mk (Kd.R_after (v := (.slice (some ⟨go73, 0, none⟩) x6_2.length co77)) (v1 := (.slice (some ⟨go73, 0, none⟩) x6_2.length co77)) (ok := (fun k_ => some k_ ≠ (.slice (some ad266) t256.length co75 : Value).ownBlock)) (rM HO_9.out (fun _ hk => ⟨hk.2, hk.1⟩)) hg (.inl rfl)); have n2_ := Aside0.mk (Kd.R_after (v := (.slice (some ⟨go73, 0, none⟩) x6_2.length co77)) (v1 := (.slice (some ⟨go73, 0, none⟩) x6_2.length co77)) (ok := (fun k_ => some k_ ≠ (.slice (some ad265) t253.length co74 : Value).ownBlock)) (rM HO_10.out (fun _ hk => ⟨hk.2, hk.1⟩)) hg (.inl rfl)); have n3_ := Aside0.mk (Kd.S_after (v := (.slice (some ⟨go73, 0, none⟩) x6_2.length co77)) (v1 := (.slice (some ⟨go73, 0, none⟩) x6_2.length co77)) (ok := (fun k_ => some k_ ≠ (.slice (some ad265) t253.length co74 : Value).ownBlock ∧ some k_ ≠ (.slice (some ad266) t256.length co75 : Value).ownBlock)) (by (with_reducible repeat (first | apply Kd.S_alloc | apply Kd.S_drewN | apply Kd.S_drew)); exact Kd.S_mono HO_65.out (fun _ hk => ⟨⟨hk.2.1, hk.2.2⟩, hk.1⟩)) hg (.inl rfl)); have n4_ := Aside0.mk (blk_grown (g := gb236) (o := .cells #[.slice A0_0 l0_0.length c0_0, .slice A0_1 l0_1.length c0_1] 27 (0, 0)) (kX BK236.out) hg (Kd.R_ne HO_6.out BK236.out (by decide))); have n5_ := Aside0.mk (Kd.R_after (v := (.slice (some ⟨go73, 0, none⟩) x6_2.length co77)) (v1 := (.slice (some ⟨go73, 0, none⟩) x6_2.length co77)) (ok := (fun k_ => some k_ ≠ (.slice (some ad265) t253.length co74 : Value).ownBlock ∧ some k_ ≠ (.slice (some ad266) t256.length co75 : Value).ownBlock ∧ some k_ ≠ (.slice (some ad262) t259.length co59 : Value).ownBlock)) (rM HL262_0.out (fun _ hk => ⟨⟨hk.1.2.1, ⟨hk.1.2.2, hk.2⟩⟩, hk.1.1⟩)) hg (.inl rfl)); have n6_ := Aside0.mk ((by rw [hw]; exact below_set (HB.out) GB73.out : Below w.heap.size w w79)); clear HO_6; clear HO_9; clear HO_10; clear HO_65; clear BK236; clear HL262_0; clear HB; have HO_6 := n0_; have HO_9 := n1_; have HO_10 := n2_; have HO_65 := n3_; have BK236 := n4_; have HL262_0 := n5_; have HB := n6_; clear n0_ n1_ n2_ n3_ n4_ n5_ n6_; clear hg hw hp_))
                   go_roundg k2
                   case measure => have := HK1.out; have := HK2.out; omega
                   case rel => exact ⟨(y269), (wrap64 (x67_2 + 1)), vX, H', ⟨by have := HK1.out; have := HK2.out; omega⟩, ⟨rX HO_6.out⟩, ⟨rM HO_9.out (fun _ hk => ⟨hk.2, hk.1⟩)⟩, ⟨rM HO_10.out (fun _ hk => ⟨hk.2, hk.1⟩)⟩, ⟨by (with_reducible repeat (first | apply Kd.S_alloc | apply Kd.S_drewN | apply Kd.S_drew)); exact Kd.S_mono HO_65.out (fun _ hk => ⟨hk.2, ⟨hk.1.1, hk.1.2⟩⟩)⟩, ⟨kX BK236.out⟩, ⟨bX1 HB.out GE236.out⟩⟩
                  ·rw [if_neg c72] at H
                   exact absurd H (by simp)
                 ·replace c71 := Bool.eq_false_iff.mpr c71
                  subst c71
                  have H1 : (spec_FixedPoints.l1 k2 l1 x6_2 t253 t256 t259 (t259.length : Int) (wrap64 (x67_2 + 1))) = some (r1, r2) := by rw [if_neg (show ¬ (false = true) by decide)] at H; exact H
                  clear H
                  have H := H1
                  clear H1
                  have H' := Aside0.mk H
                  clear H
                  have p262 : 0 ≤ (x67_2 : Int) := dX
                  have q262 : x67_2 < (t259.length : Int) := dX
                  obtain ⟨ad262, A262_0, c262_0, e262, hx262_0, hl262_0, hi262_0⟩ := at_L1 (Kd.S_reads' HO_65.out).2.2 x67_2 p262 q262
                  cases e262
                  obtain ⟨ce262, hce262, hMe262, hcc262⟩ := Kd.S_get HO_65.out [] x67_2 p262 (by first | exact q262 | exact dX | (have e_ := (Kd.S_reads' HO_65.out).1; omega))
                  obtain ⟨ve262_0, rfl, ge262_0⟩ := hMe262
                  have hv262_0 := hcc262 0 _ rfl
                  rw [Nat.add_zero, show ((Kd.slice 3 (Kd.int .i64))).sz = 1 from rfl, Nat.mul_one] at hv262_0
                  replace hv262_0 := Option.some.inj (hv262_0.symm.trans hx262_0)
                  rw [hv262_0] at ge262_0
                  have HL262_0 := Aside0.mk (show Kd.R (Kd.int .i64) 3 _ _ _ _ (rd_L1 t259 x67_2) from ge262_0)
                  clear hv262_0 ge262_0
                  clear hcc262 hce262
                  have HR262_0 := Aside0.mk hi262_0
                  have HC262_0 := Aside0.mk hl262_0
                  clear hi262_0 hl262_0
                  replace p262 := eq_true p262
                  replace q262 := eq_true q262
                  have p263 : 0 ≤ (0 : Int) := (by omega)
                  have q263 : 0 < ((rd_L1 t259 x67_2).length : Int) := dX
                  obtain ⟨ad263, e263, hx263_0⟩ := Kd.at_int (cX HR262_0.out) 0 p263 q263
                  cases e263
                  have qi263 : (0 < (rd_L1 t259 x67_2).length) = True := eq_true (by omega)
                  (try rw [show ((0 : Int)).toNat = 0 from rfl] at hx263_0)
                  (try rw [Addr.add_zero'] at hx263_0)
                  replace p263 := eq_true p263
                  replace q263 := eq_true q263
                  have p264 : 0 ≤ ((rd (rd_L1 t259 x67_2) 0) : Int) := dX
                  have q264 : (rd (rd_L1 t259 x67_2) 0) < (l1.length : Int) := dX
                  obtain ⟨ad264, e264, hx264_0⟩ := Kd.at_int HR1.out (rd (rd_L1 t259 x67_2) 0) p264 q264
                  cases e264
                  replace hx264_0 := (HB.out.cell (World.block_lt_of_cell? w _ hx264_0)).trans hx264_0
                  replace p264 := eq_true p264
                  replace q264 := eq_true q264
                  obtain ⟨Ao80, co80, eo80⟩ := Kd.R_slice HO_9.out
                  subst eo80
                  have p265 : 0 ≤ ((rd l1 (rd (rd_L1 t259 x67_2) 0)) : Int) := dX
                  have q265 : (rd l1 (rd (rd_L1 t259 x67_2) 0)) < (t253.length : Int) := dX
                  obtain ⟨ad265, e265, hx265_0⟩ := Kd.at_int (Kd.R_reads' HO_9.out).2.2 (rd l1 (rd (rd_L1 t259 x67_2) 0)) p265 q265
                  cases e265
                  replace p265 := eq_true p265
                  replace q265 := eq_true q265
                  obtain ⟨Ao81, co81, eo81⟩ := Kd.R_slice HO_10.out
                  subst eo81
                  have p266 : 0 ≤ ((rd t253 (rd l1 (rd (rd_L1 t259 x67_2) 0))) : Int) := dX
                  have q266 : (rd t253 (rd l1 (rd (rd_L1 t259 x67_2) 0))) < (t256.length : Int) := dX
                  obtain ⟨ad266, e266, hx266_0⟩ := Kd.at_int (Kd.R_reads' HO_10.out).2.2 (rd t253 (rd l1 (rd (rd_L1 t259 x67_2) 0))) p266 q266
                  cases e266
                  replace p266 := eq_true p266
                  replace q266 := eq_true q266
                  go_wp2_with (first | ((with_reducible refine gate_callee (f := 25) rfl ?_); refine goesL_ (some 84) rfl rfl Tryd.func25 (by kernel_rfl) rfl #[.slice (some ad263) (rd_L1 t259 x67_2).length c262_0, .int .i64 (rd t256 (rd t253 (rd l1 (rd (rd_L1 t259 x67_2) 0))))] rfl (by (try simp only [zE,zF,zG]); first|done|rfl|(simp only [zH,zI]; rfl)) ?_; (with_reducible refine (spec_l02Has.calls_b k2 _ _ (rd_L1 t259 x67_2) (rd t256 (rd t253 (rd l1 (rd (rd_L1 t259 x67_2) 0)))) false _ ?side1 ?side2 A70.out).mono ?_); (case side1 => repeat (first | exact (cX HR262_0.out) | (with_reducible refine Kd.C_alloc ?_ _) | (with_reducible refine Kd.C_drewN ?_ _) | (with_reducible refine Kd.C_drew ?_))); (case side2 => exact HC262_0.out); rintro e w82 ⟨rfl, hb⟩; refine ⟨_, rfl, ?_⟩; have n0_ := Aside0.mk (Kd.R_below (rX HO_6.out) hb); have n1_ := Aside0.mk (Kd.R_below (rX HO_9.out) hb); have n2_ := Aside0.mk (Kd.R_below (rX HO_10.out) hb); have n3_ := Aside0.mk (Kd.S_below (by (with_reducible repeat (first | apply Kd.S_alloc | apply Kd.S_drewN | apply Kd.S_drew)); exact HO_65.out) hb); have n4_ := Aside0.mk (Kd.R_below (rX HL262_0.out) hb); have n5_ := Aside0.mk (blk_below (g := gb236) (o := .cells #[.slice A0_0 l0_0.length c0_0, .slice A0_1 l0_1.length c0_1] 27 (0, 0)) (kX BK236.out) hb); have n6_ := Aside0.mk (Kd.C_below (cX HR262_0.out) hb); have n7_ := Aside0.mk (below_step (bX1 HB.out GE236.out) hb); clear HO_6; clear HO_9; clear HO_10; clear HO_65; clear HL262_0; clear BK236; clear HR262_0; clear HB; have HO_6 := n0_; have HO_9 := n1_; have HO_10 := n2_; have HO_65 := n3_; have HL262_0 := n4_; have BK236 := n5_; have HR262_0 := n6_; have HB := n7_; clear n0_ n1_ n2_ n3_ n4_ n5_ n6_ n7_; (try clear hb); (try clear hb2); (try clear hk); (try clear hi)))
                  go_roundg k2
                  case measure => have := HK1.out; have := HK2.out; omega
                  case rel => exact ⟨(x6_2), (wrap64 (x67_2 + 1)), vX, H', ⟨by have := HK1.out; have := HK2.out; omega⟩, ⟨rX HO_6.out⟩, ⟨rX HO_9.out⟩, ⟨rX HO_10.out⟩, ⟨by (with_reducible repeat (first | apply Kd.S_alloc | apply Kd.S_drewN | apply Kd.S_drew)); exact HO_65.out⟩, ⟨kX BK236.out⟩, ⟨bX1 HB.out GE236.out⟩⟩
                ·rw [if_neg c69] at H
                 exact absurd H (by simp)
               ·rw [if_neg c68] at H
                exact absurd H (by simp)
              ·rw [if_neg c67] at H
               exact absurd H (by simp)
             ·rw [if_neg c66] at H
              exact absurd H (by simp)
            ·rw [if_neg c65] at H
             exact absurd H (by simp)
           ·rw [if_neg c64] at H
            exact absurd H (by simp)
          ·rw [if_neg c63] at H
           exact absurd H (by simp)
         ·rw [if_neg c62] at H
          exact absurd H (by simp)
        ·rw [if_neg c61] at H
         exact absurd H (by simp)
       ·rw [if_neg c60] at H
        have c60b0 : decide (x67_2 < (t259.length : Int)) = false := decide_eq_false c60
        clear c60
        simp only [Option.some.injEq, Prod.mk.injEq] at H
        obtain ⟨rfl, rfl⟩ := H
        go_wp2
        go_ret2
        exact ⟨_, eX, by (with_reducible repeat (first|apply rA|apply rN|apply rD)); exact Kd.R_mono HO_6.out (fun _ hk => trivial), bX1 HB.out GE236.out⟩
 ·replace c4 := Bool.eq_false_iff.mpr c4
  subst c4
  have H1 : (some (([] : List Int), false)) = some (r1, r2) := by rw [if_neg (show ¬ (false = true) by decide)] at H; exact H
  clear H
  have H := H1
  clear H1
  simp only [Option.some.injEq, Prod.mk.injEq] at H
  obtain ⟨rfl, rfl⟩ := H
  go_enter Tryd.func11, Tryd.ntmps11
  go_wp2_with (first | ((with_reducible refine gate_dst (N := 2) rfl ?_); refine box_event ?hg (N := 2) ?hd (cs := #[.slice A0_0 l0_0.length c0_0, .slice A0_1 l0_1.length c0_1]) (t := 27) ?hr ?_; (case hd => rfl); (case hg => rfl); (case hr => first | (go_simp; done) | (go_simp; rfl)); intro gb236 hg w83 hbox hb; have n0_ := Aside0.mk (below_step (bX HB.out) hb); have n1_ := Aside0.mk (hbox); have n2_ := Aside0.mk ((by rw [hg]; exact (below_size (bX HB.out)) : w.heap.size ≤ gb236)); have n3_ := Aside0.mk ((by rw [hg]; exact (below_size (bX HB.out)) : w.heap.size ≤ gb236)); clear HB; have HB := n0_; have BK236 := n1_; have GW236 := n2_; have GE236 := n3_; clear n0_ n1_ n2_ n3_; clear hb hbox hg; have hcz84_0 : w83.cell? ⟨gb236, 0, none⟩ = some (.slice A0_0 l0_0.length c0_0) := (blk_cell BK236.out 0).trans rfl; have hcz84_1 : w83.cell? ⟨gb236, 1, none⟩ = some (.slice A0_1 l0_1.length c0_1) := (blk_cell BK236.out 1).trans rfl; have hfz84_0 := blk_frozen BK236.out 0; have hfz84_1 := blk_frozen BK236.out 1) | ((with_reducible refine gate_callee (f := 22) rfl ?_); refine goesL_ (some 15) rfl rfl Tryd.func22 (by kernel_rfl) rfl #[.agg #[.slice A0_0 l0_0.length c0_0, .slice A0_1 l0_1.length c0_1], .slice A1 l1.length c1] rfl (by (try simp only [zE,zF,zG]); first|done|rfl|(simp only [zH,zI]; rfl)) ?_; (with_reducible refine (spec_IsTurn.calls k _ _ l0_0 _ _ l0_1 _ _ l1 false _ ?side1 ?side2 ?side3 ?side4 ?side5 ?side6 A3.out).mono ?_); (case side1 => repeat (first | exact (Kd.C_below HR0_0.out HB.out) | (with_reducible refine Kd.C_alloc ?_ _) | (with_reducible refine Kd.C_drewN ?_ _) | (with_reducible refine Kd.C_drew ?_))); (case side2 => exact HC0_0.out); (case side3 => repeat (first | exact (Kd.C_below HR0_1.out HB.out) | (with_reducible refine Kd.C_alloc ?_ _) | (with_reducible refine Kd.C_drewN ?_ _) | (with_reducible refine Kd.C_drew ?_))); (case side4 => exact HC0_1.out); (case side5 => repeat (first | exact (Kd.C_below HR1.out HB.out) | (with_reducible refine Kd.C_alloc ?_ _) | (with_reducible refine Kd.C_drewN ?_ _) | (with_reducible refine Kd.C_drew ?_))); (case side6 => exact HC1.out); rintro e w85 ⟨rfl, hb⟩; refine ⟨_, rfl, ?_⟩; have n0_ := Aside0.mk (blk_below (g := gb236) (o := .cells #[.slice A0_0 l0_0.length c0_0, .slice A0_1 l0_1.length c0_1] 27 (0, 0)) (kX BK236.out) hb); have n1_ := Aside0.mk (below_step (bX1 HB.out GE236.out) hb); clear BK236; clear HB; have BK236 := n0_; have HB := n1_; clear n0_ n1_; (try clear hb); (try clear hb2); (try clear hk); (try clear hi)))
  go_ret2
  exact ⟨_, eX, by first | exact Kd.R_nil _ _ _ _ _ | exact Kd.N_nil _ _ _ _ _ | exact Kd.V_nil _ _ _ _ _ | exact Kd.Q_nil _ _ _ _ _ | exact Kd.S_nil _ _ _ _ _, bX1 HB.out GE236.out⟩

/-! ### spec_FormatInt: function 28 -/
mutual
def spec_FormatInt.l0 : Nat → Int → ByteArray → Option (ByteArray)
 | 0, _, _ => none
 | k + 1, x0, x3 => if x0 > 9 then ((some (([(wrap64 (48 + (Int.tmod x0 10))) % 256] : List Int) : List Int)).bind fun y277 => (if (strOfNums y277).size + x3.size ≤ 9223372036854775807 then (spec_FormatInt.l0 k (wrap64 (Int.tdiv x0 10)) ((strOfNums y277) ++ x3)) else (none))) else ((some (([(wrap64 (48 + x0)) % 256] : List Int) : List Int)).bind fun y280 => (if (strOfNums y280).size + x3.size ≤ 9223372036854775807 then (some ((strOfNums y280) ++ x3)) else (none)))
def spec_FormatInt.f : Nat → Int → Option (ByteArray)
 | 0, _ => none
 | k + 1, a0 => if a0 < 0 then (if (wrap64 (Int.tdiv a0 10)) = 0 then ((some (([(wrap64 (48 - a0)) % 256] : List Int) : List Int)).bind fun y270 => (if 1 + (strOfNums y270).size ≤ 9223372036854775807 then (some ((⟨#[45]⟩ : ByteArray) ++ (strOfNums y270))) else (none))) else ((spec_FormatInt.f k (wrap64 (Int.tdiv a0 10))).bind fun t273 => ((some (([(wrap64 (48 - (Int.tmod a0 10))) % 256] : List Int) : List Int)).bind fun y274 => (if t273.size + (strOfNums y274).size ≤ 9223372036854775807 then (some (t273 ++ (strOfNums y274))) else (none))))) else (spec_FormatInt.l0 k a0 (⟨#[]⟩ : ByteArray))
end
def spec_FormatInt.T4 : Bool × List (List Nat × List Nat) := (true, [([], []), ([0], [0]), ([1], [1]), ([], []), ([3], [3]), ([4], [4]), ([5], [5]), ([6], [6]), ([7], [7]), ([2, 8], [2, 8]), ([9, 2, 0, 1, 2, 3, 4, 5, 6, 7, 8, 9], [9])])
def spec_FormatInt.B4 : List Nat := [0, 1, 3, 0, 8, 24, 56, 120, 248, 511, 1023]
theorem spec_FormatInt.tab4 : rtab .any (opsOf Tryd.f28 4) = spec_FormatInt.T4 := by kernel_rfl
theorem spec_FormatInt.bits4 : waitsOk spec_FormatInt.T4.2 spec_FormatInt.B4 = true := by kernel_rfl
set_option maxHeartbeats 8000000 in
set_option maxRecDepth 100000 in
theorem spec_FormatInt.calls (k : Nat) : ∀ (a0 : Int) (r : ByteArray) (w : World) (h : spec_FormatInt.f k a0 = some r),
  Calls Tryd.prog 28 #[.int .i64 a0] w fun e w' => e = .returned (.string r) ∧ Below w.heap.size w w' := by
 induction k using Nat.strongRecOn with
 | _ k ih =>
 intro a0 r w h
 cases k with
 | zero => exact absurd h (by simp [spec_FormatInt.f])
 | succ k =>
 simp only [spec_FormatInt.f] at h
 have HB := Aside0.mk (Below.refl w.heap.size w)
 have H : (if a0 < 0 then (if (wrap64 (Int.tdiv a0 10)) = 0 then ((some (([(wrap64 (48 - a0)) % 256] : List Int) : List Int)).bind fun y270 => (if 1 + (strOfNums y270).size ≤ 9223372036854775807 then (some ((⟨#[45]⟩ : ByteArray) ++ (strOfNums y270))) else (none))) else ((spec_FormatInt.f k (wrap64 (Int.tdiv a0 10))).bind fun t273 => ((some (([(wrap64 (48 - (Int.tmod a0 10))) % 256] : List Int) : List Int)).bind fun y274 => (if t273.size + (strOfNums y274).size ≤ 9223372036854775807 then (some (t273 ++ (strOfNums y274))) else (none))))) else (spec_FormatInt.l0 k a0 (⟨#[]⟩ : ByteArray))) = some r := h
 clear h
 by_cases c2 : a0 < 0
 ·rw [if_pos c2] at H
  have c2b0 : decide (a0 < 0) = true := decide_eq_true c2
  clear c2
  by_cases c3 : (wrap64 (Int.tdiv a0 10)) = 0
  ·rw [if_pos c3] at H
   have c3b0 : ((wrap64 (Int.tdiv a0 10)) == 0) = true := beq_iff_eq.mpr c3
   have c3b1 : ((wrap64 (Int.tdiv a0 10)) != 0) = false := bne_eq_false_iff_eq.mpr c3
   clear c3
   obtain ⟨y270, hy270⟩ : ∃ y_ : List Int, y_ = (([(wrap64 (48 - a0)) % 256] : List Int)) := ⟨_, rfl⟩
   replace H : (if 1 + (strOfNums y270).size ≤ 9223372036854775807 then (some ((⟨#[45]⟩ : ByteArray) ++ (strOfNums y270))) else (none)) = some r := by first | (rw [hy270]; with_reducible exact H) | (have H2_ := (Option.bind_some _ _).symm.trans H; rw [hy270]; with_reducible exact H2_) | (have H2_ := (Option.bind_some _ _).symm.trans H; with_reducible exact H2_) | with_reducible exact H | (rw [hy270]; exact H) | exact H
   have Ny270 := Aside0.mk hy270
   clear hy270
   by_cases c4 : 1 + (strOfNums y270).size ≤ 9223372036854775807
   ·rw [if_pos c4] at H
    have c4b0 := eq_true c4
    have c4b1 : decide (1 + (strOfNums y270).size ≤ 9223372036854775807) = true := decide_eq_true c4
    try have c4b2 : (9223372036854775807 < 1 + (strOfNums y270).size) = False := eq_false (Nat.not_lt.2 c4)
    obtain rfl := Option.some.inj H
    go_enter Tryd.func28, Tryd.ntmps28
    go_wp2_with (first | ((with_reducible refine gate_dst (N := 12) rfl ?_); refine Kd.R_lit (Kd.int .u8) _ 5 ?hg (N := 12) ?hd (xs := ([(wrap64 (48 - a0)) % 256] : List Int)) (inner := [.int .u8 ((wrap64 (48 - a0)) % 256)]) (ok := fun _ => True) (okp := fun _ => True) ?hr ?hp (fun _ hk => hk) trivial (Below.refl _ _) (Nat.le_refl _) (by simp) ?_; (case hd => rfl); (case hg => rfl); (case hr => first | (go_simp; done) | (go_simp; rfl)); (case hp => exact (Reps.one (show Kd.M (Kd.int .u8) _ _ _ ((wrap64 (48 - a0)) % 256) [.int .u8 ((wrap64 (48 - a0)) % 256)] from rfl) (Reps.none _ _))); intro v271 w5 ho6 hb hg_ hnew_; clear hg_ hnew_; (first | rw [← Ny270.out] at ho6 | (simp only [Int.reduceToNat] at ho6; rw [← Ny270.out] at ho6)); have n0_ := Aside0.mk (Kd.R_lower ho6 (below_size (bX HB.out))); have n1_ := Aside0.mk (below_step (bX HB.out) hb); clear HB; have HO272 := n0_; have HB := n1_; clear n0_ n1_; clear hb ho6; have hcv7 := own_string (P := Tryd.prog) Tryd.underlying53 Tryd.underlying5 Tryd.underlying9 (Kd.own_of_R HO272.out)))
    go_ret
    exact ⟨eX, bX HB.out⟩
   ·rw [if_neg c4] at H
    exact absurd H (by simp)
  ·rw [if_neg c3] at H
   have c3b0 : ((wrap64 (Int.tdiv a0 10)) == 0) = false := beq_eq_false_iff_ne.mpr c3
   have c3b1 : ((wrap64 (Int.tdiv a0 10)) != 0) = true := bne_iff_ne.mpr c3
   replace H := Option.bind_eq_some_iff.mp H
   obtain ⟨t273, A80, H⟩ := H
   replace H : ((some (([(wrap64 (48 - (Int.tmod a0 10))) % 256] : List Int) : List Int)).bind fun y274 => (if t273.size + (strOfNums y274).size ≤ 9223372036854775807 then (some (t273 ++ (strOfNums y274))) else (none))) = some r := H
   have A8 := Aside0.mk A80
   clear A80
   obtain ⟨y274, hy274⟩ : ∃ y_ : List Int, y_ = (([(wrap64 (48 - (Int.tmod a0 10))) % 256] : List Int)) := ⟨_, rfl⟩
   replace H : (if t273.size + (strOfNums y274).size ≤ 9223372036854775807 then (some (t273 ++ (strOfNums y274))) else (none)) = some r := by first | (rw [hy274]; with_reducible exact H) | (have H2_ := (Option.bind_some _ _).symm.trans H; rw [hy274]; with_reducible exact H2_) | (have H2_ := (Option.bind_some _ _).symm.trans H; with_reducible exact H2_) | with_reducible exact H | (rw [hy274]; exact H) | exact H
   have Ny274 := Aside0.mk hy274
   clear hy274
   by_cases c9 : t273.size + (strOfNums y274).size ≤ 9223372036854775807
   ·rw [if_pos c9] at H
    have c9b0 := eq_true c9
    have c9b1 : decide (t273.size + (strOfNums y274).size ≤ 9223372036854775807) = true := decide_eq_true c9
    try have c9b2 : (9223372036854775807 < t273.size + (strOfNums y274).size) = False := eq_false (Nat.not_lt.2 c9)
    obtain rfl := Option.some.inj H
    go_enter Tryd.func28, Tryd.ntmps28
    try go_wp2
    have n0_ := Aside0.mk (below_drew1 HB.out)
    clear HB
    have HB := n0_
    clear n0_
    refine start_ (n := 11) (S := fun w' => True) (ds := []) #[ff,ff,ff,ff,ff,ff,ff,ff,ff,ff,ff] (by kernel_rfl) rfl rfl trivial (fun hHeld => ?_); refine with_tabW spec_FormatInt.tab4 spec_FormatInt.bits4 (fun HT_ HW_ => ?_)
    generalize w.drew = w10 at HB hHeld ⊢
    refine pX 0 15 (fl 11 1) rfl rfl HT_.out ?_
    refine pX 1 16 (fl 11 3) rfl rfl HT_.out ?_
    refine pX 3 18 (fl 11 11) rfl rfl HT_.out ?_
    refine pX 4 19 (fl 11 27) rfl rfl HT_.out ?_
    refine pX 5 20 (fl 11 59) rfl rfl HT_.out ?_
    refine pX 6 21 (fl 11 123) rfl rfl HT_.out ?_
    refine join_ (σ := Value) 2 #[tt,tt,tt,tt,tt,tt,tt,tt,tt,ff,ff] (fun s_ => [(17, .string t273), (22, s_), (23, .string (strOfNums y274))]) (fun s_ w' => (Kd.R (Kd.int .u8) 5 w' w.heap.size (fun _ => True) s_ y274) ∧ (Below w.heap.size w w')) ?_ ?_
    rotate_left
    ·intro hCont
     refine two_ (i := 2) (j := 7) (Ni := some 17) (Nj := some 22) #[tt,tt,tt,tt,tt,tt,tt,ff,ff,ff,ff] #[tt,tt,ff,tt,tt,tt,tt,tt,ff,ff,ff] rfl rfl rfl rfl (two_of HT_.out (by kernel_rfl)) (by decide) (by decide) (fun K hK => ?_) (fun K hK => ?_)
     ·skip
      refine goes_ Tryd.func28 (by kernel_rfl) rfl #[.int .i64 (wrap64 (Int.tdiv a0 10))] (by rfl) rfl rfl (by (try simp only [zE,zF,zG]); first|done|rfl|(simp only [zH,zI]; rfl)) ?_
      with_reducible refine (ih k (by omega) (wrap64 (Int.tdiv a0 10)) t273 _ A8.out).mono ?_
      rintro e w11 ⟨rfl, hb⟩
      refine ⟨_, rfl, ?_⟩
      have n0_ := Aside0.mk (below_step (bX HB.out) hb)
      clear HB
      have HB := n0_
      clear n0_
      (try clear hb)
      (try clear hb2)
      (try clear hk)
      (try clear hi)
      refine hK.out _ _ trivial (fun hHeld => ?_)
      clear hK K
      refine norm_ (a' := ?_) ?_ ?_
      rotate_left
      ·show Act.put _ (some 17) _ = _
       simp only [Act.put, zA, zB, zC, i64_w, i32_w]
       rfl
      refine one_ (i := 7) (N := some 22) #[tt,tt,tt,tt,tt,tt,tt,tt,ff,ff,ff] rfl rfl (one_of HT_.out (by kernel_rfl)) (by decide) (fun K hK => ?_)
      refine Kd.R_lit_step (Kd.int .u8) _ 5 ?hg (N := 22) ?hd (xs := ([(wrap64 (48 - (Int.tmod a0 10))) % 256] : List Int)) (inner := [.int .u8 ((wrap64 (48 - (Int.tmod a0 10))) % 256)]) (ok := fun _ => True) (okp := fun _ => True) ?hr ?hp (fun _ hk => hk) trivial (Below.refl _ _) (Nat.le_refl _) (by simp) ?_; (case hd => rfl); (case hg => rfl); (case hr => first | (go_simp; done) | (go_simp; rfl)); (case hp => exact (Reps.one (show Kd.M (Kd.int .u8) _ _ _ ((wrap64 (48 - (Int.tmod a0 10))) % 256) [.int .u8 ((wrap64 (48 - (Int.tmod a0 10))) % 256)] from rfl) (Reps.none _ _)))
      intro v275 w12 ho13 hb hg_ hnew_
      clear hg_ hnew_
      (first | rw [← Ny274.out] at ho13 | (simp only [Int.reduceToNat] at ho13; rw [← Ny274.out] at ho13))
      have n0_ := Aside0.mk (Kd.R_lower ho13 (below_size (bX HB.out)))
      have n1_ := Aside0.mk (below_step (bX HB.out) hb)
      clear HB
      have HO276 := n0_
      have HB := n1_
      clear n0_ n1_
      clear hb ho13
      refine hK.out _ _ trivial (fun hHeld => ?_)
      clear hK K
      refine norm_ (a' := ?_) ?_ ?_
      rotate_left
      ·show Act.put _ (some 22) _ = _
       simp only [Act.put, zA, zB, zC, i64_w, i32_w]
       rfl
      refine one_ (i := 8) (N := some 23) #[tt,tt,tt,tt,tt,tt,tt,tt,tt,ff,ff] rfl rfl (one_of HT_.out (by kernel_rfl)) (by decide) (fun K hK => ?_)
      have hcv14 := own_string (P := Tryd.prog) Tryd.underlying53 Tryd.underlying5 Tryd.underlying9 (Kd.own_of_R HO276.out)
      refine value_ (w1 := ?_) (v := ?_) (by rfl) rfl ?_ ?_
      rotate_left 2
      ·go_simp
       constructor
       ·rfl
       ·rfl
      clear hcv14
      refine hK.out _ _ trivial (fun hHeld => ?_)
      clear hK K
      refine norm_ (a' := ?_) ?_ ?_
      rotate_left
      ·show Act.put _ (some 23) _ = _
       simp only [Act.put, zA, zB, zC, i64_w, i32_w]
       rfl
      exact norm_ (by simp only [putAll, Act.put, List.setIfInBounds_toArray, List.set_cons_zero, List.set_cons_succ]) (hCont (v275) _ ⟨(rX HO276.out), (bX HB.out)⟩)
     ·skip
      refine Kd.R_lit_step (Kd.int .u8) _ 5 ?hg (N := 22) ?hd (xs := ([(wrap64 (48 - (Int.tmod a0 10))) % 256] : List Int)) (inner := [.int .u8 ((wrap64 (48 - (Int.tmod a0 10))) % 256)]) (ok := fun _ => True) (okp := fun _ => True) ?hr ?hp (fun _ hk => hk) trivial (Below.refl _ _) (Nat.le_refl _) (by simp) ?_; (case hd => rfl); (case hg => rfl); (case hr => first | (go_simp; done) | (go_simp; rfl)); (case hp => exact (Reps.one (show Kd.M (Kd.int .u8) _ _ _ ((wrap64 (48 - (Int.tmod a0 10))) % 256) [.int .u8 ((wrap64 (48 - (Int.tmod a0 10))) % 256)] from rfl) (Reps.none _ _)))
      intro v275 w11 ho12 hb hg_ hnew_
      clear hg_ hnew_
      (first | rw [← Ny274.out] at ho12 | (simp only [Int.reduceToNat] at ho12; rw [← Ny274.out] at ho12))
      have n0_ := Aside0.mk (Kd.R_lower ho12 (below_size (bX HB.out)))
      have n1_ := Aside0.mk (below_step (bX HB.out) hb)
      clear HB
      have HO276 := n0_
      have HB := n1_
      clear n0_ n1_
      clear hb ho12
      refine hK.out _ _ trivial (fun hHeld => ?_)
      clear hK K
      refine norm_ (a' := ?_) ?_ ?_
      rotate_left
      ·show Act.put _ (some 22) _ = _
       simp only [Act.put, zA, zB, zC, i64_w, i32_w]
       rfl
      refine two_ (i := 2) (j := 8) (Ni := some 17) (Nj := some 23) #[tt,tt,tt,tt,tt,tt,tt,tt,ff,ff,ff] #[tt,tt,ff,tt,tt,tt,tt,tt,tt,ff,ff] rfl rfl rfl rfl (two_of HT_.out (by kernel_rfl)) (by decide) (by decide) (fun K hK => ?_) (fun K hK => ?_)
      ·skip
       refine goes_ Tryd.func28 (by kernel_rfl) rfl #[.int .i64 (wrap64 (Int.tdiv a0 10))] (by rfl) rfl rfl (by (try simp only [zE,zF,zG]); first|done|rfl|(simp only [zH,zI]; rfl)) ?_
       with_reducible refine (ih k (by omega) (wrap64 (Int.tdiv a0 10)) t273 _ A8.out).mono ?_
       rintro e w13 ⟨rfl, hb⟩
       refine ⟨_, rfl, ?_⟩
       have n0_ := Aside0.mk (Kd.R_below (rX HO276.out) hb)
       have n1_ := Aside0.mk (below_step (bX HB.out) hb)
       clear HO276
       clear HB
       have HO276 := n0_
       have HB := n1_
       clear n0_ n1_
       (try clear hb)
       (try clear hb2)
       (try clear hk)
       (try clear hi)
       refine hK.out _ _ trivial (fun hHeld => ?_)
       clear hK K
       refine norm_ (a' := ?_) ?_ ?_
       rotate_left
       ·show Act.put _ (some 17) _ = _
        simp only [Act.put, zA, zB, zC, i64_w, i32_w]
        rfl
       refine one_ (i := 8) (N := some 23) #[tt,tt,tt,tt,tt,tt,tt,tt,tt,ff,ff] rfl rfl (one_of HT_.out (by kernel_rfl)) (by decide) (fun K hK => ?_)
       have hcv14 := own_string (P := Tryd.prog) Tryd.underlying53 Tryd.underlying5 Tryd.underlying9 (Kd.own_of_R HO276.out)
       refine value_ (w1 := ?_) (v := ?_) (by rfl) rfl ?_ ?_
       rotate_left 2
       ·go_simp
        constructor
        ·rfl
        ·rfl
       clear hcv14
       refine hK.out _ _ trivial (fun hHeld => ?_)
       clear hK K
       refine norm_ (a' := ?_) ?_ ?_
       rotate_left
       ·show Act.put _ (some 23) _ = _
        simp only [Act.put, zA, zB, zC, i64_w, i32_w]
        rfl
       exact norm_ (by simp only [putAll, Act.put, List.setIfInBounds_toArray, List.set_cons_zero, List.set_cons_succ]) (hCont (v275) _ ⟨(rX HO276.out), (bX HB.out)⟩)
      ·skip
       have hcv13 := own_string (P := Tryd.prog) Tryd.underlying53 Tryd.underlying5 Tryd.underlying9 (Kd.own_of_R HO276.out)
       refine value_ (w1 := ?_) (v := ?_) (by rfl) rfl ?_ ?_
       rotate_left 2
       ·go_simp
        constructor
        ·rfl
        ·rfl
       clear hcv13
       refine hK.out _ _ trivial (fun hHeld => ?_)
       clear hK K
       refine norm_ (a' := ?_) ?_ ?_
       rotate_left
       ·show Act.put _ (some 23) _ = _
        simp only [Act.put, zA, zB, zC, i64_w, i32_w]
        rfl
       refine one_ (i := 2) (N := some 17) #[tt,tt,tt,tt,tt,tt,tt,tt,tt,ff,ff] rfl rfl (one_of HT_.out (by kernel_rfl)) (by decide) (fun K hK => ?_)
       refine goes_ Tryd.func28 (by kernel_rfl) rfl #[.int .i64 (wrap64 (Int.tdiv a0 10))] (by rfl) rfl rfl (by (try simp only [zE,zF,zG]); first|done|rfl|(simp only [zH,zI]; rfl)) ?_
       with_reducible refine (ih k (by omega) (wrap64 (Int.tdiv a0 10)) t273 _ A8.out).mono ?_
       rintro e w14 ⟨rfl, hb⟩
       refine ⟨_, rfl, ?_⟩
       have n0_ := Aside0.mk (Kd.R_below (rX HO276.out) hb)
       have n1_ := Aside0.mk (below_step (bX HB.out) hb)
       clear HO276
       clear HB
       have HO276 := n0_
       have HB := n1_
       clear n0_ n1_
       (try clear hb)
       (try clear hb2)
       (try clear hk)
       (try clear hi)
       refine hK.out _ _ trivial (fun hHeld => ?_)
       clear hK K
       refine norm_ (a' := ?_) ?_ ?_
       rotate_left
       ·show Act.put _ (some 17) _ = _
        simp only [Act.put, zA, zB, zC, i64_w, i32_w]
        rfl
       exact norm_ (by simp only [putAll, Act.put, List.setIfInBounds_toArray, List.set_cons_zero, List.set_cons_succ]) (hCont (v275) _ ⟨(rX HO276.out), (bX HB.out)⟩)
    rintro v275 w15 ⟨h0_, h1_⟩
    have n0_ : Aside0 (Kd.R (Kd.int .u8) 5 w15 w.heap.size (fun _ => True) v275 y274) := ⟨h0_⟩
    have n1_ : Aside0 (Below w.heap.size w w15) := ⟨h1_⟩
    clear HB
    clear h0_ h1_
    have HO276 := n0_
    have HB := n1_
    clear n0_ n1_
    have hHeld := trivial
    refine norm_ (a' := ?_) ?_ ?_
    rotate_left
    ·simp only [putAll, Act.put, List.setIfInBounds_toArray, List.set_cons_zero, List.set_cons_succ]
     rfl
    refine pX 9 24 (fl 11 1023) rfl rfl HT_.out ?_
    refine pX 10 2 (fl 11 2047) rfl rfl HT_.out ?_
    refine done_ (done_of HT_.out (by kernel_rfl)) ?_
    try go_wp2
    go_ret
    exact ⟨eX, bX HB.out⟩
   ·rw [if_neg c9] at H
    exact absurd H (by simp)
 ·rw [if_neg c2] at H
  have c2b0 : decide (a0 < 0) = false := decide_eq_false c2
  clear c2
  have H' := Aside0.mk H
  clear H
  go_enter Tryd.func28, Tryd.ntmps28
  go_wp2
  go_loopg [0, 3] k (fun kq v0 v3 w' => ∃ (x0_1 : Int) (x3_1 : ByteArray), v0 = .int .i64 x0_1 ∧ v3 = .string x3_1 ∧ Aside0 (spec_FormatInt.l0 kq x0_1 x3_1 = some r) ∧ Aside0 (kq ≤ k) ∧ Aside0 (Below w.heap.size w w'))
  case atStart => exact ⟨(a0), ((⟨#[]⟩ : ByteArray)), vX, vX, H', ⟨Nat.le_refl _⟩, ⟨bX HB.out⟩⟩
  case round =>
   clear H'
   try clear hcv1
   try clear c2
   try clear c2b0
   try clear p2
   try clear c3
   try clear c3b0
   try clear c3b1
   try clear c4
   try clear c4b0
   try clear c4b1
   try clear c4b2
   try clear p6
   try clear hcv7
   try clear c9
   try clear c9b0
   try clear c9b1
   try clear c9b2
   try clear hcv13
   try clear hcv14
   obtain ⟨x0_1, x3_1, rfl, rfl, HA, HK1, HB⟩ := hrel
   cases gk with
   | zero => exact absurd HA.out (by simp [spec_FormatInt.l0])
   | succ k1 =>
    have H := HA.out
    clear HA
    simp only [spec_FormatInt.l0] at H
    by_cases c16 : x0_1 > 9
    ·rw [if_pos c16] at H
     have c16b0 : decide (9 < x0_1) = true := decide_eq_true c16
     clear c16
     obtain ⟨y277, hy277⟩ : ∃ y_ : List Int, y_ = (([(wrap64 (48 + (Int.tmod x0_1 10))) % 256] : List Int)) := ⟨_, rfl⟩
     replace H : (if (strOfNums y277).size + x3_1.size ≤ 9223372036854775807 then (spec_FormatInt.l0 k1 (wrap64 (Int.tdiv x0_1 10)) ((strOfNums y277) ++ x3_1)) else (none)) = some r := by first | (rw [hy277]; with_reducible exact H) | (have H2_ := (Option.bind_some _ _).symm.trans H; rw [hy277]; with_reducible exact H2_) | (have H2_ := (Option.bind_some _ _).symm.trans H; with_reducible exact H2_) | with_reducible exact H | (rw [hy277]; exact H) | exact H
     have Ny277 := Aside0.mk hy277
     clear hy277
     by_cases c17 : (strOfNums y277).size + x3_1.size ≤ 9223372036854775807
     ·rw [if_pos c17] at H
      have c17b0 := eq_true c17
      have c17b1 : decide ((strOfNums y277).size + x3_1.size ≤ 9223372036854775807) = true := decide_eq_true c17
      try have c17b2 : (9223372036854775807 < (strOfNums y277).size + x3_1.size) = False := eq_false (Nat.not_lt.2 c17)
      have H' := Aside0.mk H
      clear H
      go_wp2_with (first | ((with_reducible refine gate_dst (N := 31) rfl ?_); refine Kd.R_lit (Kd.int .u8) _ 5 ?hg (N := 31) ?hd (xs := ([(wrap64 (48 + (Int.tmod x0_1 10))) % 256] : List Int)) (inner := [.int .u8 ((wrap64 (48 + (Int.tmod x0_1 10))) % 256)]) (ok := fun _ => True) (okp := fun _ => True) ?hr ?hp (fun _ hk => hk) trivial (Below.refl _ _) (Nat.le_refl _) (by simp) ?_; (case hd => rfl); (case hg => rfl); (case hr => first | (go_simp; done) | (go_simp; rfl)); (case hp => exact (Reps.one (show Kd.M (Kd.int .u8) _ _ _ ((wrap64 (48 + (Int.tmod x0_1 10))) % 256) [.int .u8 ((wrap64 (48 + (Int.tmod x0_1 10))) % 256)] from rfl) (Reps.none _ _))); intro v278 w18 ho19 hb hg_ hnew_; clear hg_ hnew_; (first | rw [← Ny277.out] at ho19 | (simp only [Int.reduceToNat] at ho19; rw [← Ny277.out] at ho19)); have n0_ := Aside0.mk (Kd.R_lower ho19 (below_size (bX HB.out))); have n1_ := Aside0.mk (below_step (bX HB.out) hb); clear HB; have HO279 := n0_; have HB := n1_; clear n0_ n1_; clear hb ho19; have hcv20 := own_string (P := Tryd.prog) Tryd.underlying53 Tryd.underlying5 Tryd.underlying9 (Kd.own_of_R HO279.out)))
      go_roundg k1
      case measure => have := HK1.out; omega
      case rel => exact ⟨(wrap64 (Int.tdiv x0_1 10)), ((strOfNums y277) ++ x3_1), vX, vX, H', ⟨by have := HK1.out; omega⟩, ⟨bX HB.out⟩⟩
     ·rw [if_neg c17] at H
      exact absurd H (by simp)
    ·rw [if_neg c16] at H
     have c16b0 : decide (9 < x0_1) = false := decide_eq_false c16
     clear c16
     obtain ⟨y280, hy280⟩ : ∃ y_ : List Int, y_ = (([(wrap64 (48 + x0_1)) % 256] : List Int)) := ⟨_, rfl⟩
     replace H : (if (strOfNums y280).size + x3_1.size ≤ 9223372036854775807 then (some ((strOfNums y280) ++ x3_1)) else (none)) = some r := by first | (rw [hy280]; with_reducible exact H) | (have H2_ := (Option.bind_some _ _).symm.trans H; rw [hy280]; with_reducible exact H2_) | (have H2_ := (Option.bind_some _ _).symm.trans H; with_reducible exact H2_) | with_reducible exact H | (rw [hy280]; exact H) | exact H
     have Ny280 := Aside0.mk hy280
     clear hy280
     by_cases c21 : (strOfNums y280).size + x3_1.size ≤ 9223372036854775807
     ·rw [if_pos c21] at H
      have c21b0 := eq_true c21
      have c21b1 : decide ((strOfNums y280).size + x3_1.size ≤ 9223372036854775807) = true := decide_eq_true c21
      try have c21b2 : (9223372036854775807 < (strOfNums y280).size + x3_1.size) = False := eq_false (Nat.not_lt.2 c21)
      obtain rfl := Option.some.inj H
      go_wp2_with (first | ((with_reducible refine gate_dst (N := 40) rfl ?_); refine Kd.R_lit (Kd.int .u8) _ 5 ?hg (N := 40) ?hd (xs := ([(wrap64 (48 + x0_1)) % 256] : List Int)) (inner := [.int .u8 ((wrap64 (48 + x0_1)) % 256)]) (ok := fun _ => True) (okp := fun _ => True) ?hr ?hp (fun _ hk => hk) trivial (Below.refl _ _) (Nat.le_refl _) (by simp) ?_; (case hd => rfl); (case hg => rfl); (case hr => first | (go_simp; done) | (go_simp; rfl)); (case hp => exact (Reps.one (show Kd.M (Kd.int .u8) _ _ _ ((wrap64 (48 + x0_1)) % 256) [.int .u8 ((wrap64 (48 + x0_1)) % 256)] from rfl) (Reps.none _ _))); intro v281 w22 ho23 hb hg_ hnew_; clear hg_ hnew_; (first | rw [← Ny280.out] at ho23 | (simp only [Int.reduceToNat] at ho23; rw [← Ny280.out] at ho23)); have n0_ := Aside0.mk (Kd.R_lower ho23 (below_size (bX HB.out))); have n1_ := Aside0.mk (below_step (bX HB.out) hb); clear HB; have HO282 := n0_; have HB := n1_; clear n0_ n1_; clear hb ho23; have hcv24 := own_string (P := Tryd.prog) Tryd.underlying53 Tryd.underlying5 Tryd.underlying9 (Kd.own_of_R HO282.out)))
      go_ret
      exact ⟨eX, bX HB.out⟩
     ·rw [if_neg c21] at H
      exact absurd H (by simp)

/-! ### spec_Join: function 29 -/
def spec_Join.l0 : Nat → ByteArray → ByteArray → List ByteArray → Int → Int → Option (ByteArray)
 | 0, _, _, _, _, _ => none
 | k + 1, x1, x5, x8, x9, x10 => if x10 < x9 then (if 0 ≤ x10 then (if x10 < (x8.length : Int) then (if x10 > 0 then (if x5.size + x1.size ≤ 9223372036854775807 then (if (x5 ++ x1).size + (rdOf ByteArray.empty x8 x10).size ≤ 9223372036854775807 then (spec_Join.l0 k x1 ((x5 ++ x1) ++ (rdOf ByteArray.empty x8 x10)) x8 x9 (wrap64 (x10 + 1))) else (none)) else (none)) else (if x5.size + (rdOf ByteArray.empty x8 x10).size ≤ 9223372036854775807 then (spec_Join.l0 k x1 (x5 ++ (rdOf ByteArray.empty x8 x10)) x8 x9 (wrap64 (x10 + 1))) else (none))) else (none)) else (none)) else (some x5)
def spec_Join.f (k : Nat) (l0 : List ByteArray) (a1 : ByteArray) : Option (ByteArray) := spec_Join.l0 k a1 (⟨#[]⟩ : ByteArray) l0 (l0.length : Int) 0
set_option maxHeartbeats 8000000 in
set_option maxRecDepth 100000 in
theorem spec_Join.calls (k : Nat) (A0 : Option Addr) (c0 : Nat) (l0 : List ByteArray) (a1 : ByteArray) (r : ByteArray) (w : World) (hr0 : Kd.C Kd.string w A0 l0.length l0) (hc0 : l0.length ≤ c0) (h : spec_Join.f k l0 a1 = some r) :
  Calls Tryd.prog 29 #[.slice A0 l0.length c0, .string a1] w fun e w' => e = .returned (.string r) ∧ Drawn0 w w' := by
 have HR0 := Aside0.mk hr0
 have HC0 := Aside0.mk hc0
 clear hr0 hc0
 have H : (spec_Join.l0 k a1 (⟨#[]⟩ : ByteArray) l0 (l0.length : Int) 0) = some r := h
 clear h
 have H' := Aside0.mk H
 clear H
 go_enter Tryd.func29, Tryd.ntmps29
 go_wp2
 go_loopg [5, 10] k (fun kq v5 v10 w' => ∃ (x5_1 : ByteArray) (x10_1 : Int), v5 = .string x5_1 ∧ v10 = .int .i64 x10_1 ∧ Aside0 (spec_Join.l0 kq a1 x5_1 l0 (l0.length : Int) x10_1 = some r) ∧ Aside0 (kq ≤ k) ∧ Drawn0 w w')
 case atStart => exact ⟨((⟨#[]⟩ : ByteArray)), (0), vX, vX, H', ⟨Nat.le_refl _⟩, by repeat (first | exact Drawn0.refl _ | apply Drawn0.step)⟩
 case round =>
  clear H'
  try clear c2
  try clear p2
  obtain ⟨x5_1, x10_1, rfl, rfl, HA, HK1, ⟨m1, rfl⟩⟩ := hrel
  cases gk with
  | zero => exact absurd HA.out (by simp [spec_Join.l0])
  | succ k1 =>
   have H := HA.out
   clear HA
   simp only [spec_Join.l0] at H
   by_cases c3 : x10_1 < (l0.length : Int)
   ·rw [if_pos c3] at H
    have c3b0 : decide (x10_1 < (l0.length : Int)) = true := decide_eq_true c3
    clear c3
    by_cases c4 : 0 ≤ x10_1
    ·rw [if_pos c4] at H
     have c4b0 : decide (0 ≤ x10_1) = true := decide_eq_true c4
     clear c4
     by_cases c5 : x10_1 < (l0.length : Int)
     ·rw [if_pos c5] at H
      have c5b0 : decide (x10_1 < (l0.length : Int)) = true := decide_eq_true c5
      clear c5
      by_cases c6 : x10_1 > 0
      ·rw [if_pos c6] at H
       have c6b0 : decide (0 < x10_1) = true := decide_eq_true c6
       clear c6
       by_cases c7 : x5_1.size + a1.size ≤ 9223372036854775807
       ·rw [if_pos c7] at H
        have c7b0 := eq_true c7
        have c7b1 : decide (x5_1.size + a1.size ≤ 9223372036854775807) = true := decide_eq_true c7
        try have c7b2 : (9223372036854775807 < x5_1.size + a1.size) = False := eq_false (Nat.not_lt.2 c7)
        by_cases c8 : (x5_1 ++ a1).size + (rdOf ByteArray.empty l0 x10_1).size ≤ 9223372036854775807
        ·rw [if_pos c8] at H
         have c8b0 := eq_true c8
         have c8b1 : decide ((x5_1 ++ a1).size + (rdOf ByteArray.empty l0 x10_1).size ≤ 9223372036854775807) = true := decide_eq_true c8
         try have c8b2 : (9223372036854775807 < (x5_1 ++ a1).size + (rdOf ByteArray.empty l0 x10_1).size) = False := eq_false (Nat.not_lt.2 c8)
         try have c8b3 : (9223372036854775807 < x5_1.size + a1.size + (rdOf ByteArray.empty l0 x10_1).size) = False := eq_false (Nat.not_lt.2 (by have hz_ := c8; simp only [ByteArray.size_append] at hz_; first | exact hz_ | omega))
         have H' := Aside0.mk H
         clear H
         have p283 : 0 ≤ (x10_1 : Int) := dX
         have q283 : x10_1 < (l0.length : Int) := dX
         obtain ⟨ad283, e283, hx283_0⟩ := Kd.at_string HR0.out x10_1 p283 q283
         cases e283
         replace p283 := eq_true p283
         replace q283 := eq_true q283
         go_wp2
         go_roundg k1
         case measure => have := HK1.out; omega
         case rel => exact ⟨((x5_1 ++ a1) ++ (rdOf ByteArray.empty l0 x10_1)), (wrap64 (x10_1 + 1)), vX, vX, H', ⟨by have := HK1.out; omega⟩, by repeat (first | exact Drawn0.refl _ | apply Drawn0.step)⟩
        ·rw [if_neg c8] at H
         exact absurd H (by simp)
       ·rw [if_neg c7] at H
        exact absurd H (by simp)
      ·rw [if_neg c6] at H
       have c6b0 : decide (0 < x10_1) = false := decide_eq_false c6
       clear c6
       by_cases c9 : x5_1.size + (rdOf ByteArray.empty l0 x10_1).size ≤ 9223372036854775807
       ·rw [if_pos c9] at H
        have c9b0 := eq_true c9
        have c9b1 : decide (x5_1.size + (rdOf ByteArray.empty l0 x10_1).size ≤ 9223372036854775807) = true := decide_eq_true c9
        try have c9b2 : (9223372036854775807 < x5_1.size + (rdOf ByteArray.empty l0 x10_1).size) = False := eq_false (Nat.not_lt.2 c9)
        have H' := Aside0.mk H
        clear H
        have p283 : 0 ≤ (x10_1 : Int) := dX
        have q283 : x10_1 < (l0.length : Int) := dX
        obtain ⟨ad283, e283, hx283_0⟩ := Kd.at_string HR0.out x10_1 p283 q283
        cases e283
        replace p283 := eq_true p283
        replace q283 := eq_true q283
        go_wp2
        go_roundg k1
        case measure => have := HK1.out; omega
        case rel => exact ⟨(x5_1 ++ (rdOf ByteArray.empty l0 x10_1)), (wrap64 (x10_1 + 1)), vX, vX, H', ⟨by have := HK1.out; omega⟩, by repeat (first | exact Drawn0.refl _ | apply Drawn0.step)⟩
       ·rw [if_neg c9] at H
        exact absurd H (by simp)
     ·rw [if_neg c5] at H
      exact absurd H (by simp)
    ·rw [if_neg c4] at H
     exact absurd H (by simp)
   ·rw [if_neg c3] at H
    have c3b0 : decide (x10_1 < (l0.length : Int)) = false := decide_eq_false c3
    clear c3
    obtain rfl := Option.some.inj H
    go_wp2
    go_ret
    exact ⟨by first | rfl | (simp; done) | (simp [*]; done), by repeat (first | exact Drawn0.refl _ | apply Drawn0.step)⟩

/-! ### spec_l17Ints: function 13 -/
def spec_l17Ints.l0 : Nat → ByteArray → List ByteArray → List Int → Int → Int → Option (ByteArray)
 | 0, _, _, _, _, _ => none
 | k + 1, x1, x5, x9, x10, x11 => if x11 < x10 then (if 0 ≤ x11 then (if x11 < (x9.length : Int) then ((spec_FormatInt.f k (rd x9 x11)).bind fun t288 => (if x5.length < 8796093022208 then (spec_l17Ints.l0 k x1 (x5 ++ [t288]) x9 x10 (wrap64 (x11 + 1))) else (none))) else (none)) else (none)) else ((spec_Join.f k x5 x1).bind fun t292 => (some t292))
def spec_l17Ints.f (k : Nat) (l0 : List Int) (a1 : ByteArray) : Option (ByteArray) := spec_l17Ints.l0 k a1 (([] : List ByteArray)) l0 (l0.length : Int) 0
set_option maxHeartbeats 8000000 in
set_option maxRecDepth 100000 in
theorem spec_l17Ints.calls (k : Nat) (A0 : Option Addr) (c0 : Nat) (l0 : List Int) (a1 : ByteArray) (r : ByteArray) (w : World) (hr0 : Kd.C (Kd.int .i64) w A0 l0.length l0) (hc0 : l0.length ≤ c0) (h : spec_l17Ints.f k l0 a1 = some r) :
  Calls Tryd.prog 13 #[.slice A0 l0.length c0, .string a1] w fun e w' => e = .returned (.string r) ∧ Below w.heap.size w w' := by
 have HR0 := Aside0.mk hr0
 have HC0 := Aside0.mk hc0
 clear hr0 hc0
 have HB := Aside0.mk (Below.refl w.heap.size w)
 have H : (spec_l17Ints.l0 k a1 (([] : List ByteArray)) l0 (l0.length : Int) 0) = some r := h
 clear h
 obtain ⟨y284, hy284⟩ : ∃ y_ : List ByteArray, y_ = (([] : List ByteArray)) := ⟨_, rfl⟩
 replace H : (spec_l17Ints.l0 k a1 y284 l0 (l0.length : Int) 0) = some r := by first | (rw [hy284]; with_reducible exact H) | (have H2_ := (Option.bind_some _ _).symm.trans H; rw [hy284]; with_reducible exact H2_) | (have H2_ := (Option.bind_some _ _).symm.trans H; with_reducible exact H2_) | with_reducible exact H | (rw [hy284]; exact H) | exact H
 have Ny284 := Aside0.mk hy284
 clear hy284
 have H' := Aside0.mk H
 clear H
 go_enter Tryd.func13, Tryd.ntmps13
 go_wp2_with (first | ((with_reducible refine gate_dst (N := 8) rfl ?_); refine Kd.R_lit Kd.string _ 9 ?hg (N := 8) ?hd (xs := ([] : List ByteArray)) (inner := []) (ok := fun _ => True) (okp := fun _ => True) ?hr ?hp (fun _ hk => hk) trivial (Below.refl _ _) (Nat.le_refl _) (by simp) ?_; (case hd => rfl); (case hg => rfl); (case hr => first | (go_simp; done) | (go_simp; rfl)); (case hp => exact (Reps.none _ _)); intro v285 w3 ho4 hb hg_ hnew_; clear hg_ hnew_; (first | rw [← Ny284.out] at ho4 | (simp only [Int.reduceToNat] at ho4; rw [← Ny284.out] at ho4)); have n0_ := Aside0.mk (Kd.R_lower ho4 (below_size (bX HB.out))); have n1_ := Aside0.mk (below_step (bX HB.out) hb); clear HB; have HO286 := n0_; have HB := n1_; clear n0_ n1_; clear hb ho4))
 go_loopg [5, 11] k (fun kq v5 v11 w' => ∃ (x5_1 : List ByteArray) (x11_1 : Int), v11 = .int .i64 x11_1 ∧ Aside0 (spec_l17Ints.l0 kq a1 x5_1 l0 (l0.length : Int) x11_1 = some r) ∧ Aside0 (kq ≤ k) ∧ Aside0 (Kd.R Kd.string 9 w' w.heap.size (fun _ => True) v5 x5_1) ∧ Aside0 (Below w.heap.size w w'))
 case atStart => exact ⟨(y284), (0), vX, H', ⟨Nat.le_refl _⟩, ⟨rX HO286.out⟩, ⟨bX HB.out⟩⟩
 case round =>
  clear H'
  try clear c1
  try clear p2
  obtain ⟨x5_1, x11_1, rfl, HA, HK1, HO_5, HB⟩ := hrel
  cases gk with
  | zero => exact absurd HA.out (by simp [spec_l17Ints.l0])
  | succ k1 =>
   have H := HA.out
   clear HA
   simp only [spec_l17Ints.l0] at H
   by_cases c5 : x11_1 < (l0.length : Int)
   ·rw [if_pos c5] at H
    have c5b0 : decide (x11_1 < (l0.length : Int)) = true := decide_eq_true c5
    clear c5
    by_cases c6 : 0 ≤ x11_1
    ·rw [if_pos c6] at H
     have c6b0 : decide (0 ≤ x11_1) = true := decide_eq_true c6
     clear c6
     by_cases c7 : x11_1 < (l0.length : Int)
     ·rw [if_pos c7] at H
      have c7b0 : decide (x11_1 < (l0.length : Int)) = true := decide_eq_true c7
      clear c7
      replace H := Option.bind_eq_some_iff.mp H
      obtain ⟨t288, A80, H⟩ := H
      replace H : (if x5_1.length < 8796093022208 then (spec_l17Ints.l0 k1 a1 (x5_1 ++ [t288]) l0 (l0.length : Int) (wrap64 (x11_1 + 1))) else (none)) = some r := H
      have A8 := Aside0.mk A80
      clear A80
      by_cases c9 : x5_1.length < 8796093022208
      ·rw [if_pos c9] at H
       have LMc9 := Aside0.mk c9
       clear c9
       obtain ⟨y289, hy289⟩ : ∃ y_ : List ByteArray, y_ = (x5_1 ++ [t288]) := ⟨_, rfl⟩
       replace H : (spec_l17Ints.l0 k1 a1 y289 l0 (l0.length : Int) (wrap64 (x11_1 + 1))) = some r := by first | (rw [hy289]; with_reducible exact H) | (have H2_ := (Option.bind_some _ _).symm.trans H; rw [hy289]; with_reducible exact H2_) | (have H2_ := (Option.bind_some _ _).symm.trans H; with_reducible exact H2_) | with_reducible exact H | (rw [hy289]; exact H) | exact H
       have Ny289 := Aside0.mk hy289
       clear hy289
       have H' := Aside0.mk H
       clear H
       have p287 : 0 ≤ (x11_1 : Int) := dX
       have q287 : x11_1 < (l0.length : Int) := dX
       obtain ⟨ad287, e287, hx287_0⟩ := Kd.at_int HR0.out x11_1 p287 q287
       cases e287
       replace hx287_0 := (HB.out.cell (World.block_lt_of_cell? w _ hx287_0)).trans hx287_0
       replace p287 := eq_true p287
       replace q287 := eq_true q287
       go_wp2_with (first | ((with_reducible refine gate_callee (f := 28) rfl ?_); refine goesL_ (some 17) rfl rfl Tryd.func28 (by kernel_rfl) rfl #[.int .i64 (rd l0 x11_1)] rfl (by (try simp only [zE,zF,zG]); first|done|rfl|(simp only [zH,zI]; rfl)) ?_; (with_reducible refine (spec_FormatInt.calls k1 (rd l0 x11_1) t288 _ A8.out).mono ?_); rintro e w10 ⟨rfl, hb⟩; refine ⟨_, rfl, ?_⟩; have n0_ := Aside0.mk (Kd.R_below (rX HO_5.out) hb); have n1_ := Aside0.mk (below_step (bX HB.out) hb); clear HO_5; clear HB; have HO_5 := n0_; have HB := n1_; clear n0_ n1_; (try clear hb); (try clear hb2); (try clear hk); (try clear hi)) | ((with_reducible refine gate_builtin (b := .append) (xs := #[.tmp 15, .tmp 18]) rfl ?_); at_builtin; refine Kd.R_append Kd.string (w0 := w) w.heap.size rfl (.tmp 15) (.tmp 18) 46 9 (.string ⟨#[]⟩) 16 rfl Tryd.underlying46 info9 rfl (by decide) (by omega) u5 x5_1 t288 [.string t288] (fun _ => True) (fun _ => False) rfl rfl ?aP (fun _ hk => hk.elim) ?aF ?aO ?aB ?aS ?aL ?_; (case aP => exact rfl); (case aB => exact (bX HB.out)); (case aF => exact (fun _ _ => trivial)); (case aO => exact (rX HO_5.out)); (case aS => exact (below_size (bX HB.out))); (case aL => have := LMc9.out; omega); intro v290 w11 ho hb hg hat; rw [← Ny289.out] at ho; have n0_ := Aside0.mk (hb); have n1_ := Aside0.mk (ho); clear HB; clear HO_5; have HB := n0_; have HO291 := n1_; clear n0_ n1_; clear ho hb hg hat))
       go_roundg k1
       case measure => have := HK1.out; omega
       case rel => exact ⟨(y289), (wrap64 (x11_1 + 1)), vX, H', ⟨by have := HK1.out; omega⟩, ⟨rX HO291.out⟩, ⟨bX HB.out⟩⟩
      ·rw [if_neg c9] at H
       exact absurd H (by simp)
     ·rw [if_neg c7] at H
      exact absurd H (by simp)
    ·rw [if_neg c6] at H
     exact absurd H (by simp)
   ·rw [if_neg c5] at H
    have c5b0 : decide (x11_1 < (l0.length : Int)) = false := decide_eq_false c5
    clear c5
    replace H := Option.bind_eq_some_iff.mp H
    obtain ⟨t292, A120, H⟩ := H
    replace H : (some t292) = some r := H
    have A12 := Aside0.mk A120
    clear A120
    obtain rfl := Option.some.inj H
    obtain ⟨Ao13, co13, eo13⟩ := Kd.R_slice HO_5.out
    subst eo13
    go_wp2_with (first | ((with_reducible refine gate_callee (f := 29) rfl ?_); refine goesL_ (some 23) rfl rfl Tryd.func29 (by kernel_rfl) rfl #[.slice Ao13 x5_1.length co13, .string a1] rfl (by (try simp only [zE,zF,zG]); first|done|rfl|(simp only [zH,zI]; rfl)) ?_; (with_reducible refine (spec_Join.calls k1 _ _ x5_1 a1 t292 _ ?side1 ?side2 A12.out).mono ?_); (case side1 => exact cX (Kd.R_reads' HO_5.out).2.2); (case side2 => exact (Kd.R_reads' HO_5.out).2.1); rintro e w' ⟨rfl, ⟨nd, rfl⟩⟩; refine ⟨_, rfl, ?_⟩))
    go_ret
    exact ⟨eX, bX HB.out⟩

/-! ### spec_FormatPerm: function 12 -/
def spec_FormatPerm.l0 : Nat → ByteArray → List (List Int) → Int → Int → Option (ByteArray)
 | 0, _, _, _, _ => none
 | k + 1, x3, x10, x11, x12 => if x12 < x11 then (if 0 ≤ x12 then (if x12 < (x10.length : Int) then (if ((rd_L1 x10 x12).length : Int) > 1 then (if x3.size + 1 ≤ 9223372036854775807 then ((spec_l17Ints.f k (rd_L1 x10 x12) (⟨#[32]⟩ : ByteArray)).bind fun t298 => (if (x3 ++ (⟨#[40]⟩ : ByteArray)).size + t298.size ≤ 9223372036854775807 then (if ((x3 ++ (⟨#[40]⟩ : ByteArray)) ++ t298).size + 1 ≤ 9223372036854775807 then (spec_FormatPerm.l0 k (((x3 ++ (⟨#[40]⟩ : ByteArray)) ++ t298) ++ (⟨#[41]⟩ : ByteArray)) x10 x11 (wrap64 (x12 + 1))) else (none)) else (none))) else (none)) else (spec_FormatPerm.l0 k x3 x10 x11 (wrap64 (x12 + 1)))) else (none)) else (none)) else (if x3.toList = ([] : List UInt8) then (some (⟨#[40, 41]⟩ : ByteArray)) else (some x3))
def spec_FormatPerm.f (k : Nat) (l0 : List Int) : Option (ByteArray) := (spec_PermOk.f l0).bind fun t293 => (if t293 = true then ((spec_CyclesOf.f k l0).bind fun t294 => (spec_FormatPerm.l0 k (⟨#[]⟩ : ByteArray) t294 (t294.length : Int) 0)) else (some (⟨#[]⟩ : ByteArray)))
set_option maxHeartbeats 8000000 in
set_option maxRecDepth 100000 in
theorem spec_FormatPerm.calls (k : Nat) (A0 : Option Addr) (c0 : Nat) (l0 : List Int) (r : ByteArray) (w : World) (hr0 : Kd.C (Kd.int .i64) w A0 l0.length l0) (hc0 : l0.length ≤ c0) (h : spec_FormatPerm.f k l0 = some r) :
  Calls Tryd.prog 12 #[.slice A0 l0.length c0] w fun e w' => e = .returned (.string r) ∧ Below w.heap.size w w' := by
 have HR0 := Aside0.mk hr0
 have HC0 := Aside0.mk hc0
 clear hr0 hc0
 have HB := Aside0.mk (Below.refl w.heap.size w)
 have H : ((spec_PermOk.f l0).bind fun t293 => (if t293 = true then ((spec_CyclesOf.f k l0).bind fun t294 => (spec_FormatPerm.l0 k (⟨#[]⟩ : ByteArray) t294 (t294.length : Int) 0)) else (some (⟨#[]⟩ : ByteArray)))) = some r := h
 clear h
 replace H := Option.bind_eq_some_iff.mp H
 obtain ⟨t293, A20, H⟩ := H
 replace H : (if t293 = true then ((spec_CyclesOf.f k l0).bind fun t294 => (spec_FormatPerm.l0 k (⟨#[]⟩ : ByteArray) t294 (t294.length : Int) 0)) else (some (⟨#[]⟩ : ByteArray))) = some r := H
 have A2 := Aside0.mk A20
 clear A20
 by_cases c3 : t293 = true
 ·subst c3
  have H1 : ((spec_CyclesOf.f k l0).bind fun t294 => (spec_FormatPerm.l0 k (⟨#[]⟩ : ByteArray) t294 (t294.length : Int) 0)) = some r := by rw [if_pos rfl] at H; exact H
  clear H
  have H := H1
  clear H1
  replace H := Option.bind_eq_some_iff.mp H
  obtain ⟨t294, A40, H⟩ := H
  replace H : (spec_FormatPerm.l0 k (⟨#[]⟩ : ByteArray) t294 (t294.length : Int) 0) = some r := H
  have A4 := Aside0.mk A40
  clear A40
  have H' := Aside0.mk H
  clear H
  go_enter Tryd.func12, Tryd.ntmps12
  go_wp2_with (first | ((with_reducible refine gate_callee (f := 26) rfl ?_); refine goesL_ (some 7) rfl rfl Tryd.func26 (by kernel_rfl) rfl #[.slice A0 l0.length c0] rfl (by (try simp only [zE,zF,zG]); first|done|rfl|(simp only [zH,zI]; rfl)) ?_; (with_reducible refine (spec_PermOk.calls _ _ l0 true _ ?side1 ?side2 A2.out).mono ?_); (case side1 => exact cX HR0.out); (case side2 => exact HC0.out); rintro e w' ⟨rfl, ⟨nd, rfl⟩⟩; refine ⟨_, rfl, ?_⟩) | ((with_reducible refine gate_callee (f := 27) rfl ?_); refine goesL_ (some 10) rfl rfl Tryd.func27 (by kernel_rfl) rfl #[.slice A0 l0.length c0] rfl (by (try simp only [zE,zF,zG]); first|done|rfl|(simp only [zH,zI]; rfl)) ?_; (with_reducible refine (spec_CyclesOf.calls k _ _ l0 t294 _ ?side1 ?side2 A4.out).mono ?_); (case side1 => exact cX HR0.out); (case side2 => exact HC0.out); rintro e w5 ⟨v295, rfl, ho0, hb⟩; refine ⟨_, rfl, ?_⟩; have n0_ := Aside0.mk (Kd.S_lower ho0 (below_size (bX HB.out))); have n1_ := Aside0.mk (below_step (bX HB.out) hb); clear HB; have HO296 := n0_; have HB := n1_; clear n0_ n1_; (try clear hb); (try clear hb2); (try clear hk); (try clear hi); (try clear ho0); obtain ⟨Ao6, co6, eo6⟩ := Kd.S_slice HO296.out; subst eo6))
  go_loopg [3, 12] k (fun kq v3 v12 w' => ∃ (x3_1 : ByteArray) (x12_1 : Int), v3 = .string x3_1 ∧ v12 = .int .i64 x12_1 ∧ Aside0 (spec_FormatPerm.l0 kq x3_1 t294 (t294.length : Int) x12_1 = some r) ∧ Aside0 (kq ≤ k) ∧ Aside0 (Kd.S (Kd.slice 3 (Kd.int .i64)) 22 w' w.heap.size (fun _ => True) (.slice Ao6 t294.length co6) t294) ∧ Aside0 (Below w.heap.size w w'))
  case atStart => exact ⟨((⟨#[]⟩ : ByteArray)), (0), vX, vX, H', ⟨Nat.le_refl _⟩, ⟨by (with_reducible repeat (first | apply Kd.S_alloc | apply Kd.S_drewN | apply Kd.S_drew)); exact HO296.out⟩, ⟨bX HB.out⟩⟩
  case round =>
   clear H'
   try clear c1
   try clear c2
   try clear p2
   try clear c3
   obtain ⟨x3_1, x12_1, rfl, rfl, HA, HK1, HO_10, HB⟩ := hrel
   cases gk with
   | zero => exact absurd HA.out (by simp [spec_FormatPerm.l0])
   | succ k1 =>
    have H := HA.out
    clear HA
    simp only [spec_FormatPerm.l0] at H
    by_cases c7 : x12_1 < (t294.length : Int)
    ·rw [if_pos c7] at H
     have c7b0 : decide (x12_1 < (t294.length : Int)) = true := decide_eq_true c7
     clear c7
     by_cases c8 : 0 ≤ x12_1
     ·rw [if_pos c8] at H
      have c8b0 : decide (0 ≤ x12_1) = true := decide_eq_true c8
      clear c8
      by_cases c9 : x12_1 < (t294.length : Int)
      ·rw [if_pos c9] at H
       have c9b0 : decide (x12_1 < (t294.length : Int)) = true := decide_eq_true c9
       clear c9
       by_cases c10 : ((rd_L1 t294 x12_1).length : Int) > 1
       ·rw [if_pos c10] at H
        have c10b0 : decide (1 < ((rd_L1 t294 x12_1).length : Int)) = true := decide_eq_true c10
        have c10b1 : decide (1 < (rd_L1 t294 x12_1).length) = true := decide_eq_true (by omega)
        clear c10
        by_cases c11 : x3_1.size + 1 ≤ 9223372036854775807
        ·rw [if_pos c11] at H
         have c11b0 := eq_true c11
         have c11b1 : decide (x3_1.size + 1 ≤ 9223372036854775807) = true := decide_eq_true c11
         try have c11b2 : (9223372036854775807 < x3_1.size + 1) = False := eq_false (Nat.not_lt.2 c11)
         replace H := Option.bind_eq_some_iff.mp H
         obtain ⟨t298, A120, H⟩ := H
         replace H : (if (x3_1 ++ (⟨#[40]⟩ : ByteArray)).size + t298.size ≤ 9223372036854775807 then (if ((x3_1 ++ (⟨#[40]⟩ : ByteArray)) ++ t298).size + 1 ≤ 9223372036854775807 then (spec_FormatPerm.l0 k1 (((x3_1 ++ (⟨#[40]⟩ : ByteArray)) ++ t298) ++ (⟨#[41]⟩ : ByteArray)) t294 (t294.length : Int) (wrap64 (x12_1 + 1))) else (none)) else (none)) = some r := H
         have A12 := Aside0.mk A120
         clear A120
         by_cases c13 : (x3_1 ++ (⟨#[40]⟩ : ByteArray)).size + t298.size ≤ 9223372036854775807
         ·rw [if_pos c13] at H
          have c13b0 := eq_true c13
          have c13b1 : decide ((x3_1 ++ (⟨#[40]⟩ : ByteArray)).size + t298.size ≤ 9223372036854775807) = true := decide_eq_true c13
          try have c13b2 : (9223372036854775807 < (x3_1 ++ (⟨#[40]⟩ : ByteArray)).size + t298.size) = False := eq_false (Nat.not_lt.2 c13)
          try have c13b3 : (9223372036854775807 < x3_1.size + 1 + t298.size) = False := eq_false (Nat.not_lt.2 (by have hz_ := c13; simp only [ByteArray.size_append] at hz_; first | exact hz_ | omega))
          by_cases c14 : ((x3_1 ++ (⟨#[40]⟩ : ByteArray)) ++ t298).size + 1 ≤ 9223372036854775807
          ·rw [if_pos c14] at H
           have c14b0 := eq_true c14
           have c14b1 : decide (((x3_1 ++ (⟨#[40]⟩ : ByteArray)) ++ t298).size + 1 ≤ 9223372036854775807) = true := decide_eq_true c14
           try have c14b2 : (9223372036854775807 < ((x3_1 ++ (⟨#[40]⟩ : ByteArray)) ++ t298).size + 1) = False := eq_false (Nat.not_lt.2 c14)
           try have c14b3 : (9223372036854775807 < x3_1.size + 1 + t298.size + 1) = False := eq_false (Nat.not_lt.2 (by have hz_ := c14; simp only [ByteArray.size_append] at hz_; first | exact hz_ | omega))
           have H' := Aside0.mk H
           clear H
           have p297 : 0 ≤ (x12_1 : Int) := dX
           have q297 : x12_1 < (t294.length : Int) := dX
           obtain ⟨ad297, A297_0, c297_0, e297, hx297_0, hl297_0, hi297_0⟩ := at_L1 (Kd.S_reads' HO_10.out).2.2 x12_1 p297 q297
           cases e297
           obtain ⟨ce297, hce297, hMe297, hcc297⟩ := Kd.S_get HO_10.out [] x12_1 p297 (by first | exact q297 | exact dX | (have e_ := (Kd.S_reads' HO_10.out).1; omega))
           obtain ⟨ve297_0, rfl, ge297_0⟩ := hMe297
           have hv297_0 := hcc297 0 _ rfl
           rw [Nat.add_zero, show ((Kd.slice 3 (Kd.int .i64))).sz = 1 from rfl, Nat.mul_one] at hv297_0
           replace hv297_0 := Option.some.inj (hv297_0.symm.trans hx297_0)
           rw [hv297_0] at ge297_0
           have HL297_0 := Aside0.mk (show Kd.R (Kd.int .i64) 3 _ _ _ _ (rd_L1 t294 x12_1) from ge297_0)
           clear hv297_0 ge297_0
           clear hcc297 hce297
           have HR297_0 := Aside0.mk hi297_0
           have HC297_0 := Aside0.mk hl297_0
           clear hi297_0 hl297_0
           replace p297 := eq_true p297
           replace q297 := eq_true q297
           go_wp2_with (first | ((with_reducible refine gate_callee (f := 13) rfl ?_); refine goesL_ (some 22) rfl rfl Tryd.func13 (by kernel_rfl) rfl #[.slice A297_0 (rd_L1 t294 x12_1).length c297_0, .string (⟨#[32]⟩ : ByteArray)] rfl (by (try simp only [zE,zF,zG]); first|done|rfl|(simp only [zH,zI]; rfl)) ?_; (with_reducible refine (spec_l17Ints.calls k1 _ _ (rd_L1 t294 x12_1) (⟨#[32]⟩ : ByteArray) t298 _ ?side1 ?side2 A12.out).mono ?_); (case side1 => repeat (first | exact (cX HR297_0.out) | (with_reducible refine Kd.C_alloc ?_ _) | (with_reducible refine Kd.C_drewN ?_ _) | (with_reducible refine Kd.C_drew ?_))); (case side2 => exact HC297_0.out); rintro e w15 ⟨rfl, hb⟩; refine ⟨_, rfl, ?_⟩; have n0_ := Aside0.mk (Kd.S_below (by (with_reducible repeat (first | apply Kd.S_alloc | apply Kd.S_drewN | apply Kd.S_drew)); exact HO_10.out) hb); have n1_ := Aside0.mk (Kd.R_below (rX HL297_0.out) hb); have n2_ := Aside0.mk (Kd.C_below (cX HR297_0.out) hb); have n3_ := Aside0.mk (below_step (bX HB.out) hb); clear HO_10; clear HL297_0; clear HR297_0; clear HB; have HO_10 := n0_; have HL297_0 := n1_; have HR297_0 := n2_; have HB := n3_; clear n0_ n1_ n2_ n3_; (try clear hb); (try clear hb2); (try clear hk); (try clear hi)))
           go_roundg k1
           case measure => have := HK1.out; omega
           case rel => exact ⟨(((x3_1 ++ (⟨#[40]⟩ : ByteArray)) ++ t298) ++ (⟨#[41]⟩ : ByteArray)), (wrap64 (x12_1 + 1)), vX, vX, H', ⟨by have := HK1.out; omega⟩, ⟨by (with_reducible repeat (first | apply Kd.S_alloc | apply Kd.S_drewN | apply Kd.S_drew)); exact HO_10.out⟩, ⟨bX HB.out⟩⟩
          ·rw [if_neg c14] at H
           exact absurd H (by simp)
         ·rw [if_neg c13] at H
          exact absurd H (by simp)
        ·rw [if_neg c11] at H
         exact absurd H (by simp)
       ·rw [if_neg c10] at H
        have c10b0 : decide (1 < ((rd_L1 t294 x12_1).length : Int)) = false := decide_eq_false c10
        have c10b1 : decide (1 < (rd_L1 t294 x12_1).length) = false := decide_eq_false (by omega)
        clear c10
        have H' := Aside0.mk H
        clear H
        have p297 : 0 ≤ (x12_1 : Int) := dX
        have q297 : x12_1 < (t294.length : Int) := dX
        obtain ⟨ad297, A297_0, c297_0, e297, hx297_0, hl297_0, hi297_0⟩ := at_L1 (Kd.S_reads' HO_10.out).2.2 x12_1 p297 q297
        cases e297
        obtain ⟨ce297, hce297, hMe297, hcc297⟩ := Kd.S_get HO_10.out [] x12_1 p297 (by first | exact q297 | exact dX | (have e_ := (Kd.S_reads' HO_10.out).1; omega))
        obtain ⟨ve297_0, rfl, ge297_0⟩ := hMe297
        have hv297_0 := hcc297 0 _ rfl
        rw [Nat.add_zero, show ((Kd.slice 3 (Kd.int .i64))).sz = 1 from rfl, Nat.mul_one] at hv297_0
        replace hv297_0 := Option.some.inj (hv297_0.symm.trans hx297_0)
        rw [hv297_0] at ge297_0
        have HL297_0 := Aside0.mk (show Kd.R (Kd.int .i64) 3 _ _ _ _ (rd_L1 t294 x12_1) from ge297_0)
        clear hv297_0 ge297_0
        clear hcc297 hce297
        have HR297_0 := Aside0.mk hi297_0
        have HC297_0 := Aside0.mk hl297_0
        clear hi297_0 hl297_0
        replace p297 := eq_true p297
        replace q297 := eq_true q297
        go_wp2
        go_roundg k1
        case measure => have := HK1.out; omega
        case rel => exact ⟨(x3_1), (wrap64 (x12_1 + 1)), vX, vX, H', ⟨by have := HK1.out; omega⟩, ⟨by (with_reducible repeat (first | apply Kd.S_alloc | apply Kd.S_drewN | apply Kd.S_drew)); exact HO_10.out⟩, ⟨bX HB.out⟩⟩
      ·rw [if_neg c9] at H
       exact absurd H (by simp)
     ·rw [if_neg c8] at H
      exact absurd H (by simp)
    ·rw [if_neg c7] at H
     have c7b0 : decide (x12_1 < (t294.length : Int)) = false := decide_eq_false c7
     clear c7
     by_cases c16 : x3_1.toList = ([] : List UInt8)
     ·rw [if_pos c16] at H
      have c16b0 : (x3_1.toList == ([] : List UInt8)) = true := beq_iff_eq.mpr c16
      have c16b1 : (x3_1.toList != ([] : List UInt8)) = false := bne_eq_false_iff_eq.mpr c16
      clear c16
      obtain rfl := Option.some.inj H
      go_wp2
      go_ret
      exact ⟨eX, bX HB.out⟩
     ·rw [if_neg c16] at H
      have c16b0 : (x3_1.toList == ([] : List UInt8)) = false := beq_eq_false_iff_ne.mpr c16
      have c16b1 : (x3_1.toList != ([] : List UInt8)) = true := bne_iff_ne.mpr c16
      obtain rfl := Option.some.inj H
      go_wp2
      go_ret
      exact ⟨eX, bX HB.out⟩
 ·replace c3 := Bool.eq_false_iff.mpr c3
  subst c3
  have H1 : (some (⟨#[]⟩ : ByteArray)) = some r := by rw [if_neg (show ¬ (false = true) by decide)] at H; exact H
  clear H
  have H := H1
  clear H1
  obtain rfl := Option.some.inj H
  go_enter Tryd.func12, Tryd.ntmps12
  go_wp2_with (first | ((with_reducible refine gate_callee (f := 26) rfl ?_); refine goesL_ (some 7) rfl rfl Tryd.func26 (by kernel_rfl) rfl #[.slice A0 l0.length c0] rfl (by (try simp only [zE,zF,zG]); first|done|rfl|(simp only [zH,zI]; rfl)) ?_; (with_reducible refine (spec_PermOk.calls _ _ l0 false _ ?side1 ?side2 A2.out).mono ?_); (case side1 => exact cX HR0.out); (case side2 => exact HC0.out); rintro e w' ⟨rfl, ⟨nd, rfl⟩⟩; refine ⟨_, rfl, ?_⟩))
  go_ret
  exact ⟨eX, bX HB.out⟩

/-! ### spec_TurnLine: function 5 -/
def spec_TurnLine.f (k : Nat) (l0_0 : List Int) (l0_1 : List Int) : Option (ByteArray) := (spec_TurnsOf.f k l0_0 l0_1).bind fun t300 => (if (t300.length : Int) = 0 then (some (⟨#[110, 111, 110, 101]⟩ : ByteArray)) else (if 0 < (t300.length : Int) then ((spec_FixedPoints.f k l0_0 l0_1 (rd_L1 t300 0)).bind fun bt304 => ((spec_FormatPerm.f k (rd_L1 t300 0)).bind fun t309 => (if t309.size + 7 ≤ 9223372036854775807 then ((spec_l17Ints.f k bt304.1 (⟨#[32]⟩ : ByteArray)).bind fun t310 => (if (t309 ++ (⟨#[32, 102, 105, 120, 101, 100, 32]⟩ : ByteArray)).size + t310.size ≤ 9223372036854775807 then (some ((t309 ++ (⟨#[32, 102, 105, 120, 101, 100, 32]⟩ : ByteArray)) ++ t310)) else (none))) else (none)))) else (none)))
def spec_TurnLine.T4 : Bool × List (List Nat × List Nat) := (true, [([], []), ([], []), ([1], [1]), ([2], [2]), ([0, 3], [0, 3]), ([4], [4]), ([5], [5]), ([5], [5]), ([6, 4, 0, 1, 2, 3, 4, 5, 6], [6]), ([7, 8, 0, 1, 2, 3, 4, 5, 6, 7, 8], [7])])
def spec_TurnLine.B4 : List Nat := [0, 0, 2, 6, 15, 31, 63, 63, 127, 511]
theorem spec_TurnLine.tab4 : rtab .any (opsOf Tryd.f5 4) = spec_TurnLine.T4 := by kernel_rfl
theorem spec_TurnLine.bits4 : waitsOk spec_TurnLine.T4.2 spec_TurnLine.B4 = true := by kernel_rfl
set_option maxHeartbeats 8000000 in
set_option maxRecDepth 100000 in
theorem spec_TurnLine.calls (k : Nat) (A0_0 : Option Addr) (c0_0 : Nat) (l0_0 : List Int) (A0_1 : Option Addr) (c0_1 : Nat) (l0_1 : List Int) (r : ByteArray) (w : World) (hr0_0 : Kd.C (Kd.int .i64) w A0_0 l0_0.length l0_0) (hc0_0 : l0_0.length ≤ c0_0) (hr0_1 : Kd.C (Kd.int .i64) w A0_1 l0_1.length l0_1) (hc0_1 : l0_1.length ≤ c0_1) (h : spec_TurnLine.f k l0_0 l0_1 = some r) :
  Calls Tryd.prog 5 #[.agg #[.slice A0_0 l0_0.length c0_0, .slice A0_1 l0_1.length c0_1]] w fun e w' => e = .returned (.string r) ∧ Below w.heap.size w w' := by
 have hu27 := Tryd.underlying27
 have HR0_0 := Aside0.mk hr0_0
 have HC0_0 := Aside0.mk hc0_0
 clear hr0_0 hc0_0
 have HR0_1 := Aside0.mk hr0_1
 have HC0_1 := Aside0.mk hc0_1
 clear hr0_1 hc0_1
 have HB := Aside0.mk (Below.refl w.heap.size w)
 have H : ((spec_TurnsOf.f k l0_0 l0_1).bind fun t300 => (if (t300.length : Int) = 0 then (some (⟨#[110, 111, 110, 101]⟩ : ByteArray)) else (if 0 < (t300.length : Int) then ((spec_FixedPoints.f k l0_0 l0_1 (rd_L1 t300 0)).bind fun bt304 => ((spec_FormatPerm.f k (rd_L1 t300 0)).bind fun t309 => (if t309.size + 7 ≤ 9223372036854775807 then ((spec_l17Ints.f k bt304.1 (⟨#[32]⟩ : ByteArray)).bind fun t310 => (if (t309 ++ (⟨#[32, 102, 105, 120, 101, 100, 32]⟩ : ByteArray)).size + t310.size ≤ 9223372036854775807 then (some ((t309 ++ (⟨#[32, 102, 105, 120, 101, 100, 32]⟩ : ByteArray)) ++ t310)) else (none))) else (none)))) else (none)))) = some r := h
 clear h
 replace H := Option.bind_eq_some_iff.mp H
 obtain ⟨t300, A20, H⟩ := H
 replace H : (if (t300.length : Int) = 0 then (some (⟨#[110, 111, 110, 101]⟩ : ByteArray)) else (if 0 < (t300.length : Int) then ((spec_FixedPoints.f k l0_0 l0_1 (rd_L1 t300 0)).bind fun bt304 => ((spec_FormatPerm.f k (rd_L1 t300 0)).bind fun t309 => (if t309.size + 7 ≤ 9223372036854775807 then ((spec_l17Ints.f k bt304.1 (⟨#[32]⟩ : ByteArray)).bind fun t310 => (if (t309 ++ (⟨#[32, 102, 105, 120, 101, 100, 32]⟩ : ByteArray)).size + t310.size ≤ 9223372036854775807 then (some ((t309 ++ (⟨#[32, 102, 105, 120, 101, 100, 32]⟩ : ByteArray)) ++ t310)) else (none))) else (none)))) else (none))) = some r := H
 have A2 := Aside0.mk A20
 clear A20
 by_cases c3 : (t300.length : Int) = 0
 ·rw [if_pos c3] at H
  have c3b0 : ((t300.length : Int) == 0) = true := beq_iff_eq.mpr c3
  have c3b1 : ((t300.length : Int) != 0) = false := bne_eq_false_iff_eq.mpr c3
  clear c3
  obtain rfl := Option.some.inj H
  go_enter Tryd.func5, Tryd.ntmps5
  go_wp2_with (first | ((with_reducible refine gate_dst (N := 1) rfl ?_); refine box_event ?hg (N := 1) ?hd (cs := #[.slice A0_0 l0_0.length c0_0, .slice A0_1 l0_1.length c0_1]) (t := 27) ?hr ?_; (case hd => rfl); (case hg => rfl); (case hr => first | (go_simp; done) | (go_simp; rfl)); intro gb299 hg w4 hbox hb; have n0_ := Aside0.mk (below_step (bX HB.out) hb); have n1_ := Aside0.mk (hbox); have n2_ := Aside0.mk ((by rw [hg]; exact (below_size (bX HB.out)) : w.heap.size ≤ gb299)); have n3_ := Aside0.mk ((by rw [hg]; exact (below_size (bX HB.out)) : w.heap.size ≤ gb299)); clear HB; have HB := n0_; have BK299 := n1_; have GW299 := n2_; have GE299 := n3_; clear n0_ n1_ n2_ n3_; clear hb hbox hg; have hcz5_0 : w4.cell? ⟨gb299, 0, none⟩ = some (.slice A0_0 l0_0.length c0_0) := (blk_cell BK299.out 0).trans rfl; have hcz5_1 : w4.cell? ⟨gb299, 1, none⟩ = some (.slice A0_1 l0_1.length c0_1) := (blk_cell BK299.out 1).trans rfl; have hfz5_0 := blk_frozen BK299.out 0; have hfz5_1 := blk_frozen BK299.out 1) | ((with_reducible refine gate_callee (f := 10) rfl ?_); refine goesL_ (some 7) rfl rfl Tryd.func10 (by kernel_rfl) rfl #[.agg #[.slice A0_0 l0_0.length c0_0, .slice A0_1 l0_1.length c0_1]] rfl (by (try simp only [zE,zF,zG]); first|done|rfl|(simp only [zH,zI]; rfl)) ?_; (with_reducible refine (spec_TurnsOf.calls k _ _ l0_0 _ _ l0_1 t300 _ ?side1 ?side2 ?side3 ?side4 A2.out).mono ?_); (case side1 => repeat (first | exact (Kd.C_below HR0_0.out HB.out) | (with_reducible refine Kd.C_alloc ?_ _) | (with_reducible refine Kd.C_drewN ?_ _) | (with_reducible refine Kd.C_drew ?_))); (case side2 => exact HC0_0.out); (case side3 => repeat (first | exact (Kd.C_below HR0_1.out HB.out) | (with_reducible refine Kd.C_alloc ?_ _) | (with_reducible refine Kd.C_drewN ?_ _) | (with_reducible refine Kd.C_drew ?_))); (case side4 => exact HC0_1.out); rintro e w6 ⟨v301, rfl, ho0, hb⟩; refine ⟨_, rfl, ?_⟩; have n0_ := Aside0.mk (Kd.S_lower ho0 (below_size (bX1 HB.out GE299.out))); have n1_ := Aside0.mk (blk_below (g := gb299) (o := .cells #[.slice A0_0 l0_0.length c0_0, .slice A0_1 l0_1.length c0_1] 27 (0, 0)) (kX BK299.out) hb); have n2_ := Aside0.mk (below_step (bX1 HB.out GE299.out) hb); clear BK299; clear HB; have HO302 := n0_; have BK299 := n1_; have HB := n2_; clear n0_ n1_ n2_; (try clear hb); (try clear hb2); (try clear hk); (try clear hi); (try clear ho0); obtain ⟨Ao7, co7, eo7⟩ := Kd.S_slice HO302.out; subst eo7))
  go_ret
  exact ⟨eX, bX1 HB.out GE299.out⟩
 ·rw [if_neg c3] at H
  have c3b0 : ((t300.length : Int) == 0) = false := beq_eq_false_iff_ne.mpr c3
  have c3b1 : ((t300.length : Int) != 0) = true := bne_iff_ne.mpr c3
  have c3b2 : ¬ (t300 = []) := fun h_ => c3 (by rw [h_]; rfl)
  by_cases c8 : 0 < (t300.length : Int)
  ·rw [if_pos c8] at H
   have c8b0 : decide (0 < (t300.length : Int)) = true := decide_eq_true c8
   have c8b1 : decide (0 < t300.length) = true := decide_eq_true (by omega)
   clear c8
   replace H := Option.bind_eq_some_iff.mp H
   obtain ⟨⟨t304, t307⟩, A90, H⟩ := H
   replace H : ((spec_FormatPerm.f k (rd_L1 t300 0)).bind fun t309 => (if t309.size + 7 ≤ 9223372036854775807 then ((spec_l17Ints.f k t304 (⟨#[32]⟩ : ByteArray)).bind fun t310 => (if (t309 ++ (⟨#[32, 102, 105, 120, 101, 100, 32]⟩ : ByteArray)).size + t310.size ≤ 9223372036854775807 then (some ((t309 ++ (⟨#[32, 102, 105, 120, 101, 100, 32]⟩ : ByteArray)) ++ t310)) else (none))) else (none))) = some r := H
   have A9 := Aside0.mk A90
   clear A90
   replace H := Option.bind_eq_some_iff.mp H
   obtain ⟨t309, A100, H⟩ := H
   replace H : (if t309.size + 7 ≤ 9223372036854775807 then ((spec_l17Ints.f k t304 (⟨#[32]⟩ : ByteArray)).bind fun t310 => (if (t309 ++ (⟨#[32, 102, 105, 120, 101, 100, 32]⟩ : ByteArray)).size + t310.size ≤ 9223372036854775807 then (some ((t309 ++ (⟨#[32, 102, 105, 120, 101, 100, 32]⟩ : ByteArray)) ++ t310)) else (none))) else (none)) = some r := H
   have A10 := Aside0.mk A100
   clear A100
   by_cases c11 : t309.size + 7 ≤ 9223372036854775807
   ·rw [if_pos c11] at H
    have c11b0 := eq_true c11
    have c11b1 : decide (t309.size + 7 ≤ 9223372036854775807) = true := decide_eq_true c11
    try have c11b2 : (9223372036854775807 < t309.size + 7) = False := eq_false (Nat.not_lt.2 c11)
    replace H := Option.bind_eq_some_iff.mp H
    obtain ⟨t310, A120, H⟩ := H
    replace H : (if (t309 ++ (⟨#[32, 102, 105, 120, 101, 100, 32]⟩ : ByteArray)).size + t310.size ≤ 9223372036854775807 then (some ((t309 ++ (⟨#[32, 102, 105, 120, 101, 100, 32]⟩ : ByteArray)) ++ t310)) else (none)) = some r := H
    have A12 := Aside0.mk A120
    clear A120
    by_cases c13 : (t309 ++ (⟨#[32, 102, 105, 120, 101, 100, 32]⟩ : ByteArray)).size + t310.size ≤ 9223372036854775807
    ·rw [if_pos c13] at H
     have c13b0 := eq_true c13
     have c13b1 : decide ((t309 ++ (⟨#[32, 102, 105, 120, 101, 100, 32]⟩ : ByteArray)).size + t310.size ≤ 9223372036854775807) = true := decide_eq_true c13
     try have c13b2 : (9223372036854775807 < (t309 ++ (⟨#[32, 102, 105, 120, 101, 100, 32]⟩ : ByteArray)).size + t310.size) = False := eq_false (Nat.not_lt.2 c13)
     try have c13b3 : (9223372036854775807 < t309.size + 7 + t310.size) = False := eq_false (Nat.not_lt.2 (by have hz_ := c13; simp only [ByteArray.size_append] at hz_; first | exact hz_ | omega))
     obtain rfl := Option.some.inj H
     go_enter Tryd.func5, Tryd.ntmps5
     try go_wp2_with (first | ((with_reducible refine gate_dst (N := 1) rfl ?_); refine box_event ?hg (N := 1) ?hd (cs := #[.slice A0_0 l0_0.length c0_0, .slice A0_1 l0_1.length c0_1]) (t := 27) ?hr ?_; (case hd => rfl); (case hg => rfl); (case hr => first | (go_simp; done) | (go_simp; rfl)); intro gb299 hg w14 hbox hb; have n0_ := Aside0.mk (below_step (bX HB.out) hb); have n1_ := Aside0.mk (hbox); have n2_ := Aside0.mk ((by rw [hg]; exact (below_size (bX HB.out)) : w.heap.size ≤ gb299)); have n3_ := Aside0.mk ((by rw [hg]; exact (below_size (bX HB.out)) : w.heap.size ≤ gb299)); clear HB; have HB := n0_; have BK299 := n1_; have GW299 := n2_; have GE299 := n3_; clear n0_ n1_ n2_ n3_; clear hb hbox hg; have hcz15_0 : w14.cell? ⟨gb299, 0, none⟩ = some (.slice A0_0 l0_0.length c0_0) := (blk_cell BK299.out 0).trans rfl; have hcz15_1 : w14.cell? ⟨gb299, 1, none⟩ = some (.slice A0_1 l0_1.length c0_1) := (blk_cell BK299.out 1).trans rfl; have hfz15_0 := blk_frozen BK299.out 0; have hfz15_1 := blk_frozen BK299.out 1) | ((with_reducible refine gate_callee (f := 10) rfl ?_); refine goesL_ (some 7) rfl rfl Tryd.func10 (by kernel_rfl) rfl #[.agg #[.slice A0_0 l0_0.length c0_0, .slice A0_1 l0_1.length c0_1]] rfl (by (try simp only [zE,zF,zG]); first|done|rfl|(simp only [zH,zI]; rfl)) ?_; (with_reducible refine (spec_TurnsOf.calls k _ _ l0_0 _ _ l0_1 t300 _ ?side1 ?side2 ?side3 ?side4 A2.out).mono ?_); (case side1 => repeat (first | exact (Kd.C_below HR0_0.out HB.out) | (with_reducible refine Kd.C_alloc ?_ _) | (with_reducible refine Kd.C_drewN ?_ _) | (with_reducible refine Kd.C_drew ?_))); (case side2 => exact HC0_0.out); (case side3 => repeat (first | exact (Kd.C_below HR0_1.out HB.out) | (with_reducible refine Kd.C_alloc ?_ _) | (with_reducible refine Kd.C_drewN ?_ _) | (with_reducible refine Kd.C_drew ?_))); (case side4 => exact HC0_1.out); rintro e w16 ⟨v301, rfl, ho0, hb⟩; refine ⟨_, rfl, ?_⟩; have n0_ := Aside0.mk (Kd.S_lower ho0 (below_size (bX1 HB.out GE299.out))); have n1_ := Aside0.mk (blk_below (g := gb299) (o := .cells #[.slice A0_0 l0_0.length c0_0, .slice A0_1 l0_1.length c0_1] 27 (0, 0)) (kX BK299.out) hb); have n2_ := Aside0.mk (below_step (bX1 HB.out GE299.out) hb); clear BK299; clear HB; have HO302 := n0_; have BK299 := n1_; have HB := n2_; clear n0_ n1_ n2_; (try clear hb); (try clear hb2); (try clear hk); (try clear hi); (try clear ho0); obtain ⟨Ao17, co17, eo17⟩ := Kd.S_slice HO302.out; subst eo17))
     have n0_ := Aside0.mk (Kd.S_drew HO302.out)
     have n1_ := Aside0.mk (blk_drew BK299.out)
     have n2_ := Aside0.mk (below_drew1 HB.out)
     clear HO302
     clear BK299
     clear HB
     have HO302 := n0_
     have BK299 := n1_
     have HB := n2_
     clear n0_ n1_ n2_
     have p303 : 0 ≤ (0 : Int) := (by omega)
     have q303 : 0 < (t300.length : Int) := dX
     obtain ⟨ad303, A303_0, c303_0, e303, hx303_0, hl303_0, hi303_0⟩ := at_L1 (Kd.S_reads' HO302.out).2.2 0 p303 q303
     cases e303
     obtain ⟨ce303, hce303, hMe303, hcc303⟩ := Kd.S_get HO302.out [] 0 p303 (by first | exact q303 | exact dX | (have e_ := (Kd.S_reads' HO302.out).1; omega))
     obtain ⟨ve303_0, rfl, ge303_0⟩ := hMe303
     have hv303_0 := hcc303 0 _ rfl
     rw [Nat.add_zero, show ((Kd.slice 3 (Kd.int .i64))).sz = 1 from rfl, Nat.mul_one] at hv303_0
     replace hv303_0 := Option.some.inj (hv303_0.symm.trans hx303_0)
     rw [hv303_0] at ge303_0
     have HL303_0 := Aside0.mk (show Kd.R (Kd.int .i64) 3 _ _ _ _ (rd_L1 t300 0) from ge303_0)
     clear hv303_0 ge303_0
     clear hcc303 hce303
     have qi303 : (0 < t300.length) = True := eq_true (by omega)
     (try rw [show ((0 : Int)).toNat = 0 from rfl] at hx303_0)
     (try rw [Addr.add_zero'] at hx303_0)
     have HR303_0 := Aside0.mk hi303_0
     have HC303_0 := Aside0.mk hl303_0
     clear hi303_0 hl303_0
     replace p303 := eq_true p303
     replace q303 := eq_true q303
     refine start_ (n := 10) (S := fun w' => w'.cell? ⟨gb299, 0, none⟩ = some (.slice A0_0 l0_0.length c0_0) ∧ w'.cell? ⟨gb299, 1, none⟩ = some (.slice A0_1 l0_1.length c0_1) ∧ w'.cell? ad303 = some (.slice A303_0 (rd_L1 t300 0).length c303_0)) (ds := []) #[ff,ff,ff,ff,ff,ff,ff,ff,ff,ff] (by kernel_rfl) rfl rfl ⟨(blk_cell BK299.out 0).trans rfl, (blk_cell BK299.out 1).trans rfl, hx303_0⟩ (fun hHeld => ?_); refine with_tabW spec_TurnLine.tab4 spec_TurnLine.bits4 (fun HT_ HW_ => ?_)
     generalize w16.drew = w18 at HO302 BK299 HB HL303_0 HR303_0 hx303_0 hHeld ⊢
     refine pX 1 13 (fl 10 2) rfl rfl HT_.out ?_
     refine pX 2 14 (fl 10 6) rfl rfl HT_.out ?_
     refine tX3 0 12 (fl 10 7) rfl rfl HT_.out HW_.out hHeld ?_
     refine tX3 3 15 (fl 10 15) rfl rfl HT_.out HW_.out hHeld ?_
     refine one_ (i := 4) (N := some 16) #[tt,tt,tt,tt,tt,ff,ff,ff,ff,ff] rfl rfl (one_of HT_.out (by kernel_rfl)) (by decide) (fun K hK => ?_)
     refine goes_ Tryd.func11 (by kernel_rfl) rfl #[.agg #[.slice A0_0 l0_0.length c0_0, .slice A0_1 l0_1.length c0_1], .slice A303_0 (rd_L1 t300 0).length c303_0] (by rfl) rfl rfl (by (try simp only [zE,zF,zG]); first|done|rfl|(simp only [zH,zI]; rfl)) ?_
     with_reducible refine (spec_FixedPoints.calls k _ _ l0_0 _ _ l0_1 _ _ (rd_L1 t300 0) t304 t307 _ ?side1 ?side2 ?side3 ?side4 ?side5 ?side6 A9.out).mono ?_
     (case side1 => repeat (first | exact (Kd.C_below HR0_0.out HB.out) | (with_reducible refine Kd.C_alloc ?_ _) | (with_reducible refine Kd.C_drewN ?_ _) | (with_reducible refine Kd.C_drew ?_)))
     (case side2 => exact HC0_0.out)
     (case side3 => repeat (first | exact (Kd.C_below HR0_1.out HB.out) | (with_reducible refine Kd.C_alloc ?_ _) | (with_reducible refine Kd.C_drewN ?_ _) | (with_reducible refine Kd.C_drew ?_)))
     (case side4 => exact HC0_1.out)
     (case side5 => repeat (first | exact (cX HR303_0.out) | (with_reducible refine Kd.C_alloc ?_ _) | (with_reducible refine Kd.C_drewN ?_ _) | (with_reducible refine Kd.C_drew ?_)))
     (case side6 => exact HC303_0.out)
     rintro e w19 ⟨v305, rfl, ho0, hb⟩
     have HS2_ := (hb.cell (World.block_lt_of_cell? _ _ (hHeld.2.2))).trans (hHeld.2.2)
     refine ⟨_, rfl, ?_⟩
     have n0_ := Aside0.mk (Kd.S_elder' (by (with_reducible repeat (first | apply Kd.S_alloc | apply Kd.S_drewN | apply Kd.S_drew)); exact HO302.out) (Kd.R_base ho0) hb)
     have n1_ := Aside0.mk (Kd.R_elder' (rX HL303_0.out) (Kd.R_base ho0) hb)
     have n2_ := Aside0.mk (Kd.R_lower (Kd.R_new' ho0 (Kd.R_lt (rX HL303_0.out))) (below_size (bX1 HB.out GE299.out)))
     have n3_ := Aside0.mk (blk_below (g := gb299) (o := .cells #[.slice A0_0 l0_0.length c0_0, .slice A0_1 l0_1.length c0_1] 27 (0, 0)) (kX BK299.out) hb)
     have n4_ := Aside0.mk (Kd.C_below (cX HR303_0.out) hb)
     have n5_ := Aside0.mk (below_step (bX1 HB.out GE299.out) hb)
     clear HO302
     clear HL303_0
     clear BK299
     clear HR303_0
     clear HB
     have HO302 := n0_
     have HL303_0 := n1_
     have HO306 := n2_
     have BK299 := n3_
     have HR303_0 := n4_
     have HB := n5_
     clear n0_ n1_ n2_ n3_ n4_ n5_
     (try clear hb)
     (try clear hb2)
     (try clear hk)
     (try clear hi)
     (try clear ho0)
     refine hK.out _ _ ⟨(blk_cell BK299.out 0).trans rfl, (blk_cell BK299.out 1).trans rfl, HS2_⟩ (fun hHeld => ?_)
     clear hK K
     refine norm_ (a' := ?_) ?_ ?_
     rotate_left
     ·show Act.put _ (some 16) _ = _
      simp only [Act.put, zA, zB, zC, i64_w, i32_w]
      rfl
     refine pX 5 11 (fl 10 63) rfl rfl HT_.out ?_
     refine pX 6 17 (fl 10 127) rfl rfl HT_.out ?_
     refine pX 7 18 (fl 10 255) rfl rfl HT_.out ?_
     refine pX 8 4 (fl 10 511) rfl rfl HT_.out ?_
     refine pX 9 5 (fl 10 1023) rfl rfl HT_.out ?_
     refine done_ (done_of HT_.out (by kernel_rfl)) ?_
     have p308 : 0 ≤ (0 : Int) := (by omega)
     have q308 : 0 < (t300.length : Int) := dX
     obtain ⟨ad308, A308_0, c308_0, e308, hx308_0, hl308_0, hi308_0⟩ := at_L1 (Kd.S_reads' HO302.out).2.2 0 p308 q308
     obtain rfl : ad303 = ad308 := (by injection e308)
     obtain ⟨ce308, hce308, hMe308, hcc308⟩ := Kd.S_get HO302.out [] 0 p308 (by first | exact q308 | exact dX | (have e_ := (Kd.S_reads' HO302.out).1; omega))
     obtain ⟨ve308_0, rfl, ge308_0⟩ := hMe308
     have hv308_0 := hcc308 0 _ rfl
     rw [Nat.add_zero, show ((Kd.slice 3 (Kd.int .i64))).sz = 1 from rfl, Nat.mul_one] at hv308_0
     replace hv308_0 := Option.some.inj (hv308_0.symm.trans hx308_0)
     rw [hv308_0] at ge308_0
     have HL308_0 := Aside0.mk (show Kd.R (Kd.int .i64) 3 _ _ _ _ (rd_L1 t300 0) from ge308_0)
     clear hv308_0 ge308_0
     clear hcc308 hce308
     have qi308 : (0 < t300.length) = True := eq_true (by omega)
     (try rw [show ((0 : Int)).toNat = 0 from rfl] at hx308_0)
     (try rw [Addr.add_zero'] at hx308_0)
     have HR308_0 := Aside0.mk hi308_0
     have HC308_0 := Aside0.mk hl308_0
     clear hi308_0 hl308_0
     replace p308 := eq_true p308
     replace q308 := eq_true q308
     try go_wp2_with (first | ((with_reducible refine gate_callee (f := 12) rfl ?_); refine goesL_ (some 22) rfl rfl Tryd.func12 (by kernel_rfl) rfl #[.slice A303_0 (rd_L1 t300 0).length c303_0] rfl (by (try simp only [zE,zF,zG]); first|done|rfl|(simp only [zH,zI]; rfl)) ?_; (with_reducible refine (spec_FormatPerm.calls k _ _ (rd_L1 t300 0) t309 _ ?side1 ?side2 A10.out).mono ?_); (case side1 => repeat (first | exact (cX HR303_0.out) | (with_reducible refine Kd.C_alloc ?_ _) | (with_reducible refine Kd.C_drewN ?_ _) | (with_reducible refine Kd.C_drew ?_))); (case side2 => exact HC303_0.out); rintro e w20 ⟨rfl, hb⟩; refine ⟨_, rfl, ?_⟩; have n0_ := Aside0.mk (Kd.S_below (by (with_reducible repeat (first | apply Kd.S_alloc | apply Kd.S_drewN | apply Kd.S_drew)); exact HO302.out) hb); have n1_ := Aside0.mk (Kd.R_below (rX HL303_0.out) hb); have n2_ := Aside0.mk (Kd.R_below (rX HO306.out) hb); have n3_ := Aside0.mk (Kd.R_below (rX HL308_0.out) hb); have n4_ := Aside0.mk (blk_below (g := gb299) (o := .cells #[.slice A0_0 l0_0.length c0_0, .slice A0_1 l0_1.length c0_1] 27 (0, 0)) (kX BK299.out) hb); have n5_ := Aside0.mk (Kd.C_below (cX HR303_0.out) hb); have n6_ := Aside0.mk (Kd.C_below (cX HR308_0.out) hb); have n7_ := Aside0.mk (below_step (bX1 HB.out GE299.out) hb); clear HO302; clear HL303_0; clear HO306; clear HL308_0; clear BK299; clear HR303_0; clear HR308_0; clear HB; have HO302 := n0_; have HL303_0 := n1_; have HO306 := n2_; have HL308_0 := n3_; have BK299 := n4_; have HR303_0 := n5_; have HR308_0 := n6_; have HB := n7_; clear n0_ n1_ n2_ n3_ n4_ n5_ n6_ n7_; (try clear hb); (try clear hb2); (try clear hk); (try clear hi); obtain ⟨Ao21, co21, eo21⟩ := Kd.R_slice HO306.out; subst eo21) | ((with_reducible refine gate_callee (f := 13) rfl ?_); refine goesL_ (some 25) rfl rfl Tryd.func13 (by kernel_rfl) rfl #[.slice Ao21 t304.length co21, .string (⟨#[32]⟩ : ByteArray)] rfl (by (try simp only [zE,zF,zG]); first|done|rfl|(simp only [zH,zI]; rfl)) ?_; (with_reducible refine (spec_l17Ints.calls k _ _ t304 (⟨#[32]⟩ : ByteArray) t310 _ ?side1 ?side2 A12.out).mono ?_); (case side1 => exact cX (Kd.R_reads' HO306.out).2.2); (case side2 => exact (Kd.R_reads' HO306.out).2.1); rintro e w22 ⟨rfl, hb⟩; refine ⟨_, rfl, ?_⟩; have n0_ := Aside0.mk (Kd.S_below (by (with_reducible repeat (first | apply Kd.S_alloc | apply Kd.S_drewN | apply Kd.S_drew)); exact HO302.out) hb); have n1_ := Aside0.mk (Kd.R_below (rX HL303_0.out) hb); have n2_ := Aside0.mk (Kd.R_below (rX HO306.out) hb); have n3_ := Aside0.mk (Kd.R_below (rX HL308_0.out) hb); have n4_ := Aside0.mk (blk_below (g := gb299) (o := .cells #[.slice A0_0 l0_0.length c0_0, .slice A0_1 l0_1.length c0_1] 27 (0, 0)) (kX BK299.out) hb); have n5_ := Aside0.mk (Kd.C_below (cX HR303_0.out) hb); have n6_ := Aside0.mk (Kd.C_below (cX HR308_0.out) hb); have n7_ := Aside0.mk (below_step (bX1 HB.out GE299.out) hb); clear HO302; clear HL303_0; clear HO306; clear HL308_0; clear BK299; clear HR303_0; clear HR308_0; clear HB; have HO302 := n0_; have HL303_0 := n1_; have HO306 := n2_; have HL308_0 := n3_; have BK299 := n4_; have HR303_0 := n5_; have HR308_0 := n6_; have HB := n7_; clear n0_ n1_ n2_ n3_ n4_ n5_ n6_ n7_; (try clear hb); (try clear hb2); (try clear hk); (try clear hi)))
     go_ret
     exact ⟨eX, bX1 HB.out GE299.out⟩
    ·rw [if_neg c13] at H
     exact absurd H (by simp)
   ·rw [if_neg c11] at H
    exact absurd H (by simp)
  ·rw [if_neg c8] at H
   exact absurd H (by simp)

/-! ### laws_toIntS: function 14 -/
def laws_toIntS.l0 : Nat → List Int → List Int → Int → Option (List Int)
 | 0, _, _, _ => none
 | k + 1, x0, x3, x4 => if x4 < (x0.length : Int) then (if 0 ≤ x4 then (if x4 < (x3.length : Int) then (laws_toIntS.l0 k x0 (x3.set (x4 : Int).toNat (rd x0 x4)) (wrap64 (x4 + 1))) else (none)) else (none)) else (some x3)
def laws_toIntS.f (k : Nat) (l0 : List Int) : Option (List Int) := if 0 ≤ (l0.length : Int) then (if ((l0.length : Int) : Int).toNat ≤ 35184372088832 then (laws_toIntS.l0 k l0 (List.replicate ((l0.length : Int) : Int).toNat 0) 0) else (none)) else (none)
set_option maxHeartbeats 8000000 in
set_option maxRecDepth 100000 in
theorem laws_toIntS.calls (k : Nat) (A0 : Option Addr) (c0 : Nat) (l0 : List Int) (r : List Int) (w : World) (hr0 : Kd.C (Kd.int .i64) w A0 l0.length l0) (hc0 : l0.length ≤ c0) (h : laws_toIntS.f k l0 = some r) :
  Calls Tryd.prog 14 #[.slice A0 l0.length c0] w fun e w' => ∃ v0_ : Value, e = .returned (v0_) ∧ Kd.R (Kd.int .i64) 3 w' w.heap.size (fun _ => True) v0_ r ∧ Below w.heap.size w w' := by
 have HR0 := Aside0.mk hr0
 have HC0 := Aside0.mk hc0
 clear hr0 hc0
 have HB := Aside0.mk (Below.refl w.heap.size w)
 have H : (if 0 ≤ (l0.length : Int) then (if ((l0.length : Int) : Int).toNat ≤ 35184372088832 then (laws_toIntS.l0 k l0 (List.replicate ((l0.length : Int) : Int).toNat 0) 0) else (none)) else (none)) = some r := h
 clear h
 by_cases c2 : 0 ≤ (l0.length : Int)
 ·rw [if_pos c2] at H
  have c2b0 := eq_true c2
  have c2b1 : decide (0 ≤ (l0.length : Int)) = true := decide_eq_true c2
  clear c2
  by_cases c3 : ((l0.length : Int) : Int).toNat ≤ 35184372088832
  ·rw [if_pos c3] at H
   have c3b0 := eq_true c3
   have c3b1 : decide (((l0.length : Int) : Int).toNat ≤ 35184372088832) = true := decide_eq_true c3
   clear c3
   obtain ⟨y311, hy311⟩ : ∃ y_ : List Int, y_ = (List.replicate ((l0.length : Int) : Int).toNat 0) := ⟨_, rfl⟩
   replace H : (laws_toIntS.l0 k l0 y311 0) = some r := by first | (rw [hy311]; with_reducible exact H) | (have H2_ := (Option.bind_some _ _).symm.trans H; rw [hy311]; with_reducible exact H2_) | (have H2_ := (Option.bind_some _ _).symm.trans H; with_reducible exact H2_) | with_reducible exact H | (rw [hy311]; exact H) | exact H
   have Ny311 := Aside0.mk hy311
   clear hy311
   have H' := Aside0.mk H
   clear H
   go_enter Tryd.func14, Tryd.ntmps14
   go_wp2_with (first | ((with_reducible refine gate_dst (N := 7) rfl ?_); refine Kd.R_make (Kd.int .i64) _ 3 rfl (N := 7) rfl 22 _ _ rfl (l0.length : Int) rfl rfl Tryd.underlying22 (.int .i64 0) 8 info3 rfl (by decide) (by omega) 0 (ok := fun _ => True) (okp := fun _ => True) rfl (fun _ hk => hk) trivial (dX) (Nat.le_trans (Nat.mul_le_mul_right _ (dX : (l0.length : Int).toNat ≤ 35184372088832)) (by omega)) (Below.refl _ _) (Nat.le_refl _) ?_; intro v312 w4 ho5 hb hg_ hnew_; clear hg_ hnew_; (first | rw [← Ny311.out] at ho5 | (simp only [Int.reduceToNat] at ho5; rw [← Ny311.out] at ho5)); have n0_ := Aside0.mk (Kd.R_lower ho5 (below_size (bX HB.out))); have n1_ := Aside0.mk (below_step (bX HB.out) hb); clear HB; have HO313 := n0_; have HB := n1_; clear n0_ n1_; clear hb ho5))
   go_loopg [4] k (fun kq v4 w' => ∃ (x3_1 : List Int) (x4_1 : Int), v4 = .int .i64 x4_1 ∧ Aside0 (laws_toIntS.l0 kq l0 x3_1 x4_1 = some r) ∧ Aside0 (kq ≤ k) ∧ Aside0 (Kd.R (Kd.int .i64) 3 w' w.heap.size (fun _ => True) v312 x3_1) ∧ Aside0 (Below w.heap.size w w'))
   case atStart => exact ⟨(y311), (0), vX, H', ⟨Nat.le_refl _⟩, ⟨rX HO313.out⟩, ⟨bX HB.out⟩⟩
   case round =>
    clear H'
    try clear c1
    try clear c2
    try clear c2b0
    try clear c2b1
    try clear p2
    try clear c3
    try clear c3b0
    try clear c3b1
    obtain ⟨x3_1, x4_1, rfl, HA, HK1, HO_3, HB⟩ := hrel
    cases gk with
    | zero => exact absurd HA.out (by simp [laws_toIntS.l0])
    | succ k1 =>
     have H := HA.out
     clear HA
     simp only [laws_toIntS.l0] at H
     by_cases c6 : x4_1 < (l0.length : Int)
     ·rw [if_pos c6] at H
      have c6b0 : decide (x4_1 < (l0.length : Int)) = true := decide_eq_true c6
      clear c6
      by_cases c7 : 0 ≤ x4_1
      ·rw [if_pos c7] at H
       have c7b0 : decide (0 ≤ x4_1) = true := decide_eq_true c7
       clear c7
       by_cases c8 : x4_1 < (x3_1.length : Int)
       ·rw [if_pos c8] at H
        have c8b0 : decide (x4_1 < (x3_1.length : Int)) = true := decide_eq_true c8
        clear c8
        obtain ⟨y315, hy315⟩ : ∃ y_ : List Int, y_ = (x3_1.set (x4_1 : Int).toNat (rd l0 x4_1)) := ⟨_, rfl⟩
        replace H : (laws_toIntS.l0 k1 l0 y315 (wrap64 (x4_1 + 1))) = some r := by first | (rw [hy315]; with_reducible exact H) | (have H2_ := (Option.bind_some _ _).symm.trans H; rw [hy315]; with_reducible exact H2_) | (have H2_ := (Option.bind_some _ _).symm.trans H; with_reducible exact H2_) | with_reducible exact H | (rw [hy315]; exact H) | exact H
        have Ny315 := Aside0.mk hy315
        clear hy315
        have H' := Aside0.mk H
        clear H
        have p314 : 0 ≤ (x4_1 : Int) := dX
        have q314 : x4_1 < (l0.length : Int) := dX
        obtain ⟨ad314, e314, hx314_0⟩ := Kd.at_int HR0.out x4_1 p314 q314
        cases e314
        replace hx314_0 := (HB.out.cell (World.block_lt_of_cell? w _ hx314_0)).trans hx314_0
        replace p314 := eq_true p314
        replace q314 := eq_true q314
        have p9 : 0 ≤ (x4_1 : Int) := dX
        have q9 : (x4_1 : Int) < ((x3_1.length : Int) : Int) := dX
        obtain ⟨go9, co9, eo9, gb9, gl9, cl9, HG9⟩ := Kd.R_form HO_3.out (by omega)
        (first | cases eo9 | (injection eo9 with ea_ en_ ec_; (first | subst ea_ | (injection ea_ with ea_; subst ea_)); subst ec_; clear en_))
        have GB9 := Aside0.mk gb9
        have GG9 := Aside0.mk HG9
        clear gb9 gl9 HG9
        obtain ⟨hx9_0, hf9_0⟩ := Kd.R_celln 0 HO_3.out (x4_1 : Int) p9 q9
        replace p9 := eq_true p9
        replace q9 := eq_true q9
        have HP10 := Kd.R_putg HO_3.out (x4_1 : Int) (rd l0 x4_1)
        go_wp2_with (first | ((with_reducible refine gate_store (t := 3) (p := 20) rfl ?_); refine store_event (t := 3) (p := 20) (v := ?vo_w11) (w1 := (wr.setCell ⟨go9, (x4_1 : Int).toNat, none⟩ (.int .i64 (rd l0 x4_1)))) ?hg ?ho ?hn ?hr ?_; (case ho => rfl); (case hg => rfl); (case hn => rfl); (case hr => first | (go_simp; done) | (go_simp; rfl)); intro w11 hw; have hg : wr.grownBy w11 (some go9) := (by rw [hw]; exact HP10.2); have hp_ : Kd.R (Kd.int .i64) 3 w11 w.heap.size (fun _ => True) (.slice (some ⟨go9, 0, none⟩) x3_1.length co9) y315 := (by rw [hw, Ny315.out]; exact HP10.1); clear HP10; have n0_ := Aside0.mk (hp_); have n1_ := Aside0.mk ((by rw [hw]; exact below_set (HB.out) GB9.out : Below w.heap.size w w11)); clear HO_3; clear HB; have HO_3 := n0_; have HB := n1_; clear n0_ n1_; clear hg hw hp_))
        go_roundg k1
        case measure => have := HK1.out; omega
        case rel => exact ⟨(y315), (wrap64 (x4_1 + 1)), vX, H', ⟨by have := HK1.out; omega⟩, ⟨rX HO_3.out⟩, ⟨bX HB.out⟩⟩
       ·rw [if_neg c8] at H
        exact absurd H (by simp)
      ·rw [if_neg c7] at H
       exact absurd H (by simp)
     ·rw [if_neg c6] at H
      have c6b0 : decide (x4_1 < (l0.length : Int)) = false := decide_eq_false c6
      clear c6
      obtain rfl := Option.some.inj H
      go_wp2
      go_ret
      exact ⟨_, eX, by (with_reducible repeat (first|apply rA|apply rN|apply rD)); exact HO_3.out, bX HB.out⟩
  ·rw [if_neg c3] at H
   exact absurd H (by simp)
 ·rw [if_neg c2] at H
  exact absurd H (by simp)

end Go.Proofs.YtfomhkfgdggngaaDoor.S
