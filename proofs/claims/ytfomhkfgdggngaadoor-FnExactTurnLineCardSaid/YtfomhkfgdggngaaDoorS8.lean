-- PRINTED by print.py (a twelfth state) out of the translation. Not trusted: Lean checks it.
import Derived.Test.YtfomhkfgdggngaaDoorS0
import Derived.Test.YtfomhkfgdggngaaDoorS1
import Derived.Test.YtfomhkfgdggngaaDoorS3
import Derived.Test.YtfomhkfgdggngaaDoorS4
import Derived.Test.YtfomhkfgdggngaaDoorS5
import Derived.Test.YtfomhkfgdggngaaDoorS7
namespace Go.Proofs.YtfomhkfgdggngaaDoor.S
open Go.RowKit Go.Proofs.YtfomhkfgdggngaaDoorW.PrintWords Go.Proofs.YtfomhkfgdggngaaDoorW.PrintLast Go.Proofs.YtfomhkfgdggngaaDoorW.PrintMore
attribute [local go_sem] max2_int min2_int max_two min_two max_three min_three max_four min_four   -- for this text's walks alone
set_option linter.unusedVariables false
set_option linter.unusedSimpArgs false

/-! ### impl_TurnLine: function 7 -/
def impl_TurnLine.f (k : Nat) (l0_0 : List Int) (l0_1 : List Int) : Option (ByteArray) := (impl_TurnsOf.f k l0_0 l0_1).bind fun t527 => (if (t527.length : Int) = 0 then (some (⟨#[110, 111, 110, 101]⟩ : ByteArray)) else (if 0 < (t527.length : Int) then ((impl_FixedPoints.f k l0_0 l0_1 (rd_L1 t527 0)).bind fun bt531 => ((impl_FormatPerm.f k (rd_L1 t527 0)).bind fun t536 => (if t536.size + 7 ≤ 9223372036854775807 then ((impl_joinInts.f k bt531.1 (⟨#[32]⟩ : ByteArray)).bind fun t537 => (if (t536 ++ (⟨#[32, 102, 105, 120, 101, 100, 32]⟩ : ByteArray)).size + t537.size ≤ 9223372036854775807 then (some ((t536 ++ (⟨#[32, 102, 105, 120, 101, 100, 32]⟩ : ByteArray)) ++ t537)) else (none))) else (none)))) else (none)))
def impl_TurnLine.T4 : Bool × List (List Nat × List Nat) := (true, [([], []), ([], []), ([1], [1]), ([2], [2]), ([0, 3], [0, 3]), ([4], [4]), ([5], [5]), ([5], [5]), ([6, 4, 0, 1, 2, 3, 4, 5, 6], [6]), ([7, 8, 0, 1, 2, 3, 4, 5, 6, 7, 8], [7])])
def impl_TurnLine.B4 : List Nat := [0, 0, 2, 6, 15, 31, 63, 63, 127, 511]
theorem impl_TurnLine.tab4 : rtab .any (opsOf Tryd.f7 4) = impl_TurnLine.T4 := by kernel_rfl
theorem impl_TurnLine.bits4 : waitsOk impl_TurnLine.T4.2 impl_TurnLine.B4 = true := by kernel_rfl
set_option maxHeartbeats 8000000 in
set_option maxRecDepth 100000 in
theorem impl_TurnLine.calls (k : Nat) (A0_0 : Option Addr) (c0_0 : Nat) (l0_0 : List Int) (A0_1 : Option Addr) (c0_1 : Nat) (l0_1 : List Int) (r : ByteArray) (w : World) (hr0_0 : Kd.C (Kd.int .i64) w A0_0 l0_0.length l0_0) (hc0_0 : l0_0.length ≤ c0_0) (hr0_1 : Kd.C (Kd.int .i64) w A0_1 l0_1.length l0_1) (hc0_1 : l0_1.length ≤ c0_1) (htab_ : PowTab w) (h : impl_TurnLine.f k l0_0 l0_1 = some r) :
  Calls Tryd.prog 7 #[.agg #[.slice A0_0 l0_0.length c0_0, .slice A0_1 l0_1.length c0_1]] w fun e w' => e = .returned (.string r) ∧ Below w.heap.size w w' := by
 have hu27 := Tryd.underlying27
 have HR0_0 := Aside0.mk hr0_0
 have HC0_0 := Aside0.mk hc0_0
 clear hr0_0 hc0_0
 have HR0_1 := Aside0.mk hr0_1
 have HC0_1 := Aside0.mk hc0_1
 clear hr0_1 hc0_1
 have HB := Aside0.mk (Below.refl w.heap.size w)
 have H : ((impl_TurnsOf.f k l0_0 l0_1).bind fun t527 => (if (t527.length : Int) = 0 then (some (⟨#[110, 111, 110, 101]⟩ : ByteArray)) else (if 0 < (t527.length : Int) then ((impl_FixedPoints.f k l0_0 l0_1 (rd_L1 t527 0)).bind fun bt531 => ((impl_FormatPerm.f k (rd_L1 t527 0)).bind fun t536 => (if t536.size + 7 ≤ 9223372036854775807 then ((impl_joinInts.f k bt531.1 (⟨#[32]⟩ : ByteArray)).bind fun t537 => (if (t536 ++ (⟨#[32, 102, 105, 120, 101, 100, 32]⟩ : ByteArray)).size + t537.size ≤ 9223372036854775807 then (some ((t536 ++ (⟨#[32, 102, 105, 120, 101, 100, 32]⟩ : ByteArray)) ++ t537)) else (none))) else (none)))) else (none)))) = some r := h
 clear h
 have HTAB := Aside0.mk htab_
 clear htab_
 replace H := Option.bind_eq_some_iff.mp H
 obtain ⟨t527, A20, H⟩ := H
 replace H : (if (t527.length : Int) = 0 then (some (⟨#[110, 111, 110, 101]⟩ : ByteArray)) else (if 0 < (t527.length : Int) then ((impl_FixedPoints.f k l0_0 l0_1 (rd_L1 t527 0)).bind fun bt531 => ((impl_FormatPerm.f k (rd_L1 t527 0)).bind fun t536 => (if t536.size + 7 ≤ 9223372036854775807 then ((impl_joinInts.f k bt531.1 (⟨#[32]⟩ : ByteArray)).bind fun t537 => (if (t536 ++ (⟨#[32, 102, 105, 120, 101, 100, 32]⟩ : ByteArray)).size + t537.size ≤ 9223372036854775807 then (some ((t536 ++ (⟨#[32, 102, 105, 120, 101, 100, 32]⟩ : ByteArray)) ++ t537)) else (none))) else (none)))) else (none))) = some r := H
 have A2 := Aside0.mk A20
 clear A20
 by_cases c3 : (t527.length : Int) = 0
 ·rw [if_pos c3] at H
  have c3b0 : ((t527.length : Int) == 0) = true := beq_iff_eq.mpr c3
  have c3b1 : ((t527.length : Int) != 0) = false := bne_eq_false_iff_eq.mpr c3
  clear c3
  obtain rfl := Option.some.inj H
  go_enter Tryd.func7, Tryd.ntmps7
  go_wp2_with (first | ((with_reducible refine gate_dst (N := 1) rfl ?_); refine box_event ?hg (N := 1) ?hd (cs := #[.slice A0_0 l0_0.length c0_0, .slice A0_1 l0_1.length c0_1]) (t := 27) ?hr ?_; (case hd => rfl); (case hg => rfl); (case hr => first | (go_simp; done) | (go_simp; rfl)); intro gb526 hg w4 hbox hb; have n0_ := Aside0.mk (below_step (bX HB.out) hb); have n1_ := Aside0.mk (hbox); have n2_ := Aside0.mk ((by rw [hg]; exact (below_size (bX HB.out)) : w.heap.size ≤ gb526)); have n3_ := Aside0.mk ((by rw [hg]; exact (below_size (bX HB.out)) : w.heap.size ≤ gb526)); clear HB; have HB := n0_; have BK526 := n1_; have GW526 := n2_; have GE526 := n3_; clear n0_ n1_ n2_ n3_; clear hb hbox hg; have hcz5_0 : w4.cell? ⟨gb526, 0, none⟩ = some (.slice A0_0 l0_0.length c0_0) := (blk_cell BK526.out 0).trans rfl; have hcz5_1 : w4.cell? ⟨gb526, 1, none⟩ = some (.slice A0_1 l0_1.length c0_1) := (blk_cell BK526.out 1).trans rfl; have hfz5_0 := blk_frozen BK526.out 0; have hfz5_1 := blk_frozen BK526.out 1) | ((with_reducible refine gate_callee (f := 15) rfl ?_); refine goesL_ (some 7) rfl rfl Tryd.func15 (by kernel_rfl) rfl #[.agg #[.slice A0_0 l0_0.length c0_0, .slice A0_1 l0_1.length c0_1]] rfl (by (try simp only [zE,zF,zG]); first|done|rfl|(simp only [zH,zI]; rfl)) ?_; (with_reducible refine (impl_TurnsOf.calls k _ _ l0_0 _ _ l0_1 t527 _ ?side1 ?side2 ?side3 ?side4 A2.out).mono ?_); (case side1 => repeat (first | exact (Kd.C_below HR0_0.out HB.out) | (with_reducible refine Kd.C_alloc ?_ _) | (with_reducible refine Kd.C_drewN ?_ _) | (with_reducible refine Kd.C_drew ?_))); (case side2 => exact HC0_0.out); (case side3 => repeat (first | exact (Kd.C_below HR0_1.out HB.out) | (with_reducible refine Kd.C_alloc ?_ _) | (with_reducible refine Kd.C_drewN ?_ _) | (with_reducible refine Kd.C_drew ?_))); (case side4 => exact HC0_1.out); rintro e w6 ⟨v528, rfl, ho0, hb⟩; refine ⟨_, rfl, ?_⟩; have n0_ := Aside0.mk (Kd.S_lower ho0 (below_size (bX1 HB.out GE526.out))); have n1_ := Aside0.mk (blk_below (g := gb526) (o := .cells #[.slice A0_0 l0_0.length c0_0, .slice A0_1 l0_1.length c0_1] 27 (0, 0)) (kX BK526.out) hb); have n2_ := Aside0.mk (below_step (bX1 HB.out GE526.out) hb); clear BK526; clear HB; have HO529 := n0_; have BK526 := n1_; have HB := n2_; clear n0_ n1_ n2_; (try clear hb); (try clear hb2); (try clear hk); (try clear hi); (try clear ho0); obtain ⟨Ao7, co7, eo7⟩ := Kd.S_slice HO529.out; subst eo7))
  go_ret
  exact ⟨eX, bX1 HB.out GE526.out⟩
 ·rw [if_neg c3] at H
  have c3b0 : ((t527.length : Int) == 0) = false := beq_eq_false_iff_ne.mpr c3
  have c3b1 : ((t527.length : Int) != 0) = true := bne_iff_ne.mpr c3
  have c3b2 : ¬ (t527 = []) := fun h_ => c3 (by rw [h_]; rfl)
  by_cases c8 : 0 < (t527.length : Int)
  ·rw [if_pos c8] at H
   have c8b0 : decide (0 < (t527.length : Int)) = true := decide_eq_true c8
   have c8b1 : decide (0 < t527.length) = true := decide_eq_true (by omega)
   clear c8
   replace H := Option.bind_eq_some_iff.mp H
   obtain ⟨⟨t531, t534⟩, A90, H⟩ := H
   replace H : ((impl_FormatPerm.f k (rd_L1 t527 0)).bind fun t536 => (if t536.size + 7 ≤ 9223372036854775807 then ((impl_joinInts.f k t531 (⟨#[32]⟩ : ByteArray)).bind fun t537 => (if (t536 ++ (⟨#[32, 102, 105, 120, 101, 100, 32]⟩ : ByteArray)).size + t537.size ≤ 9223372036854775807 then (some ((t536 ++ (⟨#[32, 102, 105, 120, 101, 100, 32]⟩ : ByteArray)) ++ t537)) else (none))) else (none))) = some r := H
   have A9 := Aside0.mk A90
   clear A90
   replace H := Option.bind_eq_some_iff.mp H
   obtain ⟨t536, A100, H⟩ := H
   replace H : (if t536.size + 7 ≤ 9223372036854775807 then ((impl_joinInts.f k t531 (⟨#[32]⟩ : ByteArray)).bind fun t537 => (if (t536 ++ (⟨#[32, 102, 105, 120, 101, 100, 32]⟩ : ByteArray)).size + t537.size ≤ 9223372036854775807 then (some ((t536 ++ (⟨#[32, 102, 105, 120, 101, 100, 32]⟩ : ByteArray)) ++ t537)) else (none))) else (none)) = some r := H
   have A10 := Aside0.mk A100
   clear A100
   by_cases c11 : t536.size + 7 ≤ 9223372036854775807
   ·rw [if_pos c11] at H
    have c11b0 := eq_true c11
    have c11b1 : decide (t536.size + 7 ≤ 9223372036854775807) = true := decide_eq_true c11
    try have c11b2 : (9223372036854775807 < t536.size + 7) = False := eq_false (Nat.not_lt.2 c11)
    replace H := Option.bind_eq_some_iff.mp H
    obtain ⟨t537, A120, H⟩ := H
    replace H : (if (t536 ++ (⟨#[32, 102, 105, 120, 101, 100, 32]⟩ : ByteArray)).size + t537.size ≤ 9223372036854775807 then (some ((t536 ++ (⟨#[32, 102, 105, 120, 101, 100, 32]⟩ : ByteArray)) ++ t537)) else (none)) = some r := H
    have A12 := Aside0.mk A120
    clear A120
    by_cases c13 : (t536 ++ (⟨#[32, 102, 105, 120, 101, 100, 32]⟩ : ByteArray)).size + t537.size ≤ 9223372036854775807
    ·rw [if_pos c13] at H
     have c13b0 := eq_true c13
     have c13b1 : decide ((t536 ++ (⟨#[32, 102, 105, 120, 101, 100, 32]⟩ : ByteArray)).size + t537.size ≤ 9223372036854775807) = true := decide_eq_true c13
     try have c13b2 : (9223372036854775807 < (t536 ++ (⟨#[32, 102, 105, 120, 101, 100, 32]⟩ : ByteArray)).size + t537.size) = False := eq_false (Nat.not_lt.2 c13)
     try have c13b3 : (9223372036854775807 < t536.size + 7 + t537.size) = False := eq_false (Nat.not_lt.2 (by have hz_ := c13; simp only [ByteArray.size_append] at hz_; first | exact hz_ | omega))
     obtain rfl := Option.some.inj H
     go_enter Tryd.func7, Tryd.ntmps7
     try go_wp2_with (first | ((with_reducible refine gate_dst (N := 1) rfl ?_); refine box_event ?hg (N := 1) ?hd (cs := #[.slice A0_0 l0_0.length c0_0, .slice A0_1 l0_1.length c0_1]) (t := 27) ?hr ?_; (case hd => rfl); (case hg => rfl); (case hr => first | (go_simp; done) | (go_simp; rfl)); intro gb526 hg w14 hbox hb; have n0_ := Aside0.mk (below_step (bX HB.out) hb); have n1_ := Aside0.mk (hbox); have n2_ := Aside0.mk ((by rw [hg]; exact (below_size (bX HB.out)) : w.heap.size ≤ gb526)); have n3_ := Aside0.mk ((by rw [hg]; exact (below_size (bX HB.out)) : w.heap.size ≤ gb526)); clear HB; have HB := n0_; have BK526 := n1_; have GW526 := n2_; have GE526 := n3_; clear n0_ n1_ n2_ n3_; clear hb hbox hg; have hcz15_0 : w14.cell? ⟨gb526, 0, none⟩ = some (.slice A0_0 l0_0.length c0_0) := (blk_cell BK526.out 0).trans rfl; have hcz15_1 : w14.cell? ⟨gb526, 1, none⟩ = some (.slice A0_1 l0_1.length c0_1) := (blk_cell BK526.out 1).trans rfl; have hfz15_0 := blk_frozen BK526.out 0; have hfz15_1 := blk_frozen BK526.out 1) | ((with_reducible refine gate_callee (f := 15) rfl ?_); refine goesL_ (some 7) rfl rfl Tryd.func15 (by kernel_rfl) rfl #[.agg #[.slice A0_0 l0_0.length c0_0, .slice A0_1 l0_1.length c0_1]] rfl (by (try simp only [zE,zF,zG]); first|done|rfl|(simp only [zH,zI]; rfl)) ?_; (with_reducible refine (impl_TurnsOf.calls k _ _ l0_0 _ _ l0_1 t527 _ ?side1 ?side2 ?side3 ?side4 A2.out).mono ?_); (case side1 => repeat (first | exact (Kd.C_below HR0_0.out HB.out) | (with_reducible refine Kd.C_alloc ?_ _) | (with_reducible refine Kd.C_drewN ?_ _) | (with_reducible refine Kd.C_drew ?_))); (case side2 => exact HC0_0.out); (case side3 => repeat (first | exact (Kd.C_below HR0_1.out HB.out) | (with_reducible refine Kd.C_alloc ?_ _) | (with_reducible refine Kd.C_drewN ?_ _) | (with_reducible refine Kd.C_drew ?_))); (case side4 => exact HC0_1.out); rintro e w16 ⟨v528, rfl, ho0, hb⟩; refine ⟨_, rfl, ?_⟩; have n0_ := Aside0.mk (Kd.S_lower ho0 (below_size (bX1 HB.out GE526.out))); have n1_ := Aside0.mk (blk_below (g := gb526) (o := .cells #[.slice A0_0 l0_0.length c0_0, .slice A0_1 l0_1.length c0_1] 27 (0, 0)) (kX BK526.out) hb); have n2_ := Aside0.mk (below_step (bX1 HB.out GE526.out) hb); clear BK526; clear HB; have HO529 := n0_; have BK526 := n1_; have HB := n2_; clear n0_ n1_ n2_; (try clear hb); (try clear hb2); (try clear hk); (try clear hi); (try clear ho0); obtain ⟨Ao17, co17, eo17⟩ := Kd.S_slice HO529.out; subst eo17))
     have n0_ := Aside0.mk (Kd.S_drew HO529.out)
     have n1_ := Aside0.mk (blk_drew BK526.out)
     have n2_ := Aside0.mk (below_drew1 HB.out)
     clear HO529
     clear BK526
     clear HB
     have HO529 := n0_
     have BK526 := n1_
     have HB := n2_
     clear n0_ n1_ n2_
     have p530 : 0 ≤ (0 : Int) := (by omega)
     have q530 : 0 < (t527.length : Int) := dX
     obtain ⟨ad530, A530_0, c530_0, e530, hx530_0, hl530_0, hi530_0⟩ := at_L1 (Kd.S_reads' HO529.out).2.2 0 p530 q530
     cases e530
     obtain ⟨ce530, hce530, hMe530, hcc530⟩ := Kd.S_get HO529.out [] 0 p530 (by first | exact q530 | exact dX | (have e_ := (Kd.S_reads' HO529.out).1; omega))
     obtain ⟨ve530_0, rfl, ge530_0⟩ := hMe530
     have hv530_0 := hcc530 0 _ rfl
     rw [Nat.add_zero, show ((Kd.slice 3 (Kd.int .i64))).sz = 1 from rfl, Nat.mul_one] at hv530_0
     replace hv530_0 := Option.some.inj (hv530_0.symm.trans hx530_0)
     rw [hv530_0] at ge530_0
     have HL530_0 := Aside0.mk (show Kd.R (Kd.int .i64) 3 _ _ _ _ (rd_L1 t527 0) from ge530_0)
     clear hv530_0 ge530_0
     clear hcc530 hce530
     have qi530 : (0 < t527.length) = True := eq_true (by omega)
     (try rw [show ((0 : Int)).toNat = 0 from rfl] at hx530_0)
     (try rw [Addr.add_zero'] at hx530_0)
     have HR530_0 := Aside0.mk hi530_0
     have HC530_0 := Aside0.mk hl530_0
     clear hi530_0 hl530_0
     replace p530 := eq_true p530
     replace q530 := eq_true q530
     refine start_ (n := 10) (S := fun w' => w'.cell? ⟨gb526, 0, none⟩ = some (.slice A0_0 l0_0.length c0_0) ∧ w'.cell? ⟨gb526, 1, none⟩ = some (.slice A0_1 l0_1.length c0_1) ∧ w'.cell? ad530 = some (.slice A530_0 (rd_L1 t527 0).length c530_0)) (ds := []) #[ff,ff,ff,ff,ff,ff,ff,ff,ff,ff] (by kernel_rfl) rfl rfl ⟨(blk_cell BK526.out 0).trans rfl, (blk_cell BK526.out 1).trans rfl, hx530_0⟩ (fun hHeld => ?_); refine with_tabW impl_TurnLine.tab4 impl_TurnLine.bits4 (fun HT_ HW_ => ?_)
     generalize w16.drew = w18 at HO529 BK526 HB HL530_0 HR530_0 hx530_0 hHeld ⊢
     refine pX 1 13 (fl 10 2) rfl rfl HT_.out ?_
     refine pX 2 14 (fl 10 6) rfl rfl HT_.out ?_
     refine tX3 0 12 (fl 10 7) rfl rfl HT_.out HW_.out hHeld ?_
     refine tX3 3 15 (fl 10 15) rfl rfl HT_.out HW_.out hHeld ?_
     refine one_ (i := 4) (N := some 16) #[tt,tt,tt,tt,tt,ff,ff,ff,ff,ff] rfl rfl (one_of HT_.out (by kernel_rfl)) (by decide) (fun K hK => ?_)
     refine goes_ Tryd.func16 (by kernel_rfl) rfl #[.agg #[.slice A0_0 l0_0.length c0_0, .slice A0_1 l0_1.length c0_1], .slice A530_0 (rd_L1 t527 0).length c530_0] (by rfl) rfl rfl (by (try simp only [zE,zF,zG]); first|done|rfl|(simp only [zH,zI]; rfl)) ?_
     with_reducible refine (impl_FixedPoints.calls k _ _ l0_0 _ _ l0_1 _ _ (rd_L1 t527 0) t531 t534 _ ?side1 ?side2 ?side3 ?side4 ?side5 ?side6 A9.out).mono ?_
     (case side1 => repeat (first | exact (Kd.C_below HR0_0.out HB.out) | (with_reducible refine Kd.C_alloc ?_ _) | (with_reducible refine Kd.C_drewN ?_ _) | (with_reducible refine Kd.C_drew ?_)))
     (case side2 => exact HC0_0.out)
     (case side3 => repeat (first | exact (Kd.C_below HR0_1.out HB.out) | (with_reducible refine Kd.C_alloc ?_ _) | (with_reducible refine Kd.C_drewN ?_ _) | (with_reducible refine Kd.C_drew ?_)))
     (case side4 => exact HC0_1.out)
     (case side5 => repeat (first | exact (cX HR530_0.out) | (with_reducible refine Kd.C_alloc ?_ _) | (with_reducible refine Kd.C_drewN ?_ _) | (with_reducible refine Kd.C_drew ?_)))
     (case side6 => exact HC530_0.out)
     rintro e w19 ⟨v532, rfl, ho0, hb⟩
     have HS2_ := (hb.cell (World.block_lt_of_cell? _ _ (hHeld.2.2))).trans (hHeld.2.2)
     refine ⟨_, rfl, ?_⟩
     have n0_ := Aside0.mk (Kd.S_elder' (by (with_reducible repeat (first | apply Kd.S_alloc | apply Kd.S_drewN | apply Kd.S_drew)); exact HO529.out) (Kd.R_base ho0) hb)
     have n1_ := Aside0.mk (Kd.R_elder' (rX HL530_0.out) (Kd.R_base ho0) hb)
     have n2_ := Aside0.mk (Kd.R_lower (Kd.R_new' ho0 (Kd.R_lt (rX HL530_0.out))) (below_size (bX1 HB.out GE526.out)))
     have n3_ := Aside0.mk (blk_below (g := gb526) (o := .cells #[.slice A0_0 l0_0.length c0_0, .slice A0_1 l0_1.length c0_1] 27 (0, 0)) (kX BK526.out) hb)
     have n4_ := Aside0.mk (Kd.C_below (cX HR530_0.out) hb)
     have n5_ := Aside0.mk (below_step (bX1 HB.out GE526.out) hb)
     clear HO529
     clear HL530_0
     clear BK526
     clear HR530_0
     clear HB
     have HO529 := n0_
     have HL530_0 := n1_
     have HO533 := n2_
     have BK526 := n3_
     have HR530_0 := n4_
     have HB := n5_
     clear n0_ n1_ n2_ n3_ n4_ n5_
     (try clear hb)
     (try clear hb2)
     (try clear hk)
     (try clear hi)
     (try clear ho0)
     refine hK.out _ _ ⟨(blk_cell BK526.out 0).trans rfl, (blk_cell BK526.out 1).trans rfl, HS2_⟩ (fun hHeld => ?_)
     clear hK K
     refine norm_ (a' := ?_) ?_ ?_
     rotate_left
     ·show Act.put _ (some 16) _ = _
      simp only [Act.put, zA, zB, zC, i64_w, i32_w]
      rfl
     refine pX 5 11 (fl 10 63) rfl rfl HT_.out ?_
     refine pX 6 17 (fl 10 127) rfl rfl HT_.out ?_
     refine pX 7 18 (fl 10 255) rfl rfl HT_.out ?_
     refine pX 8 4 (fl 10 511) rfl rfl HT_.out ?_
     refine pX 9 5 (fl 10 1023) rfl rfl HT_.out ?_
     refine done_ (done_of HT_.out (by kernel_rfl)) ?_
     have p535 : 0 ≤ (0 : Int) := (by omega)
     have q535 : 0 < (t527.length : Int) := dX
     obtain ⟨ad535, A535_0, c535_0, e535, hx535_0, hl535_0, hi535_0⟩ := at_L1 (Kd.S_reads' HO529.out).2.2 0 p535 q535
     obtain rfl : ad530 = ad535 := (by injection e535)
     obtain ⟨ce535, hce535, hMe535, hcc535⟩ := Kd.S_get HO529.out [] 0 p535 (by first | exact q535 | exact dX | (have e_ := (Kd.S_reads' HO529.out).1; omega))
     obtain ⟨ve535_0, rfl, ge535_0⟩ := hMe535
     have hv535_0 := hcc535 0 _ rfl
     rw [Nat.add_zero, show ((Kd.slice 3 (Kd.int .i64))).sz = 1 from rfl, Nat.mul_one] at hv535_0
     replace hv535_0 := Option.some.inj (hv535_0.symm.trans hx535_0)
     rw [hv535_0] at ge535_0
     have HL535_0 := Aside0.mk (show Kd.R (Kd.int .i64) 3 _ _ _ _ (rd_L1 t527 0) from ge535_0)
     clear hv535_0 ge535_0
     clear hcc535 hce535
     have qi535 : (0 < t527.length) = True := eq_true (by omega)
     (try rw [show ((0 : Int)).toNat = 0 from rfl] at hx535_0)
     (try rw [Addr.add_zero'] at hx535_0)
     have HR535_0 := Aside0.mk hi535_0
     have HC535_0 := Aside0.mk hl535_0
     clear hi535_0 hl535_0
     replace p535 := eq_true p535
     replace q535 := eq_true q535
     try go_wp2_with (first | ((with_reducible refine gate_callee (f := 17) rfl ?_); refine goesL_ (some 22) rfl rfl Tryd.func17 (by kernel_rfl) rfl #[.slice A530_0 (rd_L1 t527 0).length c530_0] rfl (by (try simp only [zE,zF,zG]); first|done|rfl|(simp only [zH,zI]; rfl)) ?_; (with_reducible refine (impl_FormatPerm.calls k _ _ (rd_L1 t527 0) t536 _ ?side1 ?side2 ?side3 A10.out).mono ?_); (case side1 => repeat (first | exact (cX HR530_0.out) | (with_reducible refine Kd.C_alloc ?_ _) | (with_reducible refine Kd.C_drewN ?_ _) | (with_reducible refine Kd.C_drew ?_))); (case side2 => exact HC530_0.out); (case side3 => exact PowTab.below HTAB.out (bX1 HB.out GE526.out)); rintro e w20 ⟨rfl, hb⟩; refine ⟨_, rfl, ?_⟩; have n0_ := Aside0.mk (Kd.S_below (by (with_reducible repeat (first | apply Kd.S_alloc | apply Kd.S_drewN | apply Kd.S_drew)); exact HO529.out) hb); have n1_ := Aside0.mk (Kd.R_below (rX HL530_0.out) hb); have n2_ := Aside0.mk (Kd.R_below (rX HO533.out) hb); have n3_ := Aside0.mk (Kd.R_below (rX HL535_0.out) hb); have n4_ := Aside0.mk (blk_below (g := gb526) (o := .cells #[.slice A0_0 l0_0.length c0_0, .slice A0_1 l0_1.length c0_1] 27 (0, 0)) (kX BK526.out) hb); have n5_ := Aside0.mk (Kd.C_below (cX HR530_0.out) hb); have n6_ := Aside0.mk (Kd.C_below (cX HR535_0.out) hb); have n7_ := Aside0.mk (below_step (bX1 HB.out GE526.out) hb); clear HO529; clear HL530_0; clear HO533; clear HL535_0; clear BK526; clear HR530_0; clear HR535_0; clear HB; have HO529 := n0_; have HL530_0 := n1_; have HO533 := n2_; have HL535_0 := n3_; have BK526 := n4_; have HR530_0 := n5_; have HR535_0 := n6_; have HB := n7_; clear n0_ n1_ n2_ n3_ n4_ n5_ n6_ n7_; (try clear hb); (try clear hb2); (try clear hk); (try clear hi); obtain ⟨Ao21, co21, eo21⟩ := Kd.R_slice HO533.out; subst eo21) | ((with_reducible refine gate_callee (f := 18) rfl ?_); refine goesL_ (some 25) rfl rfl Tryd.func18 (by kernel_rfl) rfl #[.slice Ao21 t531.length co21, .string (⟨#[32]⟩ : ByteArray)] rfl (by (try simp only [zE,zF,zG]); first|done|rfl|(simp only [zH,zI]; rfl)) ?_; (with_reducible refine (impl_joinInts.calls k _ _ t531 (⟨#[32]⟩ : ByteArray) t537 _ ?side1 ?side2 ?side3 A12.out).mono ?_); (case side1 => exact cX (Kd.R_reads' HO533.out).2.2); (case side2 => exact (Kd.R_reads' HO533.out).2.1); (case side3 => exact PowTab.below HTAB.out (bX1 HB.out GE526.out)); rintro e w22 ⟨rfl, hb⟩; refine ⟨_, rfl, ?_⟩; have n0_ := Aside0.mk (Kd.S_below (by (with_reducible repeat (first | apply Kd.S_alloc | apply Kd.S_drewN | apply Kd.S_drew)); exact HO529.out) hb); have n1_ := Aside0.mk (Kd.R_below (rX HL530_0.out) hb); have n2_ := Aside0.mk (Kd.R_below (rX HO533.out) hb); have n3_ := Aside0.mk (Kd.R_below (rX HL535_0.out) hb); have n4_ := Aside0.mk (blk_below (g := gb526) (o := .cells #[.slice A0_0 l0_0.length c0_0, .slice A0_1 l0_1.length c0_1] 27 (0, 0)) (kX BK526.out) hb); have n5_ := Aside0.mk (Kd.C_below (cX HR530_0.out) hb); have n6_ := Aside0.mk (Kd.C_below (cX HR535_0.out) hb); have n7_ := Aside0.mk (below_step (bX1 HB.out GE526.out) hb); clear HO529; clear HL530_0; clear HO533; clear HL535_0; clear BK526; clear HR530_0; clear HR535_0; clear HB; have HO529 := n0_; have HL530_0 := n1_; have HO533 := n2_; have HL535_0 := n3_; have BK526 := n4_; have HR530_0 := n5_; have HR535_0 := n6_; have HB := n7_; clear n0_ n1_ n2_ n3_ n4_ n5_ n6_ n7_; (try clear hb); (try clear hb2); (try clear hk); (try clear hi)))
     go_ret
     exact ⟨eX, bX1 HB.out GE526.out⟩
    ·rw [if_neg c13] at H
     exact absurd H (by simp)
   ·rw [if_neg c11] at H
    exact absurd H (by simp)
  ·rw [if_neg c8] at H
   exact absurd H (by simp)

/-! ### laws_eqIntS: function 19 -/
def laws_eqIntS.l0 : Nat → List Int → List Int → Int → Option (Bool)
 | 0, _, _, _ => none
 | k + 1, x0, x1, x5 => if x5 < (x0.length : Int) then (if 0 ≤ x5 then (if x5 < (x1.length : Int) then (if (rd x0 x5) = (rd x1 x5) then (laws_eqIntS.l0 k x0 x1 (wrap64 (x5 + 1))) else (some false)) else (none)) else (none)) else (some true)
def laws_eqIntS.f (k : Nat) (l0 : List Int) (l1 : List Int) : Option (Bool) := if (l0.length : Int) = (l1.length : Int) then (laws_eqIntS.l0 k l0 l1 0) else (some false)
set_option maxHeartbeats 8000000 in
set_option maxRecDepth 100000 in
theorem laws_eqIntS.calls (k : Nat) (A0 : Option Addr) (c0 : Nat) (l0 : List Int) (A1 : Option Addr) (c1 : Nat) (l1 : List Int) (r : Bool) (w : World) (hr0 : Kd.C (Kd.int .i64) w A0 l0.length l0) (hc0 : l0.length ≤ c0) (hr1 : Kd.C (Kd.int .i64) w A1 l1.length l1) (hc1 : l1.length ≤ c1) (h : laws_eqIntS.f k l0 l1 = some r) :
  Calls Tryd.prog 19 #[.slice A0 l0.length c0, .slice A1 l1.length c1] w fun e w' => e = .returned (.bool r) ∧ Drawn0 w w' := by
 have HR0 := Aside0.mk hr0
 have HC0 := Aside0.mk hc0
 clear hr0 hc0
 have HR1 := Aside0.mk hr1
 have HC1 := Aside0.mk hc1
 clear hr1 hc1
 have H : (if (l0.length : Int) = (l1.length : Int) then (laws_eqIntS.l0 k l0 l1 0) else (some false)) = some r := h
 clear h
 by_cases c3 : (l0.length : Int) = (l1.length : Int)
 ·rw [if_pos c3] at H
  have c3b0 : ((l0.length : Int) == (l1.length : Int)) = true := beq_iff_eq.mpr c3
  have c3b1 : ((l0.length : Int) != (l1.length : Int)) = false := bne_eq_false_iff_eq.mpr c3
  have c3b2 : (l0.length == l1.length) = true := by first | simpa using c3 | (simp at c3 ⊢; omega)
  clear c3
  have H' := Aside0.mk H
  clear H
  go_enter Tryd.func19, Tryd.ntmps19
  go_wp2
  repeat (go_quiet (fail); try go_wp2)
  go_loopg [5] k (fun kq v5 w' => ∃ (x5_1 : Int), v5 = .int .i64 x5_1 ∧ Aside0 (laws_eqIntS.l0 kq l0 l1 x5_1 = some r) ∧ Aside0 (kq ≤ k) ∧ Drawn0 w w')
  case atStart => exact ⟨(0), vX, H', ⟨Nat.le_refl _⟩, by repeat (first | exact Drawn0.refl _ | apply Drawn0.step)⟩
  case round =>
   clear H'
   try clear c1
   try clear p2
   try clear c3
   try clear c3b0
   try clear c3b1
   try clear c3b2
   obtain ⟨x5_1, rfl, HA, HK1, ⟨m1, rfl⟩⟩ := hrel
   cases gk with
   | zero => exact absurd HA.out (by simp [laws_eqIntS.l0])
   | succ k1 =>
    have H := HA.out
    clear HA
    simp only [laws_eqIntS.l0] at H
    by_cases c4 : x5_1 < (l0.length : Int)
    ·rw [if_pos c4] at H
     have c4b0 : decide (x5_1 < (l0.length : Int)) = true := decide_eq_true c4
     clear c4
     by_cases c5 : 0 ≤ x5_1
     ·rw [if_pos c5] at H
      have c5b0 : decide (0 ≤ x5_1) = true := decide_eq_true c5
      clear c5
      by_cases c6 : x5_1 < (l1.length : Int)
      ·rw [if_pos c6] at H
       have c6b0 : decide (x5_1 < (l1.length : Int)) = true := decide_eq_true c6
       clear c6
       by_cases c7 : (rd l0 x5_1) = (rd l1 x5_1)
       ·rw [if_pos c7] at H
        have c7b0 : ((rd l0 x5_1) == (rd l1 x5_1)) = true := beq_iff_eq.mpr c7
        have c7b1 : ((rd l0 x5_1) != (rd l1 x5_1)) = false := bne_eq_false_iff_eq.mpr c7
        clear c7
        have H' := Aside0.mk H
        clear H
        have p538 : 0 ≤ (x5_1 : Int) := dX
        have q538 : x5_1 < (l0.length : Int) := dX
        obtain ⟨ad538, e538, hx538_0⟩ := Kd.at_int HR0.out x5_1 p538 q538
        cases e538
        replace p538 := eq_true p538
        replace q538 := eq_true q538
        have p539 : 0 ≤ (x5_1 : Int) := dX
        have q539 : x5_1 < (l1.length : Int) := dX
        obtain ⟨ad539, e539, hx539_0⟩ := Kd.at_int HR1.out x5_1 p539 q539
        cases e539
        replace p539 := eq_true p539
        replace q539 := eq_true q539
        go_wp2
        repeat (go_quiet (fail); try go_wp2)
        go_roundg k1
        case measure => have := HK1.out; omega
        case rel => exact ⟨(wrap64 (x5_1 + 1)), vX, H', ⟨by have := HK1.out; omega⟩, by repeat (first | exact Drawn0.refl _ | apply Drawn0.step)⟩
       ·rw [if_neg c7] at H
        have c7b0 : ((rd l0 x5_1) == (rd l1 x5_1)) = false := beq_eq_false_iff_ne.mpr c7
        have c7b1 : ((rd l0 x5_1) != (rd l1 x5_1)) = true := bne_iff_ne.mpr c7
        obtain rfl := Option.some.inj H
        have p538 : 0 ≤ (x5_1 : Int) := dX
        have q538 : x5_1 < (l0.length : Int) := dX
        obtain ⟨ad538, e538, hx538_0⟩ := Kd.at_int HR0.out x5_1 p538 q538
        cases e538
        replace p538 := eq_true p538
        replace q538 := eq_true q538
        have p539 : 0 ≤ (x5_1 : Int) := dX
        have q539 : x5_1 < (l1.length : Int) := dX
        obtain ⟨ad539, e539, hx539_0⟩ := Kd.at_int HR1.out x5_1 p539 q539
        cases e539
        replace p539 := eq_true p539
        replace q539 := eq_true q539
        go_wp2
        repeat (go_quiet (fail); try go_wp2)
        go_ret
        exact ⟨by first | rfl | (simp; done) | (simp [*]; done), by repeat (first | exact Drawn0.refl _ | apply Drawn0.step)⟩
      ·rw [if_neg c6] at H
       exact absurd H (by simp)
     ·rw [if_neg c5] at H
      exact absurd H (by simp)
    ·rw [if_neg c4] at H
     have c4b0 : decide (x5_1 < (l0.length : Int)) = false := decide_eq_false c4
     clear c4
     obtain rfl := Option.some.inj H
     go_wp2
     repeat (go_quiet (fail); try go_wp2)
     go_ret
     exact ⟨by first | rfl | (simp; done) | (simp [*]; done), by repeat (first | exact Drawn0.refl _ | apply Drawn0.step)⟩
 ·rw [if_neg c3] at H
  have c3b0 : ((l0.length : Int) == (l1.length : Int)) = false := beq_eq_false_iff_ne.mpr c3
  have c3b1 : ((l0.length : Int) != (l1.length : Int)) = true := bne_iff_ne.mpr c3
  have c3b2 : (l0.length == l1.length) = false := by first | simpa using c3 | (simp at c3 ⊢; omega)
  obtain rfl := Option.some.inj H
  go_enter Tryd.func19, Tryd.ntmps19
  go_wp2
  repeat (go_quiet (fail); try go_wp2)
  go_ret
  exact ⟨by first | rfl | (simp; done) | (simp [*]; done), by repeat (first | exact Drawn0.refl _ | apply Drawn0.step)⟩

/-! ### laws_eqSurface: function 8 -/
def laws_eqSurface.f (k : Nat) (l0_0 : List Int) (l0_1 : List Int) (l1_0 : List Int) (l1_1 : List Int) : Option (Bool) := (laws_eqIntS.f k l0_0 l1_0).bind fun t542 => (if t542 = true then ((laws_eqIntS.f k l0_1 l1_1).bind fun t543 => (if t543 = true then (some true) else (some false))) else (some false))
set_option maxHeartbeats 8000000 in
set_option maxRecDepth 100000 in
theorem laws_eqSurface.calls (k : Nat) (A0_0 : Option Addr) (c0_0 : Nat) (l0_0 : List Int) (A0_1 : Option Addr) (c0_1 : Nat) (l0_1 : List Int) (A1_0 : Option Addr) (c1_0 : Nat) (l1_0 : List Int) (A1_1 : Option Addr) (c1_1 : Nat) (l1_1 : List Int) (r : Bool) (w : World) (hr0_0 : Kd.C (Kd.int .i64) w A0_0 l0_0.length l0_0) (hc0_0 : l0_0.length ≤ c0_0) (hr0_1 : Kd.C (Kd.int .i64) w A0_1 l0_1.length l0_1) (hc0_1 : l0_1.length ≤ c0_1) (hr1_0 : Kd.C (Kd.int .i64) w A1_0 l1_0.length l1_0) (hc1_0 : l1_0.length ≤ c1_0) (hr1_1 : Kd.C (Kd.int .i64) w A1_1 l1_1.length l1_1) (hc1_1 : l1_1.length ≤ c1_1) (h : laws_eqSurface.f k l0_0 l0_1 l1_0 l1_1 = some r) :
  Calls Tryd.prog 8 #[.agg #[.slice A0_0 l0_0.length c0_0, .slice A0_1 l0_1.length c0_1], .agg #[.slice A1_0 l1_0.length c1_0, .slice A1_1 l1_1.length c1_1]] w fun e w' => e = .returned (.bool r) ∧ Below w.heap.size w w' := by
 have hu27 := Tryd.underlying27
 have HR0_0 := Aside0.mk hr0_0
 have HC0_0 := Aside0.mk hc0_0
 clear hr0_0 hc0_0
 have HR0_1 := Aside0.mk hr0_1
 have HC0_1 := Aside0.mk hc0_1
 clear hr0_1 hc0_1
 have HR1_0 := Aside0.mk hr1_0
 have HC1_0 := Aside0.mk hc1_0
 clear hr1_0 hc1_0
 have HR1_1 := Aside0.mk hr1_1
 have HC1_1 := Aside0.mk hc1_1
 clear hr1_1 hc1_1
 have HB := Aside0.mk (Below.refl w.heap.size w)
 have H : ((laws_eqIntS.f k l0_0 l1_0).bind fun t542 => (if t542 = true then ((laws_eqIntS.f k l0_1 l1_1).bind fun t543 => (if t543 = true then (some true) else (some false))) else (some false))) = some r := h
 clear h
 replace H := Option.bind_eq_some_iff.mp H
 obtain ⟨t542, A30, H⟩ := H
 replace H : (if t542 = true then ((laws_eqIntS.f k l0_1 l1_1).bind fun t543 => (if t543 = true then (some true) else (some false))) else (some false)) = some r := H
 have A3 := Aside0.mk A30
 clear A30
 by_cases c4 : t542 = true
 ·subst c4
  have H1 : ((laws_eqIntS.f k l0_1 l1_1).bind fun t543 => (if t543 = true then (some true) else (some false))) = some r := by rw [if_pos rfl] at H; exact H
  clear H
  have H := H1
  clear H1
  replace H := Option.bind_eq_some_iff.mp H
  obtain ⟨t543, A50, H⟩ := H
  replace H : (if t543 = true then (some true) else (some false)) = some r := H
  have A5 := Aside0.mk A50
  clear A50
  by_cases c6 : t543 = true
  ·subst c6
   have H1 : (some true) = some r := by rw [if_pos rfl] at H; exact H
   clear H
   have H := H1
   clear H1
   obtain rfl := Option.some.inj H
   go_enter Tryd.func8, Tryd.ntmps8
   go_wp2_with (first | ((with_reducible refine gate_dst (N := 2) rfl ?_); refine box_event ?hg (N := 2) ?hd (cs := #[.slice A0_0 l0_0.length c0_0, .slice A0_1 l0_1.length c0_1]) (t := 27) ?hr ?_; (case hd => rfl); (case hg => rfl); (case hr => first | (go_simp; done) | (go_simp; rfl)); intro gb540 hg w7 hbox hb; have n0_ := Aside0.mk (below_step (bX HB.out) hb); have n1_ := Aside0.mk (hbox); have n2_ := Aside0.mk ((by rw [hg]; exact (below_size (bX HB.out)) : w.heap.size ≤ gb540)); have n3_ := Aside0.mk ((by rw [hg]; exact (below_size (bX HB.out)) : w.heap.size ≤ gb540)); clear HB; have HB := n0_; have BK540 := n1_; have GW540 := n2_; have GE540 := n3_; clear n0_ n1_ n2_ n3_; clear hb hbox hg) | ((with_reducible refine gate_dst (N := 3) rfl ?_); refine box_event ?hg (N := 3) ?hd (cs := #[.slice A1_0 l1_0.length c1_0, .slice A1_1 l1_1.length c1_1]) (t := 27) ?hr ?_; (case hd => rfl); (case hg => rfl); (case hr => first | (go_simp; done) | (go_simp; rfl)); intro gb541 hg w8 hbox hb; have n0_ := Aside0.mk (blk_below (g := gb540) (o := .cells #[.slice A0_0 l0_0.length c0_0, .slice A0_1 l0_1.length c0_1] 27 (0, 0)) (kX BK540.out) hb); have n1_ := Aside0.mk (below_step (bX1 HB.out GE540.out) hb); have n2_ := Aside0.mk (hbox); have n3_ := Aside0.mk ((by rw [hg]; exact (below_size (bX1 HB.out GE540.out)) : w.heap.size ≤ gb541)); have n4_ := Aside0.mk ((by rw [hg]; exact (below_size (bX1 HB.out GE540.out)) : w.heap.size ≤ gb541)); have n5_ := Aside0.mk ((by rw [hg]; exact Nat.ne_of_lt (blk_lt (g := gb540) (o := .cells #[.slice A0_0 l0_0.length c0_0, .slice A0_1 l0_1.length c0_1] 27 (0, 0)) (kX BK540.out)) : gb540 ≠ gb541)); have n6_ := Aside0.mk ((by rw [hg]; exact Nat.ne_of_gt (blk_lt (g := gb540) (o := .cells #[.slice A0_0 l0_0.length c0_0, .slice A0_1 l0_1.length c0_1] 27 (0, 0)) (kX BK540.out)) : gb541 ≠ gb540)); clear BK540; clear HB; have BK540 := n0_; have HB := n1_; have BK541 := n2_; have GW541 := n3_; have GE541 := n4_; have NB540_541 := n5_; have NB541_540 := n6_; clear n0_ n1_ n2_ n3_ n4_ n5_ n6_; clear hb hbox hg; have hnb9 := NB540_541.out; have hnc9 := NB541_540.out; have hcz10_0 : w8.cell? ⟨gb540, 0, none⟩ = some (.slice A0_0 l0_0.length c0_0) := (blk_cell BK540.out 0).trans rfl; have hcz10_1 : w8.cell? ⟨gb540, 1, none⟩ = some (.slice A0_1 l0_1.length c0_1) := (blk_cell BK540.out 1).trans rfl; have hfz10_0 := blk_frozen BK540.out 0; have hfz10_1 := blk_frozen BK540.out 1; have hcz11_0 : w8.cell? ⟨gb541, 0, none⟩ = some (.slice A1_0 l1_0.length c1_0) := (blk_cell BK541.out 0).trans rfl; have hcz11_1 : w8.cell? ⟨gb541, 1, none⟩ = some (.slice A1_1 l1_1.length c1_1) := (blk_cell BK541.out 1).trans rfl; have hfz11_0 := blk_frozen BK541.out 0; have hfz11_1 := blk_frozen BK541.out 1) | ((with_reducible refine gate_callee (f := 19) rfl ?_); refine goesL_ (some 9) rfl rfl Tryd.func19 (by kernel_rfl) rfl #[.slice A0_0 l0_0.length c0_0, .slice A1_0 l1_0.length c1_0] rfl (by (try simp only [zE,zF,zG]); first|done|rfl|(simp only [zH,zI]; rfl)) ?_; (with_reducible refine (laws_eqIntS.calls k _ _ l0_0 _ _ l1_0 true _ ?side1 ?side2 ?side3 ?side4 A3.out).mono ?_); (case side1 => repeat (first | exact (Kd.C_below HR0_0.out HB.out) | (with_reducible refine Kd.C_alloc ?_ _) | (with_reducible refine Kd.C_drewN ?_ _) | (with_reducible refine Kd.C_drew ?_))); (case side2 => exact HC0_0.out); (case side3 => repeat (first | exact (Kd.C_below HR1_0.out HB.out) | (with_reducible refine Kd.C_alloc ?_ _) | (with_reducible refine Kd.C_drewN ?_ _) | (with_reducible refine Kd.C_drew ?_))); (case side4 => exact HC1_0.out); rintro e w' ⟨rfl, ⟨nd, rfl⟩⟩; refine ⟨_, rfl, ?_⟩) | ((with_reducible refine gate_callee (f := 19) rfl ?_); refine goesL_ (some 15) rfl rfl Tryd.func19 (by kernel_rfl) rfl #[.slice A0_1 l0_1.length c0_1, .slice A1_1 l1_1.length c1_1] rfl (by (try simp only [zE,zF,zG]); first|done|rfl|(simp only [zH,zI]; rfl)) ?_; (with_reducible refine (laws_eqIntS.calls k _ _ l0_1 _ _ l1_1 true _ ?side1 ?side2 ?side3 ?side4 A5.out).mono ?_); (case side1 => repeat (first | exact (Kd.C_below HR0_1.out (bX2 HB.out GE540.out GE541.out)) | (with_reducible refine Kd.C_alloc ?_ _) | (with_reducible refine Kd.C_drewN ?_ _) | (with_reducible refine Kd.C_drew ?_))); (case side2 => exact HC0_1.out); (case side3 => repeat (first | exact (Kd.C_below HR1_1.out (bX2 HB.out GE540.out GE541.out)) | (with_reducible refine Kd.C_alloc ?_ _) | (with_reducible refine Kd.C_drewN ?_ _) | (with_reducible refine Kd.C_drew ?_))); (case side4 => exact HC1_1.out); rintro e w' ⟨rfl, ⟨nd, rfl⟩⟩; refine ⟨_, rfl, ?_⟩))
   go_ret
   exact ⟨eX, bX2 HB.out GE540.out GE541.out⟩
  ·replace c6 := Bool.eq_false_iff.mpr c6
   subst c6
   have H1 : (some false) = some r := by rw [if_neg (show ¬ (false = true) by decide)] at H; exact H
   clear H
   have H := H1
   clear H1
   obtain rfl := Option.some.inj H
   go_enter Tryd.func8, Tryd.ntmps8
   go_wp2_with (first | ((with_reducible refine gate_dst (N := 2) rfl ?_); refine box_event ?hg (N := 2) ?hd (cs := #[.slice A0_0 l0_0.length c0_0, .slice A0_1 l0_1.length c0_1]) (t := 27) ?hr ?_; (case hd => rfl); (case hg => rfl); (case hr => first | (go_simp; done) | (go_simp; rfl)); intro gb540 hg w12 hbox hb; have n0_ := Aside0.mk (below_step (bX HB.out) hb); have n1_ := Aside0.mk (hbox); have n2_ := Aside0.mk ((by rw [hg]; exact (below_size (bX HB.out)) : w.heap.size ≤ gb540)); have n3_ := Aside0.mk ((by rw [hg]; exact (below_size (bX HB.out)) : w.heap.size ≤ gb540)); clear HB; have HB := n0_; have BK540 := n1_; have GW540 := n2_; have GE540 := n3_; clear n0_ n1_ n2_ n3_; clear hb hbox hg) | ((with_reducible refine gate_dst (N := 3) rfl ?_); refine box_event ?hg (N := 3) ?hd (cs := #[.slice A1_0 l1_0.length c1_0, .slice A1_1 l1_1.length c1_1]) (t := 27) ?hr ?_; (case hd => rfl); (case hg => rfl); (case hr => first | (go_simp; done) | (go_simp; rfl)); intro gb541 hg w13 hbox hb; have n0_ := Aside0.mk (blk_below (g := gb540) (o := .cells #[.slice A0_0 l0_0.length c0_0, .slice A0_1 l0_1.length c0_1] 27 (0, 0)) (kX BK540.out) hb); have n1_ := Aside0.mk (below_step (bX1 HB.out GE540.out) hb); have n2_ := Aside0.mk (hbox); have n3_ := Aside0.mk ((by rw [hg]; exact (below_size (bX1 HB.out GE540.out)) : w.heap.size ≤ gb541)); have n4_ := Aside0.mk ((by rw [hg]; exact (below_size (bX1 HB.out GE540.out)) : w.heap.size ≤ gb541)); have n5_ := Aside0.mk ((by rw [hg]; exact Nat.ne_of_lt (blk_lt (g := gb540) (o := .cells #[.slice A0_0 l0_0.length c0_0, .slice A0_1 l0_1.length c0_1] 27 (0, 0)) (kX BK540.out)) : gb540 ≠ gb541)); have n6_ := Aside0.mk ((by rw [hg]; exact Nat.ne_of_gt (blk_lt (g := gb540) (o := .cells #[.slice A0_0 l0_0.length c0_0, .slice A0_1 l0_1.length c0_1] 27 (0, 0)) (kX BK540.out)) : gb541 ≠ gb540)); clear BK540; clear HB; have BK540 := n0_; have HB := n1_; have BK541 := n2_; have GW541 := n3_; have GE541 := n4_; have NB540_541 := n5_; have NB541_540 := n6_; clear n0_ n1_ n2_ n3_ n4_ n5_ n6_; clear hb hbox hg; have hnb14 := NB540_541.out; have hnc14 := NB541_540.out; have hcz15_0 : w13.cell? ⟨gb540, 0, none⟩ = some (.slice A0_0 l0_0.length c0_0) := (blk_cell BK540.out 0).trans rfl; have hcz15_1 : w13.cell? ⟨gb540, 1, none⟩ = some (.slice A0_1 l0_1.length c0_1) := (blk_cell BK540.out 1).trans rfl; have hfz15_0 := blk_frozen BK540.out 0; have hfz15_1 := blk_frozen BK540.out 1; have hcz16_0 : w13.cell? ⟨gb541, 0, none⟩ = some (.slice A1_0 l1_0.length c1_0) := (blk_cell BK541.out 0).trans rfl; have hcz16_1 : w13.cell? ⟨gb541, 1, none⟩ = some (.slice A1_1 l1_1.length c1_1) := (blk_cell BK541.out 1).trans rfl; have hfz16_0 := blk_frozen BK541.out 0; have hfz16_1 := blk_frozen BK541.out 1) | ((with_reducible refine gate_callee (f := 19) rfl ?_); refine goesL_ (some 9) rfl rfl Tryd.func19 (by kernel_rfl) rfl #[.slice A0_0 l0_0.length c0_0, .slice A1_0 l1_0.length c1_0] rfl (by (try simp only [zE,zF,zG]); first|done|rfl|(simp only [zH,zI]; rfl)) ?_; (with_reducible refine (laws_eqIntS.calls k _ _ l0_0 _ _ l1_0 true _ ?side1 ?side2 ?side3 ?side4 A3.out).mono ?_); (case side1 => repeat (first | exact (Kd.C_below HR0_0.out HB.out) | (with_reducible refine Kd.C_alloc ?_ _) | (with_reducible refine Kd.C_drewN ?_ _) | (with_reducible refine Kd.C_drew ?_))); (case side2 => exact HC0_0.out); (case side3 => repeat (first | exact (Kd.C_below HR1_0.out HB.out) | (with_reducible refine Kd.C_alloc ?_ _) | (with_reducible refine Kd.C_drewN ?_ _) | (with_reducible refine Kd.C_drew ?_))); (case side4 => exact HC1_0.out); rintro e w' ⟨rfl, ⟨nd, rfl⟩⟩; refine ⟨_, rfl, ?_⟩) | ((with_reducible refine gate_callee (f := 19) rfl ?_); refine goesL_ (some 15) rfl rfl Tryd.func19 (by kernel_rfl) rfl #[.slice A0_1 l0_1.length c0_1, .slice A1_1 l1_1.length c1_1] rfl (by (try simp only [zE,zF,zG]); first|done|rfl|(simp only [zH,zI]; rfl)) ?_; (with_reducible refine (laws_eqIntS.calls k _ _ l0_1 _ _ l1_1 false _ ?side1 ?side2 ?side3 ?side4 A5.out).mono ?_); (case side1 => repeat (first | exact (Kd.C_below HR0_1.out (bX2 HB.out GE540.out GE541.out)) | (with_reducible refine Kd.C_alloc ?_ _) | (with_reducible refine Kd.C_drewN ?_ _) | (with_reducible refine Kd.C_drew ?_))); (case side2 => exact HC0_1.out); (case side3 => repeat (first | exact (Kd.C_below HR1_1.out (bX2 HB.out GE540.out GE541.out)) | (with_reducible refine Kd.C_alloc ?_ _) | (with_reducible refine Kd.C_drewN ?_ _) | (with_reducible refine Kd.C_drew ?_))); (case side4 => exact HC1_1.out); rintro e w' ⟨rfl, ⟨nd, rfl⟩⟩; refine ⟨_, rfl, ?_⟩))
   go_ret
   exact ⟨eX, bX2 HB.out GE540.out GE541.out⟩
 ·replace c4 := Bool.eq_false_iff.mpr c4
  subst c4
  have H1 : (some false) = some r := by rw [if_neg (show ¬ (false = true) by decide)] at H; exact H
  clear H
  have H := H1
  clear H1
  obtain rfl := Option.some.inj H
  go_enter Tryd.func8, Tryd.ntmps8
  go_wp2_with (first | ((with_reducible refine gate_dst (N := 2) rfl ?_); refine box_event ?hg (N := 2) ?hd (cs := #[.slice A0_0 l0_0.length c0_0, .slice A0_1 l0_1.length c0_1]) (t := 27) ?hr ?_; (case hd => rfl); (case hg => rfl); (case hr => first | (go_simp; done) | (go_simp; rfl)); intro gb540 hg w17 hbox hb; have n0_ := Aside0.mk (below_step (bX HB.out) hb); have n1_ := Aside0.mk (hbox); have n2_ := Aside0.mk ((by rw [hg]; exact (below_size (bX HB.out)) : w.heap.size ≤ gb540)); have n3_ := Aside0.mk ((by rw [hg]; exact (below_size (bX HB.out)) : w.heap.size ≤ gb540)); clear HB; have HB := n0_; have BK540 := n1_; have GW540 := n2_; have GE540 := n3_; clear n0_ n1_ n2_ n3_; clear hb hbox hg) | ((with_reducible refine gate_dst (N := 3) rfl ?_); refine box_event ?hg (N := 3) ?hd (cs := #[.slice A1_0 l1_0.length c1_0, .slice A1_1 l1_1.length c1_1]) (t := 27) ?hr ?_; (case hd => rfl); (case hg => rfl); (case hr => first | (go_simp; done) | (go_simp; rfl)); intro gb541 hg w18 hbox hb; have n0_ := Aside0.mk (blk_below (g := gb540) (o := .cells #[.slice A0_0 l0_0.length c0_0, .slice A0_1 l0_1.length c0_1] 27 (0, 0)) (kX BK540.out) hb); have n1_ := Aside0.mk (below_step (bX1 HB.out GE540.out) hb); have n2_ := Aside0.mk (hbox); have n3_ := Aside0.mk ((by rw [hg]; exact (below_size (bX1 HB.out GE540.out)) : w.heap.size ≤ gb541)); have n4_ := Aside0.mk ((by rw [hg]; exact (below_size (bX1 HB.out GE540.out)) : w.heap.size ≤ gb541)); have n5_ := Aside0.mk ((by rw [hg]; exact Nat.ne_of_lt (blk_lt (g := gb540) (o := .cells #[.slice A0_0 l0_0.length c0_0, .slice A0_1 l0_1.length c0_1] 27 (0, 0)) (kX BK540.out)) : gb540 ≠ gb541)); have n6_ := Aside0.mk ((by rw [hg]; exact Nat.ne_of_gt (blk_lt (g := gb540) (o := .cells #[.slice A0_0 l0_0.length c0_0, .slice A0_1 l0_1.length c0_1] 27 (0, 0)) (kX BK540.out)) : gb541 ≠ gb540)); clear BK540; clear HB; have BK540 := n0_; have HB := n1_; have BK541 := n2_; have GW541 := n3_; have GE541 := n4_; have NB540_541 := n5_; have NB541_540 := n6_; clear n0_ n1_ n2_ n3_ n4_ n5_ n6_; clear hb hbox hg; have hnb19 := NB540_541.out; have hnc19 := NB541_540.out; have hcz20_0 : w18.cell? ⟨gb540, 0, none⟩ = some (.slice A0_0 l0_0.length c0_0) := (blk_cell BK540.out 0).trans rfl; have hcz20_1 : w18.cell? ⟨gb540, 1, none⟩ = some (.slice A0_1 l0_1.length c0_1) := (blk_cell BK540.out 1).trans rfl; have hfz20_0 := blk_frozen BK540.out 0; have hfz20_1 := blk_frozen BK540.out 1; have hcz21_0 : w18.cell? ⟨gb541, 0, none⟩ = some (.slice A1_0 l1_0.length c1_0) := (blk_cell BK541.out 0).trans rfl; have hcz21_1 : w18.cell? ⟨gb541, 1, none⟩ = some (.slice A1_1 l1_1.length c1_1) := (blk_cell BK541.out 1).trans rfl; have hfz21_0 := blk_frozen BK541.out 0; have hfz21_1 := blk_frozen BK541.out 1) | ((with_reducible refine gate_callee (f := 19) rfl ?_); refine goesL_ (some 9) rfl rfl Tryd.func19 (by kernel_rfl) rfl #[.slice A0_0 l0_0.length c0_0, .slice A1_0 l1_0.length c1_0] rfl (by (try simp only [zE,zF,zG]); first|done|rfl|(simp only [zH,zI]; rfl)) ?_; (with_reducible refine (laws_eqIntS.calls k _ _ l0_0 _ _ l1_0 false _ ?side1 ?side2 ?side3 ?side4 A3.out).mono ?_); (case side1 => repeat (first | exact (Kd.C_below HR0_0.out HB.out) | (with_reducible refine Kd.C_alloc ?_ _) | (with_reducible refine Kd.C_drewN ?_ _) | (with_reducible refine Kd.C_drew ?_))); (case side2 => exact HC0_0.out); (case side3 => repeat (first | exact (Kd.C_below HR1_0.out HB.out) | (with_reducible refine Kd.C_alloc ?_ _) | (with_reducible refine Kd.C_drewN ?_ _) | (with_reducible refine Kd.C_drew ?_))); (case side4 => exact HC1_0.out); rintro e w' ⟨rfl, ⟨nd, rfl⟩⟩; refine ⟨_, rfl, ?_⟩))
  go_ret
  exact ⟨eX, bX2 HB.out GE540.out GE541.out⟩

/-! ### laws_FnExactTurnLine: function 3 -/
def laws_FnExactTurnLine.f (k : Nat) (l0_0 : List Int) (l0_1 : List Int) : Option (Bool) := (laws_szSurface.f l0_0 l0_1 1048576).bind fun t545 => (if t545 < 0 then (some true) else ((laws_toSurface.f k l0_0 l0_1).bind fun bt546 => ((spec_TurnLine.f k bt546.1 bt546.2).bind fun t552 => ((laws_toSurface.f k l0_0 l0_1).bind fun bt553 => ((impl_TurnLine.f k bt553.1 bt553.2).bind fun t560 => (if t560.toList = t552.toList then ((laws_toSurface.f k l0_0 l0_1).bind fun bt561 => ((laws_eqSurface.f k bt553.1 bt553.2 bt561.1 bt561.2).bind fun t567 => (if t567 = true then (some true) else (some false)))) else (some false)))))))
set_option maxHeartbeats 8000000 in
set_option maxRecDepth 100000 in
theorem laws_FnExactTurnLine.calls (k : Nat) (A0_0 : Option Addr) (c0_0 : Nat) (l0_0 : List Int) (A0_1 : Option Addr) (c0_1 : Nat) (l0_1 : List Int) (r : Bool) (w : World) (hr0_0 : Kd.C (Kd.int .i64) w A0_0 l0_0.length l0_0) (hc0_0 : l0_0.length ≤ c0_0) (hr0_1 : Kd.C (Kd.int .i64) w A0_1 l0_1.length l0_1) (hc0_1 : l0_1.length ≤ c0_1) (htab_ : PowTab w) (hrt_ : r = true) (h : laws_FnExactTurnLine.f k l0_0 l0_1 = some r) :
  Calls Tryd.prog 3 #[.agg #[.slice A0_0 l0_0.length c0_0, .slice A0_1 l0_1.length c0_1]] w fun e w' => e = .returned (.bool r) ∧ Below w.heap.size w w' := by
 have hu24 := Tryd.underlying24
 have hu27 := Tryd.underlying27
 have HR0_0 := Aside0.mk hr0_0
 have HC0_0 := Aside0.mk hc0_0
 clear hr0_0 hc0_0
 have HR0_1 := Aside0.mk hr0_1
 have HC0_1 := Aside0.mk hc0_1
 clear hr0_1 hc0_1
 have HB := Aside0.mk (Below.refl w.heap.size w)
 have H : ((laws_szSurface.f l0_0 l0_1 1048576).bind fun t545 => (if t545 < 0 then (some true) else ((laws_toSurface.f k l0_0 l0_1).bind fun bt546 => ((spec_TurnLine.f k bt546.1 bt546.2).bind fun t552 => ((laws_toSurface.f k l0_0 l0_1).bind fun bt553 => ((impl_TurnLine.f k bt553.1 bt553.2).bind fun t560 => (if t560.toList = t552.toList then ((laws_toSurface.f k l0_0 l0_1).bind fun bt561 => ((laws_eqSurface.f k bt553.1 bt553.2 bt561.1 bt561.2).bind fun t567 => (if t567 = true then (some true) else (some false)))) else (some false)))))))) = some r := h
 clear h
 have HTAB := Aside0.mk htab_
 clear htab_
 have HRT := Aside0.mk hrt_
 clear hrt_
 replace H := Option.bind_eq_some_iff.mp H
 obtain ⟨t545, A20, H⟩ := H
 replace H : (if t545 < 0 then (some true) else ((laws_toSurface.f k l0_0 l0_1).bind fun bt546 => ((spec_TurnLine.f k bt546.1 bt546.2).bind fun t552 => ((laws_toSurface.f k l0_0 l0_1).bind fun bt553 => ((impl_TurnLine.f k bt553.1 bt553.2).bind fun t560 => (if t560.toList = t552.toList then ((laws_toSurface.f k l0_0 l0_1).bind fun bt561 => ((laws_eqSurface.f k bt553.1 bt553.2 bt561.1 bt561.2).bind fun t567 => (if t567 = true then (some true) else (some false)))) else (some false))))))) = some r := H
 have A2 := Aside0.mk A20
 clear A20
 by_cases c3 : t545 < 0
 ·rw [if_pos c3] at H
  have c3b0 : decide (t545 < 0) = true := decide_eq_true c3
  clear c3
  obtain rfl := Option.some.inj H
  go_enter Tryd.func3, Tryd.ntmps3
  go_wp2_with (first | ((with_reducible refine gate_dst (N := 1) rfl ?_); refine box_event ?hg (N := 1) ?hd (cs := #[.slice A0_0 l0_0.length c0_0, .slice A0_1 l0_1.length c0_1]) (t := 24) ?hr ?_; (case hd => rfl); (case hg => rfl); (case hr => first | (go_simp; done) | (go_simp; rfl)); intro gb544 hg w4 hbox hb; have n0_ := Aside0.mk (below_step (bX HB.out) hb); have n1_ := Aside0.mk (hbox); have n2_ := Aside0.mk ((by rw [hg]; exact (below_size (bX HB.out)) : w.heap.size ≤ gb544)); have n3_ := Aside0.mk ((by rw [hg]; exact (below_size (bX HB.out)) : w.heap.size ≤ gb544)); clear HB; have HB := n0_; have BK544 := n1_; have GW544 := n2_; have GE544 := n3_; clear n0_ n1_ n2_ n3_; clear hb hbox hg; have hcz5_0 : w4.cell? ⟨gb544, 0, none⟩ = some (.slice A0_0 l0_0.length c0_0) := (blk_cell BK544.out 0).trans rfl; have hcz5_1 : w4.cell? ⟨gb544, 1, none⟩ = some (.slice A0_1 l0_1.length c0_1) := (blk_cell BK544.out 1).trans rfl; have hfz5_0 := blk_frozen BK544.out 0; have hfz5_1 := blk_frozen BK544.out 1) | ((with_reducible refine gate_callee (f := 4) rfl ?_); refine goesL_ (some 9) rfl rfl Tryd.func4 (by kernel_rfl) rfl #[.agg #[.slice A0_0 l0_0.length c0_0, .slice A0_1 l0_1.length c0_1], .int .i64 1048576] rfl (by (try simp only [zE,zF,zG]); first|done|rfl|(simp only [zH,zI]; rfl)) ?_; (with_reducible refine (laws_szSurface.calls _ _ l0_0 _ _ l0_1 1048576 t545 _ ?side1 ?side2 ?side3 ?side4 A2.out).mono ?_); (case side1 => repeat (first | exact (Kd.C_below HR0_0.out HB.out) | (with_reducible refine Kd.C_alloc ?_ _) | (with_reducible refine Kd.C_drewN ?_ _) | (with_reducible refine Kd.C_drew ?_))); (case side2 => exact HC0_0.out); (case side3 => repeat (first | exact (Kd.C_below HR0_1.out HB.out) | (with_reducible refine Kd.C_alloc ?_ _) | (with_reducible refine Kd.C_drewN ?_ _) | (with_reducible refine Kd.C_drew ?_))); (case side4 => exact HC0_1.out); rintro e w6 ⟨rfl, hb⟩; refine ⟨_, rfl, ?_⟩; have n0_ := Aside0.mk (blk_below (g := gb544) (o := .cells #[.slice A0_0 l0_0.length c0_0, .slice A0_1 l0_1.length c0_1] 24 (0, 0)) (kX BK544.out) hb); have n1_ := Aside0.mk (below_step (bX1 HB.out GE544.out) hb); clear BK544; clear HB; have BK544 := n0_; have HB := n1_; clear n0_ n1_; (try clear hb); (try clear hb2); (try clear hk); (try clear hi)))
  go_ret
  exact ⟨eX, bX1 HB.out GE544.out⟩
 ·rw [if_neg c3] at H
  have c3b0 : decide (t545 < 0) = false := decide_eq_false c3
  clear c3
  replace H := Option.bind_eq_some_iff.mp H
  obtain ⟨⟨t546, t549⟩, A70, H⟩ := H
  replace H : ((spec_TurnLine.f k t546 t549).bind fun t552 => ((laws_toSurface.f k l0_0 l0_1).bind fun bt553 => ((impl_TurnLine.f k bt553.1 bt553.2).bind fun t560 => (if t560.toList = t552.toList then ((laws_toSurface.f k l0_0 l0_1).bind fun bt561 => ((laws_eqSurface.f k bt553.1 bt553.2 bt561.1 bt561.2).bind fun t567 => (if t567 = true then (some true) else (some false)))) else (some false))))) = some r := H
  have A7 := Aside0.mk A70
  clear A70
  replace H := Option.bind_eq_some_iff.mp H
  obtain ⟨t552, A80, H⟩ := H
  replace H : ((laws_toSurface.f k l0_0 l0_1).bind fun bt553 => ((impl_TurnLine.f k bt553.1 bt553.2).bind fun t560 => (if t560.toList = t552.toList then ((laws_toSurface.f k l0_0 l0_1).bind fun bt561 => ((laws_eqSurface.f k bt553.1 bt553.2 bt561.1 bt561.2).bind fun t567 => (if t567 = true then (some true) else (some false)))) else (some false)))) = some r := H
  have A8 := Aside0.mk A80
  clear A80
  replace H := Option.bind_eq_some_iff.mp H
  obtain ⟨⟨t553, t556⟩, A90, H⟩ := H
  replace H : ((impl_TurnLine.f k t553 t556).bind fun t560 => (if t560.toList = t552.toList then ((laws_toSurface.f k l0_0 l0_1).bind fun bt561 => ((laws_eqSurface.f k t553 t556 bt561.1 bt561.2).bind fun t567 => (if t567 = true then (some true) else (some false)))) else (some false))) = some r := H
  have A9 := Aside0.mk A90
  clear A90
  replace H := Option.bind_eq_some_iff.mp H
  obtain ⟨t560, A100, H⟩ := H
  replace H : (if t560.toList = t552.toList then ((laws_toSurface.f k l0_0 l0_1).bind fun bt561 => ((laws_eqSurface.f k t553 t556 bt561.1 bt561.2).bind fun t567 => (if t567 = true then (some true) else (some false)))) else (some false)) = some r := H
  have A10 := Aside0.mk A100
  clear A100
  by_cases c11 : t560.toList = t552.toList
  ·rw [if_pos c11] at H
   have c11b0 : (t560.toList == t552.toList) = true := beq_iff_eq.mpr c11
   have c11b1 : (t560.toList != t552.toList) = false := bne_eq_false_iff_eq.mpr c11
   clear c11
   replace H := Option.bind_eq_some_iff.mp H
   obtain ⟨⟨t561, t564⟩, A120, H⟩ := H
   replace H : ((laws_eqSurface.f k t553 t556 t561 t564).bind fun t567 => (if t567 = true then (some true) else (some false))) = some r := H
   have A12 := Aside0.mk A120
   clear A120
   replace H := Option.bind_eq_some_iff.mp H
   obtain ⟨t567, A130, H⟩ := H
   replace H : (if t567 = true then (some true) else (some false)) = some r := H
   have A13 := Aside0.mk A130
   clear A130
   by_cases c14 : t567 = true
   ·subst c14
    have H1 : (some true) = some r := by rw [if_pos rfl] at H; exact H
    clear H
    have H := H1
    clear H1
    obtain rfl := Option.some.inj H
    go_enter Tryd.func3, Tryd.ntmps3
    try go_wp2_with (first | ((with_reducible refine gate_dst (N := 1) rfl ?_); refine box_event ?hg (N := 1) ?hd (cs := #[.slice A0_0 l0_0.length c0_0, .slice A0_1 l0_1.length c0_1]) (t := 24) ?hr ?_; (case hd => rfl); (case hg => rfl); (case hr => first | (go_simp; done) | (go_simp; rfl)); intro gb544 hg w15 hbox hb; have n0_ := Aside0.mk (below_step (bX HB.out) hb); have n1_ := Aside0.mk (hbox); have n2_ := Aside0.mk ((by rw [hg]; exact (below_size (bX HB.out)) : w.heap.size ≤ gb544)); have n3_ := Aside0.mk ((by rw [hg]; exact (below_size (bX HB.out)) : w.heap.size ≤ gb544)); clear HB; have HB := n0_; have BK544 := n1_; have GW544 := n2_; have GE544 := n3_; clear n0_ n1_ n2_ n3_; clear hb hbox hg; have hcz16_0 : w15.cell? ⟨gb544, 0, none⟩ = some (.slice A0_0 l0_0.length c0_0) := (blk_cell BK544.out 0).trans rfl; have hcz16_1 : w15.cell? ⟨gb544, 1, none⟩ = some (.slice A0_1 l0_1.length c0_1) := (blk_cell BK544.out 1).trans rfl; have hfz16_0 := blk_frozen BK544.out 0; have hfz16_1 := blk_frozen BK544.out 1) | ((with_reducible refine gate_callee (f := 4) rfl ?_); refine goesL_ (some 9) rfl rfl Tryd.func4 (by kernel_rfl) rfl #[.agg #[.slice A0_0 l0_0.length c0_0, .slice A0_1 l0_1.length c0_1], .int .i64 1048576] rfl (by (try simp only [zE,zF,zG]); first|done|rfl|(simp only [zH,zI]; rfl)) ?_; (with_reducible refine (laws_szSurface.calls _ _ l0_0 _ _ l0_1 1048576 t545 _ ?side1 ?side2 ?side3 ?side4 A2.out).mono ?_); (case side1 => repeat (first | exact (Kd.C_below HR0_0.out HB.out) | (with_reducible refine Kd.C_alloc ?_ _) | (with_reducible refine Kd.C_drewN ?_ _) | (with_reducible refine Kd.C_drew ?_))); (case side2 => exact HC0_0.out); (case side3 => repeat (first | exact (Kd.C_below HR0_1.out HB.out) | (with_reducible refine Kd.C_alloc ?_ _) | (with_reducible refine Kd.C_drewN ?_ _) | (with_reducible refine Kd.C_drew ?_))); (case side4 => exact HC0_1.out); rintro e w17 ⟨rfl, hb⟩; refine ⟨_, rfl, ?_⟩; have n0_ := Aside0.mk (blk_below (g := gb544) (o := .cells #[.slice A0_0 l0_0.length c0_0, .slice A0_1 l0_1.length c0_1] 24 (0, 0)) (kX BK544.out) hb); have n1_ := Aside0.mk (below_step (bX1 HB.out GE544.out) hb); clear BK544; clear HB; have BK544 := n0_; have HB := n1_; clear n0_ n1_; (try clear hb); (try clear hb2); (try clear hk); (try clear hi); have hcz18_0 : w17.cell? ⟨gb544, 0, none⟩ = some (.slice A0_0 l0_0.length c0_0) := (blk_cell BK544.out 0).trans rfl; have hcz18_1 : w17.cell? ⟨gb544, 1, none⟩ = some (.slice A0_1 l0_1.length c0_1) := (blk_cell BK544.out 1).trans rfl; have hfz18_0 := blk_frozen BK544.out 0; have hfz18_1 := blk_frozen BK544.out 1) | ((with_reducible refine gate_callee (f := 6) rfl ?_); refine goesL_ (some 13) rfl rfl Tryd.func6 (by kernel_rfl) rfl #[.agg #[.slice A0_0 l0_0.length c0_0, .slice A0_1 l0_1.length c0_1]] rfl (by (try simp only [zE,zF,zG]); first|done|rfl|(simp only [zH,zI]; rfl)) ?_; (with_reducible refine (laws_toSurface.calls k _ _ l0_0 _ _ l0_1 t546 t549 _ ?side1 ?side2 ?side3 ?side4 A7.out).mono ?_); (case side1 => repeat (first | exact (Kd.C_below HR0_0.out HB.out) | (with_reducible refine Kd.C_alloc ?_ _) | (with_reducible refine Kd.C_drewN ?_ _) | (with_reducible refine Kd.C_drew ?_))); (case side2 => exact HC0_0.out); (case side3 => repeat (first | exact (Kd.C_below HR0_1.out HB.out) | (with_reducible refine Kd.C_alloc ?_ _) | (with_reducible refine Kd.C_drewN ?_ _) | (with_reducible refine Kd.C_drew ?_))); (case side4 => exact HC0_1.out); rintro e w19 ⟨v547, v550, rfl, ho0, ho1, hb⟩; refine ⟨_, rfl, ?_⟩; have n0_ := Aside0.mk (Kd.R_lower ho0 (below_size (bX1 HB.out GE544.out))); have n1_ := Aside0.mk (Kd.R_lower ho1 (below_size (bX1 HB.out GE544.out))); have n2_ := Aside0.mk (blk_below (g := gb544) (o := .cells #[.slice A0_0 l0_0.length c0_0, .slice A0_1 l0_1.length c0_1] 24 (0, 0)) (kX BK544.out) hb); have n3_ := Aside0.mk (below_step (bX1 HB.out GE544.out) hb); clear BK544; clear HB; have HO548 := n0_; have HO551 := n1_; have BK544 := n2_; have HB := n3_; clear n0_ n1_ n2_ n3_; (try clear hb); (try clear hb2); (try clear hk); (try clear hi); (try clear ho0); (try clear ho1); obtain ⟨Ao20, co20, eo20⟩ := Kd.R_slice HO548.out; subst eo20; obtain ⟨Ao21, co21, eo21⟩ := Kd.R_slice HO551.out; subst eo21) | ((with_reducible refine gate_callee (f := 5) rfl ?_); refine goesL_ (some 14) rfl rfl Tryd.func5 (by kernel_rfl) rfl #[.agg #[.slice Ao20 t546.length co20, .slice Ao21 t549.length co21]] rfl (by (try simp only [zE,zF,zG]); first|done|rfl|(simp only [zH,zI]; rfl)) ?_; (with_reducible refine (spec_TurnLine.calls k _ _ t546 _ _ t549 t552 _ ?side1 ?side2 ?side3 ?side4 A8.out).mono ?_); (case side1 => exact cX (Kd.R_reads' HO548.out).2.2); (case side2 => exact (Kd.R_reads' HO548.out).2.1); (case side3 => exact cX (Kd.R_reads' HO551.out).2.2); (case side4 => exact (Kd.R_reads' HO551.out).2.1); rintro e w22 ⟨rfl, hb⟩; refine ⟨_, rfl, ?_⟩; have n0_ := Aside0.mk (Kd.R_below (rX HO548.out) hb); have n1_ := Aside0.mk (Kd.R_below (rX HO551.out) hb); have n2_ := Aside0.mk (blk_below (g := gb544) (o := .cells #[.slice A0_0 l0_0.length c0_0, .slice A0_1 l0_1.length c0_1] 24 (0, 0)) (kX BK544.out) hb); have n3_ := Aside0.mk (below_step (bX1 HB.out GE544.out) hb); clear HO548; clear HO551; clear BK544; clear HB; have HO548 := n0_; have HO551 := n1_; have BK544 := n2_; have HB := n3_; clear n0_ n1_ n2_ n3_; (try clear hb); (try clear hb2); (try clear hk); (try clear hi); have hcz23_0 : w22.cell? ⟨gb544, 0, none⟩ = some (.slice A0_0 l0_0.length c0_0) := (blk_cell BK544.out 0).trans rfl; have hcz23_1 : w22.cell? ⟨gb544, 1, none⟩ = some (.slice A0_1 l0_1.length c0_1) := (blk_cell BK544.out 1).trans rfl; have hfz23_0 := blk_frozen BK544.out 0; have hfz23_1 := blk_frozen BK544.out 1) | ((with_reducible refine gate_callee (f := 6) rfl ?_); refine goesL_ (some 16) rfl rfl Tryd.func6 (by kernel_rfl) rfl #[.agg #[.slice A0_0 l0_0.length c0_0, .slice A0_1 l0_1.length c0_1]] rfl (by (try simp only [zE,zF,zG]); first|done|rfl|(simp only [zH,zI]; rfl)) ?_; (with_reducible refine (laws_toSurface.calls k _ _ l0_0 _ _ l0_1 t553 t556 _ ?side1 ?side2 ?side3 ?side4 A9.out).mono ?_); (case side1 => repeat (first | exact (Kd.C_below HR0_0.out HB.out) | (with_reducible refine Kd.C_alloc ?_ _) | (with_reducible refine Kd.C_drewN ?_ _) | (with_reducible refine Kd.C_drew ?_))); (case side2 => exact HC0_0.out); (case side3 => repeat (first | exact (Kd.C_below HR0_1.out HB.out) | (with_reducible refine Kd.C_alloc ?_ _) | (with_reducible refine Kd.C_drewN ?_ _) | (with_reducible refine Kd.C_drew ?_))); (case side4 => exact HC0_1.out); rintro e w24 ⟨v554, v557, rfl, ho0, ho1, hb⟩; refine ⟨_, rfl, ?_⟩; have n0_ := Aside0.mk (Kd.R_mono (Kd.R_told (Kd.R_told (Kd.R_old (rX HO548.out) hb) (Kd.R_base ho0)) (Kd.R_base ho1)) (fun _ h_ => h_.1)); have n1_ := Aside0.mk (Kd.R_mono (Kd.R_told (Kd.R_told (Kd.R_old (rX HO551.out) hb) (Kd.R_base ho0)) (Kd.R_base ho1)) (fun _ h_ => h_.1)); have n2_ := Aside0.mk (Kd.R_lower (Kd.R_new' (Kd.R_new' ho0 (Kd.R_lt (rX HO548.out))) (Kd.R_lt (rX HO551.out))) (below_size (bX1 HB.out GE544.out))); have n3_ := Aside0.mk (Kd.R_lower (Kd.R_new' (Kd.R_new' ho1 (Kd.R_lt (rX HO548.out))) (Kd.R_lt (rX HO551.out))) (below_size (bX1 HB.out GE544.out))); have n4_ := Aside0.mk (blk_below (g := gb544) (o := .cells #[.slice A0_0 l0_0.length c0_0, .slice A0_1 l0_1.length c0_1] 24 (0, 0)) (kX BK544.out) hb); have n5_ := Aside0.mk (below_step (bX1 HB.out GE544.out) hb); clear HO548; clear HO551; clear BK544; clear HB; have HO548 := n0_; have HO551 := n1_; have HO555 := n2_; have HO558 := n3_; have BK544 := n4_; have HB := n5_; clear n0_ n1_ n2_ n3_ n4_ n5_; (try clear hb); (try clear hb2); (try clear hk); (try clear hi); (try clear ho0); (try clear ho1)) | ((with_reducible refine gate_dst (N := 5) rfl ?_); refine box_event ?hg (N := 5) ?hd (cs := #[.slice none 0 0, .slice none 0 0]) (t := 27) ?hr ?_; (case hd => rfl); (case hg => rfl); (case hr => first | (go_simp; done) | (go_simp; rfl)); intro gb559 hg w25 hbox hb; have n0_ := Aside0.mk (Kd.R_below (rX HO548.out) hb); have n1_ := Aside0.mk (Kd.R_below (rX HO551.out) hb); have n2_ := Aside0.mk (Kd.R_below (rX HO555.out) hb); have n3_ := Aside0.mk (Kd.R_below (rX HO558.out) hb); have n4_ := Aside0.mk (blk_below (g := gb544) (o := .cells #[.slice A0_0 l0_0.length c0_0, .slice A0_1 l0_1.length c0_1] 24 (0, 0)) (kX BK544.out) hb); have n5_ := Aside0.mk (below_step (bX1 HB.out GE544.out) hb); have n6_ := Aside0.mk (hbox); have n7_ := Aside0.mk ((by rw [hg]; exact (below_size (bX1 HB.out GE544.out)) : w.heap.size ≤ gb559)); have n8_ := Aside0.mk ((by rw [hg]; exact (below_size (bX1 HB.out GE544.out)) : w.heap.size ≤ gb559)); have n9_ := Aside0.mk ((by rw [hg]; exact Nat.ne_of_lt (blk_lt (g := gb544) (o := .cells #[.slice A0_0 l0_0.length c0_0, .slice A0_1 l0_1.length c0_1] 24 (0, 0)) (kX BK544.out)) : gb544 ≠ gb559)); have n10_ := Aside0.mk ((by rw [hg]; exact Nat.ne_of_gt (blk_lt (g := gb544) (o := .cells #[.slice A0_0 l0_0.length c0_0, .slice A0_1 l0_1.length c0_1] 24 (0, 0)) (kX BK544.out)) : gb559 ≠ gb544)); clear HO548; clear HO551; clear HO555; clear HO558; clear BK544; clear HB; have HO548 := n0_; have HO551 := n1_; have HO555 := n2_; have HO558 := n3_; have BK544 := n4_; have HB := n5_; have BK559 := n6_; have GW559 := n7_; have GE559 := n8_; have NB544_559 := n9_; have NB559_544 := n10_; clear n0_ n1_ n2_ n3_ n4_ n5_ n6_ n7_ n8_ n9_ n10_; clear hb hbox hg; obtain ⟨Ao26, co26, eo26⟩ := Kd.R_slice HO555.out; subst eo26; have hnb27 := NB559_544.out; have hnc27 := NB544_559.out; have hcz28_0 : w25.cell? ⟨gb559, 0, none⟩ = some (.slice none 0 0) := (blk_cell BK559.out 0).trans rfl; have hcz28_1 : w25.cell? ⟨gb559, 1, none⟩ = some (.slice none 0 0) := (blk_cell BK559.out 1).trans rfl; have hfz28_0 := blk_frozen BK559.out 0; have hfz28_1 := blk_frozen BK559.out 1; obtain ⟨Ao29, co29, eo29⟩ := Kd.R_slice HO558.out; subst eo29) | ((with_reducible refine gate_callee (f := 7) rfl ?_); refine goesL_ (some 18) rfl rfl Tryd.func7 (by kernel_rfl) rfl #[.agg #[.slice Ao26 t553.length co26, .slice Ao29 t556.length co29]] rfl (by (try simp only [zE,zF,zG]); first|done|rfl|(simp only [zH,zI]; rfl)) ?_; (with_reducible refine (impl_TurnLine.calls k _ _ t553 _ _ t556 t560 _ ?side1 ?side2 ?side3 ?side4 ?side5 A10.out).mono ?_); (case side1 => refine (Kd.R_reads' (e := 3) (base := w.heap.size) (ok := fun k_ => ((some k_ ≠ (.slice Ao29 t556.length co29 : Value).ownBlock ∧ some k_ ≠ (.slice Ao20 t546.length co20 : Value).ownBlock) ∧ some k_ ≠ (.slice Ao21 t549.length co21 : Value).ownBlock)) (n := t553.length) (c := co26) ?_).2.2; exact (by (with_reducible repeat (first|apply rA|apply rN|apply rD)); exact (Kd.R_mono (Kd.R_far (p := ⟨gb559, 1, none⟩) (Kd.R_far (p := ⟨gb559, 0, none⟩) (Kd.R_types HO555.out BK559.out (by decide)) (fun _ hk => hk.2) (.slice Ao26 t553.length co26)) (fun _ hk => hk.2) (.slice Ao29 t556.length co29)) (fun _ h_ => h_.1)))); (case side2 => exact (Kd.R_reads' HO555.out).2.1); (case side3 => refine (Kd.R_reads' (e := 3) (base := w.heap.size) (ok := fun k_ => ((some k_ ≠ (.slice Ao26 t553.length co26 : Value).ownBlock ∧ some k_ ≠ (.slice Ao20 t546.length co20 : Value).ownBlock) ∧ some k_ ≠ (.slice Ao21 t549.length co21 : Value).ownBlock)) (n := t556.length) (c := co29) ?_).2.2; exact (by (with_reducible repeat (first|apply rA|apply rN|apply rD)); exact (Kd.R_mono (Kd.R_far (p := ⟨gb559, 1, none⟩) (Kd.R_far (p := ⟨gb559, 0, none⟩) (Kd.R_types HO558.out BK559.out (by decide)) (fun _ hk => hk.2) (.slice Ao26 t553.length co26)) (fun _ hk => hk.2) (.slice Ao29 t556.length co29)) (fun _ h_ => h_.1)))); (case side4 => exact (Kd.R_reads' HO558.out).2.1); (case side5 => exact PowTab.below HTAB.out (bX2 HB.out GE544.out GE559.out)); rintro e w30 ⟨rfl, hb⟩; refine ⟨_, rfl, ?_⟩; have n0_ := Aside0.mk (Kd.R_below (by (with_reducible repeat (first|apply rA|apply rN|apply rD)); exact (Kd.R_mono (Kd.R_far (p := ⟨gb559, 1, none⟩) (Kd.R_far (p := ⟨gb559, 0, none⟩) (Kd.R_types HO548.out BK559.out (by decide)) (fun _ hk => hk.2) (.slice Ao26 t553.length co26)) (fun _ hk => hk.2) (.slice Ao29 t556.length co29)) (fun _ h_ => h_.1))) hb); have n1_ := Aside0.mk (Kd.R_below (by (with_reducible repeat (first|apply rA|apply rN|apply rD)); exact (Kd.R_mono (Kd.R_far (p := ⟨gb559, 1, none⟩) (Kd.R_far (p := ⟨gb559, 0, none⟩) (Kd.R_types HO551.out BK559.out (by decide)) (fun _ hk => hk.2) (.slice Ao26 t553.length co26)) (fun _ hk => hk.2) (.slice Ao29 t556.length co29)) (fun _ h_ => h_.1))) hb); have n2_ := Aside0.mk (Kd.R_below (by (with_reducible repeat (first|apply rA|apply rN|apply rD)); exact (Kd.R_mono (Kd.R_far (p := ⟨gb559, 1, none⟩) (Kd.R_far (p := ⟨gb559, 0, none⟩) (Kd.R_types HO555.out BK559.out (by decide)) (fun _ hk => hk.2) (.slice Ao26 t553.length co26)) (fun _ hk => hk.2) (.slice Ao29 t556.length co29)) (fun _ h_ => h_.1))) hb); have n3_ := Aside0.mk (Kd.R_below (by (with_reducible repeat (first|apply rA|apply rN|apply rD)); exact (Kd.R_mono (Kd.R_far (p := ⟨gb559, 1, none⟩) (Kd.R_far (p := ⟨gb559, 0, none⟩) (Kd.R_types HO558.out BK559.out (by decide)) (fun _ hk => hk.2) (.slice Ao26 t553.length co26)) (fun _ hk => hk.2) (.slice Ao29 t556.length co29)) (fun _ h_ => h_.1))) hb); have n4_ := Aside0.mk (blk_below (g := gb544) (o := .cells #[.slice A0_0 l0_0.length c0_0, .slice A0_1 l0_1.length c0_1] 24 (0, 0)) (by (with_reducible repeat (first|refine kN ?_ _|refine kD ?_|refine kA ?_ _)); refine blk_far ?_ NB544_559.out _; (with_reducible repeat (first|refine kN ?_ _|refine kD ?_|refine kA ?_ _)); refine blk_far ?_ NB544_559.out _; (with_reducible repeat (first|refine kN ?_ _|refine kD ?_|refine kA ?_ _)); exact BK544.out) hb); have n5_ := Aside0.mk (blk_below (g := gb559) (o := .cells #[.slice Ao26 t553.length co26, .slice Ao29 t556.length co29] 27 (0, 0)) (by (with_reducible repeat (first|refine kN ?_ _|refine kD ?_|refine kA ?_ _)); refine blk_put (cs := #[.slice Ao26 t553.length co26, .slice none 0 0]) ?_ 1 _ rfl; (with_reducible repeat (first|refine kN ?_ _|refine kD ?_|refine kA ?_ _)); refine blk_put (cs := #[.slice none 0 0, .slice none 0 0]) ?_ 0 _ rfl; (with_reducible repeat (first|refine kN ?_ _|refine kD ?_|refine kA ?_ _)); exact BK559.out) hb); have n6_ := Aside0.mk (below_step (bX2 HB.out GE544.out GE559.out) hb); clear HO548; clear HO551; clear HO555; clear HO558; clear BK544; clear BK559; clear HB; have HO548 := n0_; have HO551 := n1_; have HO555 := n2_; have HO558 := n3_; have BK544 := n4_; have BK559 := n5_; have HB := n6_; clear n0_ n1_ n2_ n3_ n4_ n5_ n6_; (try clear hb); (try clear hb2); (try clear hk); (try clear hi)))
    have n0_ := Aside0.mk (Kd.R_drew HO548.out)
    have n1_ := Aside0.mk (Kd.R_drew HO551.out)
    have n2_ := Aside0.mk (Kd.R_drew HO555.out)
    have n3_ := Aside0.mk (Kd.R_drew HO558.out)
    have n4_ := Aside0.mk (blk_drew BK544.out)
    have n5_ := Aside0.mk (blk_drew BK559.out)
    have n6_ := Aside0.mk (below_drew1 HB.out)
    clear HO548
    clear HO551
    clear HO555
    clear HO558
    clear BK544
    clear BK559
    clear HB
    have HO548 := n0_
    have HO551 := n1_
    have HO555 := n2_
    have HO558 := n3_
    have BK544 := n4_
    have BK559 := n5_
    have HB := n6_
    clear n0_ n1_ n2_ n3_ n4_ n5_ n6_
    refine start_ (n := 5) (S := fun w' => w'.cell? ⟨gb559, 0, none⟩ = some (.slice Ao26 t553.length co26) ∧ w'.cell? ⟨gb559, 1, none⟩ = some (.slice Ao29 t556.length co29) ∧ w'.cell? ⟨gb544, 0, none⟩ = some (.slice A0_0 l0_0.length c0_0) ∧ w'.cell? ⟨gb544, 1, none⟩ = some (.slice A0_1 l0_1.length c0_1)) (ds := []) #[false, false, false, false, false] (by kernel_rfl) rfl rfl ⟨(blk_cell BK559.out 0).trans rfl, (blk_cell BK559.out 1).trans rfl, (blk_cell BK544.out 0).trans rfl, (blk_cell BK544.out 1).trans rfl⟩ (fun hHeld => ?_)
    generalize w30.drew = w31 at HO548 HO551 HO555 HO558 BK544 BK559 HB hHeld ⊢
    refine take_ (i := 0) (N := some 22) (v := ?_) (a' := ?_) #[true, false, false, false, false] rfl rfl (by kernel_rfl) (fun _ _ _ h => h) (Or.inl ⟨by rfl, ?_⟩) hHeld ?_ ?_
    rotate_left
    ·rintro w' ⟨s0, s1, s2, s3⟩
     go_simp
     with_reducible rfl
    rotate_left
    ·simp only [Act.put, zA, zB, zC, i64_w, i32_w]
     rfl
    refine take_ (i := 1) (N := some 23) (v := ?_) (a' := ?_) #[true, true, false, false, false] rfl rfl (by kernel_rfl) (fun _ _ _ h => h) (Or.inl ⟨by rfl, ?_⟩) hHeld ?_ ?_
    rotate_left
    ·rintro w' ⟨s0, s1, s2, s3⟩
     go_simp
     with_reducible rfl
    rotate_left
    ·simp only [Act.put, zA, zB, zC, i64_w, i32_w]
     rfl
    refine one_ (i := 2) (N := some 24) #[true, true, true, false, false] rfl rfl (by kernel_rfl) (by decide) (fun K hK => ?_)
    refine goes_ Tryd.func6 (by kernel_rfl) rfl #[.agg #[.slice A0_0 l0_0.length c0_0, .slice A0_1 l0_1.length c0_1]] (by rfl) rfl rfl (by (try simp only [zE,zF,zG]); first|done|rfl|(simp only [zH,zI]; rfl)) ?_
    with_reducible refine (laws_toSurface.calls k _ _ l0_0 _ _ l0_1 t561 t564 _ ?side1 ?side2 ?side3 ?side4 A12.out).mono ?_
    (case side1 => repeat (first | exact (Kd.C_below HR0_0.out HB.out) | (with_reducible refine Kd.C_alloc ?_ _) | (with_reducible refine Kd.C_drewN ?_ _) | (with_reducible refine Kd.C_drew ?_)))
    (case side2 => exact HC0_0.out)
    (case side3 => repeat (first | exact (Kd.C_below HR0_1.out HB.out) | (with_reducible refine Kd.C_alloc ?_ _) | (with_reducible refine Kd.C_drewN ?_ _) | (with_reducible refine Kd.C_drew ?_)))
    (case side4 => exact HC0_1.out)
    rintro e w32 ⟨v562, v565, rfl, ho0, ho1, hb⟩
    refine ⟨_, rfl, ?_⟩
    have n0_ := Aside0.mk (Kd.R_mono (Kd.R_told (Kd.R_told (Kd.R_old (rX HO548.out) hb) (Kd.R_base ho0)) (Kd.R_base ho1)) (fun _ h_ => h_.1))
    have n1_ := Aside0.mk (Kd.R_mono (Kd.R_told (Kd.R_told (Kd.R_old (rX HO551.out) hb) (Kd.R_base ho0)) (Kd.R_base ho1)) (fun _ h_ => h_.1))
    have n2_ := Aside0.mk (Kd.R_mono (Kd.R_told (Kd.R_told (Kd.R_old (rX HO555.out) hb) (Kd.R_base ho0)) (Kd.R_base ho1)) (fun _ h_ => h_.1))
    have n3_ := Aside0.mk (Kd.R_mono (Kd.R_told (Kd.R_told (Kd.R_old (rX HO558.out) hb) (Kd.R_base ho0)) (Kd.R_base ho1)) (fun _ h_ => h_.1))
    have n4_ := Aside0.mk (Kd.R_lower (Kd.R_new' (Kd.R_new' (Kd.R_new' (Kd.R_new' ho0 (Kd.R_lt (rX HO548.out))) (Kd.R_lt (rX HO551.out))) (Kd.R_lt (rX HO555.out))) (Kd.R_lt (rX HO558.out))) (below_size (bX2 HB.out GE544.out GE559.out)))
    have n5_ := Aside0.mk (Kd.R_lower (Kd.R_new' (Kd.R_new' (Kd.R_new' (Kd.R_new' ho1 (Kd.R_lt (rX HO548.out))) (Kd.R_lt (rX HO551.out))) (Kd.R_lt (rX HO555.out))) (Kd.R_lt (rX HO558.out))) (below_size (bX2 HB.out GE544.out GE559.out)))
    have n6_ := Aside0.mk (blk_below (g := gb544) (o := .cells #[.slice A0_0 l0_0.length c0_0, .slice A0_1 l0_1.length c0_1] 24 (0, 0)) (kX BK544.out) hb)
    have n7_ := Aside0.mk (blk_below (g := gb559) (o := .cells #[.slice Ao26 t553.length co26, .slice Ao29 t556.length co29] 27 (0, 0)) (kX BK559.out) hb)
    have n8_ := Aside0.mk (below_step (bX2 HB.out GE544.out GE559.out) hb)
    clear HO548
    clear HO551
    clear HO555
    clear HO558
    clear BK544
    clear BK559
    clear HB
    have HO548 := n0_
    have HO551 := n1_
    have HO555 := n2_
    have HO558 := n3_
    have HO563 := n4_
    have HO566 := n5_
    have BK544 := n6_
    have BK559 := n7_
    have HB := n8_
    clear n0_ n1_ n2_ n3_ n4_ n5_ n6_ n7_ n8_
    (try clear hb)
    (try clear hb2)
    (try clear hk)
    (try clear hi)
    (try clear ho0)
    (try clear ho1)
    obtain ⟨Ao33, co33, eo33⟩ := Kd.R_slice HO563.out
    (first | subst eo33 | (injection eo33 with f1_ f2_ f3_; have f4_ := f1_.symm; have f5_ := f3_.symm; clear f1_ f2_ f3_; subst f4_; subst f5_))
    obtain ⟨Ao34, co34, eo34⟩ := Kd.R_slice HO566.out
    (first | subst eo34 | (injection eo34 with f1_ f2_ f3_; have f4_ := f1_.symm; have f5_ := f3_.symm; clear f1_ f2_ f3_; subst f4_; subst f5_))
    refine hK.out _ _ ⟨(blk_cell BK559.out 0).trans rfl, (blk_cell BK559.out 1).trans rfl, (blk_cell BK544.out 0).trans rfl, (blk_cell BK544.out 1).trans rfl⟩ (fun hHeld => ?_)
    clear hK K
    refine norm_ (a' := ?_) ?_ ?_
    rotate_left
    ·show Act.put _ (some 24) _ = _
     simp only [Act.put, zA, zB, zC, i64_w, i32_w]
     rfl
    refine one_ (i := 3) (N := some 25) #[true, true, true, true, false] rfl rfl (by kernel_rfl) (by decide) (fun K hK => ?_)
    refine goes_ Tryd.func8 (by kernel_rfl) rfl #[.agg #[.slice Ao26 t553.length co26, .slice Ao29 t556.length co29], .agg #[.slice Ao33 t561.length co33, .slice Ao34 t564.length co34]] (by rfl) rfl rfl (by (try simp only [zE,zF,zG]); first|done|rfl|(simp only [zH,zI]; rfl)) ?_
    with_reducible refine (laws_eqSurface.calls k _ _ t553 _ _ t556 _ _ t561 _ _ t564 true _ ?side1 ?side2 ?side3 ?side4 ?side5 ?side6 ?side7 ?side8 A13.out).mono ?_
    (case side1 => exact cX (Kd.R_reads' HO555.out).2.2)
    (case side2 => exact (Kd.R_reads' HO555.out).2.1)
    (case side3 => exact cX (Kd.R_reads' HO558.out).2.2)
    (case side4 => exact (Kd.R_reads' HO558.out).2.1)
    (case side5 => exact cX (Kd.R_reads' HO563.out).2.2)
    (case side6 => exact (Kd.R_reads' HO563.out).2.1)
    (case side7 => exact cX (Kd.R_reads' HO566.out).2.2)
    (case side8 => exact (Kd.R_reads' HO566.out).2.1)
    rintro e w35 ⟨rfl, hb⟩
    refine ⟨_, rfl, ?_⟩
    have n0_ := Aside0.mk (Kd.R_below (rX HO548.out) hb)
    have n1_ := Aside0.mk (Kd.R_below (rX HO551.out) hb)
    have n2_ := Aside0.mk (Kd.R_below (rX HO555.out) hb)
    have n3_ := Aside0.mk (Kd.R_below (rX HO558.out) hb)
    have n4_ := Aside0.mk (Kd.R_below (rX HO563.out) hb)
    have n5_ := Aside0.mk (Kd.R_below (rX HO566.out) hb)
    have n6_ := Aside0.mk (blk_below (g := gb544) (o := .cells #[.slice A0_0 l0_0.length c0_0, .slice A0_1 l0_1.length c0_1] 24 (0, 0)) (kX BK544.out) hb)
    have n7_ := Aside0.mk (blk_below (g := gb559) (o := .cells #[.slice Ao26 t553.length co26, .slice Ao29 t556.length co29] 27 (0, 0)) (kX BK559.out) hb)
    have n8_ := Aside0.mk (below_step (bX2 HB.out GE544.out GE559.out) hb)
    clear HO548
    clear HO551
    clear HO555
    clear HO558
    clear HO563
    clear HO566
    clear BK544
    clear BK559
    clear HB
    have HO548 := n0_
    have HO551 := n1_
    have HO555 := n2_
    have HO558 := n3_
    have HO563 := n4_
    have HO566 := n5_
    have BK544 := n6_
    have BK559 := n7_
    have HB := n8_
    clear n0_ n1_ n2_ n3_ n4_ n5_ n6_ n7_ n8_
    (try clear hb)
    (try clear hb2)
    (try clear hk)
    (try clear hi)
    refine hK.out _ _ ⟨(blk_cell BK559.out 0).trans rfl, (blk_cell BK559.out 1).trans rfl, (blk_cell BK544.out 0).trans rfl, (blk_cell BK544.out 1).trans rfl⟩ (fun hHeld => ?_)
    clear hK K
    refine norm_ (a' := ?_) ?_ ?_
    rotate_left
    ·show Act.put _ (some 25) _ = _
     simp only [Act.put, zA, zB, zC, i64_w, i32_w]
     rfl
    refine pure_ (i := 4) (N := some 26) (v := ?_) (a' := ?_) #[true, true, true, true, true] rfl rfl (by kernel_rfl) (fun _ _ _ h => h) (Or.inl ⟨by rfl, ?_⟩) ?_ ?_
    rotate_left
    ·intro w'
     go_simp
     with_reducible rfl
    rotate_left
    ·simp only [Act.put, zA, zB, zC, i64_w, i32_w]
     rfl
    refine done_ (by kernel_rfl) ?_
    try go_wp2
    go_ret
    exact ⟨eX, bX2 HB.out GE544.out GE559.out⟩
   ·replace c14 := Bool.eq_false_iff.mpr c14
    subst c14
    have H1 : (some false) = some r := by rw [if_neg (show ¬ (false = true) by decide)] at H; exact H
    clear H
    have H := H1
    clear H1
    exact absurd ((Option.some.inj H).trans HRT.out) (by decide)
  ·rw [if_neg c11] at H
   have c11b0 : (t560.toList == t552.toList) = false := beq_eq_false_iff_ne.mpr c11
   have c11b1 : (t560.toList != t552.toList) = true := bne_iff_ne.mpr c11
   exact absurd ((Option.some.inj H).trans HRT.out) (by decide)

end Go.Proofs.YtfomhkfgdggngaaDoor.S
