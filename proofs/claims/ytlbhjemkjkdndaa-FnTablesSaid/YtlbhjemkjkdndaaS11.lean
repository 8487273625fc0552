-- PRINTED by print.py (a twelfth state) out of the translation. Not trusted: Lean checks it.
import Derived.Test.YtlbhjemkjkdndaaS0
import Derived.Test.YtlbhjemkjkdndaaS4
import Derived.Test.YtlbhjemkjkdndaaS5
import Derived.Test.YtlbhjemkjkdndaaS6
import Derived.Test.YtlbhjemkjkdndaaS9
import Derived.Test.YtlbhjemkjkdndaaS10
namespace Go.Proofs.Ytlbhjemkjkdndaa.S
open Go.RowKit Go.Proofs.YtlbhjemkjkdndaaW.PrintWords Go.Proofs.YtlbhjemkjkdndaaW.PrintLast Go.Proofs.YtlbhjemkjkdndaaW.PrintMore
attribute [local go_sem] max2_int min2_int max_two min_two max_three min_three max_four min_four   -- for this text's walks alone
set_option linter.unusedVariables false
set_option linter.unusedSimpArgs false

/-! ### laws_FnTables: function 3 -/
mutual
def laws_FnTables.j0 : Nat → List (S41) → List Int → Bool → List Int → List Int → Option (Bool)
 | 0, _, _, _, _, _ => none
 | k + 1, x3, x6, x52, x606000, x606001 => if x52 = true then (some false) else (laws_FnTables.l0 k x3 x6 (([] : List Int)) 0 x606000 x606001)
def laws_FnTables.l0 : Nat → List (S41) → List Int → List Int → Int → List Int → List Int → Option (Bool)
 | 0, _, _, _, _, _, _ => none
 | k + 1, x3, x6, x7, x8, x606000, x606001 => if x8 < (wrap64 (4 * (x3.length : Int))) then (if x7.length < 17592186044416 then (laws_FnTables.l0 k x3 x6 (x7 ++ [wrap64 ((wrap64 ((wrap64 ((wrap64 (Int.tdiv x8 4)) * 4)) + 3)) - (Int.tmod x8 4))]) (wrap64 (x8 + 1)) x606000 x606001) else (none)) else (laws_FnTables.l1 k x3 x7 (([] : List Int)) x6 (x6.length : Int) 0 x606000 x606001)
def laws_FnTables.l1 : Nat → List (S41) → List Int → List Int → List Int → Int → Int → List Int → List Int → Option (Bool)
 | 0, _, _, _, _, _, _, _, _ => none
 | k + 1, x3, x7, x9, x72, x73, x74, x606000, x606001 => if x74 < x73 then (if 0 ≤ x74 then (if x74 < (x72.length : Int) then (if (rd x72 x74) = 3 then (if x9.length < 17592186044416 then (laws_FnTables.l1 k x3 x7 (x9 ++ [2]) x72 x73 (wrap64 (x74 + 1)) x606000 x606001) else (none)) else (laws_FnTables.l1 k x3 x7 x9 x72 x73 (wrap64 (x74 + 1)) x606000 x606001)) else (none)) else (none)) else ((i_CountWalls.f k x3).bind fun t626 => ((i_IsTurn.f k x606000 x606001 x7).bind fun t627 => (if t627 = true then ((i_StratumOf.f k x606000 x606001).bind fun t628 => ((laws_same.f k t628 x9).bind fun t631 => (if t631 = true then (if t626 ≥ 4 then (if t626 ≤ (wrap64 ((wrap64 (2 * (x3.length : Int))) + 2)) then (if 0 < (x3.length : Int) then ((i_CellAt.f k x3 ((rd_T41 x3 0).f0) ((rd_T41 x3 0).f1)).bind fun t634 => (some (t634 == 0))) else (none)) else (some false)) else (some false)) else (some false)))) else (some false))))
end
def laws_FnTables.f (k : Nat) (l0 : List Int) : Option (Bool) := if (l0.length : Int) > 1048576 then (some true) else ((s_MakeTable.f k l0).bind fun t595 => ((i_UnfoldTable.f k t595).bind fun bt598 => ((i_AnglesAt.f k t595).bind fun t606 => (if bt598.2.2 = true then ((i_TableOk.f k t595).bind fun t609 => (if t609 = true then ((i_CountSquares.f k bt598.1 bt598.2.1).bind fun t610 => (if t610 = (wrap64 (4 * (t595.length : Int))) then ((laws_total.f k t606).bind fun t611 => (if t611 = (wrap64 (4 * (t595.length : Int))) then ((i_HasHalfTurn.f k bt598.1 bt598.2.1).bind fun t612 => (laws_FnTables.j0 k t595 t606 (!t612) bt598.1 bt598.2.1)) else (laws_FnTables.j0 k t595 t606 true bt598.1 bt598.2.1))) else (laws_FnTables.j0 k t595 t606 true bt598.1 bt598.2.1))) else (laws_FnTables.j0 k t595 t606 true bt598.1 bt598.2.1))) else (laws_FnTables.j0 k t595 t606 true bt598.1 bt598.2.1)))))
def laws_FnTables.T21 : Bool × List (List Nat × List Nat) := (true, [([], []), ([], []), ([0, 1], [0, 1]), ([2, 2], [2]), ([3], [3]), ([4, 3, 3], [3, 4]), ([3], [3]), ([5, 6, 5, 3], [3, 5, 6]), ([3, 7], [3, 7]), ([8, 7], [8]), ([9], [9]), ([10, 9], [9, 10]), ([9, 11], [9, 11]), ([12, 9], [12]), ([13], [13]), ([13], [13]), ([15, 13], [13, 15]), ([16, 13], [13, 16]), ([17, 13], [13, 17]), ([14, 18, 13], [13, 14, 18]), ([13, 19], [13, 19]), ([20, 13], [20]), ([21], [21]), ([21], [21]), ([23, 21], [21, 23]), ([24, 21], [21, 24]), ([25, 21], [21, 25]), ([21], [21]), ([27, 21], [21, 27]), ([28, 21], [21, 28]), ([29, 21], [21, 29]), ([22, 26, 30, 21, 21], [21, 22, 26, 30]), ([31, 21], [21, 31]), ([21, 32], [21, 32]), ([33, 31, 0, 1, 2, 3, 4, 5, 6, 7, 8, 9, 10, 11, 12, 13, 14, 15, 16, 17, 18, 19, 20, 21, 22, 23, 24, 25, 26, 27, 28, 29, 30, 31, 32, 33], [33])])
def laws_FnTables.B21 : List Nat := [0, 0, 3, 7, 15, 31, 15, 127, 255, 511, 1023, 2047, 4095, 8191, 16383, 16383, 49151, 114687, 245759, 524287, 1048575, 2097151, 4194303, 4194303, 12582911, 29360127, 62914559, 4194303, 138412031, 406847487, 943718399, 2147483647, 4294967295, 8589934591, 17179869183]
theorem laws_FnTables.tab21 : rtab .any (opsOf Try.f3 21) = laws_FnTables.T21 := by kernel_rfl
theorem laws_FnTables.bits21 : waitsOk laws_FnTables.T21.2 laws_FnTables.B21 = true := by kernel_rfl
set_option maxHeartbeats 8000000 in
set_option maxRecDepth 100000 in
theorem laws_FnTables.calls (k : Nat) (A0 : Option Addr) (c0 : Nat) (l0 : List Int) (r : Bool) (w : World) (hr0 : Kd.C (Kd.int .u8) w A0 l0.length l0) (hc0 : l0.length ≤ c0) (hrt_ : r = true) (h : laws_FnTables.f k l0 = some r) :
  Calls Try.prog 3 #[.slice A0 l0.length c0] w fun e w' => e = .returned (.bool r) ∧ Below w.heap.size w w' := by
 have hu27 := Try.underlying27
 have HR0 := aM hr0
 have HC0 := aM hc0
 clear hr0 hc0
 have HB := aM (Below.refl w.heap.size w)
 have H : (if (l0.length : Int) > 1048576 then (some true) else ((s_MakeTable.f k l0).bind fun t595 => ((i_UnfoldTable.f k t595).bind fun bt598 => ((i_AnglesAt.f k t595).bind fun t606 => (if bt598.2.2 = true then ((i_TableOk.f k t595).bind fun t609 => (if t609 = true then ((i_CountSquares.f k bt598.1 bt598.2.1).bind fun t610 => (if t610 = (wrap64 (4 * (t595.length : Int))) then ((laws_total.f k t606).bind fun t611 => (if t611 = (wrap64 (4 * (t595.length : Int))) then ((i_HasHalfTurn.f k bt598.1 bt598.2.1).bind fun t612 => (laws_FnTables.j0 k t595 t606 (!t612) bt598.1 bt598.2.1)) else (laws_FnTables.j0 k t595 t606 true bt598.1 bt598.2.1))) else (laws_FnTables.j0 k t595 t606 true bt598.1 bt598.2.1))) else (laws_FnTables.j0 k t595 t606 true bt598.1 bt598.2.1))) else (laws_FnTables.j0 k t595 t606 true bt598.1 bt598.2.1)))))) = some r := h
 clear h
 have HRT := aM hrt_
 clear hrt_
 by_cases c2 : (l0.length : Int) > 1048576
 {
 rw [if_pos c2] at H
 have c2b0 : decide (1048576 < (l0.length : Int)) = true := decide_eq_true c2
 have c2b1 : decide (1048576 < l0.length) = true := decide_eq_true (by omega)
 clear c2
 obtain rfl := Option.some.inj H
 go_enter Try.func3, Try.ntmps3
 go_wp2
 go_ret
 exact ⟨eX, bX HB.out⟩
 }
 {
 rw [if_neg c2] at H
 have c2b0 : decide (1048576 < (l0.length : Int)) = false := decide_eq_false c2
 have c2b1 : decide (1048576 < l0.length) = false := decide_eq_false (by omega)
 clear c2
 replace H := oB H
 obtain ⟨t595, A30, H⟩ := H
 replace H : ((i_UnfoldTable.f k t595).bind fun bt598 => ((i_AnglesAt.f k t595).bind fun t606 => (if bt598.2.2 = true then ((i_TableOk.f k t595).bind fun t609 => (if t609 = true then ((i_CountSquares.f k bt598.1 bt598.2.1).bind fun t610 => (if t610 = (wrap64 (4 * (t595.length : Int))) then ((laws_total.f k t606).bind fun t611 => (if t611 = (wrap64 (4 * (t595.length : Int))) then ((i_HasHalfTurn.f k bt598.1 bt598.2.1).bind fun t612 => (laws_FnTables.j0 k t595 t606 (!t612) bt598.1 bt598.2.1)) else (laws_FnTables.j0 k t595 t606 true bt598.1 bt598.2.1))) else (laws_FnTables.j0 k t595 t606 true bt598.1 bt598.2.1))) else (laws_FnTables.j0 k t595 t606 true bt598.1 bt598.2.1))) else (laws_FnTables.j0 k t595 t606 true bt598.1 bt598.2.1)))) = some r := H
 have A3 := aM A30
 clear A30
 replace H := oB H
 obtain ⟨⟨t598, t601, t604⟩, A40, H⟩ := H
 replace H : ((i_AnglesAt.f k t595).bind fun t606 => (if t604 = true then ((i_TableOk.f k t595).bind fun t609 => (if t609 = true then ((i_CountSquares.f k t598 t601).bind fun t610 => (if t610 = (wrap64 (4 * (t595.length : Int))) then ((laws_total.f k t606).bind fun t611 => (if t611 = (wrap64 (4 * (t595.length : Int))) then ((i_HasHalfTurn.f k t598 t601).bind fun t612 => (laws_FnTables.j0 k t595 t606 (!t612) t598 t601)) else (laws_FnTables.j0 k t595 t606 true t598 t601))) else (laws_FnTables.j0 k t595 t606 true t598 t601))) else (laws_FnTables.j0 k t595 t606 true t598 t601))) else (laws_FnTables.j0 k t595 t606 true t598 t601))) = some r := H
 have A4 := aM A40
 clear A40
 replace H := oB H
 obtain ⟨t606, A50, H⟩ := H
 replace H : (if t604 = true then ((i_TableOk.f k t595).bind fun t609 => (if t609 = true then ((i_CountSquares.f k t598 t601).bind fun t610 => (if t610 = (wrap64 (4 * (t595.length : Int))) then ((laws_total.f k t606).bind fun t611 => (if t611 = (wrap64 (4 * (t595.length : Int))) then ((i_HasHalfTurn.f k t598 t601).bind fun t612 => (laws_FnTables.j0 k t595 t606 (!t612) t598 t601)) else (laws_FnTables.j0 k t595 t606 true t598 t601))) else (laws_FnTables.j0 k t595 t606 true t598 t601))) else (laws_FnTables.j0 k t595 t606 true t598 t601))) else (laws_FnTables.j0 k t595 t606 true t598 t601)) = some r := H
 have A5 := aM A50
 clear A50
 have HC6 := aM H
 clear H
 go_enter Try.func3, Try.ntmps3
 go_upto_region 6 with (first | ((with_reducible refine gate_callee (f := 4) rfl ?_); refine goesL_ (some 17) rfl rfl Try.func4 (by kernel_rfl) rfl #[.slice A0 l0.length c0] rfl aX ?_; (with_reducible refine (s_MakeTable.calls k _ _ l0 t595 _ ?side1 ?side2 A3.out).mono ?_); (case side1 => exact cX HR0.out); (case side2 => exact HC0.out); rintro e w7 ⟨v596, rfl, ho0, hb⟩; refine ⟨_, rfl, ?_⟩; have HO597 := aM (Kd.R_lower ho0 (below_size (bX HB.out))); replace HB := aM (below_step (bX HB.out) hb); (try clear hb); (try clear hb2); (try clear hk); (try clear hi); (try clear ho0); obtain ⟨Ao8, co8, eo8⟩ := Kd.R_slice HO597.out; subst eo8) | ((with_reducible refine gate_callee (f := 5) rfl ?_); refine goesL_ (some 20) rfl rfl Try.func5 (by kernel_rfl) rfl #[.slice Ao8 t595.length co8] rfl aX ?_; (with_reducible refine (i_UnfoldTable.calls k _ _ t595 t598 t601 t604 _ ?side1 ?side2 A4.out).mono ?_); (case side1 => exact cX (Kd.R_reads' HO597.out).2.2); (case side2 => exact (Kd.R_reads' HO597.out).2.1); rintro e w9 ⟨v599, v602, rfl, ho0, ho1, hb⟩; refine ⟨_, rfl, ?_⟩; replace HO597 := aM (Kd.R_below (rX HO597.out) hb); have HO600 := aM (Kd.R_lower ho0 (below_size (bX HB.out))); have HO603 := aM (Kd.R_lower ho1 (below_size (bX HB.out))); replace HB := aM (below_step (bX HB.out) hb); (try clear hb); (try clear hb2); (try clear hk); (try clear hi); (try clear ho0); (try clear ho1)) | ((with_reducible refine gate_dst (N := 4) rfl ?_); (try (refine gate_guard (by rfl) ?_; dsimp only)); refine bEv (cs := #[.slice none 0 0, .slice none 0 0]) (t := 27) ?_; intro gb605 hg w10 hbox hb; replace HO597 := aM (Kd.R_below (rX HO597.out) hb); replace HO600 := aM (Kd.R_below (rX HO600.out) hb); replace HO603 := aM (Kd.R_below (rX HO603.out) hb); have BK605 := aM (hbox); have GW605 := aM ((szX (below_size (bX HB.out)) hg : w.heap.size ≤ gb605)); have GE605 := aM ((szX (below_size (bX HB.out)) hg : w.heap.size ≤ gb605)); replace HB := aM (below_step (bX HB.out) hb); clear hb hbox hg; obtain ⟨Ao11, co11, eo11⟩ := Kd.R_slice HO600.out; subst eo11; have hcz12_0 := cz20 BK605.out; have hcz12_1 := cz21 BK605.out; have hfz12_0 := blk_frozen BK605.out 0; have hfz12_1 := blk_frozen BK605.out 1; obtain ⟨Ao13, co13, eo13⟩ := Kd.R_slice HO603.out; subst eo13) | ((with_reducible refine gate_callee (f := 6) rfl ?_); refine goesL_ (some 24) rfl rfl Try.func6 (by kernel_rfl) rfl #[.slice Ao8 t595.length co8] rfl aX ?_; (with_reducible refine (i_AnglesAt.calls k _ _ t595 t606 _ ?side1 ?side2 A5.out).mono ?_); (case side1 => exact rcX (fr2 HO597.out BK605.out (.slice Ao11 t598.length co11) (.slice Ao13 t601.length co13))); (case side2 => exact (Kd.R_reads' HO597.out).2.1); rintro e w14 ⟨v607, rfl, ho0, hb⟩; refine ⟨_, rfl, ?_⟩; replace HO597 := aM (Kd.R_below (rX (fr2 HO597.out BK605.out (.slice Ao11 t598.length co11) (.slice Ao13 t601.length co13))) hb); have HO608 := aM (Kd.R_lower (Kd.R_new' (Kd.R_new' ho0 (Kd.R_lt (rX (fr2 HO600.out BK605.out (.slice Ao11 t598.length co11) (.slice Ao13 t601.length co13))))) (Kd.R_lt (rX (fr2 HO603.out BK605.out (.slice Ao11 t598.length co11) (.slice Ao13 t601.length co13))))) (below_size (bX1 HB.out GE605.out))); replace HO600 := aM (Kd.R_elder' (rX (fr2 HO600.out BK605.out (.slice Ao11 t598.length co11) (.slice Ao13 t601.length co13))) (Kd.R_base ho0) hb); replace HO603 := aM (Kd.R_elder' (rX (fr2 HO603.out BK605.out (.slice Ao11 t598.length co11) (.slice Ao13 t601.length co13))) (Kd.R_base ho0) hb); replace BK605 := aM (blk_below (g := gb605) (o := .cells #[.slice Ao11 t598.length co11, .slice Ao13 t601.length co13] 27 (0, 0)) (by (with_reducible repeat (first|refine kN ?_ _|refine kD ?_|refine kA ?_ _)); refine blk_put (cs := #[.slice Ao11 t598.length co11, .slice none 0 0]) ?_ 1 _ rfl; (with_reducible repeat (first|refine kN ?_ _|refine kD ?_|refine kA ?_ _)); refine blk_put (cs := #[.slice none 0 0, .slice none 0 0]) ?_ 0 _ rfl; (with_reducible repeat (first|refine kN ?_ _|refine kD ?_|refine kA ?_ _)); exact BK605.out) hb); replace HB := aM (below_step (bX1 HB.out GE605.out) hb); (try clear hb); (try clear hb2); (try clear hk); (try clear hi); (try clear ho0)))
 (try simp only [Act.put, List.setIfInBounds_toArray, List.set_cons_zero, List.set_cons_succ])
 go_cut [52] (fun v52 wc => ∃ (kq : Nat) (x52_5 : Bool), v52 = .bool x52_5 ∧ Aside0 (laws_FnTables.j0 kq t595 t606 x52_5 t598 t601 = some r) ∧ Aside0 (kq ≤ k) ∧ Aside0 (Kd.R k41 41 wc w.heap.size (fun _ => True) (.slice Ao8 t595.length co8) t595) ∧ Aside0 (Kd.R (Kd.int .i64) 3 wc w.heap.size (fun k_ => some k_ ≠ ((.slice Ao11 t598.length co11) : Value).ownBlock ∧ some k_ ≠ ((.slice Ao13 t601.length co13) : Value).ownBlock) v607 t606) ∧ Aside0 (Kd.R (Kd.int .i64) 3 wc w.heap.size (fun k_ => some k_ ≠ (v607 : Value).ownBlock ∧ some k_ ≠ ((.slice Ao13 t601.length co13) : Value).ownBlock) (.slice Ao11 t598.length co11) t598) ∧ Aside0 (Kd.R (Kd.int .i64) 3 wc w.heap.size (fun k_ => some k_ ≠ (v607 : Value).ownBlock ∧ some k_ ≠ ((.slice Ao11 t598.length co11) : Value).ownBlock) (.slice Ao13 t601.length co13) t601) ∧ Aside0 (wc.heap[gb605]? = some (.cells #[(.slice Ao11 t598.length co11), (.slice Ao13 t601.length co13)] 27 (0, 0))) ∧ Aside0 (Below w.heap.size w wc))
 case first =>
  have H := HC6.out
  clear HC6
  by_cases c15 : t604 = true
  {
  subst c15
  have H1 : ((i_TableOk.f k t595).bind fun t609 => (if t609 = true then ((i_CountSquares.f k t598 t601).bind fun t610 => (if t610 = (wrap64 (4 * (t595.length : Int))) then ((laws_total.f k t606).bind fun t611 => (if t611 = (wrap64 (4 * (t595.length : Int))) then ((i_HasHalfTurn.f k t598 t601).bind fun t612 => (laws_FnTables.j0 k t595 t606 (!t612) t598 t601)) else (laws_FnTables.j0 k t595 t606 true t598 t601))) else (laws_FnTables.j0 k t595 t606 true t598 t601))) else (laws_FnTables.j0 k t595 t606 true t598 t601))) = some r := by rw [if_pos rfl] at H; exact H
  clear H
  have H := H1
  clear H1
  replace H := oB H
  obtain ⟨t609, A160, H⟩ := H
  replace H : (if t609 = true then ((i_CountSquares.f k t598 t601).bind fun t610 => (if t610 = (wrap64 (4 * (t595.length : Int))) then ((laws_total.f k t606).bind fun t611 => (if t611 = (wrap64 (4 * (t595.length : Int))) then ((i_HasHalfTurn.f k t598 t601).bind fun t612 => (laws_FnTables.j0 k t595 t606 (!t612) t598 t601)) else (laws_FnTables.j0 k t595 t606 true t598 t601))) else (laws_FnTables.j0 k t595 t606 true t598 t601))) else (laws_FnTables.j0 k t595 t606 true t598 t601)) = some r := H
  have A16 := aM A160
  clear A160
  by_cases c17 : t609 = true
  {
  subst c17
  have H1 : ((i_CountSquares.f k t598 t601).bind fun t610 => (if t610 = (wrap64 (4 * (t595.length : Int))) then ((laws_total.f k t606).bind fun t611 => (if t611 = (wrap64 (4 * (t595.length : Int))) then ((i_HasHalfTurn.f k t598 t601).bind fun t612 => (laws_FnTables.j0 k t595 t606 (!t612) t598 t601)) else (laws_FnTables.j0 k t595 t606 true t598 t601))) else (laws_FnTables.j0 k t595 t606 true t598 t601))) = some r := by rw [if_pos rfl] at H; exact H
  clear H
  have H := H1
  clear H1
  replace H := oB H
  obtain ⟨t610, A180, H⟩ := H
  replace H : (if t610 = (wrap64 (4 * (t595.length : Int))) then ((laws_total.f k t606).bind fun t611 => (if t611 = (wrap64 (4 * (t595.length : Int))) then ((i_HasHalfTurn.f k t598 t601).bind fun t612 => (laws_FnTables.j0 k t595 t606 (!t612) t598 t601)) else (laws_FnTables.j0 k t595 t606 true t598 t601))) else (laws_FnTables.j0 k t595 t606 true t598 t601)) = some r := H
  have A18 := aM A180
  clear A180
  by_cases c19 : t610 = (wrap64 (4 * (t595.length : Int)))
  {
  rw [if_pos c19] at H
  have c19b0 : (t610 == (wrap64 (4 * (t595.length : Int)))) = true := beq_iff_eq.mpr c19
  have c19b1 : (t610 != (wrap64 (4 * (t595.length : Int)))) = false := bne_eq_false_iff_eq.mpr c19
  clear c19
  (first | rw [c19b0] | (simp only [i64_w, i32_w]; rw [c19b0]) | skip)
  replace H := oB H
  obtain ⟨t611, A200, H⟩ := H
  replace H : (if t611 = (wrap64 (4 * (t595.length : Int))) then ((i_HasHalfTurn.f k t598 t601).bind fun t612 => (laws_FnTables.j0 k t595 t606 (!t612) t598 t601)) else (laws_FnTables.j0 k t595 t606 true t598 t601)) = some r := H
  have A20 := aM A200
  clear A200
  by_cases c21 : t611 = (wrap64 (4 * (t595.length : Int)))
  {
  rw [if_pos c21] at H
  have c21b0 : (t611 == (wrap64 (4 * (t595.length : Int)))) = true := beq_iff_eq.mpr c21
  have c21b1 : (t611 != (wrap64 (4 * (t595.length : Int)))) = false := bne_eq_false_iff_eq.mpr c21
  clear c21
  replace H := oB H
  obtain ⟨t612, A220, H⟩ := H
  replace H : (laws_FnTables.j0 k t595 t606 (!t612) t598 t601) = some r := H
  have A22 := aM A220
  clear A220
  have H' := aM H
  clear H
  go_wp2_with (first | (go_at_call 7; (with_reducible refine (i_TableOk.calls k _ _ t595 true _ ?side1 ?side2 A16.out).mono ?_); (case side1 => exact cX (Kd.R_reads' HO597.out).2.2); (case side2 => exact (Kd.R_reads' HO597.out).2.1); rintro e w23 ⟨rfl, hb⟩; replace HO597 := aM (Kd.R_below (rX HO597.out) hb); replace HO600 := aM (Kd.R_below (rX HO600.out) hb); replace HO603 := aM (Kd.R_below (rX HO603.out) hb); replace HO608 := aM (Kd.R_below (rX HO608.out) hb); replace BK605 := aM (bbX BK605.out hb); replace HB := aM (below_step (bX1 HB.out GE605.out) hb); (try clear hb); (try clear hb2); (try clear hk); (try clear hi); have hcz24_0 := cz20 BK605.out; have hcz24_1 := cz21 BK605.out; have hfz24_0 := blk_frozen BK605.out 0; have hfz24_1 := blk_frozen BK605.out 1) | (go_at_call 8; (with_reducible refine (i_CountSquares.calls k _ _ t598 _ _ t601 t610 _ ?side1 ?side2 ?side3 ?side4 A18.out).mono ?_); (case side1 => exact cX (Kd.R_reads' HO600.out).2.2); (case side2 => exact (Kd.R_reads' HO600.out).2.1); (case side3 => exact cX (Kd.R_reads' HO603.out).2.2); (case side4 => exact (Kd.R_reads' HO603.out).2.1); rintro e w25 ⟨rfl, hb⟩; replace HO597 := aM (Kd.R_below (rX HO597.out) hb); replace HO600 := aM (Kd.R_below (rX HO600.out) hb); replace HO603 := aM (Kd.R_below (rX HO603.out) hb); replace HO608 := aM (Kd.R_below (rX HO608.out) hb); replace BK605 := aM (bbX BK605.out hb); replace HB := aM (below_step (bX1 HB.out GE605.out) hb); (try clear hb); (try clear hb2); (try clear hk); (try clear hi); obtain ⟨Ao26, co26, eo26⟩ := Kd.R_slice HO608.out; subst eo26) | (go_at_call 9; (with_reducible refine (laws_total.calls k _ _ t606 t611 _ ?side1 ?side2 A20.out).mono ?_); (case side1 => exact cX (Kd.R_reads' HO608.out).2.2); (case side2 => exact (Kd.R_reads' HO608.out).2.1); rintro e w' ⟨rfl, ⟨nd, rfl⟩⟩; have hcz27_0 := cz20 BK605.out; have hcz27_1 := cz21 BK605.out; have hfz27_0 := blk_frozen BK605.out 0; have hfz27_1 := blk_frozen BK605.out 1) | (go_at_call 10; (with_reducible refine (i_HasHalfTurn.calls k _ _ t598 _ _ t601 t612 _ ?side1 ?side2 ?side3 ?side4 A22.out).mono ?_); (case side1 => exact cX (Kd.R_reads' HO600.out).2.2); (case side2 => exact (Kd.R_reads' HO600.out).2.1); (case side3 => exact cX (Kd.R_reads' HO603.out).2.2); (case side4 => exact (Kd.R_reads' HO603.out).2.1); rintro e w28 ⟨rfl, hb⟩; replace HO597 := aM (Kd.R_below (rX HO597.out) hb); replace HO600 := aM (Kd.R_below (rX HO600.out) hb); replace HO603 := aM (Kd.R_below (rX HO603.out) hb); replace HO608 := aM (Kd.R_below (rX HO608.out) hb); replace BK605 := aM (bbX BK605.out hb); replace HB := aM (below_step (bX1 HB.out GE605.out) hb); (try clear hb); (try clear hb2); (try clear hk); (try clear hi)))
  go_meet
  case rel => exact ⟨_, (!t612), vX, H', ⟨by first | omega | exact Nat.le_refl _⟩, ⟨rX HO597.out⟩, ⟨rM HO608.out (fun _ hk => ⟨hk.1.2, hk.2⟩)⟩, ⟨rM HO600.out (fun _ hk => ⟨hk.2, hk.1⟩)⟩, ⟨rM HO603.out (fun _ hk => ⟨hk.2, hk.1⟩)⟩, ⟨kX BK605.out⟩, ⟨bX1 HB.out GE605.out⟩⟩
  }
  {
  rw [if_neg c21] at H
  have c21b0 : (t611 == (wrap64 (4 * (t595.length : Int)))) = false := beq_eq_false_iff_ne.mpr c21
  have c21b1 : (t611 != (wrap64 (4 * (t595.length : Int)))) = true := bne_iff_ne.mpr c21
  have H' := aM H
  clear H
  go_wp2_with (first | (go_at_call 7; (with_reducible refine (i_TableOk.calls k _ _ t595 true _ ?side1 ?side2 A16.out).mono ?_); (case side1 => exact cX (Kd.R_reads' HO597.out).2.2); (case side2 => exact (Kd.R_reads' HO597.out).2.1); rintro e w29 ⟨rfl, hb⟩; replace HO597 := aM (Kd.R_below (rX HO597.out) hb); replace HO600 := aM (Kd.R_below (rX HO600.out) hb); replace HO603 := aM (Kd.R_below (rX HO603.out) hb); replace HO608 := aM (Kd.R_below (rX HO608.out) hb); replace BK605 := aM (bbX BK605.out hb); replace HB := aM (below_step (bX1 HB.out GE605.out) hb); (try clear hb); (try clear hb2); (try clear hk); (try clear hi); have hcz30_0 := cz20 BK605.out; have hcz30_1 := cz21 BK605.out; have hfz30_0 := blk_frozen BK605.out 0; have hfz30_1 := blk_frozen BK605.out 1) | (go_at_call 8; (with_reducible refine (i_CountSquares.calls k _ _ t598 _ _ t601 t610 _ ?side1 ?side2 ?side3 ?side4 A18.out).mono ?_); (case side1 => exact cX (Kd.R_reads' HO600.out).2.2); (case side2 => exact (Kd.R_reads' HO600.out).2.1); (case side3 => exact cX (Kd.R_reads' HO603.out).2.2); (case side4 => exact (Kd.R_reads' HO603.out).2.1); rintro e w31 ⟨rfl, hb⟩; replace HO597 := aM (Kd.R_below (rX HO597.out) hb); replace HO600 := aM (Kd.R_below (rX HO600.out) hb); replace HO603 := aM (Kd.R_below (rX HO603.out) hb); replace HO608 := aM (Kd.R_below (rX HO608.out) hb); replace BK605 := aM (bbX BK605.out hb); replace HB := aM (below_step (bX1 HB.out GE605.out) hb); (try clear hb); (try clear hb2); (try clear hk); (try clear hi); obtain ⟨Ao32, co32, eo32⟩ := Kd.R_slice HO608.out; subst eo32) | (go_at_call 9; (with_reducible refine (laws_total.calls k _ _ t606 t611 _ ?side1 ?side2 A20.out).mono ?_); (case side1 => exact cX (Kd.R_reads' HO608.out).2.2); (case side2 => exact (Kd.R_reads' HO608.out).2.1); rintro e w' ⟨rfl, ⟨nd, rfl⟩⟩))
  go_meet
  case rel => exact ⟨_, (true), vX, H', ⟨by first | omega | exact Nat.le_refl _⟩, ⟨rX HO597.out⟩, ⟨rM HO608.out (fun _ hk => ⟨hk.1.2, hk.2⟩)⟩, ⟨rM HO600.out (fun _ hk => ⟨hk.2, hk.1⟩)⟩, ⟨rM HO603.out (fun _ hk => ⟨hk.2, hk.1⟩)⟩, ⟨kX BK605.out⟩, ⟨bX1 HB.out GE605.out⟩⟩
  }
  }
  {
  rw [if_neg c19] at H
  have c19b0 : (t610 == (wrap64 (4 * (t595.length : Int)))) = false := beq_eq_false_iff_ne.mpr c19
  have c19b1 : (t610 != (wrap64 (4 * (t595.length : Int)))) = true := bne_iff_ne.mpr c19
  (first | rw [c19b0] | (simp only [i64_w, i32_w]; rw [c19b0]) | skip)
  have H' := aM H
  clear H
  go_wp2_with (first | (go_at_call 7; (with_reducible refine (i_TableOk.calls k _ _ t595 true _ ?side1 ?side2 A16.out).mono ?_); (case side1 => exact cX (Kd.R_reads' HO597.out).2.2); (case side2 => exact (Kd.R_reads' HO597.out).2.1); rintro e w33 ⟨rfl, hb⟩; replace HO597 := aM (Kd.R_below (rX HO597.out) hb); replace HO600 := aM (Kd.R_below (rX HO600.out) hb); replace HO603 := aM (Kd.R_below (rX HO603.out) hb); replace HO608 := aM (Kd.R_below (rX HO608.out) hb); replace BK605 := aM (bbX BK605.out hb); replace HB := aM (below_step (bX1 HB.out GE605.out) hb); (try clear hb); (try clear hb2); (try clear hk); (try clear hi); have hcz34_0 := cz20 BK605.out; have hcz34_1 := cz21 BK605.out; have hfz34_0 := blk_frozen BK605.out 0; have hfz34_1 := blk_frozen BK605.out 1) | (go_at_call 8; (with_reducible refine (i_CountSquares.calls k _ _ t598 _ _ t601 t610 _ ?side1 ?side2 ?side3 ?side4 A18.out).mono ?_); (case side1 => exact cX (Kd.R_reads' HO600.out).2.2); (case side2 => exact (Kd.R_reads' HO600.out).2.1); (case side3 => exact cX (Kd.R_reads' HO603.out).2.2); (case side4 => exact (Kd.R_reads' HO603.out).2.1); rintro e w35 ⟨rfl, hb⟩; replace HO597 := aM (Kd.R_below (rX HO597.out) hb); replace HO600 := aM (Kd.R_below (rX HO600.out) hb); replace HO603 := aM (Kd.R_below (rX HO603.out) hb); replace HO608 := aM (Kd.R_below (rX HO608.out) hb); replace BK605 := aM (bbX BK605.out hb); replace HB := aM (below_step (bX1 HB.out GE605.out) hb); (try clear hb); (try clear hb2); (try clear hk); (try clear hi)))
  go_meet
  case rel => exact ⟨_, (true), vX, H', ⟨by first | omega | exact Nat.le_refl _⟩, ⟨rX HO597.out⟩, ⟨rM HO608.out (fun _ hk => ⟨hk.1.2, hk.2⟩)⟩, ⟨rM HO600.out (fun _ hk => ⟨hk.2, hk.1⟩)⟩, ⟨rM HO603.out (fun _ hk => ⟨hk.2, hk.1⟩)⟩, ⟨kX BK605.out⟩, ⟨bX1 HB.out GE605.out⟩⟩
  }
  }
  {
  replace c17 := Bool.eq_false_iff.mpr c17
  subst c17
  have H1 : (laws_FnTables.j0 k t595 t606 true t598 t601) = some r := by rw [if_neg (show ¬ (false = true) by decide)] at H; exact H
  clear H
  have H := H1
  clear H1
  have H' := aM H
  clear H
  go_wp2_with (first | (go_at_call 7; (with_reducible refine (i_TableOk.calls k _ _ t595 false _ ?side1 ?side2 A16.out).mono ?_); (case side1 => exact cX (Kd.R_reads' HO597.out).2.2); (case side2 => exact (Kd.R_reads' HO597.out).2.1); rintro e w36 ⟨rfl, hb⟩; replace HO597 := aM (Kd.R_below (rX HO597.out) hb); replace HO600 := aM (Kd.R_below (rX HO600.out) hb); replace HO603 := aM (Kd.R_below (rX HO603.out) hb); replace HO608 := aM (Kd.R_below (rX HO608.out) hb); replace BK605 := aM (bbX BK605.out hb); replace HB := aM (below_step (bX1 HB.out GE605.out) hb); (try clear hb); (try clear hb2); (try clear hk); (try clear hi)))
  go_meet
  case rel => exact ⟨_, (true), vX, H', ⟨by first | omega | exact Nat.le_refl _⟩, ⟨rX HO597.out⟩, ⟨rM HO608.out (fun _ hk => ⟨hk.1.2, hk.2⟩)⟩, ⟨rM HO600.out (fun _ hk => ⟨hk.2, hk.1⟩)⟩, ⟨rM HO603.out (fun _ hk => ⟨hk.2, hk.1⟩)⟩, ⟨kX BK605.out⟩, ⟨bX1 HB.out GE605.out⟩⟩
  }
  }
  {
  replace c15 := Bool.eq_false_iff.mpr c15
  subst c15
  have H1 : (laws_FnTables.j0 k t595 t606 true t598 t601) = some r := by rw [if_neg (show ¬ (false = true) by decide)] at H; exact H
  clear H
  have H := H1
  clear H1
  have H' := aM H
  clear H
  go_wp2
  go_meet
  case rel => exact ⟨_, (true), vX, H', ⟨by first | omega | exact Nat.le_refl _⟩, ⟨rX HO597.out⟩, ⟨rM HO608.out (fun _ hk => ⟨hk.1.2, hk.2⟩)⟩, ⟨rM HO600.out (fun _ hk => ⟨hk.2, hk.1⟩)⟩, ⟨rM HO603.out (fun _ hk => ⟨hk.2, hk.1⟩)⟩, ⟨kX BK605.out⟩, ⟨bX1 HB.out GE605.out⟩⟩
  }
 case rest =>
 clear HC6
 try clear c2
 try clear c2b0
 try clear c2b1
 try clear c15
 try clear c17
 try clear c19
 try clear c19b0
 try clear c19b1
 try clear c21
 try clear c21b0
 try clear c21b1
 try clear hcz12_0
 try clear hcz12_1
 try clear hcz24_0
 try clear hcz24_1
 try clear hcz27_0
 try clear hcz27_1
 try clear hcz30_0
 try clear hcz30_1
 try clear hcz34_0
 try clear hcz34_1
 try clear hfz12_0
 try clear hfz12_1
 try clear hfz24_0
 try clear hfz24_1
 try clear hfz27_0
 try clear hfz27_1
 try clear hfz30_0
 try clear hfz30_1
 try clear hfz34_0
 try clear hfz34_1
 obtain ⟨kq, x52_5, rfl, HA, HJ5, HO_3, HO_6, HO_606000, HO_606001, BK605, HB⟩ := hcut
 cases kq with
 | zero => exact absurd HA.out (by simp [laws_FnTables.j0])
 | succ kj5 =>
 have H := HA.out
 clear HA
 simp only [laws_FnTables.j0] at H
 by_cases c37 : x52_5 = true
 {
 subst c37
 have H1 : (some false) = some r := by rw [if_pos rfl] at H; exact H
 clear H
 have H := H1
 clear H1
 exact absurd ((Option.some.inj H).trans HRT.out) (by decide)
 }
 {
 replace c37 := Bool.eq_false_iff.mpr c37
 subst c37
 have H1 : (laws_FnTables.l0 kj5 t595 t606 (([] : List Int)) 0 t598 t601) = some r := by rw [if_neg (show ¬ (false = true) by decide)] at H; exact H
 clear H
 have H := H1
 clear H1
 obtain ⟨y613, hy613⟩ : ∃ y_ : List Int, y_ = (([] : List Int)) := ⟨_, rfl⟩
 replace H : (laws_FnTables.l0 kj5 t595 t606 y613 0 t598 t601) = some r := by first | (rw [hy613]; with_reducible exact H) | (have H2_ := (Option.bind_some _ _).symm.trans H; rw [hy613]; with_reducible exact H2_) | (have H2_ := (Option.bind_some _ _).symm.trans H; with_reducible exact H2_) | with_reducible exact H | (rw [hy613]; exact H) | exact H
 have Ny613 := aM hy613
 clear hy613
 have H' := aM H
 clear H
 go_wp2_with (first | ((with_reducible refine gate_dst (N := 53) rfl ?_); (try (refine gate_guard (by rfl) ?_; dsimp only)); refine Kd.R_lit (Kd.int .i64) _ 3 ?hg (N := 53) ?hd (xs := ([] : List Int)) (inner := []) (ok := fun _ => True) (okp := fun _ => True) ?hr ?hp (fun _ hk => hk) trivial (Below.refl _ _) (Nat.le_refl _) (by simp) ?_; (case hd => rfl); (case hg => rfl); (case hr => first | (go_simp; done) | (go_simp; rfl)); (case hp => exact (Reps.none _ _)); intro v614 w38 ho39 hb hg_ hnew_; clear hg_ hnew_; (first | rw [← Ny613.out] at ho39 | (simp only [Int.reduceToNat] at ho39; rw [← Ny613.out] at ho39)); replace HO_3 := aM (Kd.R_below (rX HO_3.out) hb); have HO615 := aM (Kd.R_lower (Kd.R_new' (Kd.R_new' (Kd.R_new' ho39 (Kd.R_lt (rX HO_6.out))) (Kd.R_lt (rX HO_606000.out))) (Kd.R_lt (rX HO_606001.out))) (below_size (bX1 HB.out GE605.out))); replace HO_6 := aM (Kd.R_elder' (rX HO_6.out) (Kd.R_base ho39) hb); replace HO_606000 := aM (Kd.R_elder' (rX HO_606000.out) (Kd.R_base ho39) hb); replace HO_606001 := aM (Kd.R_elder' (rX HO_606001.out) (Kd.R_base ho39) hb); replace BK605 := aM (bbX BK605.out hb); replace HB := aM (below_step (bX1 HB.out GE605.out) hb); clear hb ho39))
 go_loopg [7, 8] kj5 (fun kq v7 v8 w' => ∃ (x7_2 : List Int) (x8_2 : Int), v8 = .int .i64 x8_2 ∧ Aside0 (laws_FnTables.l0 kq t595 t606 x7_2 x8_2 t598 t601 = some r) ∧ Aside0 (kq ≤ kj5) ∧ Aside0 (Kd.R k41 41 w' w.heap.size (fun _ => True) (.slice Ao8 t595.length co8) t595) ∧ Aside0 (Kd.R (Kd.int .i64) 3 w' w.heap.size (fun k_ => some k_ ≠ (v7 : Value).ownBlock ∧ some k_ ≠ ((.slice Ao11 t598.length co11) : Value).ownBlock ∧ some k_ ≠ ((.slice Ao13 t601.length co13) : Value).ownBlock) v607 t606) ∧ Aside0 (Kd.R (Kd.int .i64) 3 w' w.heap.size (fun k_ => some k_ ≠ (v607 : Value).ownBlock ∧ some k_ ≠ ((.slice Ao11 t598.length co11) : Value).ownBlock ∧ some k_ ≠ ((.slice Ao13 t601.length co13) : Value).ownBlock) v7 x7_2) ∧ Aside0 (Kd.R (Kd.int .i64) 3 w' w.heap.size (fun k_ => some k_ ≠ (v607 : Value).ownBlock ∧ some k_ ≠ (v7 : Value).ownBlock ∧ some k_ ≠ ((.slice Ao13 t601.length co13) : Value).ownBlock) (.slice Ao11 t598.length co11) t598) ∧ Aside0 (Kd.R (Kd.int .i64) 3 w' w.heap.size (fun k_ => some k_ ≠ (v607 : Value).ownBlock ∧ some k_ ≠ (v7 : Value).ownBlock ∧ some k_ ≠ ((.slice Ao11 t598.length co11) : Value).ownBlock) (.slice Ao13 t601.length co13) t601) ∧ Aside0 (w'.heap[gb605]? = some (.cells #[(.slice Ao11 t598.length co11), (.slice Ao13 t601.length co13)] 27 (0, 0))) ∧ Aside0 (Below w.heap.size w w'))
 case atStart => exact ⟨(y613), (0), vX, H', ⟨Nat.le_refl _⟩, ⟨rX HO_3.out⟩, ⟨rM HO_6.out (fun _ hk => ⟨hk.2, ⟨hk.1.1, hk.1.2⟩⟩)⟩, ⟨rM HO615.out (fun _ hk => ⟨hk.1.1.2, ⟨hk.1.2, hk.2⟩⟩)⟩, ⟨rM HO_606000.out (fun _ hk => ⟨hk.1.1, ⟨hk.2, hk.1.2⟩⟩)⟩, ⟨rM HO_606001.out (fun _ hk => ⟨hk.1.1, ⟨hk.2, hk.1.2⟩⟩)⟩, ⟨kX BK605.out⟩, ⟨bX1 HB.out GE605.out⟩⟩
 case round =>
 clear H'
 try clear c2
 try clear c2b0
 try clear c2b1
 try clear c15
 try clear c17
 try clear c19
 try clear c19b0
 try clear c19b1
 try clear c21
 try clear c21b0
 try clear c21b1
 try clear c37
 try clear hcz12_0
 try clear hcz12_1
 try clear hcz24_0
 try clear hcz24_1
 try clear hcz27_0
 try clear hcz27_1
 try clear hcz30_0
 try clear hcz30_1
 try clear hcz34_0
 try clear hcz34_1
 try clear hfz12_0
 try clear hfz12_1
 try clear hfz24_0
 try clear hfz24_1
 try clear hfz27_0
 try clear hfz27_1
 try clear hfz30_0
 try clear hfz30_1
 try clear hfz34_0
 try clear hfz34_1
 obtain ⟨x7_2, x8_2, rfl, HA, HK2, HO_3, HO_6, HO_7, HO_606000, HO_606001, BK605, HB⟩ := hrel
 cases gk with
 | zero => exact absurd HA.out (by simp [laws_FnTables.l0])
 | succ k2 =>
 have H := HA.out
 clear HA
 simp only [laws_FnTables.l0] at H
 by_cases c40 : x8_2 < (wrap64 (4 * (t595.length : Int)))
 {
 rw [if_pos c40] at H
 have c40b0 : decide (x8_2 < (wrap64 (4 * (t595.length : Int)))) = true := decide_eq_true c40
 clear c40
 by_cases c41 : x7_2.length < 17592186044416
 {
 rw [if_pos c41] at H
 have LMc41 := aM c41
 clear c41
 obtain ⟨y616, hy616⟩ : ∃ y_ : List Int, y_ = (x7_2 ++ [wrap64 ((wrap64 ((wrap64 ((wrap64 (Int.tdiv x8_2 4)) * 4)) + 3)) - (Int.tmod x8_2 4))]) := ⟨_, rfl⟩
 replace H : (laws_FnTables.l0 k2 t595 t606 y616 (wrap64 (x8_2 + 1)) t598 t601) = some r := by first | (rw [hy616]; with_reducible exact H) | (have H2_ := (Option.bind_some _ _).symm.trans H; rw [hy616]; with_reducible exact H2_) | (have H2_ := (Option.bind_some _ _).symm.trans H; with_reducible exact H2_) | with_reducible exact H | (rw [hy616]; exact H) | exact H
 have Ny616 := aM hy616
 clear hy616
 have H' := aM H
 clear H
 go_wp2_with (first | ((with_reducible refine gate_builtin (b := .append) (xs := #[.tmp 61, .tmp 69]) rfl ?_); (try (refine gate_guard (by rfl) ?_; dsimp only)); at_builtin; refine Kd.R_append (Kd.int .i64) (w0 := w) w.heap.size rfl (.tmp 61) (.tmp 69) 25 3 (.int .i64 0) 8 rfl Try.underlying25 info3 rfl (by decide) (by omega) u7 x7_2 (wrap64 ((wrap64 ((wrap64 ((wrap64 (Int.tdiv x8_2 4)) * 4)) + 3)) - (Int.tmod x8_2 4))) [.int .i64 (wrap64 ((wrap64 ((wrap64 ((wrap64 (Int.tdiv x8_2 4)) * 4)) + 3)) - (Int.tmod x8_2 4)))] (fun k_ => some k_ ≠ (v607 : Value).ownBlock ∧ some k_ ≠ (.slice Ao11 t598.length co11 : Value).ownBlock ∧ some k_ ≠ (.slice Ao13 t601.length co13 : Value).ownBlock) (fun _ => False) rfl rfl ?aP (fun _ hk => hk.elim) ?aF ?aO ?aB ?aS ?aL ?_; (case aP => exact rfl); (case aB => exact (bX1 HB.out GE605.out)); (case aF => exact (fun k_ hk => ⟨Kd.fresh' (Kd.R_lt (rX HO_6.out)) k_ hk, Kd.fresh' (Kd.R_lt (rX HO_606000.out)) k_ hk, Kd.fresh' (Kd.R_lt (rX HO_606001.out)) k_ hk⟩)); (case aO => exact (rX HO_7.out)); (case aS => exact (below_size (bX1 HB.out GE605.out))); (case aL => have := LMc41.out; omega); intro v617 w42 ho hb hg hat; rw [← Ny616.out] at ho; replace HO_3 := aM (Kd.R_over' (rX HO_3.out) (Kd.R_typed (rX HO_7.out)) (by decide) hg); replace HO_6 := aM (Kd.R_after (ok := (fun k_ => some k_ ≠ (.slice Ao11 t598.length co11 : Value).ownBlock ∧ some k_ ≠ (.slice Ao13 t601.length co13 : Value).ownBlock)) (rM HO_6.out (fun _ hk => ⟨⟨hk.2.1, hk.2.2⟩, hk.1⟩)) hg hat); replace HO_606000 := aM (Kd.R_after (ok := (fun k_ => some k_ ≠ (v607 : Value).ownBlock ∧ some k_ ≠ (.slice Ao13 t601.length co13 : Value).ownBlock)) (rM HO_606000.out (fun _ hk => ⟨⟨hk.1, hk.2.2⟩, hk.2.1⟩)) hg hat); replace HO_606001 := aM (Kd.R_after (ok := (fun k_ => some k_ ≠ (v607 : Value).ownBlock ∧ some k_ ≠ (.slice Ao11 t598.length co11 : Value).ownBlock)) (rM HO_606001.out (fun _ hk => ⟨⟨hk.1, hk.2.2⟩, hk.2.1⟩)) hg hat); replace BK605 := aM (bgX BK605.out hg (Kd.R_ne HO_7.out BK605.out (by decide))); replace HB := aM (hb); have HO618 := aM (ho); clear HO_7 ho hb hg hat))
 go_roundg k2
 case measure => have := HJ5.out; have := HK2.out; omega
 case rel => exact ⟨(y616), (wrap64 (x8_2 + 1)), vX, H', ⟨by have := HJ5.out; have := HK2.out; omega⟩, ⟨rX HO_3.out⟩, ⟨rM HO_6.out (fun _ hk => ⟨hk.2, ⟨hk.1.1, hk.1.2⟩⟩)⟩, ⟨rX HO618.out⟩, ⟨rM HO_606000.out (fun _ hk => ⟨hk.1.1, ⟨hk.2, hk.1.2⟩⟩)⟩, ⟨rM HO_606001.out (fun _ hk => ⟨hk.1.1, ⟨hk.2, hk.1.2⟩⟩)⟩, ⟨kX BK605.out⟩, ⟨bX1 HB.out GE605.out⟩⟩
 }
 {
 rw [if_neg c41] at H
 exact absurd H (by simp)
 }
 }
 {
 rw [if_neg c40] at H
 have c40b0 : decide (x8_2 < (wrap64 (4 * (t595.length : Int)))) = false := decide_eq_false c40
 clear c40
 obtain ⟨y619, hy619⟩ : ∃ y_ : List Int, y_ = (([] : List Int)) := ⟨_, rfl⟩
 replace H : (laws_FnTables.l1 k2 t595 x7_2 y619 t606 (t606.length : Int) 0 t598 t601) = some r := by first | (rw [hy619]; with_reducible exact H) | (have H2_ := (Option.bind_some _ _).symm.trans H; rw [hy619]; with_reducible exact H2_) | (have H2_ := (Option.bind_some _ _).symm.trans H; with_reducible exact H2_) | with_reducible exact H | (rw [hy619]; exact H) | exact H
 have Ny619 := aM hy619
 clear hy619
 have H' := aM H
 clear H
 go_wp2_with (first | ((with_reducible refine gate_dst (N := 71) rfl ?_); (try (refine gate_guard (by rfl) ?_; dsimp only)); refine Kd.R_lit (Kd.int .i64) _ 3 ?hg (N := 71) ?hd (xs := ([] : List Int)) (inner := []) (ok := fun _ => True) (okp := fun _ => True) ?hr ?hp (fun _ hk => hk) trivial (Below.refl _ _) (Nat.le_refl _) (by simp) ?_; (case hd => rfl); (case hg => rfl); (case hr => first | (go_simp; done) | (go_simp; rfl)); (case hp => exact (Reps.none _ _)); intro v620 w43 ho44 hb hg_ hnew_; clear hg_ hnew_; (first | rw [← Ny619.out] at ho44 | (simp only [Int.reduceToNat] at ho44; rw [← Ny619.out] at ho44)); replace HO_3 := aM (Kd.R_below (rX HO_3.out) hb); have HO621 := aM (Kd.R_lower (Kd.R_new' (Kd.R_new' (Kd.R_new' (Kd.R_new' ho44 (Kd.R_lt (rX HO_6.out))) (Kd.R_lt (rX HO_7.out))) (Kd.R_lt (rX HO_606000.out))) (Kd.R_lt (rX HO_606001.out))) (below_size (bX1 HB.out GE605.out))); replace HO_6 := aM (Kd.R_elder' (rX HO_6.out) (Kd.R_base ho44) hb); replace HO_7 := aM (Kd.R_elder' (rX HO_7.out) (Kd.R_base ho44) hb); replace HO_606000 := aM (Kd.R_elder' (rX HO_606000.out) (Kd.R_base ho44) hb); replace HO_606001 := aM (Kd.R_elder' (rX HO_606001.out) (Kd.R_base ho44) hb); replace BK605 := aM (bbX BK605.out hb); replace HB := aM (below_step (bX1 HB.out GE605.out) hb); clear hb ho44; obtain ⟨Ao45, co45, eo45⟩ := Kd.R_slice HO_6.out; subst eo45))
 go_loopg [9, 74] k2 (fun kq v9 v74 w' => ∃ (x9_3 : List Int) (x74_3 : Int), v74 = .int .i64 x74_3 ∧ Aside0 (laws_FnTables.l1 kq t595 x7_2 x9_3 t606 (t606.length : Int) x74_3 t598 t601 = some r) ∧ Aside0 (kq ≤ k2) ∧ Aside0 (Kd.R k41 41 w' w.heap.size (fun _ => True) (.slice Ao8 t595.length co8) t595) ∧ Aside0 (Kd.R (Kd.int .i64) 3 w' w.heap.size (fun k_ => some k_ ≠ (v9 : Value).ownBlock ∧ some k_ ≠ ((.slice Ao45 t606.length co45) : Value).ownBlock ∧ some k_ ≠ ((.slice Ao11 t598.length co11) : Value).ownBlock ∧ some k_ ≠ ((.slice Ao13 t601.length co13) : Value).ownBlock) u7 x7_2) ∧ Aside0 (Kd.R (Kd.int .i64) 3 w' w.heap.size (fun k_ => some k_ ≠ (u7 : Value).ownBlock ∧ some k_ ≠ ((.slice Ao45 t606.length co45) : Value).ownBlock ∧ some k_ ≠ ((.slice Ao11 t598.length co11) : Value).ownBlock ∧ some k_ ≠ ((.slice Ao13 t601.length co13) : Value).ownBlock) v9 x9_3) ∧ Aside0 (Kd.R (Kd.int .i64) 3 w' w.heap.size (fun k_ => some k_ ≠ (u7 : Value).ownBlock ∧ some k_ ≠ (v9 : Value).ownBlock ∧ some k_ ≠ ((.slice Ao11 t598.length co11) : Value).ownBlock ∧ some k_ ≠ ((.slice Ao13 t601.length co13) : Value).ownBlock) (.slice Ao45 t606.length co45) t606) ∧ Aside0 (Kd.R (Kd.int .i64) 3 w' w.heap.size (fun k_ => some k_ ≠ (u7 : Value).ownBlock ∧ some k_ ≠ (v9 : Value).ownBlock ∧ some k_ ≠ ((.slice Ao45 t606.length co45) : Value).ownBlock ∧ some k_ ≠ ((.slice Ao13 t601.length co13) : Value).ownBlock) (.slice Ao11 t598.length co11) t598) ∧ Aside0 (Kd.R (Kd.int .i64) 3 w' w.heap.size (fun k_ => some k_ ≠ (u7 : Value).ownBlock ∧ some k_ ≠ (v9 : Value).ownBlock ∧ some k_ ≠ ((.slice Ao45 t606.length co45) : Value).ownBlock ∧ some k_ ≠ ((.slice Ao11 t598.length co11) : Value).ownBlock) (.slice Ao13 t601.length co13) t601) ∧ Aside0 (w'.heap[gb605]? = some (.cells #[(.slice Ao11 t598.length co11), (.slice Ao13 t601.length co13)] 27 (0, 0))) ∧ Aside0 (Below w.heap.size w w'))
 case atStart => exact ⟨(y619), (0), vX, H', ⟨Nat.le_refl _⟩, ⟨rX HO_3.out⟩, ⟨rM HO_7.out (fun _ hk => ⟨hk.2, ⟨hk.1.1, ⟨hk.1.2.1, hk.1.2.2⟩⟩⟩)⟩, ⟨rM HO621.out (fun _ hk => ⟨hk.1.1.2, ⟨hk.1.1.1.2, ⟨hk.1.2, hk.2⟩⟩⟩)⟩, ⟨rM HO_6.out (fun _ hk => ⟨hk.1.1, ⟨hk.2, ⟨hk.1.2.1, hk.1.2.2⟩⟩⟩)⟩, ⟨rM HO_606000.out (fun _ hk => ⟨hk.1.2.1, ⟨hk.2, ⟨hk.1.1, hk.1.2.2⟩⟩⟩)⟩, ⟨rM HO_606001.out (fun _ hk => ⟨hk.1.2.1, ⟨hk.2, ⟨hk.1.1, hk.1.2.2⟩⟩⟩)⟩, ⟨kX BK605.out⟩, ⟨bX1 HB.out GE605.out⟩⟩
 case round =>
 clear H'
 try clear c2
 try clear c2b0
 try clear c2b1
 try clear c15
 try clear c17
 try clear c19
 try clear c19b0
 try clear c19b1
 try clear c21
 try clear c21b0
 try clear c21b1
 try clear c37
 try clear c40
 try clear c40b0
 try clear c41
 try clear hcz12_0
 try clear hcz12_1
 try clear hcz24_0
 try clear hcz24_1
 try clear hcz27_0
 try clear hcz27_1
 try clear hcz30_0
 try clear hcz30_1
 try clear hcz34_0
 try clear hcz34_1
 try clear hfz12_0
 try clear hfz12_1
 try clear hfz24_0
 try clear hfz24_1
 try clear hfz27_0
 try clear hfz27_1
 try clear hfz30_0
 try clear hfz30_1
 try clear hfz34_0
 try clear hfz34_1
 obtain ⟨x9_3, x74_3, rfl, HA, HK3, HO_3, HO_7, HO_9, HO_72, HO_606000, HO_606001, BK605, HB⟩ := hrel
 cases gk with
 | zero => exact absurd HA.out (by simp [laws_FnTables.l1])
 | succ k3 =>
 have H := HA.out
 clear HA
 simp only [laws_FnTables.l1] at H
 by_cases c46 : x74_3 < (t606.length : Int)
 {
 rw [if_pos c46] at H
 have c46b0 : decide (x74_3 < (t606.length : Int)) = true := decide_eq_true c46
 clear c46
 by_cases c47 : 0 ≤ x74_3
 {
 rw [if_pos c47] at H
 have c47b0 : decide (0 ≤ x74_3) = true := decide_eq_true c47
 clear c47
 by_cases c48 : x74_3 < (t606.length : Int)
 {
 rw [if_pos c48] at H
 have c48b0 : decide (x74_3 < (t606.length : Int)) = true := decide_eq_true c48
 clear c48
 by_cases c49 : (rd t606 x74_3) = 3
 {
 rw [if_pos c49] at H
 have c49b0 : ((rd t606 x74_3) == 3) = true := beq_iff_eq.mpr c49
 have c49b1 : ((rd t606 x74_3) != 3) = false := bne_eq_false_iff_eq.mpr c49
 clear c49
 by_cases c50 : x9_3.length < 17592186044416
 {
 rw [if_pos c50] at H
 have LMc50 := aM c50
 clear c50
 obtain ⟨y623, hy623⟩ : ∃ y_ : List Int, y_ = (x9_3 ++ [2]) := ⟨_, rfl⟩
 replace H : (laws_FnTables.l1 k3 t595 x7_2 y623 t606 (t606.length : Int) (wrap64 (x74_3 + 1)) t598 t601) = some r := by first | (rw [hy623]; with_reducible exact H) | (have H2_ := (Option.bind_some _ _).symm.trans H; rw [hy623]; with_reducible exact H2_) | (have H2_ := (Option.bind_some _ _).symm.trans H; with_reducible exact H2_) | with_reducible exact H | (rw [hy623]; exact H) | exact H
 have Ny623 := aM hy623
 clear hy623
 have H' := aM H
 clear H
 have p622 : 0 ≤ (x74_3 : Int) := dX
 have q622 : x74_3 < (t606.length : Int) := dX
 obtain ⟨ad622, e622, hx622_0⟩ := Kd.at_int (Kd.R_reads' HO_72.out).2.2 x74_3 p622 q622
 cases e622
 replace p622 := eq_true p622
 replace q622 := eq_true q622
 go_wp2_with (first | ((with_reducible refine gate_builtin (b := .append) (xs := #[.tmp 80, .tmp 81]) rfl ?_); (try (refine gate_guard (by rfl) ?_; dsimp only)); at_builtin; refine Kd.R_append (Kd.int .i64) (w0 := w) w.heap.size rfl (.tmp 80) (.tmp 81) 25 3 (.int .i64 0) 8 rfl Try.underlying25 info3 rfl (by decide) (by omega) u9 x9_3 2 [.int .i64 2] (fun k_ => some k_ ≠ (u7 : Value).ownBlock ∧ some k_ ≠ (.slice (some ad622) t606.length co45 : Value).ownBlock ∧ some k_ ≠ (.slice Ao11 t598.length co11 : Value).ownBlock ∧ some k_ ≠ (.slice Ao13 t601.length co13 : Value).ownBlock) (fun _ => False) rfl rfl ?aP (fun _ hk => hk.elim) ?aF ?aO ?aB ?aS ?aL ?_; (case aP => exact rfl); (case aB => exact (bX1 HB.out GE605.out)); (case aF => exact (fun k_ hk => ⟨Kd.fresh' (Kd.R_lt (rX HO_7.out)) k_ hk, Kd.fresh' (Kd.R_lt (rX HO_72.out)) k_ hk, Kd.fresh' (Kd.R_lt (rX HO_606000.out)) k_ hk, Kd.fresh' (Kd.R_lt (rX HO_606001.out)) k_ hk⟩)); (case aO => exact (rX HO_9.out)); (case aS => exact (below_size (bX1 HB.out GE605.out))); (case aL => have := LMc50.out; omega); intro v624 w51 ho hb hg hat; rw [← Ny623.out] at ho; replace HO_3 := aM (Kd.R_over' (rX HO_3.out) (Kd.R_typed (rX HO_9.out)) (by decide) hg); replace HO_7 := aM (Kd.R_after (ok := (fun k_ => some k_ ≠ (.slice (some ad622) t606.length co45 : Value).ownBlock ∧ some k_ ≠ (.slice Ao11 t598.length co11 : Value).ownBlock ∧ some k_ ≠ (.slice Ao13 t601.length co13 : Value).ownBlock)) (rM HO_7.out (fun _ hk => ⟨⟨hk.2.1, ⟨hk.2.2.1, hk.2.2.2⟩⟩, hk.1⟩)) hg hat); replace HO_72 := aM (Kd.R_after (ok := (fun k_ => some k_ ≠ (u7 : Value).ownBlock ∧ some k_ ≠ (.slice Ao11 t598.length co11 : Value).ownBlock ∧ some k_ ≠ (.slice Ao13 t601.length co13 : Value).ownBlock)) (rM HO_72.out (fun _ hk => ⟨⟨hk.1, ⟨hk.2.2.1, hk.2.2.2⟩⟩, hk.2.1⟩)) hg hat); replace HO_606000 := aM (Kd.R_after (ok := (fun k_ => some k_ ≠ (u7 : Value).ownBlock ∧ some k_ ≠ (.slice (some ad622) t606.length co45 : Value).ownBlock ∧ some k_ ≠ (.slice Ao13 t601.length co13 : Value).ownBlock)) (rM HO_606000.out (fun _ hk => ⟨⟨hk.1, ⟨hk.2.2.1, hk.2.2.2⟩⟩, hk.2.1⟩)) hg hat); replace HO_606001 := aM (Kd.R_after (ok := (fun k_ => some k_ ≠ (u7 : Value).ownBlock ∧ some k_ ≠ (.slice (some ad622) t606.length co45 : Value).ownBlock ∧ some k_ ≠ (.slice Ao11 t598.length co11 : Value).ownBlock)) (rM HO_606001.out (fun _ hk => ⟨⟨hk.1, ⟨hk.2.2.1, hk.2.2.2⟩⟩, hk.2.1⟩)) hg hat); replace BK605 := aM (bgX BK605.out hg (Kd.R_ne HO_9.out BK605.out (by decide))); replace HB := aM (hb); have HO625 := aM (ho); clear HO_9 ho hb hg hat))
 go_roundg k3
 case measure => have := HJ5.out; have := HK2.out; have := HK3.out; omega
 case rel => exact ⟨(y623), (wrap64 (x74_3 + 1)), vX, H', ⟨by have := HJ5.out; have := HK2.out; have := HK3.out; omega⟩, ⟨rX HO_3.out⟩, ⟨rM HO_7.out (fun _ hk => ⟨hk.2, ⟨hk.1.1, ⟨hk.1.2.1, hk.1.2.2⟩⟩⟩)⟩, ⟨rX HO625.out⟩, ⟨rM HO_72.out (fun _ hk => ⟨hk.1.1, ⟨hk.2, ⟨hk.1.2.1, hk.1.2.2⟩⟩⟩)⟩, ⟨rM HO_606000.out (fun _ hk => ⟨hk.1.1, ⟨hk.2, ⟨hk.1.2.1, hk.1.2.2⟩⟩⟩)⟩, ⟨rM HO_606001.out (fun _ hk => ⟨hk.1.1, ⟨hk.2, ⟨hk.1.2.1, hk.1.2.2⟩⟩⟩)⟩, ⟨kX BK605.out⟩, ⟨bX1 HB.out GE605.out⟩⟩
 }
 {
 rw [if_neg c50] at H
 exact absurd H (by simp)
 }
 }
 {
 rw [if_neg c49] at H
 have c49b0 : ((rd t606 x74_3) == 3) = false := beq_eq_false_iff_ne.mpr c49
 have c49b1 : ((rd t606 x74_3) != 3) = true := bne_iff_ne.mpr c49
 have H' := aM H
 clear H
 have p622 : 0 ≤ (x74_3 : Int) := dX
 have q622 : x74_3 < (t606.length : Int) := dX
 obtain ⟨ad622, e622, hx622_0⟩ := Kd.at_int (Kd.R_reads' HO_72.out).2.2 x74_3 p622 q622
 cases e622
 replace p622 := eq_true p622
 replace q622 := eq_true q622
 go_wp2
 go_roundg k3
 case measure => have := HJ5.out; have := HK2.out; have := HK3.out; omega
 case rel => exact ⟨(x9_3), (wrap64 (x74_3 + 1)), vX, H', ⟨by have := HJ5.out; have := HK2.out; have := HK3.out; omega⟩, ⟨rX HO_3.out⟩, ⟨rX HO_7.out⟩, ⟨rX HO_9.out⟩, ⟨rX HO_72.out⟩, ⟨rX HO_606000.out⟩, ⟨rX HO_606001.out⟩, ⟨kX BK605.out⟩, ⟨bX1 HB.out GE605.out⟩⟩
 }
 }
 {
 rw [if_neg c48] at H
 exact absurd H (by simp)
 }
 }
 {
 rw [if_neg c47] at H
 exact absurd H (by simp)
 }
 }
 {
 rw [if_neg c46] at H
 have c46b0 : decide (x74_3 < (t606.length : Int)) = false := decide_eq_false c46
 clear c46
 replace H := oB H
 obtain ⟨t626, A520, H⟩ := H
 replace H : ((i_IsTurn.f k3 t598 t601 x7_2).bind fun t627 => (if t627 = true then ((i_StratumOf.f k3 t598 t601).bind fun t628 => ((laws_same.f k3 t628 x9_3).bind fun t631 => (if t631 = true then (if t626 ≥ 4 then (if t626 ≤ (wrap64 ((wrap64 (2 * (t595.length : Int))) + 2)) then (if 0 < (t595.length : Int) then ((i_CellAt.f k3 t595 ((rd_T41 t595 0).f0) ((rd_T41 t595 0).f1)).bind fun t634 => (some (t634 == 0))) else (none)) else (some false)) else (some false)) else (some false)))) else (some false))) = some r := H
 have A52 := aM A520
 clear A520
 replace H := oB H
 obtain ⟨t627, A530, H⟩ := H
 replace H : (if t627 = true then ((i_StratumOf.f k3 t598 t601).bind fun t628 => ((laws_same.f k3 t628 x9_3).bind fun t631 => (if t631 = true then (if t626 ≥ 4 then (if t626 ≤ (wrap64 ((wrap64 (2 * (t595.length : Int))) + 2)) then (if 0 < (t595.length : Int) then ((i_CellAt.f k3 t595 ((rd_T41 t595 0).f0) ((rd_T41 t595 0).f1)).bind fun t634 => (some (t634 == 0))) else (none)) else (some false)) else (some false)) else (some false)))) else (some false)) = some r := H
 have A53 := aM A530
 clear A530
 by_cases c54 : t627 = true
 {
 subst c54
 have H1 : ((i_StratumOf.f k3 t598 t601).bind fun t628 => ((laws_same.f k3 t628 x9_3).bind fun t631 => (if t631 = true then (if t626 ≥ 4 then (if t626 ≤ (wrap64 ((wrap64 (2 * (t595.length : Int))) + 2)) then (if 0 < (t595.length : Int) then ((i_CellAt.f k3 t595 ((rd_T41 t595 0).f0) ((rd_T41 t595 0).f1)).bind fun t634 => (some (t634 == 0))) else (none)) else (some false)) else (some false)) else (some false)))) = some r := by rw [if_pos rfl] at H; exact H
 clear H
 have H := H1
 clear H1
 replace H := oB H
 obtain ⟨t628, A550, H⟩ := H
 replace H : ((laws_same.f k3 t628 x9_3).bind fun t631 => (if t631 = true then (if t626 ≥ 4 then (if t626 ≤ (wrap64 ((wrap64 (2 * (t595.length : Int))) + 2)) then (if 0 < (t595.length : Int) then ((i_CellAt.f k3 t595 ((rd_T41 t595 0).f0) ((rd_T41 t595 0).f1)).bind fun t634 => (some (t634 == 0))) else (none)) else (some false)) else (some false)) else (some false))) = some r := H
 have A55 := aM A550
 clear A550
 replace H := oB H
 obtain ⟨t631, A560, H⟩ := H
 replace H : (if t631 = true then (if t626 ≥ 4 then (if t626 ≤ (wrap64 ((wrap64 (2 * (t595.length : Int))) + 2)) then (if 0 < (t595.length : Int) then ((i_CellAt.f k3 t595 ((rd_T41 t595 0).f0) ((rd_T41 t595 0).f1)).bind fun t634 => (some (t634 == 0))) else (none)) else (some false)) else (some false)) else (some false)) = some r := H
 have A56 := aM A560
 clear A560
 by_cases c57 : t631 = true
 {
 subst c57
 have H1 : (if t626 ≥ 4 then (if t626 ≤ (wrap64 ((wrap64 (2 * (t595.length : Int))) + 2)) then (if 0 < (t595.length : Int) then ((i_CellAt.f k3 t595 ((rd_T41 t595 0).f0) ((rd_T41 t595 0).f1)).bind fun t634 => (some (t634 == 0))) else (none)) else (some false)) else (some false)) = some r := by rw [if_pos rfl] at H; exact H
 clear H
 have H := H1
 clear H1
 by_cases c58 : t626 ≥ 4
 {
 rw [if_pos c58] at H
 have c58b0 : decide (4 ≤ t626) = true := decide_eq_true c58
 clear c58
 by_cases c59 : t626 ≤ (wrap64 ((wrap64 (2 * (t595.length : Int))) + 2))
 {
 rw [if_pos c59] at H
 have c59b0 : decide (t626 ≤ (wrap64 ((wrap64 (2 * (t595.length : Int))) + 2))) = true := decide_eq_true c59
 clear c59
 by_cases c60 : 0 < (t595.length : Int)
 {
 rw [if_pos c60] at H
 have c60b0 : decide (0 < (t595.length : Int)) = true := decide_eq_true c60
 have c60b1 : decide (0 < t595.length) = true := decide_eq_true (by omega)
 clear c60
 replace H := oB H
 obtain ⟨t634, A610, H⟩ := H
 replace H : (some (t634 == 0)) = some r := H
 have A61 := aM A610
 clear A610
 obtain rfl := Option.some.inj H
 try go_wp2_with (first | ((with_reducible refine gate_callee (f := 11) rfl ?_); refine goesL_ (some 85) rfl rfl Try.func11 (by kernel_rfl) rfl #[.slice Ao8 t595.length co8] rfl aX ?_; (with_reducible refine (i_CountWalls.calls k3 _ _ t595 t626 _ ?side1 ?side2 A52.out).mono ?_); (case side1 => exact cX (Kd.R_reads' HO_3.out).2.2); (case side2 => exact (Kd.R_reads' HO_3.out).2.1); rintro e w62 ⟨rfl, hb⟩; refine ⟨_, rfl, ?_⟩; replace HO_3 := aM (Kd.R_below (rX HO_3.out) hb); replace HO_7 := aM (Kd.R_below (rX HO_7.out) hb); replace HO_9 := aM (Kd.R_below (rX HO_9.out) hb); replace HO_72 := aM (Kd.R_below (rX HO_72.out) hb); replace HO_606000 := aM (Kd.R_below (rX HO_606000.out) hb); replace HO_606001 := aM (Kd.R_below (rX HO_606001.out) hb); replace BK605 := aM (bbX BK605.out hb); replace HB := aM (below_step (bX1 HB.out GE605.out) hb); (try clear hb); (try clear hb2); (try clear hk); (try clear hi)))
 replace HO_3 := aM (Kd.R_drew HO_3.out)
 replace HO_7 := aM (Kd.R_drew HO_7.out)
 replace HO_9 := aM (Kd.R_drew HO_9.out)
 replace HO_72 := aM (Kd.R_drew HO_72.out)
 replace HO_606000 := aM (Kd.R_drew HO_606000.out)
 replace HO_606001 := aM (Kd.R_drew HO_606001.out)
 replace BK605 := aM (blk_drew BK605.out)
 replace HB := aM (below_drew1 HB.out)
 obtain ⟨Ao64, co64, eo64⟩ := Kd.R_slice HO_7.out
 (first | subst eo64 | (injection eo64 with f1_ f2_ f3_; have f4_ := f1_.symm; have f5_ := f3_.symm; clear f1_ f2_ f3_; subst f4_; subst f5_))
 have p632 : 0 ≤ (0 : Int) := (by omega)
 have q632 : 0 < (t595.length : Int) := dX
 obtain ⟨ad632, e632, hx632_0, hx632_1⟩ := at_T41 (Kd.R_reads' HO_3.out).2.2 0 p632 q632
 cases e632
 have qi632 : (0 < t595.length) = True := eq_true (by omega)
 (try rw [show ((0 : Int)).toNat = 0 from rfl] at hx632_0)
 (try rw [show 0 * 2 = 0 from rfl] at hx632_0)
 (try rw [Addr.add_zero'] at hx632_0)
 (try rw [show ((0 : Int)).toNat = 0 from rfl] at hx632_1)
 (try rw [show 0 * 2 = 0 from rfl] at hx632_1)
 (try rw [Addr.add_zero'] at hx632_1)
 replace p632 := eq_true p632
 replace q632 := eq_true q632
 have p633 : 0 ≤ (0 : Int) := (by omega)
 have q633 : 0 < (t595.length : Int) := dX
 obtain ⟨ad633, e633, hx633_0, hx633_1⟩ := at_T41 (Kd.R_reads' HO_3.out).2.2 0 p633 q633
 obtain rfl : ad632 = ad633 := (by injection e633)
 have qi633 : (0 < t595.length) = True := eq_true (by omega)
 (try rw [show ((0 : Int)).toNat = 0 from rfl] at hx633_0)
 (try rw [show 0 * 2 = 0 from rfl] at hx633_0)
 (try rw [Addr.add_zero'] at hx633_0)
 (try rw [show ((0 : Int)).toNat = 0 from rfl] at hx633_1)
 (try rw [show 0 * 2 = 0 from rfl] at hx633_1)
 (try rw [Addr.add_zero'] at hx633_1)
 replace p633 := eq_true p633
 replace q633 := eq_true q633
 refine start_ (n := 35) (S := fun w' => w'.cell? ⟨gb605, 0, none⟩ = some (.slice Ao11 t598.length co11) ∧ w'.cell? ⟨gb605, 1, none⟩ = some (.slice Ao13 t601.length co13) ∧ w'.cell? ad632 = some (.int .i64 ((rd_T41 t595 0).f0)) ∧ w'.cell? ⟨ad632.block, ad632.off + 1, none⟩ = some (.int .i64 ((rd_T41 t595 0).f1)) ∧ w'.cell? ad632 = some (.int .i64 ((rd_T41 t595 0).f0)) ∧ w'.cell? ⟨ad632.block, ad632.off + 1, none⟩ = some (.int .i64 ((rd_T41 t595 0).f1))) (ds := []) #[ff,ff,ff,ff,ff,ff,ff,ff,ff,ff,ff,ff,ff,ff,ff,ff,ff,ff,ff,ff,ff,ff,ff,ff,ff,ff,ff,ff,ff,ff,ff,ff,ff,ff,ff] (by kernel_rfl) rfl rfl ⟨cz20 BK605.out, cz21 BK605.out, hx632_0, hx632_1, hx633_0, hx633_1⟩ (fun hHeld => ?_); refine with_tabW laws_FnTables.tab21 laws_FnTables.bits21 (fun HT_ HW_ => ?_)
 generalize w62.drew = w63 at HO_3 HO_7 HO_9 HO_72 HO_606000 HO_606001 BK605 HB hx632_0 hx632_1 hx633_0 hx633_1 hHeld ⊢
 refine pX 1 87 (fl 35 2) rfl rfl HT_.out ?_
 refine tX6 0 86 (fl 35 3) rfl rfl HT_.out HW_.out hHeld ?_
 refine one_ (i := 2) (N := some 88) #[tt,tt,tt,ff,ff,ff,ff,ff,ff,ff,ff,ff,ff,ff,ff,ff,ff,ff,ff,ff,ff,ff,ff,ff,ff,ff,ff,ff,ff,ff,ff,ff,ff,ff,ff] rfl rfl (one_of HT_.out (by kernel_rfl)) (by decide) (fun K hK => ?_)
 refine goes_ Try.func12 (by kernel_rfl) rfl #[.agg #[.slice Ao11 t598.length co11, .slice Ao13 t601.length co13], .slice Ao64 x7_2.length co64] (by rfl) rfl rfl aX ?_
 with_reducible refine (i_IsTurn.calls k3 _ _ t598 _ _ t601 _ _ x7_2 true _ ?side1 ?side2 ?side3 ?side4 ?side5 ?side6 A53.out).mono ?_
 (case side1 => exact cX (Kd.R_reads' HO_606000.out).2.2)
 (case side2 => exact (Kd.R_reads' HO_606000.out).2.1)
 (case side3 => exact cX (Kd.R_reads' HO_606001.out).2.2)
 (case side4 => exact (Kd.R_reads' HO_606001.out).2.1)
 (case side5 => exact cX (Kd.R_reads' HO_7.out).2.2)
 (case side6 => exact (Kd.R_reads' HO_7.out).2.1)
 rintro e w65 ⟨rfl, hb⟩
 have HS2_ := (hb.cell (World.block_lt_of_cell? _ _ (hHeld.2.2.1))).trans (hHeld.2.2.1)
 have HS3_ := (hb.cell (World.block_lt_of_cell? _ _ (hHeld.2.2.2.1))).trans (hHeld.2.2.2.1)
 have HS4_ := (hb.cell (World.block_lt_of_cell? _ _ (hHeld.2.2.2.2.1))).trans (hHeld.2.2.2.2.1)
 have HS5_ := (hb.cell (World.block_lt_of_cell? _ _ (hHeld.2.2.2.2.2))).trans (hHeld.2.2.2.2.2)
 refine ⟨_, rfl, ?_⟩
 replace HO_3 := aM (Kd.R_below (rX HO_3.out) hb)
 replace HO_7 := aM (Kd.R_below (rX HO_7.out) hb)
 replace HO_9 := aM (Kd.R_below (rX HO_9.out) hb)
 replace HO_72 := aM (Kd.R_below (rX HO_72.out) hb)
 replace HO_606000 := aM (Kd.R_below (rX HO_606000.out) hb)
 replace HO_606001 := aM (Kd.R_below (rX HO_606001.out) hb)
 replace BK605 := aM (bbX BK605.out hb)
 replace HB := aM (below_step (bX1 HB.out GE605.out) hb)
 (try clear hb)
 (try clear hb2)
 (try clear hk)
 (try clear hi)
 refine hK.out _ _ ⟨cz20 BK605.out, cz21 BK605.out, HS2_, HS3_, HS4_, HS5_⟩ (fun hHeld => ?_)
 clear hK K
 refine norm_ (a' := ?_) ?_ ?_
 rotate_left
 {
 show Act.put _ (some 88) _ = _
 simp only [Act.put, zA, zB, zC, i64_w, i32_w]
 rfl
 }
 refine pX 3 89 (fl 35 15) rfl rfl HT_.out ?_
 refine pX 6 92 (fl 35 79) rfl rfl HT_.out ?_
 refine tX6 4 90 (fl 35 95) rfl rfl HT_.out HW_.out hHeld ?_
 refine one_ (i := 5) (N := some 91) #[tt,tt,tt,tt,tt,tt,tt,ff,ff,ff,ff,ff,ff,ff,ff,ff,ff,ff,ff,ff,ff,ff,ff,ff,ff,ff,ff,ff,ff,ff,ff,ff,ff,ff,ff] rfl rfl (one_of HT_.out (by kernel_rfl)) (by decide) (fun K hK => ?_)
 refine goes_ Try.func14 (by kernel_rfl) rfl #[.agg #[.slice Ao11 t598.length co11, .slice Ao13 t601.length co13]] (by rfl) rfl rfl aX ?_
 with_reducible refine (i_StratumOf.calls k3 _ _ t598 _ _ t601 t628 _ ?side1 ?side2 ?side3 ?side4 A55.out).mono ?_
 (case side1 => exact cX (Kd.R_reads' HO_606000.out).2.2)
 (case side2 => exact (Kd.R_reads' HO_606000.out).2.1)
 (case side3 => exact cX (Kd.R_reads' HO_606001.out).2.2)
 (case side4 => exact (Kd.R_reads' HO_606001.out).2.1)
 rintro e w66 ⟨v629, rfl, ho0, hb⟩
 have HS2_ := (hb.cell (World.block_lt_of_cell? _ _ (hHeld.2.2.1))).trans (hHeld.2.2.1)
 have HS3_ := (hb.cell (World.block_lt_of_cell? _ _ (hHeld.2.2.2.1))).trans (hHeld.2.2.2.1)
 have HS4_ := (hb.cell (World.block_lt_of_cell? _ _ (hHeld.2.2.2.2.1))).trans (hHeld.2.2.2.2.1)
 have HS5_ := (hb.cell (World.block_lt_of_cell? _ _ (hHeld.2.2.2.2.2))).trans (hHeld.2.2.2.2.2)
 refine ⟨_, rfl, ?_⟩
 replace HO_3 := aM (Kd.R_below (rX HO_3.out) hb)
 have HO630 := aM (Kd.R_lower (Kd.R_new' (Kd.R_new' (Kd.R_new' (Kd.R_new' (Kd.R_new' ho0 (Kd.R_lt (rX HO_7.out))) (Kd.R_lt (rX HO_9.out))) (Kd.R_lt (rX HO_72.out))) (Kd.R_lt (rX HO_606000.out))) (Kd.R_lt (rX HO_606001.out))) (below_size (bX1 HB.out GE605.out)))
 replace HO_7 := aM (Kd.R_elder' (rX HO_7.out) (Kd.R_base ho0) hb)
 replace HO_9 := aM (Kd.R_elder' (rX HO_9.out) (Kd.R_base ho0) hb)
 replace HO_72 := aM (Kd.R_elder' (rX HO_72.out) (Kd.R_base ho0) hb)
 replace HO_606000 := aM (Kd.R_elder' (rX HO_606000.out) (Kd.R_base ho0) hb)
 replace HO_606001 := aM (Kd.R_elder' (rX HO_606001.out) (Kd.R_base ho0) hb)
 replace BK605 := aM (bbX BK605.out hb)
 replace HB := aM (below_step (bX1 HB.out GE605.out) hb)
 (try clear hb)
 (try clear hb2)
 (try clear hk)
 (try clear hi)
 (try clear ho0)
 obtain ⟨Ao67, co67, eo67⟩ := Kd.R_slice HO630.out
 (first | subst eo67 | (injection eo67 with f1_ f2_ f3_; have f4_ := f1_.symm; have f5_ := f3_.symm; clear f1_ f2_ f3_; subst f4_; subst f5_))
 obtain ⟨Ao68, co68, eo68⟩ := Kd.R_slice HO_9.out
 (first | subst eo68 | (injection eo68 with f1_ f2_ f3_; have f4_ := f1_.symm; have f5_ := f3_.symm; clear f1_ f2_ f3_; subst f4_; subst f5_))
 refine hK.out _ _ ⟨cz20 BK605.out, cz21 BK605.out, HS2_, HS3_, HS4_, HS5_⟩ (fun hHeld => ?_)
 clear hK K
 refine norm_ (a' := ?_) ?_ ?_
 rotate_left
 {
 show Act.put _ (some 91) _ = _
 simp only [Act.put, zA, zB, zC, i64_w, i32_w]
 rfl
 }
 refine one_ (i := 7) (N := some 93) #[tt,tt,tt,tt,tt,tt,tt,tt,ff,ff,ff,ff,ff,ff,ff,ff,ff,ff,ff,ff,ff,ff,ff,ff,ff,ff,ff,ff,ff,ff,ff,ff,ff,ff,ff] rfl rfl (one_of HT_.out (by kernel_rfl)) (by decide) (fun K hK => ?_)
 refine goes_ Try.func13 (by kernel_rfl) rfl #[.slice Ao67 t628.length co67, .slice Ao68 x9_3.length co68] (by rfl) rfl rfl aX ?_
 with_reducible refine (laws_same.calls k3 _ _ t628 _ _ x9_3 true _ ?side1 ?side2 ?side3 ?side4 A56.out).mono ?_
 (case side1 => exact cX (Kd.R_reads' HO630.out).2.2)
 (case side2 => exact (Kd.R_reads' HO630.out).2.1)
 (case side3 => exact cX (Kd.R_reads' HO_9.out).2.2)
 (case side4 => exact (Kd.R_reads' HO_9.out).2.1)
 rintro e w' ⟨rfl, ⟨nd, rfl⟩⟩
 refine ⟨_, rfl, ?_⟩
 refine hK.out _ _ ⟨cz20 BK605.out, cz21 BK605.out, hHeld.2.2.1, hHeld.2.2.2.1, hHeld.2.2.2.2.1, hHeld.2.2.2.2.2⟩ (fun hHeld => ?_)
 clear hK K
 refine norm_ (a' := ?_) ?_ ?_
 rotate_left
 {
 show Act.put _ (some 93) _ = _
 simp only [Act.put, zA, zB, zC, i64_w, i32_w]
 rfl
 }
 refine pX 8 94 (fl 35 511) rfl rfl HT_.out ?_
 refine pX 9 95 (fl 35 1023) rfl rfl HT_.out ?_
 refine pX 10 96 (fl 35 2047) rfl rfl HT_.out ?_
 refine pX 11 97 (fl 35 4095) rfl rfl HT_.out ?_
 refine pX 12 98 (fl 35 8191) rfl rfl HT_.out ?_
 refine pX 13 99 (fl 35 16383) rfl rfl HT_.out ?_
 refine pX 14 100 (fl 35 32767) rfl rfl HT_.out ?_
 refine pX 15 101 (fl 35 65535) rfl rfl HT_.out ?_
 refine pX 16 102 (fl 35 131071) rfl rfl HT_.out ?_
 refine pX 17 103 (fl 35 262143) rfl rfl HT_.out ?_
 refine pX 18 104 (fl 35 524287) rfl rfl HT_.out ?_
 refine pX 19 105 (fl 35 1048575) rfl rfl HT_.out ?_
 refine pX 20 106 (fl 35 2097151) rfl rfl HT_.out ?_
 refine pX 21 107 (fl 35 4194303) rfl rfl HT_.out ?_
 refine pX 22 108 (fl 35 8388607) rfl rfl HT_.out ?_
 refine pX 23 109 (fl 35 16777215) rfl rfl HT_.out ?_
 refine pX 24 110 (fl 35 33554431) rfl rfl HT_.out ?_
 refine pX 25 111 (fl 35 67108863) rfl rfl HT_.out ?_
 refine pX 27 113 (fl 35 201326591) rfl rfl HT_.out ?_
 refine pX 28 114 (fl 35 469762047) rfl rfl HT_.out ?_
 refine pX 29 115 (fl 35 1006632959) rfl rfl HT_.out ?_
 refine tX6 26 112 (fl 35 1073741823) rfl rfl HT_.out HW_.out hHeld ?_
 refine tX6 30 116 (fl 35 2147483647) rfl rfl HT_.out HW_.out hHeld ?_
 refine one_ (i := 31) (N := some 117) #[tt,tt,tt,tt,tt,tt,tt,tt,tt,tt,tt,tt,tt,tt,tt,tt,tt,tt,tt,tt,tt,tt,tt,tt,tt,tt,tt,tt,tt,tt,tt,tt,ff,ff,ff] rfl rfl (one_of HT_.out (by kernel_rfl)) (by decide) (fun K hK => ?_)
 refine goes_ Try.func15 (by kernel_rfl) rfl #[.slice (some ad632) t595.length co8, .int .i64 ((rd_T41 t595 0).f0), .int .i64 ((rd_T41 t595 0).f1)] (by rfl) rfl rfl aX ?_
 with_reducible refine (i_CellAt.calls k3 _ _ t595 ((rd_T41 t595 0).f0) ((rd_T41 t595 0).f1) t634 _ ?side1 ?side2 A61.out).mono ?_
 (case side1 => exact cX (Kd.R_reads' HO_3.out).2.2)
 (case side2 => exact (Kd.R_reads' HO_3.out).2.1)
 rintro e w69 ⟨rfl, hb⟩
 have HS2_ := (hb.cell (World.block_lt_of_cell? _ _ (hHeld.2.2.1))).trans (hHeld.2.2.1)
 have HS3_ := (hb.cell (World.block_lt_of_cell? _ _ (hHeld.2.2.2.1))).trans (hHeld.2.2.2.1)
 have HS4_ := (hb.cell (World.block_lt_of_cell? _ _ (hHeld.2.2.2.2.1))).trans (hHeld.2.2.2.2.1)
 have HS5_ := (hb.cell (World.block_lt_of_cell? _ _ (hHeld.2.2.2.2.2))).trans (hHeld.2.2.2.2.2)
 refine ⟨_, rfl, ?_⟩
 replace HO_3 := aM (Kd.R_below (rX HO_3.out) hb)
 replace HO_7 := aM (Kd.R_below (rX HO_7.out) hb)
 replace HO_9 := aM (Kd.R_below (rX HO_9.out) hb)
 replace HO_72 := aM (Kd.R_below (rX HO_72.out) hb)
 replace HO_606000 := aM (Kd.R_below (rX HO_606000.out) hb)
 replace HO_606001 := aM (Kd.R_below (rX HO_606001.out) hb)
 replace HO630 := aM (Kd.R_below (rX HO630.out) hb)
 replace BK605 := aM (bbX BK605.out hb)
 replace HB := aM (below_step (bX1 HB.out GE605.out) hb)
 (try clear hb)
 (try clear hb2)
 (try clear hk)
 (try clear hi)
 refine hK.out _ _ ⟨cz20 BK605.out, cz21 BK605.out, HS2_, HS3_, HS4_, HS5_⟩ (fun hHeld => ?_)
 clear hK K
 refine norm_ (a' := ?_) ?_ ?_
 rotate_left
 {
 show Act.put _ (some 117) _ = _
 simp only [Act.put, zA, zB, zC, i64_w, i32_w]
 rfl
 }
 refine pX 32 118 (fl 35 8589934591) rfl rfl HT_.out ?_
 refine pX 33 119 (fl 35 17179869183) rfl rfl HT_.out ?_
 refine pX 34 2 (fl 35 34359738367) rfl rfl HT_.out ?_
 refine done_ (done_of HT_.out (by kernel_rfl)) ?_
 try go_wp2
 go_ret
 exact ⟨eX, bX1 HB.out GE605.out⟩
 }
 {
 rw [if_neg c60] at H
 exact absurd H (by simp)
 }
 }
 {
 rw [if_neg c59] at H
 have c59b0 : decide (t626 ≤ (wrap64 ((wrap64 (2 * (t595.length : Int))) + 2))) = false := decide_eq_false c59
 clear c59
 exact absurd ((Option.some.inj H).trans HRT.out) (by decide)
 }
 }
 {
 rw [if_neg c58] at H
 have c58b0 : decide (4 ≤ t626) = false := decide_eq_false c58
 clear c58
 exact absurd ((Option.some.inj H).trans HRT.out) (by decide)
 }
 }
 {
 replace c57 := Bool.eq_false_iff.mpr c57
 subst c57
 have H1 : (some false) = some r := by rw [if_neg (show ¬ (false = true) by decide)] at H; exact H
 clear H
 have H := H1
 clear H1
 exact absurd ((Option.some.inj H).trans HRT.out) (by decide)
 }
 }
 {
 replace c54 := Bool.eq_false_iff.mpr c54
 subst c54
 have H1 : (some false) = some r := by rw [if_neg (show ¬ (false = true) by decide)] at H; exact H
 clear H
 have H := H1
 clear H1
 exact absurd ((Option.some.inj H).trans HRT.out) (by decide)
 }
 }
 }
 }
 }

end Go.Proofs.Ytlbhjemkjkdndaa.S
