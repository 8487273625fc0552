-- PRINTED by print.py (a twelfth state) out of the translation. Not trusted: Lean checks it.
import Derived.Test.YtlbhjemkjkdndaaS0
import Derived.Test.YtlbhjemkjkdndaaS5
import Derived.Test.YtlbhjemkjkdndaaS6
namespace Go.Proofs.Ytlbhjemkjkdndaa.S
set_option maxHeartbeats 8000000
set_option maxRecDepth 100000
open Go.RowKit Go.Proofs.YtlbhjemkjkdndaaW.PrintWords Go.Proofs.YtlbhjemkjkdndaaW.PrintLast Go.Proofs.YtlbhjemkjkdndaaW.PrintMore
attribute [local go_sem] max2_int min2_int max_two min_two max_three min_three max_four min_four   -- for this text's walks alone
set_option linter.unusedVariables false
set_option linter.unusedSimpArgs false

/-! ### i_TurnSurface: function 49 -/
def i_TurnSurface.f (k : Nat) (l0_0 : List Int) (l0_1 : List Int) : Option (List Int × List Int × Bool) := (i_SurfaceOk.f k l0_0 l0_1).bind fun t344 => (if t344 = true then ((i_InversePerm.f k l0_1).bind fun t345 => ((i_copyInts.f l0_0).bind fun t348 => (some (t345, t348, true)))) else (some (([] : List Int), ([] : List Int), false)))
def i_TurnSurface.T3 : Bool × List (List Nat × List Nat) := (true, [([], []), ([0], [0]), ([1], [1]), ([], []), ([3], [3]), ([4, 2], [4]), ([2, 5], [2, 5]), ([6, 5, 0, 1, 2, 3, 4, 5, 6], [6]), ([7, 0, 1, 2, 3, 4, 5, 6, 7], [])])
def i_TurnSurface.B3 : List Nat := [0, 1, 3, 0, 8, 31, 63, 127, 255]
theorem i_TurnSurface.tab3 : rtab .any (opsOf Try.f49 3) = i_TurnSurface.T3 := by kernel_rfl
theorem i_TurnSurface.bits3 : waitsOk i_TurnSurface.T3.2 i_TurnSurface.B3 = true := by kernel_rfl
theorem i_TurnSurface.calls (k : Nat) (A0_0 : Option Addr) (c0_0 : Nat) (l0_0 : List Int) (A0_1 : Option Addr) (c0_1 : Nat) (l0_1 : List Int) (r1 : List Int) (r2 : List Int) (r3 : Bool) (w : World) (hr0_0 : Kd.C (Kd.int .i64) w A0_0 l0_0.length l0_0) (hc0_0 : l0_0.length ≤ c0_0) (hr0_1 : Kd.C (Kd.int .i64) w A0_1 l0_1.length l0_1) (hc0_1 : l0_1.length ≤ c0_1) (h : i_TurnSurface.f k l0_0 l0_1 = some (r1, r2, r3)) :
  Calls Try.prog 49 #[.agg #[.slice A0_0 l0_0.length c0_0, .slice A0_1 l0_1.length c0_1]] w fun e w' => ∃ v0_ v1_ : Value, e = .returned (.tuple #[.agg #[v0_, v1_], .bool r3]) ∧ Kd.R (Kd.int .i64) 3 w' w.heap.size (fun k_ => some k_ ≠ (v1_ : Value).ownBlock) v0_ r1 ∧ Kd.R (Kd.int .i64) 3 w' w.heap.size (fun k_ => some k_ ≠ (v0_ : Value).ownBlock) v1_ r2 ∧ Below w.heap.size w w' := by
 have hu27 := Try.underlying27
 have HR0_0 := aM hr0_0
 have HC0_0 := aM hc0_0
 clear hr0_0 hc0_0
 have HR0_1 := aM hr0_1
 have HC0_1 := aM hc0_1
 clear hr0_1 hc0_1
 have HB := aM (Below.refl w.heap.size w)
 have H : ((i_SurfaceOk.f k l0_0 l0_1).bind fun t344 => (if t344 = true then ((i_InversePerm.f k l0_1).bind fun t345 => ((i_copyInts.f l0_0).bind fun t348 => (some (t345, t348, true)))) else (some (([] : List Int), ([] : List Int), false)))) = some (r1, r2, r3) := h
 clear h
 replace H := oB H
 obtain ⟨t344, A20, H⟩ := H
 replace H : (if t344 = true then ((i_InversePerm.f k l0_1).bind fun t345 => ((i_copyInts.f l0_0).bind fun t348 => (some (t345, t348, true)))) else (some (([] : List Int), ([] : List Int), false))) = some (r1, r2, r3) := H
 have A2 := aM A20
 clear A20
 by_cases c3 : t344 = true
 {
 subst c3
 have H1 : ((i_InversePerm.f k l0_1).bind fun t345 => ((i_copyInts.f l0_0).bind fun t348 => (some (t345, t348, true)))) = some (r1, r2, r3) := by rw [if_pos rfl] at H; exact H
 clear H
 have H := H1
 clear H1
 replace H := oB H
 obtain ⟨t345, A40, H⟩ := H
 replace H : ((i_copyInts.f l0_0).bind fun t348 => (some (t345, t348, true))) = some (r1, r2, r3) := H
 have A4 := aM A40
 clear A40
 replace H := oB H
 obtain ⟨t348, A50, H⟩ := H
 replace H : (some (t345, t348, true)) = some (r1, r2, r3) := H
 have A5 := aM A50
 clear A50
 simp only [Option.some.injEq, Prod.mk.injEq] at H
 obtain ⟨rfl, rfl, rfl⟩ := H
 go_enter Try.func49, Try.ntmps49
 try go_wp2_with (first | ((with_reducible refine gate_dst (N := 1) rfl ?_); refine bEv (cs := #[.slice A0_0 l0_0.length c0_0, .slice A0_1 l0_1.length c0_1]) (t := 27) ?_; intro gb342 hg w6 hbox hb; have BK342 := aM (hbox); have GW342 := aM ((szX (below_size (bX HB.out)) hg : w.heap.size ≤ gb342)); have GE342 := aM ((szX (below_size (bX HB.out)) hg : w.heap.size ≤ gb342)); replace HB := aM (below_step (bX HB.out) hb); clear hb hbox hg) | ((with_reducible refine gate_dst (N := 2) rfl ?_); refine bEv (cs := #[.slice none 0 0, .slice none 0 0]) (t := 27) ?_; intro gb343 hg w7 hbox hb; have BK343 := aM (hbox); have GW343 := aM ((szX (below_size (bX1 HB.out GE342.out)) hg : w.heap.size ≤ gb343)); have GE343 := aM ((szX (below_size (bX1 HB.out GE342.out)) hg : w.heap.size ≤ gb343)); replace HB := aM (below_step (bX1 HB.out GE342.out) hb); have NB342_343 := aM (neX BK342.out hg); have NB343_342 := aM (nfX BK342.out hg); replace BK342 := aM (bbX BK342.out hb); clear hb hbox hg; have hnb8 := NB342_343.out; have hnc8 := NB343_342.out; have hcz9_0 := cz20 BK342.out; have hcz9_1 := cz21 BK342.out; have hfz9_0 := blk_frozen BK342.out 0; have hfz9_1 := blk_frozen BK342.out 1) | ((with_reducible refine gate_callee (f := 19) rfl ?_); refine goesL_ (some 5) rfl rfl Try.func19 (by kernel_rfl) rfl #[.agg #[.slice A0_0 l0_0.length c0_0, .slice A0_1 l0_1.length c0_1]] rfl aX ?_; (with_reducible refine (i_SurfaceOk.calls k _ _ l0_0 _ _ l0_1 true _ ?side1 ?side2 ?side3 ?side4 A2.out).mono ?_); (case side1 => exact cX (Kd.C_below HR0_0.out HB.out)); (case side2 => exact HC0_0.out); (case side3 => exact cX (Kd.C_below HR0_1.out HB.out)); (case side4 => exact HC0_1.out); rintro e w10 ⟨rfl, hb⟩; refine ⟨_, rfl, ?_⟩; replace BK342 := aM (bbX BK342.out hb); replace BK343 := aM (bbX BK343.out hb); replace HB := aM (below_step (bX2 HB.out GE342.out GE343.out) hb); (try clear hb); (try clear hb2); (try clear hk); (try clear hi)))
 replace BK342 := aM (blk_drew BK342.out)
 replace BK343 := aM (blk_drew BK343.out)
 replace HB := aM (below_drew1 HB.out)
 refine start_ (n := 9) (S := fun w' => w'.cell? ⟨gb342, 0, none⟩ = some (.slice A0_0 l0_0.length c0_0) ∧ w'.cell? ⟨gb342, 1, none⟩ = some (.slice A0_1 l0_1.length c0_1)) (ds := []) #[ff,ff,ff,ff,ff,ff,ff,ff,ff] (by kernel_rfl) rfl rfl ⟨cz20 BK342.out, cz21 BK342.out⟩ (fun hHeld => ?_); refine with_tabW i_TurnSurface.tab3 i_TurnSurface.bits3 (fun HT_ HW_ => ?_)
 generalize w10.drew = w11 at BK342 BK343 HB hHeld ⊢
 refine pX 0 8 (fl 9 1) rfl rfl HT_.out ?_
 refine pX 3 11 (fl 9 9) rfl rfl HT_.out ?_
 refine tX2 1 9 (fl 9 11) rfl rfl HT_.out HW_.out hHeld ?_
 refine tX2 4 12 (fl 9 27) rfl rfl HT_.out HW_.out hHeld ?_
 refine one_ (i := 2) (N := some 10) #[tt,tt,tt,tt,tt,ff,ff,ff,ff] rfl rfl (one_of HT_.out (by kernel_rfl)) (by decide) (fun K hK => ?_)
 refine goes_ Try.func22 (by kernel_rfl) rfl #[.slice A0_1 l0_1.length c0_1] (by rfl) rfl rfl aX ?_
 with_reducible refine (i_InversePerm.calls k _ _ l0_1 t345 _ ?side1 ?side2 A4.out).mono ?_
 (case side1 => exact cX (Kd.C_below HR0_1.out HB.out))
 (case side2 => exact HC0_1.out)
 rintro e w12 ⟨v346, rfl, ho0, hb⟩
 refine ⟨_, rfl, ?_⟩
 have HO347 := aM (Kd.R_lower ho0 (below_size (bX2 HB.out GE342.out GE343.out)))
 replace BK342 := aM (bbX BK342.out hb)
 replace BK343 := aM (bbX BK343.out hb)
 replace HB := aM (below_step (bX2 HB.out GE342.out GE343.out) hb)
 (try clear hb)
 (try clear hb2)
 (try clear hk)
 (try clear hi)
 (try clear ho0)
 refine hK.out _ _ ⟨cz20 BK342.out, cz21 BK342.out⟩ (fun hHeld => ?_)
 clear hK K
 refine norm_ (a' := ?_) ?_ ?_
 rotate_left
 {
 show Act.put _ (some 10) _ = _
 simp only [Act.put, zA, zB, zC, i64_w, i32_w]
 rfl
 }
 refine one_ (i := 5) (N := some 13) #[tt,tt,tt,tt,tt,tt,ff,ff,ff] rfl rfl (one_of HT_.out (by kernel_rfl)) (by decide) (fun K hK => ?_)
 refine goes_ Try.func46 (by kernel_rfl) rfl #[.slice A0_0 l0_0.length c0_0] (by rfl) rfl rfl aX ?_
 with_reducible refine (i_copyInts.calls _ _ l0_0 t348 _ ?side1 ?side2 A5.out).mono ?_
 (case side1 => exact cX (Kd.C_below HR0_0.out HB.out))
 (case side2 => exact HC0_0.out)
 rintro e w13 ⟨v349, rfl, ho0, hb⟩
 refine ⟨_, rfl, ?_⟩
 have HO350 := aM (Kd.R_lower (Kd.R_new' ho0 (Kd.R_lt (rX HO347.out))) (below_size (bX2 HB.out GE342.out GE343.out)))
 replace HO347 := aM (Kd.R_elder' (rX HO347.out) (Kd.R_base ho0) hb)
 replace BK342 := aM (bbX BK342.out hb)
 replace BK343 := aM (bbX BK343.out hb)
 replace HB := aM (below_step (bX2 HB.out GE342.out GE343.out) hb)
 (try clear hb)
 (try clear hb2)
 (try clear hk)
 (try clear hi)
 (try clear ho0)
 obtain ⟨Ao14, co14, eo14⟩ := Kd.R_slice HO350.out
 (first | subst eo14 | (injection eo14 with f1_ f2_ f3_; have f4_ := f1_.symm; have f5_ := f3_.symm; clear f1_ f2_ f3_; subst f4_; subst f5_))
 obtain ⟨Ao15, co15, eo15⟩ := Kd.R_slice HO347.out
 (first | subst eo15 | (injection eo15 with f1_ f2_ f3_; have f4_ := f1_.symm; have f5_ := f3_.symm; clear f1_ f2_ f3_; subst f4_; subst f5_))
 refine hK.out _ _ ⟨cz20 BK342.out, cz21 BK342.out⟩ (fun hHeld => ?_)
 clear hK K
 refine norm_ (a' := ?_) ?_ ?_
 rotate_left
 {
 show Act.put _ (some 13) _ = _
 simp only [Act.put, zA, zB, zC, i64_w, i32_w]
 rfl
 }
 refine pX 6 14 (fl 9 127) rfl rfl HT_.out ?_
 refine one_ (i := 7) (N := none) #[tt,tt,tt,tt,tt,tt,tt,tt,ff] rfl rfl (one_of HT_.out (by kernel_rfl)) (by decide) (fun K hK => ?_)
 have hs16 : w13.cell? ⟨gb343, 0, none⟩ = some (.slice none 0 0) := cz20 BK343.out
 have hfs16 := blk_frozen BK343.out 0
 have hns16_0 := NB342_343.out
 have hms16_0 := NB343_342.out
 have hs17 : w13.cell? ⟨gb343, 1, none⟩ = some (.slice none 0 0) := cz21 BK343.out
 have hfs17 := blk_frozen BK343.out 1
 have hns17_0 := NB342_343.out
 have hms17_0 := NB343_342.out
 refine skip_ (w1 := ?_) (by rfl) rfl ?_ ?_
 rotate_left
 {
 go_simp
 rfl
 }
 refine hK.out _ _ ⟨((cell_far (p := ⟨gb343, _, none⟩) NB342_343.out _).trans (((cell_far (p := ⟨gb343, _, none⟩) NB342_343.out _).trans (hHeld.1)))), ((cell_far (p := ⟨gb343, _, none⟩) NB342_343.out _).trans (((cell_far (p := ⟨gb343, _, none⟩) NB342_343.out _).trans (hHeld.2))))⟩ (fun hHeld => ?_)
 clear hK K
 refine pX 8 3 (fl 9 511) rfl rfl HT_.out ?_
 refine done_ (done_of HT_.out (by kernel_rfl)) ?_
 try go_wp2
 refine bodyPost_ret (results_ct rfl _ _ gb343 27 #[.slice Ao15 t345.length co15, .slice Ao14 t348.length co14] (0, 0) _ rfl (by (with_reducible repeat (first|refine kN ?_ _|refine kD ?_|refine kA ?_ _)); refine blk_put (cs := #[.slice Ao15 t345.length co15, .slice none 0 0]) ?_ 1 _ rfl; (with_reducible repeat (first|refine kN ?_ _|refine kD ?_|refine kA ?_ _)); refine blk_put (cs := #[.slice none 0 0, .slice none 0 0]) ?_ 0 _ rfl; (with_reducible repeat (first|refine kN ?_ _|refine kD ?_|refine kA ?_ _)); exact BK343.out) Try.underlying27 rfl (by kernel_rfl)) rfl ?_
 exact ⟨_, _, eX, by (with_reducible repeat (first|apply rA|apply rN|apply rD)); exact Kd.R_mono (Kd.R_far (p := ⟨gb343, 1, none⟩) (Kd.R_far (p := ⟨gb343, 0, none⟩) (Kd.R_types HO347.out BK343.out (by decide)) (fun _ hk => hk.2) (.slice Ao15 t345.length co15)) (fun _ hk => hk.2) (.slice Ao14 t348.length co14)) (fun _ hk => hk.1.2), by (with_reducible repeat (first|apply rA|apply rN|apply rD)); exact Kd.R_mono (Kd.R_far (p := ⟨gb343, 1, none⟩) (Kd.R_far (p := ⟨gb343, 0, none⟩) (Kd.R_types HO350.out BK343.out (by decide)) (fun _ hk => hk.2) (.slice Ao15 t345.length co15)) (fun _ hk => hk.2) (.slice Ao14 t348.length co14)) (fun _ hk => hk.1.2), bX2 HB.out GE342.out GE343.out⟩
 }
 {
 replace c3 := Bool.eq_false_iff.mpr c3
 subst c3
 have H1 : (some (([] : List Int), ([] : List Int), false)) = some (r1, r2, r3) := by rw [if_neg (show ¬ (false = true) by decide)] at H; exact H
 clear H
 have H := H1
 clear H1
 simp only [Option.some.injEq, Prod.mk.injEq] at H
 obtain ⟨rfl, rfl, rfl⟩ := H
 go_enter Try.func49, Try.ntmps49
 go_wp2_with (first | ((with_reducible refine gate_dst (N := 1) rfl ?_); refine bEv (cs := #[.slice A0_0 l0_0.length c0_0, .slice A0_1 l0_1.length c0_1]) (t := 27) ?_; intro gb342 hg w18 hbox hb; have BK342 := aM (hbox); have GW342 := aM ((szX (below_size (bX HB.out)) hg : w.heap.size ≤ gb342)); have GE342 := aM ((szX (below_size (bX HB.out)) hg : w.heap.size ≤ gb342)); replace HB := aM (below_step (bX HB.out) hb); clear hb hbox hg) | ((with_reducible refine gate_dst (N := 2) rfl ?_); refine bEv (cs := #[.slice none 0 0, .slice none 0 0]) (t := 27) ?_; intro gb343 hg w19 hbox hb; have BK343 := aM (hbox); have GW343 := aM ((szX (below_size (bX1 HB.out GE342.out)) hg : w.heap.size ≤ gb343)); have GE343 := aM ((szX (below_size (bX1 HB.out GE342.out)) hg : w.heap.size ≤ gb343)); replace HB := aM (below_step (bX1 HB.out GE342.out) hb); have NB342_343 := aM (neX BK342.out hg); have NB343_342 := aM (nfX BK342.out hg); replace BK342 := aM (bbX BK342.out hb); clear hb hbox hg; have hnb20 := NB342_343.out; have hnc20 := NB343_342.out; have hcz21_0 := cz20 BK342.out; have hcz21_1 := cz21 BK342.out; have hfz21_0 := blk_frozen BK342.out 0; have hfz21_1 := blk_frozen BK342.out 1) | ((with_reducible refine gate_callee (f := 19) rfl ?_); refine goesL_ (some 5) rfl rfl Try.func19 (by kernel_rfl) rfl #[.agg #[.slice A0_0 l0_0.length c0_0, .slice A0_1 l0_1.length c0_1]] rfl aX ?_; (with_reducible refine (i_SurfaceOk.calls k _ _ l0_0 _ _ l0_1 false _ ?side1 ?side2 ?side3 ?side4 A2.out).mono ?_); (case side1 => exact cX (Kd.C_below HR0_0.out HB.out)); (case side2 => exact HC0_0.out); (case side3 => exact cX (Kd.C_below HR0_1.out HB.out)); (case side4 => exact HC0_1.out); rintro e w22 ⟨rfl, hb⟩; refine ⟨_, rfl, ?_⟩; replace BK342 := aM (bbX BK342.out hb); replace BK343 := aM (bbX BK343.out hb); replace HB := aM (below_step (bX2 HB.out GE342.out GE343.out) hb); (try clear hb); (try clear hb2); (try clear hk); (try clear hi); have hcz23_0 := cz20 BK343.out; have hcz23_1 := cz21 BK343.out; have hfz23_0 := blk_frozen BK343.out 0; have hfz23_1 := blk_frozen BK343.out 1))
 refine bodyPost_ret (results_ct rfl _ _ gb343 27 #[.slice none 0 0, .slice none 0 0] (0, 0) _ rfl (by (with_reducible repeat (first|refine kN ?_ _|refine kD ?_|refine kA ?_ _)); refine blk_put (cs := #[.slice none 0 0, .slice none 0 0]) ?_ 1 _ rfl; (with_reducible repeat (first|refine kN ?_ _|refine kD ?_|refine kA ?_ _)); refine blk_put (cs := #[.slice none 0 0, .slice none 0 0]) ?_ 0 _ rfl; (with_reducible repeat (first|refine kN ?_ _|refine kD ?_|refine kA ?_ _)); exact BK343.out) Try.underlying27 rfl (by kernel_rfl)) rfl ?_
 exact ⟨_, _, eX, by first | exact Kd.R_nil _ _ _ _ _ | exact Kd.N_nil _ _ _ _ _ | exact Kd.V_nil _ _ _ _ _ | exact Kd.Q_nil _ _ _ _ _ | exact Kd.S_nil _ _ _ _ _, by first | exact Kd.R_nil _ _ _ _ _ | exact Kd.N_nil _ _ _ _ _ | exact Kd.V_nil _ _ _ _ _ | exact Kd.Q_nil _ _ _ _ _ | exact Kd.S_nil _ _ _ _ _, bX2 HB.out GE342.out GE343.out⟩
 }

/-! ### i_UnturnSurface: function 50 -/
def i_UnturnSurface.f (k : Nat) (l0_0 : List Int) (l0_1 : List Int) : Option (List Int × List Int × Bool) := (i_SurfaceOk.f k l0_0 l0_1).bind fun t353 => (if t353 = true then ((i_copyInts.f l0_1).bind fun t354 => ((i_InversePerm.f k l0_0).bind fun t357 => (some (t354, t357, true)))) else (some (([] : List Int), ([] : List Int), false)))
def i_UnturnSurface.T3 : Bool × List (List Nat × List Nat) := (true, [([], []), ([0], [0]), ([1], [1]), ([], []), ([3], [3]), ([4, 2], [4]), ([2, 5], [2, 5]), ([6, 5, 0, 1, 2, 3, 4, 5, 6], [6]), ([7, 0, 1, 2, 3, 4, 5, 6, 7], [])])
def i_UnturnSurface.B3 : List Nat := [0, 1, 3, 0, 8, 31, 63, 127, 255]
theorem i_UnturnSurface.tab3 : rtab .any (opsOf Try.f50 3) = i_UnturnSurface.T3 := by kernel_rfl
theorem i_UnturnSurface.bits3 : waitsOk i_UnturnSurface.T3.2 i_UnturnSurface.B3 = true := by kernel_rfl
theorem i_UnturnSurface.calls (k : Nat) (A0_0 : Option Addr) (c0_0 : Nat) (l0_0 : List Int) (A0_1 : Option Addr) (c0_1 : Nat) (l0_1 : List Int) (r1 : List Int) (r2 : List Int) (r3 : Bool) (w : World) (hr0_0 : Kd.C (Kd.int .i64) w A0_0 l0_0.length l0_0) (hc0_0 : l0_0.length ≤ c0_0) (hr0_1 : Kd.C (Kd.int .i64) w A0_1 l0_1.length l0_1) (hc0_1 : l0_1.length ≤ c0_1) (h : i_UnturnSurface.f k l0_0 l0_1 = some (r1, r2, r3)) :
  Calls Try.prog 50 #[.agg #[.slice A0_0 l0_0.length c0_0, .slice A0_1 l0_1.length c0_1]] w fun e w' => ∃ v0_ v1_ : Value, e = .returned (.tuple #[.agg #[v0_, v1_], .bool r3]) ∧ Kd.R (Kd.int .i64) 3 w' w.heap.size (fun k_ => some k_ ≠ (v1_ : Value).ownBlock) v0_ r1 ∧ Kd.R (Kd.int .i64) 3 w' w.heap.size (fun k_ => some k_ ≠ (v0_ : Value).ownBlock) v1_ r2 ∧ Below w.heap.size w w' := by
 have hu27 := Try.underlying27
 have HR0_0 := aM hr0_0
 have HC0_0 := aM hc0_0
 clear hr0_0 hc0_0
 have HR0_1 := aM hr0_1
 have HC0_1 := aM hc0_1
 clear hr0_1 hc0_1
 have HB := aM (Below.refl w.heap.size w)
 have H : ((i_SurfaceOk.f k l0_0 l0_1).bind fun t353 => (if t353 = true then ((i_copyInts.f l0_1).bind fun t354 => ((i_InversePerm.f k l0_0).bind fun t357 => (some (t354, t357, true)))) else (some (([] : List Int), ([] : List Int), false)))) = some (r1, r2, r3) := h
 clear h
 replace H := oB H
 obtain ⟨t353, A20, H⟩ := H
 replace H : (if t353 = true then ((i_copyInts.f l0_1).bind fun t354 => ((i_InversePerm.f k l0_0).bind fun t357 => (some (t354, t357, true)))) else (some (([] : List Int), ([] : List Int), false))) = some (r1, r2, r3) := H
 have A2 := aM A20
 clear A20
 by_cases c3 : t353 = true
 {
 subst c3
 have H1 : ((i_copyInts.f l0_1).bind fun t354 => ((i_InversePerm.f k l0_0).bind fun t357 => (some (t354, t357, true)))) = some (r1, r2, r3) := by rw [if_pos rfl] at H; exact H
 clear H
 have H := H1
 clear H1
 replace H := oB H
 obtain ⟨t354, A40, H⟩ := H
 replace H : ((i_InversePerm.f k l0_0).bind fun t357 => (some (t354, t357, true))) = some (r1, r2, r3) := H
 have A4 := aM A40
 clear A40
 replace H := oB H
 obtain ⟨t357, A50, H⟩ := H
 replace H : (some (t354, t357, true)) = some (r1, r2, r3) := H
 have A5 := aM A50
 clear A50
 simp only [Option.some.injEq, Prod.mk.injEq] at H
 obtain ⟨rfl, rfl, rfl⟩ := H
 go_enter Try.func50, Try.ntmps50
 try go_wp2_with (first | ((with_reducible refine gate_dst (N := 1) rfl ?_); refine bEv (cs := #[.slice A0_0 l0_0.length c0_0, .slice A0_1 l0_1.length c0_1]) (t := 27) ?_; intro gb351 hg w6 hbox hb; have BK351 := aM (hbox); have GW351 := aM ((szX (below_size (bX HB.out)) hg : w.heap.size ≤ gb351)); have GE351 := aM ((szX (below_size (bX HB.out)) hg : w.heap.size ≤ gb351)); replace HB := aM (below_step (bX HB.out) hb); clear hb hbox hg) | ((with_reducible refine gate_dst (N := 2) rfl ?_); refine bEv (cs := #[.slice none 0 0, .slice none 0 0]) (t := 27) ?_; intro gb352 hg w7 hbox hb; have BK352 := aM (hbox); have GW352 := aM ((szX (below_size (bX1 HB.out GE351.out)) hg : w.heap.size ≤ gb352)); have GE352 := aM ((szX (below_size (bX1 HB.out GE351.out)) hg : w.heap.size ≤ gb352)); replace HB := aM (below_step (bX1 HB.out GE351.out) hb); have NB351_352 := aM (neX BK351.out hg); have NB352_351 := aM (nfX BK351.out hg); replace BK351 := aM (bbX BK351.out hb); clear hb hbox hg; have hnb8 := NB351_352.out; have hnc8 := NB352_351.out; have hcz9_0 := cz20 BK351.out; have hcz9_1 := cz21 BK351.out; have hfz9_0 := blk_frozen BK351.out 0; have hfz9_1 := blk_frozen BK351.out 1) | ((with_reducible refine gate_callee (f := 19) rfl ?_); refine goesL_ (some 5) rfl rfl Try.func19 (by kernel_rfl) rfl #[.agg #[.slice A0_0 l0_0.length c0_0, .slice A0_1 l0_1.length c0_1]] rfl aX ?_; (with_reducible refine (i_SurfaceOk.calls k _ _ l0_0 _ _ l0_1 true _ ?side1 ?side2 ?side3 ?side4 A2.out).mono ?_); (case side1 => exact cX (Kd.C_below HR0_0.out HB.out)); (case side2 => exact HC0_0.out); (case side3 => exact cX (Kd.C_below HR0_1.out HB.out)); (case side4 => exact HC0_1.out); rintro e w10 ⟨rfl, hb⟩; refine ⟨_, rfl, ?_⟩; replace BK351 := aM (bbX BK351.out hb); replace BK352 := aM (bbX BK352.out hb); replace HB := aM (below_step (bX2 HB.out GE351.out GE352.out) hb); (try clear hb); (try clear hb2); (try clear hk); (try clear hi)))
 replace BK351 := aM (blk_drew BK351.out)
 replace BK352 := aM (blk_drew BK352.out)
 replace HB := aM (below_drew1 HB.out)
 refine start_ (n := 9) (S := fun w' => w'.cell? ⟨gb351, 0, none⟩ = some (.slice A0_0 l0_0.length c0_0) ∧ w'.cell? ⟨gb351, 1, none⟩ = some (.slice A0_1 l0_1.length c0_1)) (ds := []) #[ff,ff,ff,ff,ff,ff,ff,ff,ff] (by kernel_rfl) rfl rfl ⟨cz20 BK351.out, cz21 BK351.out⟩ (fun hHeld => ?_); refine with_tabW i_UnturnSurface.tab3 i_UnturnSurface.bits3 (fun HT_ HW_ => ?_)
 generalize w10.drew = w11 at BK351 BK352 HB hHeld ⊢
 refine pX 0 8 (fl 9 1) rfl rfl HT_.out ?_
 refine pX 3 11 (fl 9 9) rfl rfl HT_.out ?_
 refine tX2 1 9 (fl 9 11) rfl rfl HT_.out HW_.out hHeld ?_
 refine tX2 4 12 (fl 9 27) rfl rfl HT_.out HW_.out hHeld ?_
 refine one_ (i := 2) (N := some 10) #[tt,tt,tt,tt,tt,ff,ff,ff,ff] rfl rfl (one_of HT_.out (by kernel_rfl)) (by decide) (fun K hK => ?_)
 refine goes_ Try.func46 (by kernel_rfl) rfl #[.slice A0_1 l0_1.length c0_1] (by rfl) rfl rfl aX ?_
 with_reducible refine (i_copyInts.calls _ _ l0_1 t354 _ ?side1 ?side2 A4.out).mono ?_
 (case side1 => exact cX (Kd.C_below HR0_1.out HB.out))
 (case side2 => exact HC0_1.out)
 rintro e w12 ⟨v355, rfl, ho0, hb⟩
 refine ⟨_, rfl, ?_⟩
 have HO356 := aM (Kd.R_lower ho0 (below_size (bX2 HB.out GE351.out GE352.out)))
 replace BK351 := aM (bbX BK351.out hb)
 replace BK352 := aM (bbX BK352.out hb)
 replace HB := aM (below_step (bX2 HB.out GE351.out GE352.out) hb)
 (try clear hb)
 (try clear hb2)
 (try clear hk)
 (try clear hi)
 (try clear ho0)
 refine hK.out _ _ ⟨cz20 BK351.out, cz21 BK351.out⟩ (fun hHeld => ?_)
 clear hK K
 refine norm_ (a' := ?_) ?_ ?_
 rotate_left
 {
 show Act.put _ (some 10) _ = _
 simp only [Act.put, zA, zB, zC, i64_w, i32_w]
 rfl
 }
 refine one_ (i := 5) (N := some 13) #[tt,tt,tt,tt,tt,tt,ff,ff,ff] rfl rfl (one_of HT_.out (by kernel_rfl)) (by decide) (fun K hK => ?_)
 refine goes_ Try.func22 (by kernel_rfl) rfl #[.slice A0_0 l0_0.length c0_0] (by rfl) rfl rfl aX ?_
 with_reducible refine (i_InversePerm.calls k _ _ l0_0 t357 _ ?side1 ?side2 A5.out).mono ?_
 (case side1 => exact cX (Kd.C_below HR0_0.out HB.out))
 (case side2 => exact HC0_0.out)
 rintro e w13 ⟨v358, rfl, ho0, hb⟩
 refine ⟨_, rfl, ?_⟩
 have HO359 := aM (Kd.R_lower (Kd.R_new' ho0 (Kd.R_lt (rX HO356.out))) (below_size (bX2 HB.out GE351.out GE352.out)))
 replace HO356 := aM (Kd.R_elder' (rX HO356.out) (Kd.R_base ho0) hb)
 replace BK351 := aM (bbX BK351.out hb)
 replace BK352 := aM (bbX BK352.out hb)
 replace HB := aM (below_step (bX2 HB.out GE351.out GE352.out) hb)
 (try clear hb)
 (try clear hb2)
 (try clear hk)
 (try clear hi)
 (try clear ho0)
 obtain ⟨Ao14, co14, eo14⟩ := Kd.R_slice HO359.out
 (first | subst eo14 | (injection eo14 with f1_ f2_ f3_; have f4_ := f1_.symm; have f5_ := f3_.symm; clear f1_ f2_ f3_; subst f4_; subst f5_))
 obtain ⟨Ao15, co15, eo15⟩ := Kd.R_slice HO356.out
 (first | subst eo15 | (injection eo15 with f1_ f2_ f3_; have f4_ := f1_.symm; have f5_ := f3_.symm; clear f1_ f2_ f3_; subst f4_; subst f5_))
 refine hK.out _ _ ⟨cz20 BK351.out, cz21 BK351.out⟩ (fun hHeld => ?_)
 clear hK K
 refine norm_ (a' := ?_) ?_ ?_
 rotate_left
 {
 show Act.put _ (some 13) _ = _
 simp only [Act.put, zA, zB, zC, i64_w, i32_w]
 rfl
 }
 refine pX 6 14 (fl 9 127) rfl rfl HT_.out ?_
 refine one_ (i := 7) (N := none) #[tt,tt,tt,tt,tt,tt,tt,tt,ff] rfl rfl (one_of HT_.out (by kernel_rfl)) (by decide) (fun K hK => ?_)
 have hs16 : w13.cell? ⟨gb352, 0, none⟩ = some (.slice none 0 0) := cz20 BK352.out
 have hfs16 := blk_frozen BK352.out 0
 have hns16_0 := NB351_352.out
 have hms16_0 := NB352_351.out
 have hs17 : w13.cell? ⟨gb352, 1, none⟩ = some (.slice none 0 0) := cz21 BK352.out
 have hfs17 := blk_frozen BK352.out 1
 have hns17_0 := NB351_352.out
 have hms17_0 := NB352_351.out
 refine skip_ (w1 := ?_) (by rfl) rfl ?_ ?_
 rotate_left
 {
 go_simp
 rfl
 }
 refine hK.out _ _ ⟨((cell_far (p := ⟨gb352, _, none⟩) NB351_352.out _).trans (((cell_far (p := ⟨gb352, _, none⟩) NB351_352.out _).trans (hHeld.1)))), ((cell_far (p := ⟨gb352, _, none⟩) NB351_352.out _).trans (((cell_far (p := ⟨gb352, _, none⟩) NB351_352.out _).trans (hHeld.2))))⟩ (fun hHeld => ?_)
 clear hK K
 refine pX 8 3 (fl 9 511) rfl rfl HT_.out ?_
 refine done_ (done_of HT_.out (by kernel_rfl)) ?_
 try go_wp2
 refine bodyPost_ret (results_ct rfl _ _ gb352 27 #[.slice Ao15 t354.length co15, .slice Ao14 t357.length co14] (0, 0) _ rfl (by (with_reducible repeat (first|refine kN ?_ _|refine kD ?_|refine kA ?_ _)); refine blk_put (cs := #[.slice Ao15 t354.length co15, .slice none 0 0]) ?_ 1 _ rfl; (with_reducible repeat (first|refine kN ?_ _|refine kD ?_|refine kA ?_ _)); refine blk_put (cs := #[.slice none 0 0, .slice none 0 0]) ?_ 0 _ rfl; (with_reducible repeat (first|refine kN ?_ _|refine kD ?_|refine kA ?_ _)); exact BK352.out) Try.underlying27 rfl (by kernel_rfl)) rfl ?_
 exact ⟨_, _, eX, by (with_reducible repeat (first|apply rA|apply rN|apply rD)); exact Kd.R_mono (Kd.R_far (p := ⟨gb352, 1, none⟩) (Kd.R_far (p := ⟨gb352, 0, none⟩) (Kd.R_types HO356.out BK352.out (by decide)) (fun _ hk => hk.2) (.slice Ao15 t354.length co15)) (fun _ hk => hk.2) (.slice Ao14 t357.length co14)) (fun _ hk => hk.1.2), by (with_reducible repeat (first|apply rA|apply rN|apply rD)); exact Kd.R_mono (Kd.R_far (p := ⟨gb352, 1, none⟩) (Kd.R_far (p := ⟨gb352, 0, none⟩) (Kd.R_types HO359.out BK352.out (by decide)) (fun _ hk => hk.2) (.slice Ao15 t354.length co15)) (fun _ hk => hk.2) (.slice Ao14 t357.length co14)) (fun _ hk => hk.1.2), bX2 HB.out GE351.out GE352.out⟩
 }
 {
 replace c3 := Bool.eq_false_iff.mpr c3
 subst c3
 have H1 : (some (([] : List Int), ([] : List Int), false)) = some (r1, r2, r3) := by rw [if_neg (show ¬ (false = true) by decide)] at H; exact H
 clear H
 have H := H1
 clear H1
 simp only [Option.some.injEq, Prod.mk.injEq] at H
 obtain ⟨rfl, rfl, rfl⟩ := H
 go_enter Try.func50, Try.ntmps50
 go_wp2_with (first | ((with_reducible refine gate_dst (N := 1) rfl ?_); refine bEv (cs := #[.slice A0_0 l0_0.length c0_0, .slice A0_1 l0_1.length c0_1]) (t := 27) ?_; intro gb351 hg w18 hbox hb; have BK351 := aM (hbox); have GW351 := aM ((szX (below_size (bX HB.out)) hg : w.heap.size ≤ gb351)); have GE351 := aM ((szX (below_size (bX HB.out)) hg : w.heap.size ≤ gb351)); replace HB := aM (below_step (bX HB.out) hb); clear hb hbox hg) | ((with_reducible refine gate_dst (N := 2) rfl ?_); refine bEv (cs := #[.slice none 0 0, .slice none 0 0]) (t := 27) ?_; intro gb352 hg w19 hbox hb; have BK352 := aM (hbox); have GW352 := aM ((szX (below_size (bX1 HB.out GE351.out)) hg : w.heap.size ≤ gb352)); have GE352 := aM ((szX (below_size (bX1 HB.out GE351.out)) hg : w.heap.size ≤ gb352)); replace HB := aM (below_step (bX1 HB.out GE351.out) hb); have NB351_352 := aM (neX BK351.out hg); have NB352_351 := aM (nfX BK351.out hg); replace BK351 := aM (bbX BK351.out hb); clear hb hbox hg; have hnb20 := NB351_352.out; have hnc20 := NB352_351.out; have hcz21_0 := cz20 BK351.out; have hcz21_1 := cz21 BK351.out; have hfz21_0 := blk_frozen BK351.out 0; have hfz21_1 := blk_frozen BK351.out 1) | ((with_reducible refine gate_callee (f := 19) rfl ?_); refine goesL_ (some 5) rfl rfl Try.func19 (by kernel_rfl) rfl #[.agg #[.slice A0_0 l0_0.length c0_0, .slice A0_1 l0_1.length c0_1]] rfl aX ?_; (with_reducible refine (i_SurfaceOk.calls k _ _ l0_0 _ _ l0_1 false _ ?side1 ?side2 ?side3 ?side4 A2.out).mono ?_); (case side1 => exact cX (Kd.C_below HR0_0.out HB.out)); (case side2 => exact HC0_0.out); (case side3 => exact cX (Kd.C_below HR0_1.out HB.out)); (case side4 => exact HC0_1.out); rintro e w22 ⟨rfl, hb⟩; refine ⟨_, rfl, ?_⟩; replace BK351 := aM (bbX BK351.out hb); replace BK352 := aM (bbX BK352.out hb); replace HB := aM (below_step (bX2 HB.out GE351.out GE352.out) hb); (try clear hb); (try clear hb2); (try clear hk); (try clear hi); have hcz23_0 := cz20 BK352.out; have hcz23_1 := cz21 BK352.out; have hfz23_0 := blk_frozen BK352.out 0; have hfz23_1 := blk_frozen BK352.out 1))
 refine bodyPost_ret (results_ct rfl _ _ gb352 27 #[.slice none 0 0, .slice none 0 0] (0, 0) _ rfl (by (with_reducible repeat (first|refine kN ?_ _|refine kD ?_|refine kA ?_ _)); refine blk_put (cs := #[.slice none 0 0, .slice none 0 0]) ?_ 1 _ rfl; (with_reducible repeat (first|refine kN ?_ _|refine kD ?_|refine kA ?_ _)); refine blk_put (cs := #[.slice none 0 0, .slice none 0 0]) ?_ 0 _ rfl; (with_reducible repeat (first|refine kN ?_ _|refine kD ?_|refine kA ?_ _)); exact BK352.out) Try.underlying27 rfl (by kernel_rfl)) rfl ?_
 exact ⟨_, _, eX, by first | exact Kd.R_nil _ _ _ _ _ | exact Kd.N_nil _ _ _ _ _ | exact Kd.V_nil _ _ _ _ _ | exact Kd.Q_nil _ _ _ _ _ | exact Kd.S_nil _ _ _ _ _, by first | exact Kd.R_nil _ _ _ _ _ | exact Kd.N_nil _ _ _ _ _ | exact Kd.V_nil _ _ _ _ _ | exact Kd.Q_nil _ _ _ _ _ | exact Kd.S_nil _ _ _ _ _, bX2 HB.out GE351.out GE352.out⟩
 }

/-! ### i_letterSurface: function 38 -/
def i_letterSurface.f (k : Nat) (l0_0 : List Int) (l0_1 : List Int) (a1 : Int) : Option (List Int × List Int) := if a1 = 84 then ((i_ShearSurface.f k l0_0 l0_1).bind fun bt363 => (some (bt363.1, bt363.2.1))) else (if a1 = 116 then ((i_UnshearSurface.f k l0_0 l0_1).bind fun bt370 => (some (bt370.1, bt370.2.1))) else (if a1 = 83 then ((i_TurnSurface.f k l0_0 l0_1).bind fun bt377 => (some (bt377.1, bt377.2.1))) else (if a1 = 115 then ((i_UnturnSurface.f k l0_0 l0_1).bind fun bt384 => (some (bt384.1, bt384.2.1))) else (some (([] : List Int), ([] : List Int))))))
theorem i_letterSurface.calls (k : Nat) (A0_0 : Option Addr) (c0_0 : Nat) (l0_0 : List Int) (A0_1 : Option Addr) (c0_1 : Nat) (l0_1 : List Int) (a1 : Int) (r1 : List Int) (r2 : List Int) (w : World) (hr0_0 : Kd.C (Kd.int .i64) w A0_0 l0_0.length l0_0) (hc0_0 : l0_0.length ≤ c0_0) (hr0_1 : Kd.C (Kd.int .i64) w A0_1 l0_1.length l0_1) (hc0_1 : l0_1.length ≤ c0_1) (h : i_letterSurface.f k l0_0 l0_1 a1 = some (r1, r2)) :
  Calls Try.prog 38 #[.agg #[.slice A0_0 l0_0.length c0_0, .slice A0_1 l0_1.length c0_1], .int .u8 a1] w fun e w' => ∃ v0_ v1_ : Value, e = .returned (.agg #[v0_, v1_]) ∧ Kd.R (Kd.int .i64) 3 w' w.heap.size (fun k_ => some k_ ≠ (v1_ : Value).ownBlock) v0_ r1 ∧ Kd.R (Kd.int .i64) 3 w' w.heap.size (fun k_ => some k_ ≠ (v0_ : Value).ownBlock) v1_ r2 ∧ Below w.heap.size w w' := by
 have hu27 := Try.underlying27
 have HR0_0 := aM hr0_0
 have HC0_0 := aM hc0_0
 clear hr0_0 hc0_0
 have HR0_1 := aM hr0_1
 have HC0_1 := aM hc0_1
 clear hr0_1 hc0_1
 have HB := aM (Below.refl w.heap.size w)
 have H : (if a1 = 84 then ((i_ShearSurface.f k l0_0 l0_1).bind fun bt363 => (some (bt363.1, bt363.2.1))) else (if a1 = 116 then ((i_UnshearSurface.f k l0_0 l0_1).bind fun bt370 => (some (bt370.1, bt370.2.1))) else (if a1 = 83 then ((i_TurnSurface.f k l0_0 l0_1).bind fun bt377 => (some (bt377.1, bt377.2.1))) else (if a1 = 115 then ((i_UnturnSurface.f k l0_0 l0_1).bind fun bt384 => (some (bt384.1, bt384.2.1))) else (some (([] : List Int), ([] : List Int))))))) = some (r1, r2) := h
 clear h
 by_cases c3 : a1 = 84
 {
 rw [if_pos c3] at H
 have c3b0 : (a1 == 84) = true := beq_iff_eq.mpr c3
 have c3b1 : (a1 != 84) = false := bne_eq_false_iff_eq.mpr c3
 clear c3
 replace H := oB H
 obtain ⟨⟨t363, t366, t369⟩, A40, H⟩ := H
 replace H : (some (t363, t366)) = some (r1, r2) := H
 have A4 := aM A40
 clear A40
 simp only [Option.some.injEq, Prod.mk.injEq] at H
 obtain ⟨rfl, rfl⟩ := H
 go_enter Try.func38, Try.ntmps38
 go_wp2_with (first | ((with_reducible refine gate_dst (N := 2) rfl ?_); refine bEv (cs := #[.slice A0_0 l0_0.length c0_0, .slice A0_1 l0_1.length c0_1]) (t := 27) ?_; intro gb360 hg w5 hbox hb; have BK360 := aM (hbox); have GW360 := aM ((szX (below_size (bX HB.out)) hg : w.heap.size ≤ gb360)); have GE360 := aM ((szX (below_size (bX HB.out)) hg : w.heap.size ≤ gb360)); replace HB := aM (below_step (bX HB.out) hb); clear hb hbox hg) | ((with_reducible refine gate_dst (N := 4) rfl ?_); refine bEv (cs := #[.slice none 0 0, .slice none 0 0]) (t := 27) ?_; intro gb361 hg w6 hbox hb; have BK361 := aM (hbox); have GW361 := aM ((szX (below_size (bX1 HB.out GE360.out)) hg : w.heap.size ≤ gb361)); have GE361 := aM ((szX (below_size (bX1 HB.out GE360.out)) hg : w.heap.size ≤ gb361)); replace HB := aM (below_step (bX1 HB.out GE360.out) hb); have NB360_361 := aM (neX BK360.out hg); have NB361_360 := aM (nfX BK360.out hg); replace BK360 := aM (bbX BK360.out hb); clear hb hbox hg) | ((with_reducible refine gate_dst (N := 5) rfl ?_); refine bEv (cs := #[.slice none 0 0, .slice none 0 0]) (t := 27) ?_; intro gb362 hg w7 hbox hb; have BK362 := aM (hbox); have GW362 := aM ((szX (below_size (bX2 HB.out GE360.out GE361.out)) hg : w.heap.size ≤ gb362)); have GE362 := aM ((szX (below_size (bX2 HB.out GE360.out GE361.out)) hg : w.heap.size ≤ gb362)); replace HB := aM (below_step (bX2 HB.out GE360.out GE361.out) hb); have NB360_362 := aM (neX BK360.out hg); have NB362_360 := aM (nfX BK360.out hg); replace BK360 := aM (bbX BK360.out hb); have NB361_362 := aM (neX BK361.out hg); have NB362_361 := aM (nfX BK361.out hg); replace BK361 := aM (bbX BK361.out hb); clear hb hbox hg; have hnb8 := NB362_360.out; have hnc8 := NB360_362.out; have hnb9 := NB362_361.out; have hnc9 := NB361_362.out; have hcz10_0 := cz20 BK362.out; have hcz10_1 := cz21 BK362.out; have hfz10_0 := blk_frozen BK362.out 0; have hfz10_1 := blk_frozen BK362.out 1; have hnb11 := NB360_361.out; have hnc11 := NB361_360.out; have hcz12_0 := cz20 BK360.out; have hcz12_1 := cz21 BK360.out; have hfz12_0 := blk_frozen BK360.out 0; have hfz12_1 := blk_frozen BK360.out 1) | ((with_reducible refine gate_callee (f := 47) rfl ?_); refine goesL_ (some 12) rfl rfl Try.func47 (by kernel_rfl) rfl #[.agg #[.slice A0_0 l0_0.length c0_0, .slice A0_1 l0_1.length c0_1]] rfl aX ?_; (with_reducible refine (i_ShearSurface.calls k _ _ l0_0 _ _ l0_1 t363 t366 t369 _ ?side1 ?side2 ?side3 ?side4 A4.out).mono ?_); (case side1 => exact Kd.C_below HR0_0.out (bX3 HB.out GE360.out GE361.out GE362.out)); (case side2 => exact HC0_0.out); (case side3 => exact Kd.C_below HR0_1.out (bX3 HB.out GE360.out GE361.out GE362.out)); (case side4 => exact HC0_1.out); rintro e w13 ⟨v364, v367, rfl, ho0, ho1, hb⟩; refine ⟨_, rfl, ?_⟩; have HO365 := aM (Kd.R_lower ho0 (below_size (bX3 HB.out GE360.out GE361.out GE362.out))); have HO368 := aM (Kd.R_lower ho1 (below_size (bX3 HB.out GE360.out GE361.out GE362.out))); replace BK360 := aM (blk_below (g := gb360) (o := .cells #[.slice A0_0 l0_0.length c0_0, .slice A0_1 l0_1.length c0_1] 27 (0, 0)) (by (with_reducible repeat (first|refine kN ?_ _|refine kD ?_|refine kA ?_ _)); refine blk_far ?_ NB360_362.out _; (with_reducible repeat (first|refine kN ?_ _|refine kD ?_|refine kA ?_ _)); refine blk_far ?_ NB360_362.out _; (with_reducible repeat (first|refine kN ?_ _|refine kD ?_|refine kA ?_ _)); exact BK360.out) hb); replace BK361 := aM (blk_below (g := gb361) (o := .cells #[.slice none 0 0, .slice none 0 0] 27 (0, 0)) (by (with_reducible repeat (first|refine kN ?_ _|refine kD ?_|refine kA ?_ _)); refine blk_far ?_ NB361_362.out _; (with_reducible repeat (first|refine kN ?_ _|refine kD ?_|refine kA ?_ _)); refine blk_far ?_ NB361_362.out _; (with_reducible repeat (first|refine kN ?_ _|refine kD ?_|refine kA ?_ _)); exact BK361.out) hb); replace BK362 := aM (blk_below (g := gb362) (o := .cells #[.slice none 0 0, .slice none 0 0] 27 (0, 0)) (by (with_reducible repeat (first|refine kN ?_ _|refine kD ?_|refine kA ?_ _)); refine blk_put (cs := #[.slice none 0 0, .slice none 0 0]) ?_ 1 _ rfl; (with_reducible repeat (first|refine kN ?_ _|refine kD ?_|refine kA ?_ _)); refine blk_put (cs := #[.slice none 0 0, .slice none 0 0]) ?_ 0 _ rfl; (with_reducible repeat (first|refine kN ?_ _|refine kD ?_|refine kA ?_ _)); exact BK362.out) hb); replace HB := aM (below_step (bX3 HB.out GE360.out GE361.out GE362.out) hb); (try clear hb); (try clear hb2); (try clear hk); (try clear hi); (try clear ho0); (try clear ho1); obtain ⟨Ao14, co14, eo14⟩ := Kd.R_slice HO365.out; subst eo14; have hcz15_0 := cz20 BK362.out; have hcz15_1 := cz21 BK362.out; have hfz15_0 := blk_frozen BK362.out 0; have hfz15_1 := blk_frozen BK362.out 1; obtain ⟨Ao16, co16, eo16⟩ := Kd.R_slice HO368.out; subst eo16; have hcz17_0 := cz20 BK361.out; have hcz17_1 := cz21 BK361.out; have hfz17_0 := blk_frozen BK361.out 0; have hfz17_1 := blk_frozen BK361.out 1))
 refine bodyPost_ret (results_cell_row rfl _ _ gb361 27 #[.slice Ao14 t363.length co14, .slice Ao16 t366.length co16] (0, 0) _ rfl (by (with_reducible repeat (first|refine kN ?_ _|refine kD ?_|refine kA ?_ _)); refine blk_put (cs := #[.slice Ao14 t363.length co14, .slice none 0 0]) ?_ 1 _ rfl; (with_reducible repeat (first|refine kN ?_ _|refine kD ?_|refine kA ?_ _)); refine blk_put (cs := #[.slice none 0 0, .slice none 0 0]) ?_ 0 _ rfl; (with_reducible repeat (first|refine kN ?_ _|refine kD ?_|refine kA ?_ _)); refine blk_far ?_ NB361_362.out _; (with_reducible repeat (first|refine kN ?_ _|refine kD ?_|refine kA ?_ _)); refine blk_far ?_ NB361_362.out _; (with_reducible repeat (first|refine kN ?_ _|refine kD ?_|refine kA ?_ _)); exact BK361.out) Try.underlying27 rfl (by kernel_rfl)) rfl ?_
 exact ⟨_, _, eX, by (with_reducible repeat (first|apply rA|apply rN|apply rD)); exact Kd.R_mono (Kd.R_far (p := ⟨gb361, 1, none⟩) (Kd.R_far (p := ⟨gb361, 0, none⟩) (Kd.R_far (p := ⟨gb362, 1, none⟩) (Kd.R_far (p := ⟨gb362, 0, none⟩) (Kd.R_types (Kd.R_types HO365.out BK362.out (by decide)) BK361.out (by decide)) (fun _ hk => hk.1.2) (.slice Ao14 t363.length co14)) (fun _ hk => hk.1.2) (.slice Ao16 t366.length co16)) (fun _ hk => hk.2) (.slice Ao14 t363.length co14)) (fun _ hk => hk.2) (.slice Ao16 t366.length co16)) (fun _ hk => hk.1.1), by (with_reducible repeat (first|apply rA|apply rN|apply rD)); exact Kd.R_mono (Kd.R_far (p := ⟨gb361, 1, none⟩) (Kd.R_far (p := ⟨gb361, 0, none⟩) (Kd.R_far (p := ⟨gb362, 1, none⟩) (Kd.R_far (p := ⟨gb362, 0, none⟩) (Kd.R_types (Kd.R_types HO368.out BK362.out (by decide)) BK361.out (by decide)) (fun _ hk => hk.1.2) (.slice Ao14 t363.length co14)) (fun _ hk => hk.1.2) (.slice Ao16 t366.length co16)) (fun _ hk => hk.2) (.slice Ao14 t363.length co14)) (fun _ hk => hk.2) (.slice Ao16 t366.length co16)) (fun _ hk => hk.1.1), bX3 HB.out GE360.out GE361.out GE362.out⟩
 }
 {
 rw [if_neg c3] at H
 have c3b0 : (a1 == 84) = false := beq_eq_false_iff_ne.mpr c3
 have c3b1 : (a1 != 84) = true := bne_iff_ne.mpr c3
 by_cases c18 : a1 = 116
 {
 rw [if_pos c18] at H
 have c18b0 : (a1 == 116) = true := beq_iff_eq.mpr c18
 have c18b1 : (a1 != 116) = false := bne_eq_false_iff_eq.mpr c18
 clear c18
 replace H := oB H
 obtain ⟨⟨t370, t373, t376⟩, A190, H⟩ := H
 replace H : (some (t370, t373)) = some (r1, r2) := H
 have A19 := aM A190
 clear A190
 simp only [Option.some.injEq, Prod.mk.injEq] at H
 obtain ⟨rfl, rfl⟩ := H
 go_enter Try.func38, Try.ntmps38
 go_wp2_with (first | ((with_reducible refine gate_dst (N := 2) rfl ?_); refine bEv (cs := #[.slice A0_0 l0_0.length c0_0, .slice A0_1 l0_1.length c0_1]) (t := 27) ?_; intro gb360 hg w20 hbox hb; have BK360 := aM (hbox); have GW360 := aM ((szX (below_size (bX HB.out)) hg : w.heap.size ≤ gb360)); have GE360 := aM ((szX (below_size (bX HB.out)) hg : w.heap.size ≤ gb360)); replace HB := aM (below_step (bX HB.out) hb); clear hb hbox hg) | ((with_reducible refine gate_dst (N := 4) rfl ?_); refine bEv (cs := #[.slice none 0 0, .slice none 0 0]) (t := 27) ?_; intro gb361 hg w21 hbox hb; have BK361 := aM (hbox); have GW361 := aM ((szX (below_size (bX1 HB.out GE360.out)) hg : w.heap.size ≤ gb361)); have GE361 := aM ((szX (below_size (bX1 HB.out GE360.out)) hg : w.heap.size ≤ gb361)); replace HB := aM (below_step (bX1 HB.out GE360.out) hb); have NB360_361 := aM (neX BK360.out hg); have NB361_360 := aM (nfX BK360.out hg); replace BK360 := aM (bbX BK360.out hb); clear hb hbox hg) | ((with_reducible refine gate_dst (N := 5) rfl ?_); refine bEv (cs := #[.slice none 0 0, .slice none 0 0]) (t := 27) ?_; intro gb362 hg w22 hbox hb; have BK362 := aM (hbox); have GW362 := aM ((szX (below_size (bX2 HB.out GE360.out GE361.out)) hg : w.heap.size ≤ gb362)); have GE362 := aM ((szX (below_size (bX2 HB.out GE360.out GE361.out)) hg : w.heap.size ≤ gb362)); replace HB := aM (below_step (bX2 HB.out GE360.out GE361.out) hb); have NB360_362 := aM (neX BK360.out hg); have NB362_360 := aM (nfX BK360.out hg); replace BK360 := aM (bbX BK360.out hb); have NB361_362 := aM (neX BK361.out hg); have NB362_361 := aM (nfX BK361.out hg); replace BK361 := aM (bbX BK361.out hb); clear hb hbox hg; have hnb23 := NB362_360.out; have hnc23 := NB360_362.out; have hnb24 := NB362_361.out; have hnc24 := NB361_362.out; have hcz25_0 := cz20 BK362.out; have hcz25_1 := cz21 BK362.out; have hfz25_0 := blk_frozen BK362.out 0; have hfz25_1 := blk_frozen BK362.out 1; have hnb26 := NB360_361.out; have hnc26 := NB361_360.out; have hcz27_0 := cz20 BK360.out; have hcz27_1 := cz21 BK360.out; have hfz27_0 := blk_frozen BK360.out 0; have hfz27_1 := blk_frozen BK360.out 1) | ((with_reducible refine gate_callee (f := 48) rfl ?_); refine goesL_ (some 19) rfl rfl Try.func48 (by kernel_rfl) rfl #[.agg #[.slice A0_0 l0_0.length c0_0, .slice A0_1 l0_1.length c0_1]] rfl aX ?_; (with_reducible refine (i_UnshearSurface.calls k _ _ l0_0 _ _ l0_1 t370 t373 t376 _ ?side1 ?side2 ?side3 ?side4 A19.out).mono ?_); (case side1 => exact Kd.C_below HR0_0.out (bX3 HB.out GE360.out GE361.out GE362.out)); (case side2 => exact HC0_0.out); (case side3 => exact Kd.C_below HR0_1.out (bX3 HB.out GE360.out GE361.out GE362.out)); (case side4 => exact HC0_1.out); rintro e w28 ⟨v371, v374, rfl, ho0, ho1, hb⟩; refine ⟨_, rfl, ?_⟩; have HO372 := aM (Kd.R_lower ho0 (below_size (bX3 HB.out GE360.out GE361.out GE362.out))); have HO375 := aM (Kd.R_lower ho1 (below_size (bX3 HB.out GE360.out GE361.out GE362.out))); replace BK360 := aM (blk_below (g := gb360) (o := .cells #[.slice A0_0 l0_0.length c0_0, .slice A0_1 l0_1.length c0_1] 27 (0, 0)) (by (with_reducible repeat (first|refine kN ?_ _|refine kD ?_|refine kA ?_ _)); refine blk_far ?_ NB360_362.out _; (with_reducible repeat (first|refine kN ?_ _|refine kD ?_|refine kA ?_ _)); refine blk_far ?_ NB360_362.out _; (with_reducible repeat (first|refine kN ?_ _|refine kD ?_|refine kA ?_ _)); exact BK360.out) hb); replace BK361 := aM (blk_below (g := gb361) (o := .cells #[.slice none 0 0, .slice none 0 0] 27 (0, 0)) (by (with_reducible repeat (first|refine kN ?_ _|refine kD ?_|refine kA ?_ _)); refine blk_far ?_ NB361_362.out _; (with_reducible repeat (first|refine kN ?_ _|refine kD ?_|refine kA ?_ _)); refine blk_far ?_ NB361_362.out _; (with_reducible repeat (first|refine kN ?_ _|refine kD ?_|refine kA ?_ _)); exact BK361.out) hb); replace BK362 := aM (blk_below (g := gb362) (o := .cells #[.slice none 0 0, .slice none 0 0] 27 (0, 0)) (by (with_reducible repeat (first|refine kN ?_ _|refine kD ?_|refine kA ?_ _)); refine blk_put (cs := #[.slice none 0 0, .slice none 0 0]) ?_ 1 _ rfl; (with_reducible repeat (first|refine kN ?_ _|refine kD ?_|refine kA ?_ _)); refine blk_put (cs := #[.slice none 0 0, .slice none 0 0]) ?_ 0 _ rfl; (with_reducible repeat (first|refine kN ?_ _|refine kD ?_|refine kA ?_ _)); exact BK362.out) hb); replace HB := aM (below_step (bX3 HB.out GE360.out GE361.out GE362.out) hb); (try clear hb); (try clear hb2); (try clear hk); (try clear hi); (try clear ho0); (try clear ho1); obtain ⟨Ao29, co29, eo29⟩ := Kd.R_slice HO372.out; subst eo29; have hcz30_0 := cz20 BK362.out; have hcz30_1 := cz21 BK362.out; have hfz30_0 := blk_frozen BK362.out 0; have hfz30_1 := blk_frozen BK362.out 1; obtain ⟨Ao31, co31, eo31⟩ := Kd.R_slice HO375.out; subst eo31; have hcz32_0 := cz20 BK361.out; have hcz32_1 := cz21 BK361.out; have hfz32_0 := blk_frozen BK361.out 0; have hfz32_1 := blk_frozen BK361.out 1))
 refine bodyPost_ret (results_cell_row rfl _ _ gb361 27 #[.slice Ao29 t370.length co29, .slice Ao31 t373.length co31] (0, 0) _ rfl (by (with_reducible repeat (first|refine kN ?_ _|refine kD ?_|refine kA ?_ _)); refine blk_put (cs := #[.slice Ao29 t370.length co29, .slice none 0 0]) ?_ 1 _ rfl; (with_reducible repeat (first|refine kN ?_ _|refine kD ?_|refine kA ?_ _)); refine blk_put (cs := #[.slice none 0 0, .slice none 0 0]) ?_ 0 _ rfl; (with_reducible repeat (first|refine kN ?_ _|refine kD ?_|refine kA ?_ _)); refine blk_far ?_ NB361_362.out _; (with_reducible repeat (first|refine kN ?_ _|refine kD ?_|refine kA ?_ _)); refine blk_far ?_ NB361_362.out _; (with_reducible repeat (first|refine kN ?_ _|refine kD ?_|refine kA ?_ _)); exact BK361.out) Try.underlying27 rfl (by kernel_rfl)) rfl ?_
 exact ⟨_, _, eX, by (with_reducible repeat (first|apply rA|apply rN|apply rD)); exact Kd.R_mono (Kd.R_far (p := ⟨gb361, 1, none⟩) (Kd.R_far (p := ⟨gb361, 0, none⟩) (Kd.R_far (p := ⟨gb362, 1, none⟩) (Kd.R_far (p := ⟨gb362, 0, none⟩) (Kd.R_types (Kd.R_types HO372.out BK362.out (by decide)) BK361.out (by decide)) (fun _ hk => hk.1.2) (.slice Ao29 t370.length co29)) (fun _ hk => hk.1.2) (.slice Ao31 t373.length co31)) (fun _ hk => hk.2) (.slice Ao29 t370.length co29)) (fun _ hk => hk.2) (.slice Ao31 t373.length co31)) (fun _ hk => hk.1.1), by (with_reducible repeat (first|apply rA|apply rN|apply rD)); exact Kd.R_mono (Kd.R_far (p := ⟨gb361, 1, none⟩) (Kd.R_far (p := ⟨gb361, 0, none⟩) (Kd.R_far (p := ⟨gb362, 1, none⟩) (Kd.R_far (p := ⟨gb362, 0, none⟩) (Kd.R_types (Kd.R_types HO375.out BK362.out (by decide)) BK361.out (by decide)) (fun _ hk => hk.1.2) (.slice Ao29 t370.length co29)) (fun _ hk => hk.1.2) (.slice Ao31 t373.length co31)) (fun _ hk => hk.2) (.slice Ao29 t370.length co29)) (fun _ hk => hk.2) (.slice Ao31 t373.length co31)) (fun _ hk => hk.1.1), bX3 HB.out GE360.out GE361.out GE362.out⟩
 }
 {
 rw [if_neg c18] at H
 have c18b0 : (a1 == 116) = false := beq_eq_false_iff_ne.mpr c18
 have c18b1 : (a1 != 116) = true := bne_iff_ne.mpr c18
 by_cases c33 : a1 = 83
 {
 rw [if_pos c33] at H
 have c33b0 : (a1 == 83) = true := beq_iff_eq.mpr c33
 have c33b1 : (a1 != 83) = false := bne_eq_false_iff_eq.mpr c33
 clear c33
 replace H := oB H
 obtain ⟨⟨t377, t380, t383⟩, A340, H⟩ := H
 replace H : (some (t377, t380)) = some (r1, r2) := H
 have A34 := aM A340
 clear A340
 simp only [Option.some.injEq, Prod.mk.injEq] at H
 obtain ⟨rfl, rfl⟩ := H
 go_enter Try.func38, Try.ntmps38
 go_wp2_with (first | ((with_reducible refine gate_dst (N := 2) rfl ?_); refine bEv (cs := #[.slice A0_0 l0_0.length c0_0, .slice A0_1 l0_1.length c0_1]) (t := 27) ?_; intro gb360 hg w35 hbox hb; have BK360 := aM (hbox); have GW360 := aM ((szX (below_size (bX HB.out)) hg : w.heap.size ≤ gb360)); have GE360 := aM ((szX (below_size (bX HB.out)) hg : w.heap.size ≤ gb360)); replace HB := aM (below_step (bX HB.out) hb); clear hb hbox hg) | ((with_reducible refine gate_dst (N := 4) rfl ?_); refine bEv (cs := #[.slice none 0 0, .slice none 0 0]) (t := 27) ?_; intro gb361 hg w36 hbox hb; have BK361 := aM (hbox); have GW361 := aM ((szX (below_size (bX1 HB.out GE360.out)) hg : w.heap.size ≤ gb361)); have GE361 := aM ((szX (below_size (bX1 HB.out GE360.out)) hg : w.heap.size ≤ gb361)); replace HB := aM (below_step (bX1 HB.out GE360.out) hb); have NB360_361 := aM (neX BK360.out hg); have NB361_360 := aM (nfX BK360.out hg); replace BK360 := aM (bbX BK360.out hb); clear hb hbox hg) | ((with_reducible refine gate_dst (N := 5) rfl ?_); refine bEv (cs := #[.slice none 0 0, .slice none 0 0]) (t := 27) ?_; intro gb362 hg w37 hbox hb; have BK362 := aM (hbox); have GW362 := aM ((szX (below_size (bX2 HB.out GE360.out GE361.out)) hg : w.heap.size ≤ gb362)); have GE362 := aM ((szX (below_size (bX2 HB.out GE360.out GE361.out)) hg : w.heap.size ≤ gb362)); replace HB := aM (below_step (bX2 HB.out GE360.out GE361.out) hb); have NB360_362 := aM (neX BK360.out hg); have NB362_360 := aM (nfX BK360.out hg); replace BK360 := aM (bbX BK360.out hb); have NB361_362 := aM (neX BK361.out hg); have NB362_361 := aM (nfX BK361.out hg); replace BK361 := aM (bbX BK361.out hb); clear hb hbox hg; have hnb38 := NB362_360.out; have hnc38 := NB360_362.out; have hnb39 := NB362_361.out; have hnc39 := NB361_362.out; have hcz40_0 := cz20 BK362.out; have hcz40_1 := cz21 BK362.out; have hfz40_0 := blk_frozen BK362.out 0; have hfz40_1 := blk_frozen BK362.out 1; have hnb41 := NB360_361.out; have hnc41 := NB361_360.out; have hcz42_0 := cz20 BK360.out; have hcz42_1 := cz21 BK360.out; have hfz42_0 := blk_frozen BK360.out 0; have hfz42_1 := blk_frozen BK360.out 1) | ((with_reducible refine gate_callee (f := 49) rfl ?_); refine goesL_ (some 26) rfl rfl Try.func49 (by kernel_rfl) rfl #[.agg #[.slice A0_0 l0_0.length c0_0, .slice A0_1 l0_1.length c0_1]] rfl aX ?_; (with_reducible refine (i_TurnSurface.calls k _ _ l0_0 _ _ l0_1 t377 t380 t383 _ ?side1 ?side2 ?side3 ?side4 A34.out).mono ?_); (case side1 => exact Kd.C_below HR0_0.out (bX3 HB.out GE360.out GE361.out GE362.out)); (case side2 => exact HC0_0.out); (case side3 => exact Kd.C_below HR0_1.out (bX3 HB.out GE360.out GE361.out GE362.out)); (case side4 => exact HC0_1.out); rintro e w43 ⟨v378, v381, rfl, ho0, ho1, hb⟩; refine ⟨_, rfl, ?_⟩; have HO379 := aM (Kd.R_lower ho0 (below_size (bX3 HB.out GE360.out GE361.out GE362.out))); have HO382 := aM (Kd.R_lower ho1 (below_size (bX3 HB.out GE360.out GE361.out GE362.out))); replace BK360 := aM (blk_below (g := gb360) (o := .cells #[.slice A0_0 l0_0.length c0_0, .slice A0_1 l0_1.length c0_1] 27 (0, 0)) (by (with_reducible repeat (first|refine kN ?_ _|refine kD ?_|refine kA ?_ _)); refine blk_far ?_ NB360_362.out _; (with_reducible repeat (first|refine kN ?_ _|refine kD ?_|refine kA ?_ _)); refine blk_far ?_ NB360_362.out _; (with_reducible repeat (first|refine kN ?_ _|refine kD ?_|refine kA ?_ _)); exact BK360.out) hb); replace BK361 := aM (blk_below (g := gb361) (o := .cells #[.slice none 0 0, .slice none 0 0] 27 (0, 0)) (by (with_reducible repeat (first|refine kN ?_ _|refine kD ?_|refine kA ?_ _)); refine blk_far ?_ NB361_362.out _; (with_reducible repeat (first|refine kN ?_ _|refine kD ?_|refine kA ?_ _)); refine blk_far ?_ NB361_362.out _; (with_reducible repeat (first|refine kN ?_ _|refine kD ?_|refine kA ?_ _)); exact BK361.out) hb); replace BK362 := aM (blk_below (g := gb362) (o := .cells #[.slice none 0 0, .slice none 0 0] 27 (0, 0)) (by (with_reducible repeat (first|refine kN ?_ _|refine kD ?_|refine kA ?_ _)); refine blk_put (cs := #[.slice none 0 0, .slice none 0 0]) ?_ 1 _ rfl; (with_reducible repeat (first|refine kN ?_ _|refine kD ?_|refine kA ?_ _)); refine blk_put (cs := #[.slice none 0 0, .slice none 0 0]) ?_ 0 _ rfl; (with_reducible repeat (first|refine kN ?_ _|refine kD ?_|refine kA ?_ _)); exact BK362.out) hb); replace HB := aM (below_step (bX3 HB.out GE360.out GE361.out GE362.out) hb); (try clear hb); (try clear hb2); (try clear hk); (try clear hi); (try clear ho0); (try clear ho1); obtain ⟨Ao44, co44, eo44⟩ := Kd.R_slice HO379.out; subst eo44; have hcz45_0 := cz20 BK362.out; have hcz45_1 := cz21 BK362.out; have hfz45_0 := blk_frozen BK362.out 0; have hfz45_1 := blk_frozen BK362.out 1; obtain ⟨Ao46, co46, eo46⟩ := Kd.R_slice HO382.out; subst eo46; have hcz47_0 := cz20 BK361.out; have hcz47_1 := cz21 BK361.out; have hfz47_0 := blk_frozen BK361.out 0; have hfz47_1 := blk_frozen BK361.out 1))
 refine bodyPost_ret (results_cell_row rfl _ _ gb361 27 #[.slice Ao44 t377.length co44, .slice Ao46 t380.length co46] (0, 0) _ rfl (by (with_reducible repeat (first|refine kN ?_ _|refine kD ?_|refine kA ?_ _)); refine blk_put (cs := #[.slice Ao44 t377.length co44, .slice none 0 0]) ?_ 1 _ rfl; (with_reducible repeat (first|refine kN ?_ _|refine kD ?_|refine kA ?_ _)); refine blk_put (cs := #[.slice none 0 0, .slice none 0 0]) ?_ 0 _ rfl; (with_reducible repeat (first|refine kN ?_ _|refine kD ?_|refine kA ?_ _)); refine blk_far ?_ NB361_362.out _; (with_reducible repeat (first|refine kN ?_ _|refine kD ?_|refine kA ?_ _)); refine blk_far ?_ NB361_362.out _; (with_reducible repeat (first|refine kN ?_ _|refine kD ?_|refine kA ?_ _)); exact BK361.out) Try.underlying27 rfl (by kernel_rfl)) rfl ?_
 exact ⟨_, _, eX, by (with_reducible repeat (first|apply rA|apply rN|apply rD)); exact Kd.R_mono (Kd.R_far (p := ⟨gb361, 1, none⟩) (Kd.R_far (p := ⟨gb361, 0, none⟩) (Kd.R_far (p := ⟨gb362, 1, none⟩) (Kd.R_far (p := ⟨gb362, 0, none⟩) (Kd.R_types (Kd.R_types HO379.out BK362.out (by decide)) BK361.out (by decide)) (fun _ hk => hk.1.2) (.slice Ao44 t377.length co44)) (fun _ hk => hk.1.2) (.slice Ao46 t380.length co46)) (fun _ hk => hk.2) (.slice Ao44 t377.length co44)) (fun _ hk => hk.2) (.slice Ao46 t380.length co46)) (fun _ hk => hk.1.1), by (with_reducible repeat (first|apply rA|apply rN|apply rD)); exact Kd.R_mono (Kd.R_far (p := ⟨gb361, 1, none⟩) (Kd.R_far (p := ⟨gb361, 0, none⟩) (Kd.R_far (p := ⟨gb362, 1, none⟩) (Kd.R_far (p := ⟨gb362, 0, none⟩) (Kd.R_types (Kd.R_types HO382.out BK362.out (by decide)) BK361.out (by decide)) (fun _ hk => hk.1.2) (.slice Ao44 t377.length co44)) (fun _ hk => hk.1.2) (.slice Ao46 t380.length co46)) (fun _ hk => hk.2) (.slice Ao44 t377.length co44)) (fun _ hk => hk.2) (.slice Ao46 t380.length co46)) (fun _ hk => hk.1.1), bX3 HB.out GE360.out GE361.out GE362.out⟩
 }
 {
 rw [if_neg c33] at H
 have c33b0 : (a1 == 83) = false := beq_eq_false_iff_ne.mpr c33
 have c33b1 : (a1 != 83) = true := bne_iff_ne.mpr c33
 by_cases c48 : a1 = 115
 {
 rw [if_pos c48] at H
 have c48b0 : (a1 == 115) = true := beq_iff_eq.mpr c48
 have c48b1 : (a1 != 115) = false := bne_eq_false_iff_eq.mpr c48
 clear c48
 replace H := oB H
 obtain ⟨⟨t384, t387, t390⟩, A490, H⟩ := H
 replace H : (some (t384, t387)) = some (r1, r2) := H
 have A49 := aM A490
 clear A490
 simp only [Option.some.injEq, Prod.mk.injEq] at H
 obtain ⟨rfl, rfl⟩ := H
 go_enter Try.func38, Try.ntmps38
 go_wp2_with (first | ((with_reducible refine gate_dst (N := 2) rfl ?_); refine bEv (cs := #[.slice A0_0 l0_0.length c0_0, .slice A0_1 l0_1.length c0_1]) (t := 27) ?_; intro gb360 hg w50 hbox hb; have BK360 := aM (hbox); have GW360 := aM ((szX (below_size (bX HB.out)) hg : w.heap.size ≤ gb360)); have GE360 := aM ((szX (below_size (bX HB.out)) hg : w.heap.size ≤ gb360)); replace HB := aM (below_step (bX HB.out) hb); clear hb hbox hg) | ((with_reducible refine gate_dst (N := 4) rfl ?_); refine bEv (cs := #[.slice none 0 0, .slice none 0 0]) (t := 27) ?_; intro gb361 hg w51 hbox hb; have BK361 := aM (hbox); have GW361 := aM ((szX (below_size (bX1 HB.out GE360.out)) hg : w.heap.size ≤ gb361)); have GE361 := aM ((szX (below_size (bX1 HB.out GE360.out)) hg : w.heap.size ≤ gb361)); replace HB := aM (below_step (bX1 HB.out GE360.out) hb); have NB360_361 := aM (neX BK360.out hg); have NB361_360 := aM (nfX BK360.out hg); replace BK360 := aM (bbX BK360.out hb); clear hb hbox hg) | ((with_reducible refine gate_dst (N := 5) rfl ?_); refine bEv (cs := #[.slice none 0 0, .slice none 0 0]) (t := 27) ?_; intro gb362 hg w52 hbox hb; have BK362 := aM (hbox); have GW362 := aM ((szX (below_size (bX2 HB.out GE360.out GE361.out)) hg : w.heap.size ≤ gb362)); have GE362 := aM ((szX (below_size (bX2 HB.out GE360.out GE361.out)) hg : w.heap.size ≤ gb362)); replace HB := aM (below_step (bX2 HB.out GE360.out GE361.out) hb); have NB360_362 := aM (neX BK360.out hg); have NB362_360 := aM (nfX BK360.out hg); replace BK360 := aM (bbX BK360.out hb); have NB361_362 := aM (neX BK361.out hg); have NB362_361 := aM (nfX BK361.out hg); replace BK361 := aM (bbX BK361.out hb); clear hb hbox hg; have hnb53 := NB362_360.out; have hnc53 := NB360_362.out; have hnb54 := NB362_361.out; have hnc54 := NB361_362.out; have hcz55_0 := cz20 BK362.out; have hcz55_1 := cz21 BK362.out; have hfz55_0 := blk_frozen BK362.out 0; have hfz55_1 := blk_frozen BK362.out 1; have hnb56 := NB360_361.out; have hnc56 := NB361_360.out; have hcz57_0 := cz20 BK360.out; have hcz57_1 := cz21 BK360.out; have hfz57_0 := blk_frozen BK360.out 0; have hfz57_1 := blk_frozen BK360.out 1) | ((with_reducible refine gate_callee (f := 50) rfl ?_); refine goesL_ (some 33) rfl rfl Try.func50 (by kernel_rfl) rfl #[.agg #[.slice A0_0 l0_0.length c0_0, .slice A0_1 l0_1.length c0_1]] rfl aX ?_; (with_reducible refine (i_UnturnSurface.calls k _ _ l0_0 _ _ l0_1 t384 t387 t390 _ ?side1 ?side2 ?side3 ?side4 A49.out).mono ?_); (case side1 => exact Kd.C_below HR0_0.out (bX3 HB.out GE360.out GE361.out GE362.out)); (case side2 => exact HC0_0.out); (case side3 => exact Kd.C_below HR0_1.out (bX3 HB.out GE360.out GE361.out GE362.out)); (case side4 => exact HC0_1.out); rintro e w58 ⟨v385, v388, rfl, ho0, ho1, hb⟩; refine ⟨_, rfl, ?_⟩; have HO386 := aM (Kd.R_lower ho0 (below_size (bX3 HB.out GE360.out GE361.out GE362.out))); have HO389 := aM (Kd.R_lower ho1 (below_size (bX3 HB.out GE360.out GE361.out GE362.out))); replace BK360 := aM (blk_below (g := gb360) (o := .cells #[.slice A0_0 l0_0.length c0_0, .slice A0_1 l0_1.length c0_1] 27 (0, 0)) (by (with_reducible repeat (first|refine kN ?_ _|refine kD ?_|refine kA ?_ _)); refine blk_far ?_ NB360_362.out _; (with_reducible repeat (first|refine kN ?_ _|refine kD ?_|refine kA ?_ _)); refine blk_far ?_ NB360_362.out _; (with_reducible repeat (first|refine kN ?_ _|refine kD ?_|refine kA ?_ _)); exact BK360.out) hb); replace BK361 := aM (blk_below (g := gb361) (o := .cells #[.slice none 0 0, .slice none 0 0] 27 (0, 0)) (by (with_reducible repeat (first|refine kN ?_ _|refine kD ?_|refine kA ?_ _)); refine blk_far ?_ NB361_362.out _; (with_reducible repeat (first|refine kN ?_ _|refine kD ?_|refine kA ?_ _)); refine blk_far ?_ NB361_362.out _; (with_reducible repeat (first|refine kN ?_ _|refine kD ?_|refine kA ?_ _)); exact BK361.out) hb); replace BK362 := aM (blk_below (g := gb362) (o := .cells #[.slice none 0 0, .slice none 0 0] 27 (0, 0)) (by (with_reducible repeat (first|refine kN ?_ _|refine kD ?_|refine kA ?_ _)); refine blk_put (cs := #[.slice none 0 0, .slice none 0 0]) ?_ 1 _ rfl; (with_reducible repeat (first|refine kN ?_ _|refine kD ?_|refine kA ?_ _)); refine blk_put (cs := #[.slice none 0 0, .slice none 0 0]) ?_ 0 _ rfl; (with_reducible repeat (first|refine kN ?_ _|refine kD ?_|refine kA ?_ _)); exact BK362.out) hb); replace HB := aM (below_step (bX3 HB.out GE360.out GE361.out GE362.out) hb); (try clear hb); (try clear hb2); (try clear hk); (try clear hi); (try clear ho0); (try clear ho1); obtain ⟨Ao59, co59, eo59⟩ := Kd.R_slice HO386.out; subst eo59; have hcz60_0 := cz20 BK362.out; have hcz60_1 := cz21 BK362.out; have hfz60_0 := blk_frozen BK362.out 0; have hfz60_1 := blk_frozen BK362.out 1; obtain ⟨Ao61, co61, eo61⟩ := Kd.R_slice HO389.out; subst eo61; have hcz62_0 := cz20 BK361.out; have hcz62_1 := cz21 BK361.out; have hfz62_0 := blk_frozen BK361.out 0; have hfz62_1 := blk_frozen BK361.out 1))
 refine bodyPost_ret (results_cell_row rfl _ _ gb361 27 #[.slice Ao59 t384.length co59, .slice Ao61 t387.length co61] (0, 0) _ rfl (by (with_reducible repeat (first|refine kN ?_ _|refine kD ?_|refine kA ?_ _)); refine blk_put (cs := #[.slice Ao59 t384.length co59, .slice none 0 0]) ?_ 1 _ rfl; (with_reducible repeat (first|refine kN ?_ _|refine kD ?_|refine kA ?_ _)); refine blk_put (cs := #[.slice none 0 0, .slice none 0 0]) ?_ 0 _ rfl; (with_reducible repeat (first|refine kN ?_ _|refine kD ?_|refine kA ?_ _)); refine blk_far ?_ NB361_362.out _; (with_reducible repeat (first|refine kN ?_ _|refine kD ?_|refine kA ?_ _)); refine blk_far ?_ NB361_362.out _; (with_reducible repeat (first|refine kN ?_ _|refine kD ?_|refine kA ?_ _)); exact BK361.out) Try.underlying27 rfl (by kernel_rfl)) rfl ?_
 exact ⟨_, _, eX, by (with_reducible repeat (first|apply rA|apply rN|apply rD)); exact Kd.R_mono (Kd.R_far (p := ⟨gb361, 1, none⟩) (Kd.R_far (p := ⟨gb361, 0, none⟩) (Kd.R_far (p := ⟨gb362, 1, none⟩) (Kd.R_far (p := ⟨gb362, 0, none⟩) (Kd.R_types (Kd.R_types HO386.out BK362.out (by decide)) BK361.out (by decide)) (fun _ hk => hk.1.2) (.slice Ao59 t384.length co59)) (fun _ hk => hk.1.2) (.slice Ao61 t387.length co61)) (fun _ hk => hk.2) (.slice Ao59 t384.length co59)) (fun _ hk => hk.2) (.slice Ao61 t387.length co61)) (fun _ hk => hk.1.1), by (with_reducible repeat (first|apply rA|apply rN|apply rD)); exact Kd.R_mono (Kd.R_far (p := ⟨gb361, 1, none⟩) (Kd.R_far (p := ⟨gb361, 0, none⟩) (Kd.R_far (p := ⟨gb362, 1, none⟩) (Kd.R_far (p := ⟨gb362, 0, none⟩) (Kd.R_types (Kd.R_types HO389.out BK362.out (by decide)) BK361.out (by decide)) (fun _ hk => hk.1.2) (.slice Ao59 t384.length co59)) (fun _ hk => hk.1.2) (.slice Ao61 t387.length co61)) (fun _ hk => hk.2) (.slice Ao59 t384.length co59)) (fun _ hk => hk.2) (.slice Ao61 t387.length co61)) (fun _ hk => hk.1.1), bX3 HB.out GE360.out GE361.out GE362.out⟩
 }
 {
 rw [if_neg c48] at H
 have c48b0 : (a1 == 115) = false := beq_eq_false_iff_ne.mpr c48
 have c48b1 : (a1 != 115) = true := bne_iff_ne.mpr c48
 simp only [Option.some.injEq, Prod.mk.injEq] at H
 obtain ⟨rfl, rfl⟩ := H
 go_enter Try.func38, Try.ntmps38
 go_wp2_with (first | ((with_reducible refine gate_dst (N := 2) rfl ?_); refine bEv (cs := #[.slice A0_0 l0_0.length c0_0, .slice A0_1 l0_1.length c0_1]) (t := 27) ?_; intro gb360 hg w63 hbox hb; have BK360 := aM (hbox); have GW360 := aM ((szX (below_size (bX HB.out)) hg : w.heap.size ≤ gb360)); have GE360 := aM ((szX (below_size (bX HB.out)) hg : w.heap.size ≤ gb360)); replace HB := aM (below_step (bX HB.out) hb); clear hb hbox hg) | ((with_reducible refine gate_dst (N := 4) rfl ?_); refine bEv (cs := #[.slice none 0 0, .slice none 0 0]) (t := 27) ?_; intro gb361 hg w64 hbox hb; have BK361 := aM (hbox); have GW361 := aM ((szX (below_size (bX1 HB.out GE360.out)) hg : w.heap.size ≤ gb361)); have GE361 := aM ((szX (below_size (bX1 HB.out GE360.out)) hg : w.heap.size ≤ gb361)); replace HB := aM (below_step (bX1 HB.out GE360.out) hb); have NB360_361 := aM (neX BK360.out hg); have NB361_360 := aM (nfX BK360.out hg); replace BK360 := aM (bbX BK360.out hb); clear hb hbox hg) | ((with_reducible refine gate_dst (N := 5) rfl ?_); refine bEv (cs := #[.slice none 0 0, .slice none 0 0]) (t := 27) ?_; intro gb362 hg w65 hbox hb; have BK362 := aM (hbox); have GW362 := aM ((szX (below_size (bX2 HB.out GE360.out GE361.out)) hg : w.heap.size ≤ gb362)); have GE362 := aM ((szX (below_size (bX2 HB.out GE360.out GE361.out)) hg : w.heap.size ≤ gb362)); replace HB := aM (below_step (bX2 HB.out GE360.out GE361.out) hb); have NB360_362 := aM (neX BK360.out hg); have NB362_360 := aM (nfX BK360.out hg); replace BK360 := aM (bbX BK360.out hb); have NB361_362 := aM (neX BK361.out hg); have NB362_361 := aM (nfX BK361.out hg); replace BK361 := aM (bbX BK361.out hb); clear hb hbox hg; have hnb66 := NB362_360.out; have hnc66 := NB360_362.out; have hnb67 := NB362_361.out; have hnc67 := NB361_362.out; have hcz68_0 := cz20 BK362.out; have hcz68_1 := cz21 BK362.out; have hfz68_0 := blk_frozen BK362.out 0; have hfz68_1 := blk_frozen BK362.out 1; have hnb69 := NB361_360.out; have hnc69 := NB360_361.out; have hcz70_0 := cz20 BK361.out; have hcz70_1 := cz21 BK361.out; have hfz70_0 := blk_frozen BK361.out 0; have hfz70_1 := blk_frozen BK361.out 1))
 refine bodyPost_ret (results_cell_row rfl _ _ gb361 27 #[.slice none 0 0, .slice none 0 0] (0, 0) _ rfl (by (with_reducible repeat (first|refine kN ?_ _|refine kD ?_|refine kA ?_ _)); refine blk_put (cs := #[.slice none 0 0, .slice none 0 0]) ?_ 1 _ rfl; (with_reducible repeat (first|refine kN ?_ _|refine kD ?_|refine kA ?_ _)); refine blk_put (cs := #[.slice none 0 0, .slice none 0 0]) ?_ 0 _ rfl; (with_reducible repeat (first|refine kN ?_ _|refine kD ?_|refine kA ?_ _)); refine blk_far ?_ NB361_362.out _; (with_reducible repeat (first|refine kN ?_ _|refine kD ?_|refine kA ?_ _)); refine blk_far ?_ NB361_362.out _; (with_reducible repeat (first|refine kN ?_ _|refine kD ?_|refine kA ?_ _)); exact BK361.out) Try.underlying27 rfl (by kernel_rfl)) rfl ?_
 exact ⟨_, _, eX, by first | exact Kd.R_nil _ _ _ _ _ | exact Kd.N_nil _ _ _ _ _ | exact Kd.V_nil _ _ _ _ _ | exact Kd.Q_nil _ _ _ _ _ | exact Kd.S_nil _ _ _ _ _, by first | exact Kd.R_nil _ _ _ _ _ | exact Kd.N_nil _ _ _ _ _ | exact Kd.V_nil _ _ _ _ _ | exact Kd.Q_nil _ _ _ _ _ | exact Kd.S_nil _ _ _ _ _, bX3 HB.out GE360.out GE361.out GE362.out⟩
 }
 }
 }
 }

/-! ### i_RunWord: function 30 -/
mutual
def i_RunWord.j0 : Nat → ByteArray → Bool → List Int → List Int → Option (List Int × List Int × Bool)
 | 0, _, _, _, _ => none
 | k + 1, x1, x15, x392000, x392001 => if x15 = true then (some (([] : List Int), ([] : List Int), false)) else ((i_copySurface.f x392000 x392001).bind fun bt395 => (i_RunWord.l0 k x1 0 bt395.1 bt395.2))
def i_RunWord.l0 : Nat → ByteArray → Int → List Int → List Int → Option (List Int × List Int × Bool)
 | 0, _, _, _, _ => none
 | k + 1, x1, x7, x402000, x402001 => if x7 < (x1.size : Int) then (if 0 ≤ x7 then ((i_letterSurface.f k x402000 x402001 (bt x1 x7)).bind fun bt402 => (i_RunWord.l0 k x1 (wrap64 (x7 + 1)) bt402.1 bt402.2)) else (none)) else (some (x402000, x402001, true))
end
def i_RunWord.f (k : Nat) (l0_0 : List Int) (l0_1 : List Int) (a1 : ByteArray) : Option (List Int × List Int × Bool) := (i_SurfaceOk.f k l0_0 l0_1).bind fun t393 => (if t393 = true then ((i_WordOk.f k a1).bind fun t394 => (i_RunWord.j0 k a1 (!t394) l0_0 l0_1)) else (i_RunWord.j0 k a1 true l0_0 l0_1))
theorem i_RunWord.calls (k : Nat) (A0_0 : Option Addr) (c0_0 : Nat) (l0_0 : List Int) (A0_1 : Option Addr) (c0_1 : Nat) (l0_1 : List Int) (a1 : ByteArray) (r1 : List Int) (r2 : List Int) (r3 : Bool) (w : World) (hr0_0 : Kd.C (Kd.int .i64) w A0_0 l0_0.length l0_0) (hc0_0 : l0_0.length ≤ c0_0) (hr0_1 : Kd.C (Kd.int .i64) w A0_1 l0_1.length l0_1) (hc0_1 : l0_1.length ≤ c0_1) (h : i_RunWord.f k l0_0 l0_1 a1 = some (r1, r2, r3)) :
  Calls Try.prog 30 #[.agg #[.slice A0_0 l0_0.length c0_0, .slice A0_1 l0_1.length c0_1], .string a1] w fun e w' => ∃ v0_ v1_ : Value, e = .returned (.tuple #[.agg #[v0_, v1_], .bool r3]) ∧ Kd.R (Kd.int .i64) 3 w' w.heap.size (fun k_ => some k_ ≠ (v1_ : Value).ownBlock) v0_ r1 ∧ Kd.R (Kd.int .i64) 3 w' w.heap.size (fun k_ => some k_ ≠ (v0_ : Value).ownBlock) v1_ r2 ∧ Below w.heap.size w w' := by
 have hu27 := Try.underlying27
 have HR0_0 := aM hr0_0
 have HC0_0 := aM hc0_0
 clear hr0_0 hc0_0
 have HR0_1 := aM hr0_1
 have HC0_1 := aM hc0_1
 clear hr0_1 hc0_1
 have HB := aM (Below.refl w.heap.size w)
 have H : ((i_SurfaceOk.f k l0_0 l0_1).bind fun t393 => (if t393 = true then ((i_WordOk.f k a1).bind fun t394 => (i_RunWord.j0 k a1 (!t394) l0_0 l0_1)) else (i_RunWord.j0 k a1 true l0_0 l0_1))) = some (r1, r2, r3) := h
 clear h
 have HC3 := aM H
 clear H
 go_enter Try.func30, Try.ntmps30
 go_upto_region 1 with (first | ((with_reducible refine gate_dst (N := 2) rfl ?_); refine bEv (cs := #[.slice A0_0 l0_0.length c0_0, .slice A0_1 l0_1.length c0_1]) (t := 27) ?_; intro gb391 hg w4 hbox hb; have BK391 := aM (hbox); have GW391 := aM ((szX (below_size (bX HB.out)) hg : w.heap.size ≤ gb391)); have GE391 := aM ((szX (below_size (bX HB.out)) hg : w.heap.size ≤ gb391)); replace HB := aM (below_step (bX HB.out) hb); clear hb hbox hg) | ((with_reducible refine gate_dst (N := 4) rfl ?_); refine bEv (cs := #[.slice none 0 0, .slice none 0 0]) (t := 27) ?_; intro gb392 hg w5 hbox hb; have BK392 := aM (hbox); have GW392 := aM ((szX (below_size (bX1 HB.out GE391.out)) hg : w.heap.size ≤ gb392)); have GE392 := aM ((szX (below_size (bX1 HB.out GE391.out)) hg : w.heap.size ≤ gb392)); replace HB := aM (below_step (bX1 HB.out GE391.out) hb); have NB391_392 := aM (neX BK391.out hg); have NB392_391 := aM (nfX BK391.out hg); replace BK391 := aM (bbX BK391.out hb); clear hb hbox hg))
 (try simp only [Act.put, List.setIfInBounds_toArray, List.set_cons_zero, List.set_cons_succ])
 go_cut [15] (fun v15 wc => ∃ (kq : Nat) (x15_2 : Bool), v15 = .bool x15_2 ∧ Aside0 (i_RunWord.j0 kq a1 x15_2 l0_0 l0_1 = some (r1, r2, r3)) ∧ Aside0 (kq ≤ k) ∧ Aside0 (wc.heap[gb391]? = some (.cells #[(.slice A0_0 l0_0.length c0_0), (.slice A0_1 l0_1.length c0_1)] 27 (0, 0))) ∧ Aside0 (wc.heap[gb392]? = some (.cells #[(.slice none 0 0), (.slice none 0 0)] 27 (0, 0))) ∧ Aside0 (Below w.heap.size w wc))
 case first =>
  have H := HC3.out
  clear HC3
  replace H := oB H
  obtain ⟨t393, A60, H⟩ := H
  replace H : (if t393 = true then ((i_WordOk.f k a1).bind fun t394 => (i_RunWord.j0 k a1 (!t394) l0_0 l0_1)) else (i_RunWord.j0 k a1 true l0_0 l0_1)) = some (r1, r2, r3) := H
  have A6 := aM A60
  clear A60
  by_cases c7 : t393 = true
  {
  subst c7
  have H1 : ((i_WordOk.f k a1).bind fun t394 => (i_RunWord.j0 k a1 (!t394) l0_0 l0_1)) = some (r1, r2, r3) := by rw [if_pos rfl] at H; exact H
  clear H
  have H := H1
  clear H1
  replace H := oB H
  obtain ⟨t394, A80, H⟩ := H
  replace H : (i_RunWord.j0 k a1 (!t394) l0_0 l0_1) = some (r1, r2, r3) := H
  have A8 := aM A80
  clear A80
  have H' := aM H
  clear H
  have hnb9 := NB391_392.out
  have hnc9 := NB392_391.out
  have hcz10_0 := cz20 BK391.out
  have hcz10_1 := cz21 BK391.out
  have hfz10_0 := blk_frozen BK391.out 0
  have hfz10_1 := blk_frozen BK391.out 1
  go_wp2_with (first | ((with_reducible refine gate_callee (f := 19) rfl ?_); refine goesL_ (some 9) rfl rfl Try.func19 (by kernel_rfl) rfl #[.agg #[.slice A0_0 l0_0.length c0_0, .slice A0_1 l0_1.length c0_1]] rfl aX ?_; (with_reducible refine (i_SurfaceOk.calls k _ _ l0_0 _ _ l0_1 true _ ?side1 ?side2 ?side3 ?side4 A6.out).mono ?_); (case side1 => exact cX (Kd.C_below HR0_0.out HB.out)); (case side2 => exact HC0_0.out); (case side3 => exact cX (Kd.C_below HR0_1.out HB.out)); (case side4 => exact HC0_1.out); rintro e w11 ⟨rfl, hb⟩; refine ⟨_, rfl, ?_⟩; replace BK391 := aM (bbX BK391.out hb); replace BK392 := aM (bbX BK392.out hb); replace HB := aM (below_step (bX2 HB.out GE391.out GE392.out) hb); (try clear hb); (try clear hb2); (try clear hk); (try clear hi)) | (go_at_call 36; (with_reducible refine (i_WordOk.calls k a1 t394 _ A8.out).mono ?_); rintro e w' ⟨rfl, ⟨nd, rfl⟩⟩))
  go_meet
  case rel => exact ⟨_, (!t394), vX, H', ⟨by first | omega | exact Nat.le_refl _⟩, ⟨kX BK391.out⟩, ⟨kX BK392.out⟩, ⟨bX2 HB.out GE391.out GE392.out⟩⟩
  }
  {
  replace c7 := Bool.eq_false_iff.mpr c7
  subst c7
  have H1 : (i_RunWord.j0 k a1 true l0_0 l0_1) = some (r1, r2, r3) := by rw [if_neg (show ¬ (false = true) by decide)] at H; exact H
  clear H
  have H := H1
  clear H1
  have H' := aM H
  clear H
  have hnb12 := NB391_392.out
  have hnc12 := NB392_391.out
  have hcz13_0 := cz20 BK391.out
  have hcz13_1 := cz21 BK391.out
  have hfz13_0 := blk_frozen BK391.out 0
  have hfz13_1 := blk_frozen BK391.out 1
  go_wp2_with (first | ((with_reducible refine gate_callee (f := 19) rfl ?_); refine goesL_ (some 9) rfl rfl Try.func19 (by kernel_rfl) rfl #[.agg #[.slice A0_0 l0_0.length c0_0, .slice A0_1 l0_1.length c0_1]] rfl aX ?_; (with_reducible refine (i_SurfaceOk.calls k _ _ l0_0 _ _ l0_1 false _ ?side1 ?side2 ?side3 ?side4 A6.out).mono ?_); (case side1 => exact cX (Kd.C_below HR0_0.out HB.out)); (case side2 => exact HC0_0.out); (case side3 => exact cX (Kd.C_below HR0_1.out HB.out)); (case side4 => exact HC0_1.out); rintro e w14 ⟨rfl, hb⟩; refine ⟨_, rfl, ?_⟩; replace BK391 := aM (bbX BK391.out hb); replace BK392 := aM (bbX BK392.out hb); replace HB := aM (below_step (bX2 HB.out GE391.out GE392.out) hb); (try clear hb); (try clear hb2); (try clear hk); (try clear hi)))
  go_meet
  case rel => exact ⟨_, (true), vX, H', ⟨by first | omega | exact Nat.le_refl _⟩, ⟨kX BK391.out⟩, ⟨kX BK392.out⟩, ⟨bX2 HB.out GE391.out GE392.out⟩⟩
  }
 case rest =>
 clear HC3
 try clear c7
 try clear hcz10_0
 try clear hcz10_1
 try clear hcz13_0
 try clear hcz13_1
 try clear hfz10_0
 try clear hfz10_1
 try clear hfz13_0
 try clear hfz13_1
 obtain ⟨kq, x15_2, rfl, HA, HJ2, BK391, BK392, HB⟩ := hcut
 cases kq with
 | zero => exact absurd HA.out (by simp [i_RunWord.j0])
 | succ kj2 =>
 have H := HA.out
 clear HA
 simp only [i_RunWord.j0] at H
 by_cases c15 : x15_2 = true
 {
 subst c15
 have H1 : (some (([] : List Int), ([] : List Int), false)) = some (r1, r2, r3) := by rw [if_pos rfl] at H; exact H
 clear H
 have H := H1
 clear H1
 simp only [Option.some.injEq, Prod.mk.injEq] at H
 obtain ⟨rfl, rfl, rfl⟩ := H
 have hnb16 := NB392_391.out
 have hnc16 := NB391_392.out
 have hcz17_0 := cz20 BK392.out
 have hcz17_1 := cz21 BK392.out
 have hfz17_0 := blk_frozen BK392.out 0
 have hfz17_1 := blk_frozen BK392.out 1
 go_wp2
 refine bodyPost_ret (results_ct rfl _ _ gb392 27 #[.slice none 0 0, .slice none 0 0] (0, 0) _ rfl (by (with_reducible repeat (first|refine kN ?_ _|refine kD ?_|refine kA ?_ _)); refine blk_put (cs := #[.slice none 0 0, .slice none 0 0]) ?_ 1 _ rfl; (with_reducible repeat (first|refine kN ?_ _|refine kD ?_|refine kA ?_ _)); refine blk_put (cs := #[.slice none 0 0, .slice none 0 0]) ?_ 0 _ rfl; (with_reducible repeat (first|refine kN ?_ _|refine kD ?_|refine kA ?_ _)); exact BK392.out) Try.underlying27 rfl (by kernel_rfl)) rfl ?_
 exact ⟨_, _, eX, by first | exact Kd.R_nil _ _ _ _ _ | exact Kd.N_nil _ _ _ _ _ | exact Kd.V_nil _ _ _ _ _ | exact Kd.Q_nil _ _ _ _ _ | exact Kd.S_nil _ _ _ _ _, by first | exact Kd.R_nil _ _ _ _ _ | exact Kd.N_nil _ _ _ _ _ | exact Kd.V_nil _ _ _ _ _ | exact Kd.Q_nil _ _ _ _ _ | exact Kd.S_nil _ _ _ _ _, bX2 HB.out GE391.out GE392.out⟩
 }
 {
 replace c15 := Bool.eq_false_iff.mpr c15
 subst c15
 have H1 : ((i_copySurface.f l0_0 l0_1).bind fun bt395 => (i_RunWord.l0 kj2 a1 0 bt395.1 bt395.2)) = some (r1, r2, r3) := by rw [if_neg (show ¬ (false = true) by decide)] at H; exact H
 clear H
 have H := H1
 clear H1
 replace H := oB H
 obtain ⟨⟨t395, t398⟩, A180, H⟩ := H
 replace H : (i_RunWord.l0 kj2 a1 0 t395 t398) = some (r1, r2, r3) := H
 have A18 := aM A180
 clear A180
 have H' := aM H
 clear H
 have hnb19 := NB391_392.out
 have hnc19 := NB392_391.out
 have hcz20_0 := cz20 BK391.out
 have hcz20_1 := cz21 BK391.out
 have hfz20_0 := blk_frozen BK391.out 0
 have hfz20_1 := blk_frozen BK391.out 1
 go_wp2_with (first | ((with_reducible refine gate_callee (f := 37) rfl ?_); refine goesL_ (some 18) rfl rfl Try.func37 (by kernel_rfl) rfl #[.agg #[.slice A0_0 l0_0.length c0_0, .slice A0_1 l0_1.length c0_1]] rfl aX ?_; (with_reducible refine (i_copySurface.calls _ _ l0_0 _ _ l0_1 t395 t398 _ ?side1 ?side2 ?side3 ?side4 A18.out).mono ?_); (case side1 => exact cX (Kd.C_below HR0_0.out HB.out)); (case side2 => exact HC0_0.out); (case side3 => exact cX (Kd.C_below HR0_1.out HB.out)); (case side4 => exact HC0_1.out); rintro e w21 ⟨v396, v399, rfl, ho0, ho1, hb⟩; refine ⟨_, rfl, ?_⟩; have HO397 := aM (Kd.R_lower ho0 (below_size (bX2 HB.out GE391.out GE392.out))); have HO400 := aM (Kd.R_lower ho1 (below_size (bX2 HB.out GE391.out GE392.out))); replace BK391 := aM (bbX BK391.out hb); replace BK392 := aM (bbX BK392.out hb); replace HB := aM (below_step (bX2 HB.out GE391.out GE392.out) hb); (try clear hb); (try clear hb2); (try clear hk); (try clear hi); (try clear ho0); (try clear ho1)) | ((with_reducible refine gate_dst (N := 6) rfl ?_); refine bEv (cs := #[.slice none 0 0, .slice none 0 0]) (t := 27) ?_; intro gb401 hg w22 hbox hb; replace HO397 := aM (Kd.R_below (rX HO397.out) hb); replace HO400 := aM (Kd.R_below (rX HO400.out) hb); have BK401 := aM (hbox); have GW401 := aM ((szX (below_size (bX2 HB.out GE391.out GE392.out)) hg : w.heap.size ≤ gb401)); have GE401 := aM ((szX (below_size (bX2 HB.out GE391.out GE392.out)) hg : w.heap.size ≤ gb401)); replace HB := aM (below_step (bX2 HB.out GE391.out GE392.out) hb); have NB391_401 := aM (neX BK391.out hg); have NB401_391 := aM (nfX BK391.out hg); replace BK391 := aM (bbX BK391.out hb); have NB392_401 := aM (neX BK392.out hg); have NB401_392 := aM (nfX BK392.out hg); replace BK392 := aM (bbX BK392.out hb); clear hb hbox hg; obtain ⟨Ao23, co23, eo23⟩ := Kd.R_slice HO397.out; subst eo23; have hnb24 := NB401_391.out; have hnc24 := NB391_401.out; have hnb25 := NB401_392.out; have hnc25 := NB392_401.out; have hcz26_0 := cz20 BK401.out; have hcz26_1 := cz21 BK401.out; have hfz26_0 := blk_frozen BK401.out 0; have hfz26_1 := blk_frozen BK401.out 1; obtain ⟨Ao27, co27, eo27⟩ := Kd.R_slice HO400.out; subst eo27))
 go_loopg [7] kj2 (fun kq v7 w' => ∃ (x7_2 : Int) (x402000_2 : List Int) (x402001_2 : List Int) (u402000 : Value) (u402001 : Value), v7 = .int .i64 x7_2 ∧ Aside0 (i_RunWord.l0 kq a1 x7_2 x402000_2 x402001_2 = some (r1, r2, r3)) ∧ Aside0 (kq ≤ kj2) ∧ Aside0 (Kd.R (Kd.int .i64) 3 w' w.heap.size (fun k_ => some k_ ≠ (u402001 : Value).ownBlock) u402000 x402000_2) ∧ Aside0 (Kd.R (Kd.int .i64) 3 w' w.heap.size (fun k_ => some k_ ≠ (u402000 : Value).ownBlock) u402001 x402001_2) ∧ Aside0 (w'.heap[gb391]? = some (.cells #[(.slice A0_0 l0_0.length c0_0), (.slice A0_1 l0_1.length c0_1)] 27 (0, 0))) ∧ Aside0 (w'.heap[gb392]? = some (.cells #[(.slice none 0 0), (.slice none 0 0)] 27 (0, 0))) ∧ Aside0 (w'.heap[gb401]? = some (.cells #[u402000, u402001] 27 (0, 0))) ∧ Aside0 (Below w.heap.size w w'))
 case atStart => exact ⟨(0), (t395), (t398), (.slice Ao23 t395.length co23), (.slice Ao27 t398.length co27), vX, H', ⟨Nat.le_refl _⟩, ⟨by (with_reducible repeat (first|apply rA|apply rN|apply rD)); exact Kd.R_mono (Kd.R_far (p := ⟨gb401, 1, none⟩) (Kd.R_far (p := ⟨gb401, 0, none⟩) (Kd.R_types HO397.out BK401.out (by decide)) (fun _ hk => hk.2) (.slice Ao23 t395.length co23)) (fun _ hk => hk.2) (.slice Ao27 t398.length co27)) (fun _ hk => hk.1)⟩, ⟨by (with_reducible repeat (first|apply rA|apply rN|apply rD)); exact Kd.R_mono (Kd.R_far (p := ⟨gb401, 1, none⟩) (Kd.R_far (p := ⟨gb401, 0, none⟩) (Kd.R_types HO400.out BK401.out (by decide)) (fun _ hk => hk.2) (.slice Ao23 t395.length co23)) (fun _ hk => hk.2) (.slice Ao27 t398.length co27)) (fun _ hk => hk.1)⟩, ⟨by (with_reducible repeat (first|refine kN ?_ _|refine kD ?_|refine kA ?_ _)); refine blk_far ?_ NB391_401.out _; (with_reducible repeat (first|refine kN ?_ _|refine kD ?_|refine kA ?_ _)); refine blk_far ?_ NB391_401.out _; (with_reducible repeat (first|refine kN ?_ _|refine kD ?_|refine kA ?_ _)); exact BK391.out⟩, ⟨by (with_reducible repeat (first|refine kN ?_ _|refine kD ?_|refine kA ?_ _)); refine blk_far ?_ NB392_401.out _; (with_reducible repeat (first|refine kN ?_ _|refine kD ?_|refine kA ?_ _)); refine blk_far ?_ NB392_401.out _; (with_reducible repeat (first|refine kN ?_ _|refine kD ?_|refine kA ?_ _)); exact BK392.out⟩, ⟨by (with_reducible repeat (first|refine kN ?_ _|refine kD ?_|refine kA ?_ _)); refine blk_put (cs := #[.slice Ao23 t395.length co23, .slice none 0 0]) ?_ 1 _ rfl; (with_reducible repeat (first|refine kN ?_ _|refine kD ?_|refine kA ?_ _)); refine blk_put (cs := #[.slice none 0 0, .slice none 0 0]) ?_ 0 _ rfl; (with_reducible repeat (first|refine kN ?_ _|refine kD ?_|refine kA ?_ _)); exact BK401.out⟩, ⟨bX3 HB.out GE391.out GE392.out GE401.out⟩⟩
 case round =>
 clear H'
 try clear c7
 try clear c15
 try clear hcz10_0
 try clear hcz10_1
 try clear hcz13_0
 try clear hcz13_1
 try clear hcz17_0
 try clear hcz17_1
 try clear hcz20_0
 try clear hcz20_1
 try clear hcz26_0
 try clear hcz26_1
 try clear hfz10_0
 try clear hfz10_1
 try clear hfz13_0
 try clear hfz13_1
 try clear hfz17_0
 try clear hfz17_1
 try clear hfz20_0
 try clear hfz20_1
 try clear hfz26_0
 try clear hfz26_1
 obtain ⟨x7_2, x402000_2, x402001_2, u402000, u402001, rfl, HA, HK2, HO_402000, HO_402001, BK391, BK392, BK401, HB⟩ := hrel
 cases gk with
 | zero => exact absurd HA.out (by simp [i_RunWord.l0])
 | succ k2 =>
 have H := HA.out
 clear HA
 simp only [i_RunWord.l0] at H
 by_cases c28 : x7_2 < (a1.size : Int)
 {
 rw [if_pos c28] at H
 have c28b0 : decide (x7_2 < (a1.size : Int)) = true := decide_eq_true c28
 clear c28
 by_cases c29 : 0 ≤ x7_2
 {
 rw [if_pos c29] at H
 have c29b0 : decide (0 ≤ x7_2) = true := decide_eq_true c29
 clear c29
 replace H := oB H
 obtain ⟨⟨t402, t405⟩, A310, H⟩ := H
 replace H : (i_RunWord.l0 k2 a1 (wrap64 (x7_2 + 1)) t402 t405) = some (r1, r2, r3) := H
 have A31 := aM A310
 clear A310
 have H' := aM H
 clear H
 try go_wp2
 replace HO_402000 := aM (Kd.R_drew HO_402000.out)
 replace HO_402001 := aM (Kd.R_drew HO_402001.out)
 replace BK391 := aM (blk_drew BK391.out)
 replace BK392 := aM (blk_drew BK392.out)
 replace BK401 := aM (blk_drew BK401.out)
 replace HB := aM (below_drew1 HB.out)
 have p30 : 0 ≤ (x7_2 : Int) := dX
 have q30 : x7_2 < (a1.size : Int) := dX
 have hx30 := bt_at a1 x7_2
 replace p30 := eq_true p30
 replace q30 := eq_true q30
 obtain ⟨Ao33, co33, eo33⟩ := Kd.R_slice HO_402000.out
 (first | subst eo33 | (injection eo33 with f1_ f2_ f3_; have f4_ := f1_.symm; have f5_ := f3_.symm; clear f1_ f2_ f3_; subst f4_; subst f5_))
 obtain ⟨Ao34, co34, eo34⟩ := Kd.R_slice HO_402001.out
 (first | subst eo34 | (injection eo34 with f1_ f2_ f3_; have f4_ := f1_.symm; have f5_ := f3_.symm; clear f1_ f2_ f3_; subst f4_; subst f5_))
 refine start_ (n := 6) (S := fun w' => w'.cell? ⟨gb401, 0, none⟩ = some (.slice Ao33 x402000_2.length co33) ∧ w'.cell? ⟨gb401, 1, none⟩ = some (.slice Ao34 x402001_2.length co34)) (ds := [5]) #[false, false, false, false, false, false] (by kernel_rfl) rfl rfl ⟨cz20 BK401.out, cz21 BK401.out⟩ (fun hHeld => ?_)
 generalize wr.drew = w32 at HO_402000 HO_402001 BK391 BK392 BK401 HB hHeld ⊢
 refine pure_ (i := 1) (N := some 26) (v := ?_) (a' := ?_) #[false, true, false, false, false, false] rfl rfl (by kernel_rfl) (fun _ _ _ h => h) (Or.inl ⟨by rfl, ?_⟩) ?_ ?_
 rotate_left
 {
 intro w'
 go_simp
 with_reducible rfl
 }
 rotate_left
 {
 simp only [Act.put, zA, zB, zC, i64_w, i32_w]
 rfl
 }
 refine pure_ (i := 2) (N := some 27) (v := ?_) (a' := ?_) #[false, true, true, false, false, false] rfl rfl (by kernel_rfl) (fun _ _ _ h => h) (Or.inl ⟨by rfl, ?_⟩) ?_ ?_
 rotate_left
 {
 intro w'
 go_simp
 with_reducible rfl
 }
 rotate_left
 {
 simp only [Act.put, zA, zB, zC, i64_w, i32_w]
 rfl
 }
 refine take_ (i := 0) (N := some 25) (v := ?_) (a' := ?_) #[true, true, true, false, false, false] rfl rfl (by kernel_rfl) (fun _ _ _ h => h) (Or.inl ⟨by rfl, ?_⟩) hHeld ?_ ?_
 rotate_left
 {
 rintro w' ⟨s0, s1⟩
 go_simp
 with_reducible rfl
 }
 rotate_left
 {
 simp only [Act.put, zA, zB, zC, i64_w, i32_w]
 rfl
 }
 refine take_ (i := 3) (N := some 28) (v := ?_) (a' := ?_) #[true, true, true, true, false, false] rfl rfl (by kernel_rfl) (fun _ _ _ h => h) (Or.inl ⟨by rfl, ?_⟩) hHeld ?_ ?_
 rotate_left
 {
 rintro w' ⟨s0, s1⟩
 go_simp
 with_reducible rfl
 }
 rotate_left
 {
 simp only [Act.put, zA, zB, zC, i64_w, i32_w]
 rfl
 }
 refine one_ (i := 4) (N := some 29) #[true, true, true, true, true, false] rfl rfl (by kernel_rfl) (by decide) (fun K hK => ?_)
 refine goes_ Try.func38 (by kernel_rfl) rfl #[.agg #[.slice Ao33 x402000_2.length co33, .slice Ao34 x402001_2.length co34], .int .u8 (bt a1 x7_2)] (by rfl) rfl rfl aX ?_
 with_reducible refine (i_letterSurface.calls k2 _ _ x402000_2 _ _ x402001_2 (bt a1 x7_2) t402 t405 _ ?side1 ?side2 ?side3 ?side4 A31.out).mono ?_
 (case side1 => exact cX (Kd.R_reads' HO_402000.out).2.2)
 (case side2 => exact (Kd.R_reads' HO_402000.out).2.1)
 (case side3 => exact cX (Kd.R_reads' HO_402001.out).2.2)
 (case side4 => exact (Kd.R_reads' HO_402001.out).2.1)
 rintro e w35 ⟨v403, v406, rfl, ho0, ho1, hb⟩
 refine ⟨_, rfl, ?_⟩
 have HO404 := aM (Kd.R_lower (Kd.R_new' (Kd.R_new' ho0 (Kd.R_lt (rX HO_402000.out))) (Kd.R_lt (rX HO_402001.out))) (below_size (bX3 HB.out GE391.out GE392.out GE401.out)))
 have HO407 := aM (Kd.R_lower (Kd.R_new' (Kd.R_new' ho1 (Kd.R_lt (rX HO_402000.out))) (Kd.R_lt (rX HO_402001.out))) (below_size (bX3 HB.out GE391.out GE392.out GE401.out)))
 replace HO_402000 := aM (Kd.R_mono (Kd.R_told (Kd.R_told (Kd.R_old (rX HO_402000.out) hb) (Kd.R_base ho0)) (Kd.R_base ho1)) (fun _ h_ => h_.1))
 replace HO_402001 := aM (Kd.R_mono (Kd.R_told (Kd.R_told (Kd.R_old (rX HO_402001.out) hb) (Kd.R_base ho0)) (Kd.R_base ho1)) (fun _ h_ => h_.1))
 replace BK391 := aM (bbX BK391.out hb)
 replace BK392 := aM (bbX BK392.out hb)
 replace BK401 := aM (bbX BK401.out hb)
 replace HB := aM (below_step (bX3 HB.out GE391.out GE392.out GE401.out) hb)
 (try clear hb)
 (try clear hb2)
 (try clear hk)
 (try clear hi)
 (try clear ho0)
 (try clear ho1)
 obtain ⟨Ao36, co36, eo36⟩ := Kd.R_slice HO404.out
 (first | subst eo36 | (injection eo36 with f1_ f2_ f3_; have f4_ := f1_.symm; have f5_ := f3_.symm; clear f1_ f2_ f3_; subst f4_; subst f5_))
 obtain ⟨Ao38, co38, eo38⟩ := Kd.R_slice HO407.out
 (first | subst eo38 | (injection eo38 with f1_ f2_ f3_; have f4_ := f1_.symm; have f5_ := f3_.symm; clear f1_ f2_ f3_; subst f4_; subst f5_))
 refine hK.out _ _ ⟨cz20 BK401.out, cz21 BK401.out⟩ (fun hHeld => ?_)
 clear hK K
 refine norm_ (a' := ?_) ?_ ?_
 rotate_left
 {
 show Act.put _ (some 29) _ = _
 simp only [Act.put, zA, zB, zC, i64_w, i32_w]
 rfl
 }
 refine last_ (i := 5) (N := none) #[true, true, true, true, true, true] rfl rfl (by kernel_rfl) (by decide) (fun K hK => ?_)
 have hs37 : w35.cell? ⟨gb401, 0, none⟩ = some (.slice Ao33 x402000_2.length co33) := cz20 BK401.out
 have hfs37 := blk_frozen BK401.out 0
 have hns37_0 := NB391_401.out
 have hns37_1 := NB392_401.out
 have hms37_0 := NB401_391.out
 have hms37_1 := NB401_392.out
 have hs39 : w35.cell? ⟨gb401, 1, none⟩ = some (.slice Ao34 x402001_2.length co34) := cz21 BK401.out
 have hfs39 := blk_frozen BK401.out 1
 have hns39_0 := NB391_401.out
 have hns39_1 := NB392_401.out
 have hms39_0 := NB401_391.out
 have hms39_1 := NB401_392.out
 refine skip_ (w1 := ?_) (by rfl) rfl ?_ ?_
 rotate_left
 {
 go_simp
 rfl
 }
 refine hK.out _ _ ?_
 clear hK K
 refine done_ (by kernel_rfl) ?_
 try go_wp2
 go_roundg k2
 case measure => have := HJ2.out; have := HK2.out; omega
 case rel => exact ⟨(wrap64 (x7_2 + 1)), (t402), (t405), (.slice Ao36 t402.length co36), (.slice Ao38 t405.length co38), vX, H', ⟨by have := HJ2.out; have := HK2.out; omega⟩, ⟨by (with_reducible repeat (first|apply rA|apply rN|apply rD)); exact Kd.R_mono (Kd.R_far (p := ⟨gb401, 1, none⟩) (Kd.R_far (p := ⟨gb401, 0, none⟩) (Kd.R_types HO404.out BK401.out (by decide)) (fun _ hk => hk.2) (.slice Ao36 t402.length co36)) (fun _ hk => hk.2) (.slice Ao38 t405.length co38)) (fun _ hk => hk.1.1.1)⟩, ⟨by (with_reducible repeat (first|apply rA|apply rN|apply rD)); exact Kd.R_mono (Kd.R_far (p := ⟨gb401, 1, none⟩) (Kd.R_far (p := ⟨gb401, 0, none⟩) (Kd.R_types HO407.out BK401.out (by decide)) (fun _ hk => hk.2) (.slice Ao36 t402.length co36)) (fun _ hk => hk.2) (.slice Ao38 t405.length co38)) (fun _ hk => hk.1.1.1)⟩, ⟨by (with_reducible repeat (first|refine kN ?_ _|refine kD ?_|refine kA ?_ _)); refine blk_far ?_ NB391_401.out _; (with_reducible repeat (first|refine kN ?_ _|refine kD ?_|refine kA ?_ _)); refine blk_far ?_ NB391_401.out _; (with_reducible repeat (first|refine kN ?_ _|refine kD ?_|refine kA ?_ _)); exact BK391.out⟩, ⟨by (with_reducible repeat (first|refine kN ?_ _|refine kD ?_|refine kA ?_ _)); refine blk_far ?_ NB392_401.out _; (with_reducible repeat (first|refine kN ?_ _|refine kD ?_|refine kA ?_ _)); refine blk_far ?_ NB392_401.out _; (with_reducible repeat (first|refine kN ?_ _|refine kD ?_|refine kA ?_ _)); exact BK392.out⟩, ⟨by (with_reducible repeat (first|refine kN ?_ _|refine kD ?_|refine kA ?_ _)); refine blk_put (cs := #[.slice Ao36 t402.length co36, .slice Ao34 x402001_2.length co34]) ?_ 1 _ rfl; (with_reducible repeat (first|refine kN ?_ _|refine kD ?_|refine kA ?_ _)); refine blk_put (cs := #[.slice Ao33 x402000_2.length co33, .slice Ao34 x402001_2.length co34]) ?_ 0 _ rfl; (with_reducible repeat (first|refine kN ?_ _|refine kD ?_|refine kA ?_ _)); exact BK401.out⟩, ⟨bX3 HB.out GE391.out GE392.out GE401.out⟩⟩
 }
 {
 rw [if_neg c29] at H
 exact absurd H (by simp)
 }
 }
 {
 rw [if_neg c28] at H
 have c28b0 : decide (x7_2 < (a1.size : Int)) = false := decide_eq_false c28
 clear c28
 simp only [Option.some.injEq, Prod.mk.injEq] at H
 obtain ⟨rfl, rfl, rfl⟩ := H
 have hnb40 := NB401_391.out
 have hnc40 := NB391_401.out
 have hnb41 := NB401_392.out
 have hnc41 := NB392_401.out
 have hcz42_0 := cz20 BK401.out
 have hcz42_1 := cz21 BK401.out
 have hfz42_0 := blk_frozen BK401.out 0
 have hfz42_1 := blk_frozen BK401.out 1
 obtain ⟨Ao43, co43, eo43⟩ := Kd.R_slice HO_402000.out
 subst eo43
 have hnb44 := NB392_391.out
 have hnc44 := NB391_392.out
 have hcz45_0 := cz20 BK392.out
 have hcz45_1 := cz21 BK392.out
 have hfz45_0 := blk_frozen BK392.out 0
 have hfz45_1 := blk_frozen BK392.out 1
 obtain ⟨Ao46, co46, eo46⟩ := Kd.R_slice HO_402001.out
 subst eo46
 go_wp2
 refine bodyPost_ret (results_ct rfl _ _ gb392 27 #[.slice Ao43 x402000_2.length co43, .slice Ao46 x402001_2.length co46] (0, 0) _ rfl (by (with_reducible repeat (first|refine kN ?_ _|refine kD ?_|refine kA ?_ _)); refine blk_put (cs := #[.slice Ao43 x402000_2.length co43, .slice none 0 0]) ?_ 1 _ rfl; (with_reducible repeat (first|refine kN ?_ _|refine kD ?_|refine kA ?_ _)); refine blk_put (cs := #[.slice none 0 0, .slice none 0 0]) ?_ 0 _ rfl; (with_reducible repeat (first|refine kN ?_ _|refine kD ?_|refine kA ?_ _)); exact BK392.out) Try.underlying27 rfl (by kernel_rfl)) rfl ?_
 exact ⟨_, _, eX, by (with_reducible repeat (first|apply rA|apply rN|apply rD)); exact Kd.R_mono (Kd.R_far (p := ⟨gb392, 1, none⟩) (Kd.R_far (p := ⟨gb392, 0, none⟩) (Kd.R_types HO_402000.out BK392.out (by decide)) (fun _ hk => hk.2) (.slice Ao43 x402000_2.length co43)) (fun _ hk => hk.2) (.slice Ao46 x402001_2.length co46)) (fun _ hk => hk.1), by (with_reducible repeat (first|apply rA|apply rN|apply rD)); exact Kd.R_mono (Kd.R_far (p := ⟨gb392, 1, none⟩) (Kd.R_far (p := ⟨gb392, 0, none⟩) (Kd.R_types HO_402001.out BK392.out (by decide)) (fun _ hk => hk.2) (.slice Ao43 x402000_2.length co43)) (fun _ hk => hk.2) (.slice Ao46 x402001_2.length co46)) (fun _ hk => hk.1), bX3 HB.out GE391.out GE392.out GE401.out⟩
 }
 }

/-! ### i_RenamePerm: function 77 -/
mutual
def i_RenamePerm.j0 : Nat → List Int → List Int → Bool → Option (List Int)
 | 0, _, _, _ => none
 | k + 1, x0, x1, x22 => if x22 = true then (some ([] : List Int)) else (if 0 ≤ (x0.length : Int) then (if ((x0.length : Int) : Int).toNat ≤ 35184372088832 then (i_RenamePerm.l0 k x1 (List.replicate ((x0.length : Int) : Int).toNat 0) x0 (x0.length : Int) 0) else (none)) else (none))
def i_RenamePerm.l0 : Nat → List Int → List Int → List Int → Int → Int → Option (List Int)
 | 0, _, _, _, _, _ => none
 | k + 1, x1, x5, x26, x27, x28 => if x28 < x27 then (if 0 ≤ x28 then (if x28 < (x26.length : Int) then (if x28 < (x1.length : Int) then (if 0 ≤ (rd x26 x28) then (if (rd x26 x28) < (x1.length : Int) then (if 0 ≤ (rd x1 x28) then (if (rd x1 x28) < (x5.length : Int) then (i_RenamePerm.l0 k x1 (x5.set ((rd x1 x28) : Int).toNat (rd x1 (rd x26 x28))) x26 x27 (wrap64 (x28 + 1))) else (none)) else (none)) else (none)) else (none)) else (none)) else (none)) else (none)) else (some x5)
end
def i_RenamePerm.f (k : Nat) (l0 : List Int) (l1 : List Int) : Option (List Int) := (i_PermOk.f l0).bind fun t408 => (if t408 = true then ((i_PermOk.f l1).bind fun t409 => (if t409 = true then (i_RenamePerm.j0 k l0 l1 ((l0.length : Int) != (l1.length : Int))) else (i_RenamePerm.j0 k l0 l1 true))) else (i_RenamePerm.j0 k l0 l1 true))
def i_RenamePerm.T7 : Bool × List (List Nat × List Nat) := (true, [([], []), ([], []), ([], []), ([1, 2], [1, 2]), ([3], [3]), ([], []), ([], []), ([5, 6], [5, 6]), ([7], [7]), ([0, 4, 0, 1, 2, 3, 4, 5, 6, 7, 8], [0, 4]), ([9, 8, 0, 1, 2, 3, 4, 5, 6, 7, 8], [8, 9])])
def i_RenamePerm.B7 : List Nat := [0, 0, 0, 6, 14, 0, 0, 96, 224, 511, 1023]
theorem i_RenamePerm.tab7 : rtab .any (opsOf Try.f77 7) = i_RenamePerm.T7 := by kernel_rfl
theorem i_RenamePerm.bits7 : waitsOk i_RenamePerm.T7.2 i_RenamePerm.B7 = true := by kernel_rfl
theorem i_RenamePerm.calls (k : Nat) (A0 : Option Addr) (c0 : Nat) (l0 : List Int) (A1 : Option Addr) (c1 : Nat) (l1 : List Int) (r : List Int) (w : World) (hr0 : Kd.C (Kd.int .i64) w A0 l0.length l0) (hc0 : l0.length ≤ c0) (hr1 : Kd.C (Kd.int .i64) w A1 l1.length l1) (hc1 : l1.length ≤ c1) (h : i_RenamePerm.f k l0 l1 = some r) :
  Calls Try.prog 77 #[.slice A0 l0.length c0, .slice A1 l1.length c1] w fun e w' => ∃ v0_ : Value, e = .returned (v0_) ∧ Kd.R (Kd.int .i64) 3 w' w.heap.size (fun _ => True) v0_ r ∧ Below w.heap.size w w' := by
 have HR0 := aM hr0
 have HC0 := aM hc0
 clear hr0 hc0
 have HR1 := aM hr1
 have HC1 := aM hc1
 clear hr1 hc1
 have HB := aM (Below.refl w.heap.size w)
 have H : ((i_PermOk.f l0).bind fun t408 => (if t408 = true then ((i_PermOk.f l1).bind fun t409 => (if t409 = true then (i_RenamePerm.j0 k l0 l1 ((l0.length : Int) != (l1.length : Int))) else (i_RenamePerm.j0 k l0 l1 true))) else (i_RenamePerm.j0 k l0 l1 true))) = some r := h
 clear h
 have HC3 := aM H
 clear H
 go_enter Try.func77, Try.ntmps77
 go_upto_region 1 with (fail)
 go_cut [22] (fun v22 wc => ∃ (kq : Nat) (x22_2 : Bool), v22 = .bool x22_2 ∧ Aside0 (i_RenamePerm.j0 kq l0 l1 x22_2 = some r) ∧ Aside0 (kq ≤ k) ∧ Aside0 (Below w.heap.size w wc))
 case first =>
  have H := HC3.out
  clear HC3
  replace H := oB H
  obtain ⟨t408, A40, H⟩ := H
  replace H : (if t408 = true then ((i_PermOk.f l1).bind fun t409 => (if t409 = true then (i_RenamePerm.j0 k l0 l1 ((l0.length : Int) != (l1.length : Int))) else (i_RenamePerm.j0 k l0 l1 true))) else (i_RenamePerm.j0 k l0 l1 true)) = some r := H
  have A4 := aM A40
  clear A40
  by_cases c5 : t408 = true
  {
  subst c5
  have H1 : ((i_PermOk.f l1).bind fun t409 => (if t409 = true then (i_RenamePerm.j0 k l0 l1 ((l0.length : Int) != (l1.length : Int))) else (i_RenamePerm.j0 k l0 l1 true))) = some r := by rw [if_pos rfl] at H; exact H
  clear H
  have H := H1
  clear H1
  replace H := oB H
  obtain ⟨t409, A60, H⟩ := H
  replace H : (if t409 = true then (i_RenamePerm.j0 k l0 l1 ((l0.length : Int) != (l1.length : Int))) else (i_RenamePerm.j0 k l0 l1 true)) = some r := H
  have A6 := aM A60
  clear A60
  by_cases c7 : t409 = true
  {
  subst c7
  have H1 : (i_RenamePerm.j0 k l0 l1 ((l0.length : Int) != (l1.length : Int))) = some r := by rw [if_pos rfl] at H; exact H
  clear H
  have H := H1
  clear H1
  have H' := aM H
  clear H
  go_wp2_with (first | ((with_reducible refine gate_callee (f := 21) rfl ?_); refine goesL_ (some 9) rfl rfl Try.func21 (by kernel_rfl) rfl #[.slice A0 l0.length c0] rfl aX ?_; (with_reducible refine (i_PermOk.calls _ _ l0 true _ ?side1 ?side2 A4.out).mono ?_); (case side1 => exact cX (Kd.C_below HR0.out HB.out)); (case side2 => exact HC0.out); rintro e w8 ⟨rfl, hb⟩; refine ⟨_, rfl, ?_⟩; replace HB := aM (below_step (bX HB.out) hb); (try clear hb); (try clear hb2); (try clear hk); (try clear hi)) | (go_at_call 21; (with_reducible refine (i_PermOk.calls _ _ l1 true _ ?side1 ?side2 A6.out).mono ?_); (case side1 => exact cX (Kd.C_below HR1.out HB.out)); (case side2 => exact HC1.out); rintro e w9 ⟨rfl, hb⟩; replace HB := aM (below_step (bX HB.out) hb); (try clear hb); (try clear hb2); (try clear hk); (try clear hi)))
  go_meet
  case rel => exact ⟨_, (((l0.length : Int) != (l1.length : Int))), vX, H', ⟨by first | omega | exact Nat.le_refl _⟩, ⟨bX HB.out⟩⟩
  }
  {
  replace c7 := Bool.eq_false_iff.mpr c7
  subst c7
  have H1 : (i_RenamePerm.j0 k l0 l1 true) = some r := by rw [if_neg (show ¬ (false = true) by decide)] at H; exact H
  clear H
  have H := H1
  clear H1
  have H' := aM H
  clear H
  go_wp2_with (first | ((with_reducible refine gate_callee (f := 21) rfl ?_); refine goesL_ (some 9) rfl rfl Try.func21 (by kernel_rfl) rfl #[.slice A0 l0.length c0] rfl aX ?_; (with_reducible refine (i_PermOk.calls _ _ l0 true _ ?side1 ?side2 A4.out).mono ?_); (case side1 => exact cX (Kd.C_below HR0.out HB.out)); (case side2 => exact HC0.out); rintro e w10 ⟨rfl, hb⟩; refine ⟨_, rfl, ?_⟩; replace HB := aM (below_step (bX HB.out) hb); (try clear hb); (try clear hb2); (try clear hk); (try clear hi)) | (go_at_call 21; (with_reducible refine (i_PermOk.calls _ _ l1 false _ ?side1 ?side2 A6.out).mono ?_); (case side1 => exact cX (Kd.C_below HR1.out HB.out)); (case side2 => exact HC1.out); rintro e w11 ⟨rfl, hb⟩; replace HB := aM (below_step (bX HB.out) hb); (try clear hb); (try clear hb2); (try clear hk); (try clear hi)))
  go_meet
  case rel => exact ⟨_, (true), vX, H', ⟨by first | omega | exact Nat.le_refl _⟩, ⟨bX HB.out⟩⟩
  }
  }
  {
  replace c5 := Bool.eq_false_iff.mpr c5
  subst c5
  have H1 : (i_RenamePerm.j0 k l0 l1 true) = some r := by rw [if_neg (show ¬ (false = true) by decide)] at H; exact H
  clear H
  have H := H1
  clear H1
  have H' := aM H
  clear H
  go_wp2_with (first | ((with_reducible refine gate_callee (f := 21) rfl ?_); refine goesL_ (some 9) rfl rfl Try.func21 (by kernel_rfl) rfl #[.slice A0 l0.length c0] rfl aX ?_; (with_reducible refine (i_PermOk.calls _ _ l0 false _ ?side1 ?side2 A4.out).mono ?_); (case side1 => exact cX (Kd.C_below HR0.out HB.out)); (case side2 => exact HC0.out); rintro e w12 ⟨rfl, hb⟩; refine ⟨_, rfl, ?_⟩; replace HB := aM (below_step (bX HB.out) hb); (try clear hb); (try clear hb2); (try clear hk); (try clear hi)))
  go_meet
  case rel => exact ⟨_, (true), vX, H', ⟨by first | omega | exact Nat.le_refl _⟩, ⟨bX HB.out⟩⟩
  }
 case rest =>
 clear HC3
 try clear c1
 try clear c5
 try clear c7
 obtain ⟨kq, x22_2, rfl, HA, HJ2, HB⟩ := hcut
 cases kq with
 | zero => exact absurd HA.out (by simp [i_RenamePerm.j0])
 | succ kj2 =>
 have H := HA.out
 clear HA
 simp only [i_RenamePerm.j0] at H
 by_cases c13 : x22_2 = true
 {
 subst c13
 have H1 : (some ([] : List Int)) = some r := by rw [if_pos rfl] at H; exact H
 clear H
 have H := H1
 clear H1
 obtain rfl := Option.some.inj H
 go_wp2
 go_ret
 exact ⟨_, eX, by first | exact Kd.R_nil _ _ _ _ _ | exact Kd.N_nil _ _ _ _ _ | exact Kd.V_nil _ _ _ _ _ | exact Kd.Q_nil _ _ _ _ _ | exact Kd.S_nil _ _ _ _ _, bX HB.out⟩
 }
 {
 replace c13 := Bool.eq_false_iff.mpr c13
 subst c13
 have H1 : (if 0 ≤ (l0.length : Int) then (if ((l0.length : Int) : Int).toNat ≤ 35184372088832 then (i_RenamePerm.l0 kj2 l1 (List.replicate ((l0.length : Int) : Int).toNat 0) l0 (l0.length : Int) 0) else (none)) else (none)) = some r := by rw [if_neg (show ¬ (false = true) by decide)] at H; exact H
 clear H
 have H := H1
 clear H1
 by_cases c14 : 0 ≤ (l0.length : Int)
 {
 rw [if_pos c14] at H
 have c14b0 := eq_true c14
 have c14b1 : decide (0 ≤ (l0.length : Int)) = true := decide_eq_true c14
 clear c14
 by_cases c15 : ((l0.length : Int) : Int).toNat ≤ 35184372088832
 {
 rw [if_pos c15] at H
 have c15b0 := eq_true c15
 have c15b1 : decide (((l0.length : Int) : Int).toNat ≤ 35184372088832) = true := decide_eq_true c15
 clear c15
 obtain ⟨y410, hy410⟩ : ∃ y_ : List Int, y_ = (List.replicate ((l0.length : Int) : Int).toNat 0) := ⟨_, rfl⟩
 replace H : (i_RenamePerm.l0 kj2 l1 y410 l0 (l0.length : Int) 0) = some r := by first | (rw [hy410]; with_reducible exact H) | (have H2_ := (Option.bind_some _ _).symm.trans H; rw [hy410]; with_reducible exact H2_) | (have H2_ := (Option.bind_some _ _).symm.trans H; with_reducible exact H2_) | with_reducible exact H | (rw [hy410]; exact H) | exact H
 have Ny410 := aM hy410
 clear hy410
 have H' := aM H
 clear H
 go_wp2_with (first | ((with_reducible refine gate_dst (N := 25) rfl ?_); (try (refine gate_guard (by rfl) ?_; dsimp only)); refine Kd.R_make (Kd.int .i64) _ 3 rfl (N := 25) rfl 25 _ _ rfl (l0.length : Int) rfl rfl Try.underlying25 (.int .i64 0) 8 info3 rfl (by decide) (by omega) 0 (ok := fun _ => True) (okp := fun _ => True) rfl (fun _ hk => hk) trivial (dX) (Nat.le_trans (Nat.mul_le_mul_right _ (dX : (l0.length : Int).toNat ≤ 35184372088832)) (by omega)) (Below.refl _ _) (Nat.le_refl _) ?_; intro v411 w16 ho17 hb hg_ hnew_; clear hg_ hnew_; (first | rw [← Ny410.out] at ho17 | (simp only [Int.reduceToNat] at ho17; rw [← Ny410.out] at ho17)); have HO412 := aM (Kd.R_lower ho17 (below_size (bX HB.out))); replace HB := aM (below_step (bX HB.out) hb); clear hb ho17))
 go_loopg [28] kj2 (fun kq v28 w' => ∃ (x5_2 : List Int) (x28_2 : Int), v28 = .int .i64 x28_2 ∧ Aside0 (i_RenamePerm.l0 kq l1 x5_2 l0 (l0.length : Int) x28_2 = some r) ∧ Aside0 (kq ≤ kj2) ∧ Aside0 (Kd.R (Kd.int .i64) 3 w' w.heap.size (fun _ => True) v411 x5_2) ∧ Aside0 (Below w.heap.size w w'))
 case atStart => exact ⟨(y410), (0), vX, H', ⟨Nat.le_refl _⟩, ⟨rX HO412.out⟩, ⟨bX HB.out⟩⟩
 case round =>
 clear H'
 try clear c1
 try clear c5
 try clear c7
 try clear c13
 try clear c14
 try clear c14b0
 try clear c14b1
 try clear c15
 try clear c15b0
 try clear c15b1
 obtain ⟨x5_2, x28_2, rfl, HA, HK2, HO_5, HB⟩ := hrel
 cases gk with
 | zero => exact absurd HA.out (by simp [i_RenamePerm.l0])
 | succ k2 =>
 have H := HA.out
 clear HA
 simp only [i_RenamePerm.l0] at H
 by_cases c18 : x28_2 < (l0.length : Int)
 {
 rw [if_pos c18] at H
 have c18b0 : decide (x28_2 < (l0.length : Int)) = true := decide_eq_true c18
 clear c18
 by_cases c19 : 0 ≤ x28_2
 {
 rw [if_pos c19] at H
 have c19b0 : decide (0 ≤ x28_2) = true := decide_eq_true c19
 clear c19
 by_cases c20 : x28_2 < (l0.length : Int)
 {
 rw [if_pos c20] at H
 have c20b0 : decide (x28_2 < (l0.length : Int)) = true := decide_eq_true c20
 clear c20
 by_cases c21 : x28_2 < (l1.length : Int)
 {
 rw [if_pos c21] at H
 have c21b0 : decide (x28_2 < (l1.length : Int)) = true := decide_eq_true c21
 clear c21
 by_cases c22 : 0 ≤ (rd l0 x28_2)
 {
 rw [if_pos c22] at H
 have c22b0 : decide (0 ≤ (rd l0 x28_2)) = true := decide_eq_true c22
 clear c22
 by_cases c23 : (rd l0 x28_2) < (l1.length : Int)
 {
 rw [if_pos c23] at H
 have c23b0 : decide ((rd l0 x28_2) < (l1.length : Int)) = true := decide_eq_true c23
 clear c23
 by_cases c24 : 0 ≤ (rd l1 x28_2)
 {
 rw [if_pos c24] at H
 have c24b0 : decide (0 ≤ (rd l1 x28_2)) = true := decide_eq_true c24
 clear c24
 by_cases c25 : (rd l1 x28_2) < (x5_2.length : Int)
 {
 rw [if_pos c25] at H
 have c25b0 : decide ((rd l1 x28_2) < (x5_2.length : Int)) = true := decide_eq_true c25
 clear c25
 obtain ⟨y416, hy416⟩ : ∃ y_ : List Int, y_ = (x5_2.set ((rd l1 x28_2) : Int).toNat (rd l1 (rd l0 x28_2))) := ⟨_, rfl⟩
 replace H : (i_RenamePerm.l0 k2 l1 y416 l0 (l0.length : Int) (wrap64 (x28_2 + 1))) = some r := by first | (rw [hy416]; with_reducible exact H) | (have H2_ := (Option.bind_some _ _).symm.trans H; rw [hy416]; with_reducible exact H2_) | (have H2_ := (Option.bind_some _ _).symm.trans H; with_reducible exact H2_) | with_reducible exact H | (rw [hy416]; exact H) | exact H
 have Ny416 := aM hy416
 clear hy416
 have H' := aM H
 clear H
 have p413 : 0 ≤ (x28_2 : Int) := dX
 have q413 : x28_2 < (l0.length : Int) := dX
 obtain ⟨ad413, e413, hx413_0⟩ := Kd.at_int HR0.out x28_2 p413 q413
 cases e413
 replace hx413_0 := (HB.out.cell (World.block_lt_of_cell? w _ hx413_0)).trans hx413_0
 replace p413 := eq_true p413
 replace q413 := eq_true q413
 try go_wp2
 replace HO_5 := aM (Kd.R_drew HO_5.out)
 replace HB := aM (below_drew1 HB.out)
 have p414 : 0 ≤ (x28_2 : Int) := dX
 have q414 : x28_2 < (l1.length : Int) := dX
 obtain ⟨ad414, e414, hx414_0⟩ := Kd.at_int HR1.out x28_2 p414 q414
 have hw414_0 := hx414_0
 cases e414
 replace hx414_0 := (HB.out.cell (World.block_lt_of_cell? w _ hx414_0)).trans hx414_0
 replace p414 := eq_true p414
 replace q414 := eq_true q414
 have p415 : 0 ≤ ((rd l0 x28_2) : Int) := dX
 have q415 : (rd l0 x28_2) < (l1.length : Int) := dX
 obtain ⟨ad415, e415, hx415_0⟩ := Kd.at_int HR1.out (rd l0 x28_2) p415 q415
 have hw415_0 := hx415_0
 obtain rfl : ad414 = ad415 := (by injection e415)
 replace hx415_0 := (HB.out.cell (World.block_lt_of_cell? w _ hx415_0)).trans hx415_0
 replace p415 := eq_true p415
 replace q415 := eq_true q415
 have p26 : 0 ≤ ((rd l1 x28_2) : Int) := dX
 have q26 : ((rd l1 x28_2) : Int) < ((x5_2.length : Int) : Int) := dX
 obtain ⟨go26, co26, eo26, gb26, gl26, cl26, HG26⟩ := Kd.R_form HO_5.out (by omega)
 (first | cases eo26 | (injection eo26 with ea_ en_ ec_; (first | subst ea_ | (injection ea_ with ea_; subst ea_)); subst ec_; clear en_))
 have GB26 := aM gb26
 have GG26 := aM HG26
 clear gb26 gl26 HG26
 obtain ⟨hx26_0, hf26_0⟩ := Kd.R_celln 0 HO_5.out ((rd l1 x28_2) : Int) p26 q26
 replace p26 := eq_true p26
 replace q26 := eq_true q26
 have HP28 := Kd.R_putn HO_5.out ((rd l1 x28_2) : Int) (rd l1 (rd l0 x28_2))
 rw [← Ny416.out] at HP28
 have HQ28 := aM HP28
 clear HP28
 refine start_ (n := 11) (S := fun w' => w'.cell? (ad414.add (x28_2).toNat) = some (.int .i64 (rd l1 x28_2)) ∧ w'.cell? (ad414.add ((rd l0 x28_2)).toNat) = some (.int .i64 (rd l1 (rd l0 x28_2)))) (ds := [10]) #[ff,ff,ff,ff,ff,ff,ff,ff,ff,ff,ff] (by kernel_rfl) rfl rfl ⟨((HB.out.cell (World.block_lt_of_cell? w _ hw414_0)).trans hw414_0), ((HB.out.cell (World.block_lt_of_cell? w _ hw415_0)).trans hw415_0)⟩ (fun hHeld => ?_); refine with_tabW i_RenamePerm.tab7 i_RenamePerm.bits7 (fun HT_ HW_ => ?_)
 generalize wr.drew = w27 at HO_5 HB GG26 HQ28 hf26_0 hx26_0 hx414_0 hx415_0 hHeld ⊢
 refine pX 0 33 (fl 11 1) rfl rfl HT_.out ?_
 refine pX 1 34 (fl 11 3) rfl rfl HT_.out ?_
 refine pX 2 35 (fl 11 7) rfl rfl HT_.out ?_
 refine pX 3 36 (fl 11 15) rfl rfl HT_.out ?_
 refine pX 5 38 (fl 11 47) rfl rfl HT_.out ?_
 refine pX 6 39 (fl 11 111) rfl rfl HT_.out ?_
 refine pX 7 40 (fl 11 239) rfl rfl HT_.out ?_
 refine tX2 4 37 (fl 11 255) rfl rfl HT_.out HW_.out hHeld ?_
 refine tX2 8 41 (fl 11 511) rfl rfl HT_.out HW_.out hHeld ?_
 refine pX 9 42 (fl 11 1023) rfl rfl HT_.out ?_
 refine last_ (i := 10) (N := none) #[tt,tt,tt,tt,tt,tt,tt,tt,tt,tt,tt] rfl rfl (one_of HT_.out (by kernel_rfl)) (by decide) (fun K hK => ?_)
 refine skip_ (w1 := ?_) (by rfl) rfl ?_ ?_
 rotate_left
 {
 go_simp
 rfl
 }
 refine hK.out _ _ ?_
 clear hK K
 refine done_ (done_of HT_.out (by kernel_rfl)) ?_
 try go_wp2
 go_roundg k2
 case measure => have := HJ2.out; have := HK2.out; omega
 case rel => exact ⟨(y416), (wrap64 (x28_2 + 1)), vX, H', ⟨by have := HJ2.out; have := HK2.out; omega⟩, ⟨rX HQ28.out⟩, ⟨bX1 HB.out GB26.out⟩⟩
 }
 {
 rw [if_neg c25] at H
 exact absurd H (by simp)
 }
 }
 {
 rw [if_neg c24] at H
 exact absurd H (by simp)
 }
 }
 {
 rw [if_neg c23] at H
 exact absurd H (by simp)
 }
 }
 {
 rw [if_neg c22] at H
 exact absurd H (by simp)
 }
 }
 {
 rw [if_neg c21] at H
 exact absurd H (by simp)
 }
 }
 {
 rw [if_neg c20] at H
 exact absurd H (by simp)
 }
 }
 {
 rw [if_neg c19] at H
 exact absurd H (by simp)
 }
 }
 {
 rw [if_neg c18] at H
 have c18b0 : decide (x28_2 < (l0.length : Int)) = false := decide_eq_false c18
 clear c18
 obtain rfl := Option.some.inj H
 go_wp2
 go_ret
 exact ⟨_, eX, by (with_reducible repeat (first|apply rA|apply rN|apply rD)); exact HO_5.out, bX HB.out⟩
 }
 }
 {
 rw [if_neg c15] at H
 exact absurd H (by simp)
 }
 }
 {
 rw [if_neg c14] at H
 exact absurd H (by simp)
 }
 }

end Go.Proofs.Ytlbhjemkjkdndaa.S
