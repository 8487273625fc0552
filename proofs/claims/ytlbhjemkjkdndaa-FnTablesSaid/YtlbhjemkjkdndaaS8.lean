-- PRINTED by print.py (a twelfth state) out of the translation. Not trusted: Lean checks it.
import Derived.Test.YtlbhjemkjkdndaaS0
import Derived.Test.YtlbhjemkjkdndaaS5
import Derived.Test.YtlbhjemkjkdndaaS6
import Derived.Test.YtlbhjemkjkdndaaS7
namespace Go.Proofs.Ytlbhjemkjkdndaa.S
set_option maxHeartbeats 8000000
set_option maxRecDepth 100000
open Go.RowKit Go.Proofs.YtlbhjemkjkdndaaW.PrintWords Go.Proofs.YtlbhjemkjkdndaaW.PrintLast Go.Proofs.YtlbhjemkjkdndaaW.PrintMore
attribute [local go_sem] max2_int min2_int max_two min_two max_three min_three max_four min_four   -- for this text's walks alone
set_option linter.unusedVariables false
set_option linter.unusedSimpArgs false

/-! ### i_RenameSurface: function 67 -/
def i_RenameSurface.j0 : Nat → List Int → Bool → List Int → List Int → Option (List Int × List Int × Bool)
 | 0, _, _, _, _ => none
 | k + 1, x1, x21, x418000, x418001 => if x21 = true then (some (([] : List Int), ([] : List Int), false)) else ((i_RenamePerm.f k x418000 x1).bind fun t421 => ((i_RenamePerm.f k x418001 x1).bind fun t424 => (some (t421, t424, true))))
def i_RenameSurface.f (k : Nat) (l0_0 : List Int) (l0_1 : List Int) (l1 : List Int) : Option (List Int × List Int × Bool) := (i_SurfaceOk.f k l0_0 l0_1).bind fun t419 => (if t419 = true then ((i_PermOk.f l1).bind fun t420 => (if t420 = true then (i_RenameSurface.j0 k l1 ((l1.length : Int) != (l0_0.length : Int)) l0_0 l0_1) else (i_RenameSurface.j0 k l1 true l0_0 l0_1))) else (i_RenameSurface.j0 k l1 true l0_0 l0_1))
def i_RenameSurface.T3 : Bool × List (List Nat × List Nat) := (true, [([], []), ([0], [0]), ([], []), ([1, 2], [1, 2]), ([], []), ([4], [4]), ([], []), ([5, 6, 3], [5, 6]), ([3, 7], [3, 7]), ([8, 7, 0, 1, 2, 3, 4, 5, 6, 7, 8], [8]), ([9, 0, 1, 2, 3, 4, 5, 6, 7, 8, 9], [])])
def i_RenameSurface.B3 : List Nat := [0, 1, 0, 7, 0, 16, 0, 127, 255, 511, 1023]
theorem i_RenameSurface.tab3 : rtab .any (opsOf Try.f67 3) = i_RenameSurface.T3 := by kernel_rfl
theorem i_RenameSurface.bits3 : waitsOk i_RenameSurface.T3.2 i_RenameSurface.B3 = true := by kernel_rfl
theorem i_RenameSurface.calls (k : Nat) (A0_0 : Option Addr) (c0_0 : Nat) (l0_0 : List Int) (A0_1 : Option Addr) (c0_1 : Nat) (l0_1 : List Int) (A1 : Option Addr) (c1 : Nat) (l1 : List Int) (r1 : List Int) (r2 : List Int) (r3 : Bool) (w : World) (hr0_0 : Kd.C (Kd.int .i64) w A0_0 l0_0.length l0_0) (hc0_0 : l0_0.length ≤ c0_0) (hr0_1 : Kd.C (Kd.int .i64) w A0_1 l0_1.length l0_1) (hc0_1 : l0_1.length ≤ c0_1) (hr1 : Kd.C (Kd.int .i64) w A1 l1.length l1) (hc1 : l1.length ≤ c1) (h : i_RenameSurface.f k l0_0 l0_1 l1 = some (r1, r2, r3)) :
  Calls Try.prog 67 #[.agg #[.slice A0_0 l0_0.length c0_0, .slice A0_1 l0_1.length c0_1], .slice A1 l1.length c1] w fun e w' => ∃ v0_ v1_ : Value, e = .returned (.tuple #[.agg #[v0_, v1_], .bool r3]) ∧ Kd.R (Kd.int .i64) 3 w' w.heap.size (fun k_ => some k_ ≠ (v1_ : Value).ownBlock) v0_ r1 ∧ Kd.R (Kd.int .i64) 3 w' w.heap.size (fun k_ => some k_ ≠ (v0_ : Value).ownBlock) v1_ r2 ∧ Below w.heap.size w w' := by
 have hu27 := Try.underlying27
 have HR0_0 := aM hr0_0
 have HC0_0 := aM hc0_0
 clear hr0_0 hc0_0
 have HR0_1 := aM hr0_1
 have HC0_1 := aM hc0_1
 clear hr0_1 hc0_1
 have HR1 := aM hr1
 have HC1 := aM hc1
 clear hr1 hc1
 have HB := aM (Below.refl w.heap.size w)
 have H : ((i_SurfaceOk.f k l0_0 l0_1).bind fun t419 => (if t419 = true then ((i_PermOk.f l1).bind fun t420 => (if t420 = true then (i_RenameSurface.j0 k l1 ((l1.length : Int) != (l0_0.length : Int)) l0_0 l0_1) else (i_RenameSurface.j0 k l1 true l0_0 l0_1))) else (i_RenameSurface.j0 k l1 true l0_0 l0_1))) = some (r1, r2, r3) := h
 clear h
 have HC3 := aM H
 clear H
 go_enter Try.func67, Try.ntmps67
 go_upto_region 1 with (first | ((with_reducible refine gate_dst (N := 2) rfl ?_); (try (refine gate_guard (by rfl) ?_; dsimp only)); refine bEv (cs := #[.slice A0_0 l0_0.length c0_0, .slice A0_1 l0_1.length c0_1]) (t := 27) ?_; intro gb417 hg w4 hbox hb; have BK417 := aM (hbox); have GW417 := aM ((szX (below_size (bX HB.out)) hg : w.heap.size ≤ gb417)); have GE417 := aM ((szX (below_size (bX HB.out)) hg : w.heap.size ≤ gb417)); replace HB := aM (below_step (bX HB.out) hb); clear hb hbox hg) | ((with_reducible refine gate_dst (N := 4) rfl ?_); (try (refine gate_guard (by rfl) ?_; dsimp only)); refine bEv (cs := #[.slice none 0 0, .slice none 0 0]) (t := 27) ?_; intro gb418 hg w5 hbox hb; have BK418 := aM (hbox); have GW418 := aM ((szX (below_size (bX1 HB.out GE417.out)) hg : w.heap.size ≤ gb418)); have GE418 := aM ((szX (below_size (bX1 HB.out GE417.out)) hg : w.heap.size ≤ gb418)); replace HB := aM (below_step (bX1 HB.out GE417.out) hb); have NB417_418 := aM (neX BK417.out hg); have NB418_417 := aM (nfX BK417.out hg); replace BK417 := aM (bbX BK417.out hb); clear hb hbox hg))
 (try simp only [Act.put, List.setIfInBounds_toArray, List.set_cons_zero, List.set_cons_succ])
 go_cut [21] (fun v21 wc => ∃ (kq : Nat) (x21_2 : Bool), v21 = .bool x21_2 ∧ Aside0 (i_RenameSurface.j0 kq l1 x21_2 l0_0 l0_1 = some (r1, r2, r3)) ∧ Aside0 (kq ≤ k) ∧ Aside0 (wc.heap[gb417]? = some (.cells #[(.slice A0_0 l0_0.length c0_0), (.slice A0_1 l0_1.length c0_1)] 27 (0, 0))) ∧ Aside0 (wc.heap[gb418]? = some (.cells #[(.slice none 0 0), (.slice none 0 0)] 27 (0, 0))) ∧ Aside0 (Below w.heap.size w wc))
 case first =>
  have H := HC3.out
  clear HC3
  replace H := oB H
  obtain ⟨t419, A60, H⟩ := H
  replace H : (if t419 = true then ((i_PermOk.f l1).bind fun t420 => (if t420 = true then (i_RenameSurface.j0 k l1 ((l1.length : Int) != (l0_0.length : Int)) l0_0 l0_1) else (i_RenameSurface.j0 k l1 true l0_0 l0_1))) else (i_RenameSurface.j0 k l1 true l0_0 l0_1)) = some (r1, r2, r3) := H
  have A6 := aM A60
  clear A60
  by_cases c7 : t419 = true
  {
  subst c7
  have H1 : ((i_PermOk.f l1).bind fun t420 => (if t420 = true then (i_RenameSurface.j0 k l1 ((l1.length : Int) != (l0_0.length : Int)) l0_0 l0_1) else (i_RenameSurface.j0 k l1 true l0_0 l0_1))) = some (r1, r2, r3) := by rw [if_pos rfl] at H; exact H
  clear H
  have H := H1
  clear H1
  replace H := oB H
  obtain ⟨t420, A80, H⟩ := H
  replace H : (if t420 = true then (i_RenameSurface.j0 k l1 ((l1.length : Int) != (l0_0.length : Int)) l0_0 l0_1) else (i_RenameSurface.j0 k l1 true l0_0 l0_1)) = some (r1, r2, r3) := H
  have A8 := aM A80
  clear A80
  by_cases c9 : t420 = true
  {
  subst c9
  have H1 : (i_RenameSurface.j0 k l1 ((l1.length : Int) != (l0_0.length : Int)) l0_0 l0_1) = some (r1, r2, r3) := by rw [if_pos rfl] at H; exact H
  clear H
  have H := H1
  clear H1
  have H' := aM H
  clear H
  have hnb10 := NB417_418.out
  have hnc10 := NB418_417.out
  have hcz11_0 := cz20 BK417.out
  have hcz11_1 := cz21 BK417.out
  have hfz11_0 := blk_frozen BK417.out 0
  have hfz11_1 := blk_frozen BK417.out 1
  go_wp2_with (first | ((with_reducible refine gate_callee (f := 19) rfl ?_); refine goesL_ (some 7) rfl rfl Try.func19 (by kernel_rfl) rfl #[.agg #[.slice A0_0 l0_0.length c0_0, .slice A0_1 l0_1.length c0_1]] rfl aX ?_; (with_reducible refine (i_SurfaceOk.calls k _ _ l0_0 _ _ l0_1 true _ ?side1 ?side2 ?side3 ?side4 A6.out).mono ?_); (case side1 => exact cX (Kd.C_below HR0_0.out HB.out)); (case side2 => exact HC0_0.out); (case side3 => exact cX (Kd.C_below HR0_1.out HB.out)); (case side4 => exact HC0_1.out); rintro e w12 ⟨rfl, hb⟩; refine ⟨_, rfl, ?_⟩; replace BK417 := aM (bbX BK417.out hb); replace BK418 := aM (bbX BK418.out hb); replace HB := aM (below_step (bX2 HB.out GE417.out GE418.out) hb); (try clear hb); (try clear hb2); (try clear hk); (try clear hi)) | (go_at_call 21; (with_reducible refine (i_PermOk.calls _ _ l1 true _ ?side1 ?side2 A8.out).mono ?_); (case side1 => exact cX (Kd.C_below HR1.out HB.out)); (case side2 => exact HC1.out); rintro e w13 ⟨rfl, hb⟩; replace BK417 := aM (bbX BK417.out hb); replace BK418 := aM (bbX BK418.out hb); replace HB := aM (below_step (bX2 HB.out GE417.out GE418.out) hb); (try clear hb); (try clear hb2); (try clear hk); (try clear hi); have hcz14_0 := cz20 BK417.out; have hcz14_1 := cz21 BK417.out; have hfz14_0 := blk_frozen BK417.out 0; have hfz14_1 := blk_frozen BK417.out 1))
  go_meet
  case rel => exact ⟨_, (((l1.length : Int) != (l0_0.length : Int))), vX, H', ⟨by first | omega | exact Nat.le_refl _⟩, ⟨kX BK417.out⟩, ⟨kX BK418.out⟩, ⟨bX2 HB.out GE417.out GE418.out⟩⟩
  }
  {
  replace c9 := Bool.eq_false_iff.mpr c9
  subst c9
  have H1 : (i_RenameSurface.j0 k l1 true l0_0 l0_1) = some (r1, r2, r3) := by rw [if_neg (show ¬ (false = true) by decide)] at H; exact H
  clear H
  have H := H1
  clear H1
  have H' := aM H
  clear H
  have hnb15 := NB417_418.out
  have hnc15 := NB418_417.out
  have hcz16_0 := cz20 BK417.out
  have hcz16_1 := cz21 BK417.out
  have hfz16_0 := blk_frozen BK417.out 0
  have hfz16_1 := blk_frozen BK417.out 1
  go_wp2_with (first | ((with_reducible refine gate_callee (f := 19) rfl ?_); refine goesL_ (some 7) rfl rfl Try.func19 (by kernel_rfl) rfl #[.agg #[.slice A0_0 l0_0.length c0_0, .slice A0_1 l0_1.length c0_1]] rfl aX ?_; (with_reducible refine (i_SurfaceOk.calls k _ _ l0_0 _ _ l0_1 true _ ?side1 ?side2 ?side3 ?side4 A6.out).mono ?_); (case side1 => exact cX (Kd.C_below HR0_0.out HB.out)); (case side2 => exact HC0_0.out); (case side3 => exact cX (Kd.C_below HR0_1.out HB.out)); (case side4 => exact HC0_1.out); rintro e w17 ⟨rfl, hb⟩; refine ⟨_, rfl, ?_⟩; replace BK417 := aM (bbX BK417.out hb); replace BK418 := aM (bbX BK418.out hb); replace HB := aM (below_step (bX2 HB.out GE417.out GE418.out) hb); (try clear hb); (try clear hb2); (try clear hk); (try clear hi)) | (go_at_call 21; (with_reducible refine (i_PermOk.calls _ _ l1 false _ ?side1 ?side2 A8.out).mono ?_); (case side1 => exact cX (Kd.C_below HR1.out HB.out)); (case side2 => exact HC1.out); rintro e w18 ⟨rfl, hb⟩; replace BK417 := aM (bbX BK417.out hb); replace BK418 := aM (bbX BK418.out hb); replace HB := aM (below_step (bX2 HB.out GE417.out GE418.out) hb); (try clear hb); (try clear hb2); (try clear hk); (try clear hi)))
  go_meet
  case rel => exact ⟨_, (true), vX, H', ⟨by first | omega | exact Nat.le_refl _⟩, ⟨kX BK417.out⟩, ⟨kX BK418.out⟩, ⟨bX2 HB.out GE417.out GE418.out⟩⟩
  }
  }
  {
  replace c7 := Bool.eq_false_iff.mpr c7
  subst c7
  have H1 : (i_RenameSurface.j0 k l1 true l0_0 l0_1) = some (r1, r2, r3) := by rw [if_neg (show ¬ (false = true) by decide)] at H; exact H
  clear H
  have H := H1
  clear H1
  have H' := aM H
  clear H
  have hnb19 := NB417_418.out
  have hnc19 := NB418_417.out
  have hcz20_0 := cz20 BK417.out
  have hcz20_1 := cz21 BK417.out
  have hfz20_0 := blk_frozen BK417.out 0
  have hfz20_1 := blk_frozen BK417.out 1
  go_wp2_with (first | ((with_reducible refine gate_callee (f := 19) rfl ?_); refine goesL_ (some 7) rfl rfl Try.func19 (by kernel_rfl) rfl #[.agg #[.slice A0_0 l0_0.length c0_0, .slice A0_1 l0_1.length c0_1]] rfl aX ?_; (with_reducible refine (i_SurfaceOk.calls k _ _ l0_0 _ _ l0_1 false _ ?side1 ?side2 ?side3 ?side4 A6.out).mono ?_); (case side1 => exact cX (Kd.C_below HR0_0.out HB.out)); (case side2 => exact HC0_0.out); (case side3 => exact cX (Kd.C_below HR0_1.out HB.out)); (case side4 => exact HC0_1.out); rintro e w21 ⟨rfl, hb⟩; refine ⟨_, rfl, ?_⟩; replace BK417 := aM (bbX BK417.out hb); replace BK418 := aM (bbX BK418.out hb); replace HB := aM (below_step (bX2 HB.out GE417.out GE418.out) hb); (try clear hb); (try clear hb2); (try clear hk); (try clear hi)))
  go_meet
  case rel => exact ⟨_, (true), vX, H', ⟨by first | omega | exact Nat.le_refl _⟩, ⟨kX BK417.out⟩, ⟨kX BK418.out⟩, ⟨bX2 HB.out GE417.out GE418.out⟩⟩
  }
 case rest =>
 clear HC3
 try clear c1
 try clear c7
 try clear c9
 try clear hcz11_0
 try clear hcz11_1
 try clear hcz14_0
 try clear hcz14_1
 try clear hcz16_0
 try clear hcz16_1
 try clear hcz20_0
 try clear hcz20_1
 try clear hfz11_0
 try clear hfz11_1
 try clear hfz14_0
 try clear hfz14_1
 try clear hfz16_0
 try clear hfz16_1
 try clear hfz20_0
 try clear hfz20_1
 obtain ⟨kq, x21_2, rfl, HA, HJ2, BK417, BK418, HB⟩ := hcut
 cases kq with
 | zero => exact absurd HA.out (by simp [i_RenameSurface.j0])
 | succ kj2 =>
 have H := HA.out
 clear HA
 simp only [i_RenameSurface.j0] at H
 by_cases c22 : x21_2 = true
 {
 subst c22
 have H1 : (some (([] : List Int), ([] : List Int), false)) = some (r1, r2, r3) := by rw [if_pos rfl] at H; exact H
 clear H
 have H := H1
 clear H1
 simp only [Option.some.injEq, Prod.mk.injEq] at H
 obtain ⟨rfl, rfl, rfl⟩ := H
 have hnb23 := NB418_417.out
 have hnc23 := NB417_418.out
 have hcz24_0 := cz20 BK418.out
 have hcz24_1 := cz21 BK418.out
 have hfz24_0 := blk_frozen BK418.out 0
 have hfz24_1 := blk_frozen BK418.out 1
 go_wp2
 refine bodyPost_ret (results_ct rfl _ _ gb418 27 #[.slice none 0 0, .slice none 0 0] (0, 0) _ rfl (by (with_reducible repeat (first|refine kN ?_ _|refine kD ?_|refine kA ?_ _)); refine blk_put (cs := #[.slice none 0 0, .slice none 0 0]) ?_ 1 _ rfl; (with_reducible repeat (first|refine kN ?_ _|refine kD ?_|refine kA ?_ _)); refine blk_put (cs := #[.slice none 0 0, .slice none 0 0]) ?_ 0 _ rfl; (with_reducible repeat (first|refine kN ?_ _|refine kD ?_|refine kA ?_ _)); exact BK418.out) Try.underlying27 rfl (by kernel_rfl)) rfl ?_
 exact ⟨_, _, eX, by first | exact Kd.R_nil _ _ _ _ _ | exact Kd.N_nil _ _ _ _ _ | exact Kd.V_nil _ _ _ _ _ | exact Kd.Q_nil _ _ _ _ _ | exact Kd.S_nil _ _ _ _ _, by first | exact Kd.R_nil _ _ _ _ _ | exact Kd.N_nil _ _ _ _ _ | exact Kd.V_nil _ _ _ _ _ | exact Kd.Q_nil _ _ _ _ _ | exact Kd.S_nil _ _ _ _ _, bX2 HB.out GE417.out GE418.out⟩
 }
 {
 replace c22 := Bool.eq_false_iff.mpr c22
 subst c22
 have H1 : ((i_RenamePerm.f kj2 l0_0 l1).bind fun t421 => ((i_RenamePerm.f kj2 l0_1 l1).bind fun t424 => (some (t421, t424, true)))) = some (r1, r2, r3) := by rw [if_neg (show ¬ (false = true) by decide)] at H; exact H
 clear H
 have H := H1
 clear H1
 replace H := oB H
 obtain ⟨t421, A250, H⟩ := H
 replace H : ((i_RenamePerm.f kj2 l0_1 l1).bind fun t424 => (some (t421, t424, true))) = some (r1, r2, r3) := H
 have A25 := aM A250
 clear A250
 replace H := oB H
 obtain ⟨t424, A260, H⟩ := H
 replace H : (some (t421, t424, true)) = some (r1, r2, r3) := H
 have A26 := aM A260
 clear A260
 simp only [Option.some.injEq, Prod.mk.injEq] at H
 obtain ⟨rfl, rfl, rfl⟩ := H
 try go_wp2
 replace BK417 := aM (blk_drew BK417.out)
 replace BK418 := aM (blk_drew BK418.out)
 replace HB := aM (below_drew1 HB.out)
 refine start_ (n := 11) (S := fun w' => w'.cell? ⟨gb417, 0, none⟩ = some (.slice A0_0 l0_0.length c0_0) ∧ w'.cell? ⟨gb417, 1, none⟩ = some (.slice A0_1 l0_1.length c0_1)) (ds := []) #[ff,ff,ff,ff,ff,ff,ff,ff,ff,ff,ff] (by kernel_rfl) rfl rfl ⟨cz20 BK417.out, cz21 BK417.out⟩ (fun hHeld => ?_); refine with_tabW i_RenameSurface.tab3 i_RenameSurface.bits3 (fun HT_ HW_ => ?_)
 generalize wc.drew = w27 at BK417 BK418 HB hHeld ⊢
 refine pX 0 23 (fl 11 1) rfl rfl HT_.out ?_
 refine pX 2 25 (fl 11 5) rfl rfl HT_.out ?_
 refine pX 4 27 (fl 11 21) rfl rfl HT_.out ?_
 refine pX 6 29 (fl 11 85) rfl rfl HT_.out ?_
 refine tX2 1 24 (fl 11 87) rfl rfl HT_.out HW_.out hHeld ?_
 refine tX2 5 28 (fl 11 119) rfl rfl HT_.out HW_.out hHeld ?_
 refine one_ (i := 3) (N := some 26) #[tt,tt,tt,tt,tt,tt,tt,ff,ff,ff,ff] rfl rfl (one_of HT_.out (by kernel_rfl)) (by decide) (fun K hK => ?_)
 refine goes_ Try.func77 (by kernel_rfl) rfl #[.slice A0_0 l0_0.length c0_0, .slice A1 l1.length c1] (by rfl) rfl rfl aX ?_
 with_reducible refine (i_RenamePerm.calls kj2 _ _ l0_0 _ _ l1 t421 _ ?side1 ?side2 ?side3 ?side4 A25.out).mono ?_
 (case side1 => exact cX (Kd.C_below HR0_0.out HB.out))
 (case side2 => exact HC0_0.out)
 (case side3 => exact cX (Kd.C_below HR1.out HB.out))
 (case side4 => exact HC1.out)
 rintro e w28 ⟨v422, rfl, ho0, hb⟩
 refine ⟨_, rfl, ?_⟩
 have HO423 := aM (Kd.R_lower ho0 (below_size (bX2 HB.out GE417.out GE418.out)))
 replace BK417 := aM (bbX BK417.out hb)
 replace BK418 := aM (bbX BK418.out hb)
 replace HB := aM (below_step (bX2 HB.out GE417.out GE418.out) hb)
 (try clear hb)
 (try clear hb2)
 (try clear hk)
 (try clear hi)
 (try clear ho0)
 refine hK.out _ _ ⟨cz20 BK417.out, cz21 BK417.out⟩ (fun hHeld => ?_)
 clear hK K
 refine norm_ (a' := ?_) ?_ ?_
 rotate_left
 {
 show Act.put _ (some 26) _ = _
 simp only [Act.put, zA, zB, zC, i64_w, i32_w]
 rfl
 }
 refine one_ (i := 7) (N := some 30) #[tt,tt,tt,tt,tt,tt,tt,tt,ff,ff,ff] rfl rfl (one_of HT_.out (by kernel_rfl)) (by decide) (fun K hK => ?_)
 refine goes_ Try.func77 (by kernel_rfl) rfl #[.slice A0_1 l0_1.length c0_1, .slice A1 l1.length c1] (by rfl) rfl rfl aX ?_
 with_reducible refine (i_RenamePerm.calls kj2 _ _ l0_1 _ _ l1 t424 _ ?side1 ?side2 ?side3 ?side4 A26.out).mono ?_
 (case side1 => exact cX (Kd.C_below HR0_1.out HB.out))
 (case side2 => exact HC0_1.out)
 (case side3 => exact cX (Kd.C_below HR1.out HB.out))
 (case side4 => exact HC1.out)
 rintro e w29 ⟨v425, rfl, ho0, hb⟩
 refine ⟨_, rfl, ?_⟩
 have HO426 := aM (Kd.R_lower (Kd.R_new' ho0 (Kd.R_lt (rX HO423.out))) (below_size (bX2 HB.out GE417.out GE418.out)))
 replace HO423 := aM (Kd.R_elder' (rX HO423.out) (Kd.R_base ho0) hb)
 replace BK417 := aM (bbX BK417.out hb)
 replace BK418 := aM (bbX BK418.out hb)
 replace HB := aM (below_step (bX2 HB.out GE417.out GE418.out) hb)
 (try clear hb)
 (try clear hb2)
 (try clear hk)
 (try clear hi)
 (try clear ho0)
 obtain ⟨Ao30, co30, eo30⟩ := Kd.R_slice HO426.out
 (first | subst eo30 | (injection eo30 with f1_ f2_ f3_; have f4_ := f1_.symm; have f5_ := f3_.symm; clear f1_ f2_ f3_; subst f4_; subst f5_))
 obtain ⟨Ao31, co31, eo31⟩ := Kd.R_slice HO423.out
 (first | subst eo31 | (injection eo31 with f1_ f2_ f3_; have f4_ := f1_.symm; have f5_ := f3_.symm; clear f1_ f2_ f3_; subst f4_; subst f5_))
 refine hK.out _ _ ⟨cz20 BK417.out, cz21 BK417.out⟩ (fun hHeld => ?_)
 clear hK K
 refine norm_ (a' := ?_) ?_ ?_
 rotate_left
 {
 show Act.put _ (some 30) _ = _
 simp only [Act.put, zA, zB, zC, i64_w, i32_w]
 rfl
 }
 refine pX 8 31 (fl 11 511) rfl rfl HT_.out ?_
 refine one_ (i := 9) (N := none) #[tt,tt,tt,tt,tt,tt,tt,tt,tt,tt,ff] rfl rfl (one_of HT_.out (by kernel_rfl)) (by decide) (fun K hK => ?_)
 have hs32 : w29.cell? ⟨gb418, 0, none⟩ = some (.slice none 0 0) := cz20 BK418.out
 have hfs32 := blk_frozen BK418.out 0
 have hns32_0 := NB417_418.out
 have hms32_0 := NB418_417.out
 have hs33 : w29.cell? ⟨gb418, 1, none⟩ = some (.slice none 0 0) := cz21 BK418.out
 have hfs33 := blk_frozen BK418.out 1
 have hns33_0 := NB417_418.out
 have hms33_0 := NB418_417.out
 refine skip_ (w1 := ?_) (by rfl) rfl ?_ ?_
 rotate_left
 {
 go_simp
 rfl
 }
 refine hK.out _ _ ⟨((cell_far (p := ⟨gb418, _, none⟩) NB417_418.out _).trans (((cell_far (p := ⟨gb418, _, none⟩) NB417_418.out _).trans (hHeld.1)))), ((cell_far (p := ⟨gb418, _, none⟩) NB417_418.out _).trans (((cell_far (p := ⟨gb418, _, none⟩) NB417_418.out _).trans (hHeld.2))))⟩ (fun hHeld => ?_)
 clear hK K
 refine pX 10 5 (fl 11 2047) rfl rfl HT_.out ?_
 refine done_ (done_of HT_.out (by kernel_rfl)) ?_
 try go_wp2
 refine bodyPost_ret (results_ct rfl _ _ gb418 27 #[.slice Ao31 t421.length co31, .slice Ao30 t424.length co30] (0, 0) _ rfl (by (with_reducible repeat (first|refine kN ?_ _|refine kD ?_|refine kA ?_ _)); refine blk_put (cs := #[.slice Ao31 t421.length co31, .slice none 0 0]) ?_ 1 _ rfl; (with_reducible repeat (first|refine kN ?_ _|refine kD ?_|refine kA ?_ _)); refine blk_put (cs := #[.slice none 0 0, .slice none 0 0]) ?_ 0 _ rfl; (with_reducible repeat (first|refine kN ?_ _|refine kD ?_|refine kA ?_ _)); exact BK418.out) Try.underlying27 rfl (by kernel_rfl)) rfl ?_
 exact ⟨_, _, eX, by (with_reducible repeat (first|apply rA|apply rN|apply rD)); exact Kd.R_mono (Kd.R_far (p := ⟨gb418, 1, none⟩) (Kd.R_far (p := ⟨gb418, 0, none⟩) (Kd.R_types HO423.out BK418.out (by decide)) (fun _ hk => hk.2) (.slice Ao31 t421.length co31)) (fun _ hk => hk.2) (.slice Ao30 t424.length co30)) (fun _ hk => hk.1.2), by (with_reducible repeat (first|apply rA|apply rN|apply rD)); exact Kd.R_mono (Kd.R_far (p := ⟨gb418, 1, none⟩) (Kd.R_far (p := ⟨gb418, 0, none⟩) (Kd.R_types HO426.out BK418.out (by decide)) (fun _ hk => hk.2) (.slice Ao31 t421.length co31)) (fun _ hk => hk.2) (.slice Ao30 t424.length co30)) (fun _ hk => hk.1.2), bX2 HB.out GE417.out GE418.out⟩
 }

/-! ### i_NamesFrom: function 68 -/
mutual
def i_NamesFrom.j0 : Nat → Int → Bool → List Int → List Int → Option (List Int)
 | 0, _, _, _, _ => none
 | k + 1, x1, x24, x428000, x428001 => if x24 = true then (some ([] : List Int)) else (if 0 ≤ (x428000.length : Int) then (if ((x428000.length : Int) : Int).toNat ≤ 35184372088832 then ((some (List.replicate ((x428000.length : Int) : Int).toNat 0 : List Int)).bind fun y429 => (i_NamesFrom.l0 k x1 y429 (y429.length : Int) 0 x428000 x428001)) else (none)) else (none))
def i_NamesFrom.l0 : Nat → Int → List Int → Int → Int → List Int → List Int → Option (List Int)
 | 0, _, _, _, _, _, _ => none
 | k + 1, x1, x5, x30, x31, x428000, x428001 => if x31 < x30 then (if 0 ≤ x31 then (if x31 < (x5.length : Int) then (i_NamesFrom.l0 k x1 (x5.set (x31 : Int).toNat (-1)) x30 (wrap64 (x31 + 1)) x428000 x428001) else (none)) else (none)) else (if 0 ≤ x1 then (if x1 < (x5.length : Int) then (i_NamesFrom.l1 k (x5.set (x1 : Int).toNat 0) (([x1] : List Int)) 0 x428000 x428001) else (none)) else (none))
def i_NamesFrom.l1 : Nat → List Int → List Int → Int → List Int → List Int → Option (List Int)
 | 0, _, _, _, _, _ => none
 | k + 1, x5, x7, x8, x428000, x428001 => if x8 < (x7.length : Int) then (if 0 ≤ x8 then (if 0 ≤ (rd x7 x8) then (if (rd x7 x8) < (x428000.length : Int) then (if (rd x7 x8) < (x428001.length : Int) then ((some (([rd x428000 (rd x7 x8), rd x428001 (rd x7 x8)] : List Int) : List Int)).bind fun y441 => (i_NamesFrom.l2 k x5 x7 x8 y441 (y441.length : Int) 0 x428000 x428001)) else (none)) else (none)) else (none)) else (none)) else (some x5)
def i_NamesFrom.l2 : Nat → List Int → List Int → Int → List Int → Int → Int → List Int → List Int → Option (List Int)
 | 0, _, _, _, _, _, _, _, _ => none
 | k + 1, x5, x7, x8, x65, x66, x67, x428000, x428001 => if x67 < x66 then (if 0 ≤ x67 then (if x67 < (x65.length : Int) then (if 0 ≤ (rd x65 x67) then (if (rd x65 x67) < (x5.length : Int) then (if (rd x5 (rd x65 x67)) < 0 then (if x7.length < 17592186044416 then (i_NamesFrom.l2 k (x5.set ((rd x65 x67) : Int).toNat (x7.length : Int)) (x7 ++ [rd x65 x67]) x8 x65 x66 (wrap64 (x67 + 1)) x428000 x428001) else (none)) else (i_NamesFrom.l2 k x5 x7 x8 x65 x66 (wrap64 (x67 + 1)) x428000 x428001)) else (none)) else (none)) else (none)) else (none)) else (i_NamesFrom.l1 k x5 x7 (wrap64 (x8 + 1)) x428000 x428001)
end
def i_NamesFrom.f (k : Nat) (l0_0 : List Int) (l0_1 : List Int) (a1 : Int) : Option (List Int) := (i_SurfaceOk.f k l0_0 l0_1).bind fun t428 => (if t428 = true then (if a1 < 0 then (i_NamesFrom.j0 k a1 true l0_0 l0_1) else (i_NamesFrom.j0 k a1 (decide (a1 ≥ (l0_0.length : Int))) l0_0 l0_1)) else (i_NamesFrom.j0 k a1 true l0_0 l0_1))
def i_NamesFrom.T14 : Bool × List (List Nat × List Nat) := (true, [([], []), ([0], [0]), ([], []), ([], []), ([2, 3], [2, 3]), ([4], [4]), ([1, 5], [1, 5]), ([6], [6]), ([], []), ([8], [8]), ([], []), ([], []), ([10, 11], [10, 11]), ([12], [12]), ([9, 13], [9, 13]), ([14], [14]), ([7, 15], [7, 15]), ([16], [16]), ([], [])])
def i_NamesFrom.B14 : List Nat := [0, 1, 0, 0, 12, 28, 63, 127, 0, 256, 0, 0, 3072, 7168, 16128, 32512, 65535, 131071, 0]
theorem i_NamesFrom.tab14 : rtab .any (opsOf Try.f68 14) = i_NamesFrom.T14 := by kernel_rfl
theorem i_NamesFrom.bits14 : waitsOk i_NamesFrom.T14.2 i_NamesFrom.B14 = true := by kernel_rfl
theorem i_NamesFrom.calls (k : Nat) (A0_0 : Option Addr) (c0_0 : Nat) (l0_0 : List Int) (A0_1 : Option Addr) (c0_1 : Nat) (l0_1 : List Int) (a1 : Int) (r : List Int) (w : World) (hr0_0 : Kd.C (Kd.int .i64) w A0_0 l0_0.length l0_0) (hc0_0 : l0_0.length ≤ c0_0) (hr0_1 : Kd.C (Kd.int .i64) w A0_1 l0_1.length l0_1) (hc0_1 : l0_1.length ≤ c0_1) (h : i_NamesFrom.f k l0_0 l0_1 a1 = some r) :
  Calls Try.prog 68 #[.agg #[.slice A0_0 l0_0.length c0_0, .slice A0_1 l0_1.length c0_1], .int .i64 a1] w fun e w' => ∃ v0_ : Value, e = .returned (v0_) ∧ Kd.R (Kd.int .i64) 3 w' w.heap.size (fun _ => True) v0_ r ∧ Below w.heap.size w w' := by
 have hu27 := Try.underlying27
 have HR0_0 := aM hr0_0
 have HC0_0 := aM hc0_0
 clear hr0_0 hc0_0
 have HR0_1 := aM hr0_1
 have HC0_1 := aM hc0_1
 clear hr0_1 hc0_1
 have HB := aM (Below.refl w.heap.size w)
 have H : ((i_SurfaceOk.f k l0_0 l0_1).bind fun t428 => (if t428 = true then (if a1 < 0 then (i_NamesFrom.j0 k a1 true l0_0 l0_1) else (i_NamesFrom.j0 k a1 (decide (a1 ≥ (l0_0.length : Int))) l0_0 l0_1)) else (i_NamesFrom.j0 k a1 true l0_0 l0_1))) = some r := h
 clear h
 have HC3 := aM H
 clear H
 go_enter Try.func68, Try.ntmps68
 go_upto_region 1 with (first | ((with_reducible refine gate_dst (N := 2) rfl ?_); (try (refine gate_guard (by rfl) ?_; dsimp only)); refine bEv (cs := #[.slice A0_0 l0_0.length c0_0, .slice A0_1 l0_1.length c0_1]) (t := 27) ?_; intro gb427 hg w4 hbox hb; have BK427 := aM (hbox); have GW427 := aM ((szX (below_size (bX HB.out)) hg : w.heap.size ≤ gb427)); have GE427 := aM ((szX (below_size (bX HB.out)) hg : w.heap.size ≤ gb427)); replace HB := aM (below_step (bX HB.out) hb); clear hb hbox hg))
 (try simp only [Act.put, List.setIfInBounds_toArray, List.set_cons_zero, List.set_cons_succ])
 go_cut [24] (fun v24 wc => ∃ (kq : Nat) (x24_2 : Bool), v24 = .bool x24_2 ∧ Aside0 (i_NamesFrom.j0 kq a1 x24_2 l0_0 l0_1 = some r) ∧ Aside0 (kq ≤ k) ∧ Aside0 (wc.heap[gb427]? = some (.cells #[(.slice A0_0 l0_0.length c0_0), (.slice A0_1 l0_1.length c0_1)] 27 (0, 0))) ∧ Aside0 (Below w.heap.size w wc))
 case first =>
  have H := HC3.out
  clear HC3
  replace H := oB H
  obtain ⟨t428, A50, H⟩ := H
  replace H : (if t428 = true then (if a1 < 0 then (i_NamesFrom.j0 k a1 true l0_0 l0_1) else (i_NamesFrom.j0 k a1 (decide (a1 ≥ (l0_0.length : Int))) l0_0 l0_1)) else (i_NamesFrom.j0 k a1 true l0_0 l0_1)) = some r := H
  have A5 := aM A50
  clear A50
  by_cases c6 : t428 = true
  {
  subst c6
  have H1 : (if a1 < 0 then (i_NamesFrom.j0 k a1 true l0_0 l0_1) else (i_NamesFrom.j0 k a1 (decide (a1 ≥ (l0_0.length : Int))) l0_0 l0_1)) = some r := by rw [if_pos rfl] at H; exact H
  clear H
  have H := H1
  clear H1
  by_cases c7 : a1 < 0
  {
  rw [if_pos c7] at H
  have c7b0 : decide (a1 < 0) = true := decide_eq_true c7
  clear c7
  (first | rw [c7b0] | (simp only [i64_w, i32_w]; rw [c7b0]) | skip)
  have H' := aM H
  clear H
  have hcz8_0 := cz20 BK427.out
  have hcz8_1 := cz21 BK427.out
  have hfz8_0 := blk_frozen BK427.out 0
  have hfz8_1 := blk_frozen BK427.out 1
  go_wp2_with (first | ((with_reducible refine gate_callee (f := 19) rfl ?_); refine goesL_ (some 12) rfl rfl Try.func19 (by kernel_rfl) rfl #[.agg #[.slice A0_0 l0_0.length c0_0, .slice A0_1 l0_1.length c0_1]] rfl aX ?_; (with_reducible refine (i_SurfaceOk.calls k _ _ l0_0 _ _ l0_1 true _ ?side1 ?side2 ?side3 ?side4 A5.out).mono ?_); (case side1 => exact cX (Kd.C_below HR0_0.out HB.out)); (case side2 => exact HC0_0.out); (case side3 => exact cX (Kd.C_below HR0_1.out HB.out)); (case side4 => exact HC0_1.out); rintro e w9 ⟨rfl, hb⟩; refine ⟨_, rfl, ?_⟩; replace BK427 := aM (bbX BK427.out hb); replace HB := aM (below_step (bX1 HB.out GE427.out) hb); (try clear hb); (try clear hb2); (try clear hk); (try clear hi)))
  go_meet
  case rel => exact ⟨_, (true), vX, H', ⟨by first | omega | exact Nat.le_refl _⟩, ⟨kX BK427.out⟩, ⟨bX1 HB.out GE427.out⟩⟩
  }
  {
  rw [if_neg c7] at H
  have c7b0 : decide (a1 < 0) = false := decide_eq_false c7
  clear c7
  (first | rw [c7b0] | (simp only [i64_w, i32_w]; rw [c7b0]) | skip)
  have H' := aM H
  clear H
  have hcz10_0 := cz20 BK427.out
  have hcz10_1 := cz21 BK427.out
  have hfz10_0 := blk_frozen BK427.out 0
  have hfz10_1 := blk_frozen BK427.out 1
  go_wp2_with (first | ((with_reducible refine gate_callee (f := 19) rfl ?_); refine goesL_ (some 12) rfl rfl Try.func19 (by kernel_rfl) rfl #[.agg #[.slice A0_0 l0_0.length c0_0, .slice A0_1 l0_1.length c0_1]] rfl aX ?_; (with_reducible refine (i_SurfaceOk.calls k _ _ l0_0 _ _ l0_1 true _ ?side1 ?side2 ?side3 ?side4 A5.out).mono ?_); (case side1 => exact cX (Kd.C_below HR0_0.out HB.out)); (case side2 => exact HC0_0.out); (case side3 => exact cX (Kd.C_below HR0_1.out HB.out)); (case side4 => exact HC0_1.out); rintro e w11 ⟨rfl, hb⟩; refine ⟨_, rfl, ?_⟩; replace BK427 := aM (bbX BK427.out hb); replace HB := aM (below_step (bX1 HB.out GE427.out) hb); (try clear hb); (try clear hb2); (try clear hk); (try clear hi); have hcz12_0 := cz20 BK427.out; have hcz12_1 := cz21 BK427.out; have hfz12_0 := blk_frozen BK427.out 0; have hfz12_1 := blk_frozen BK427.out 1))
  go_meet
  case rel => exact ⟨_, (decide (a1 ≥ (l0_0.length : Int))), vX, H', ⟨by first | omega | exact Nat.le_refl _⟩, ⟨kX BK427.out⟩, ⟨bX1 HB.out GE427.out⟩⟩
  }
  }
  {
  replace c6 := Bool.eq_false_iff.mpr c6
  subst c6
  have H1 : (i_NamesFrom.j0 k a1 true l0_0 l0_1) = some r := by rw [if_neg (show ¬ (false = true) by decide)] at H; exact H
  clear H
  have H := H1
  clear H1
  have H' := aM H
  clear H
  have hcz13_0 := cz20 BK427.out
  have hcz13_1 := cz21 BK427.out
  have hfz13_0 := blk_frozen BK427.out 0
  have hfz13_1 := blk_frozen BK427.out 1
  go_wp2_with (first | ((with_reducible refine gate_callee (f := 19) rfl ?_); refine goesL_ (some 12) rfl rfl Try.func19 (by kernel_rfl) rfl #[.agg #[.slice A0_0 l0_0.length c0_0, .slice A0_1 l0_1.length c0_1]] rfl aX ?_; (with_reducible refine (i_SurfaceOk.calls k _ _ l0_0 _ _ l0_1 false _ ?side1 ?side2 ?side3 ?side4 A5.out).mono ?_); (case side1 => exact cX (Kd.C_below HR0_0.out HB.out)); (case side2 => exact HC0_0.out); (case side3 => exact cX (Kd.C_below HR0_1.out HB.out)); (case side4 => exact HC0_1.out); rintro e w14 ⟨rfl, hb⟩; refine ⟨_, rfl, ?_⟩; replace BK427 := aM (bbX BK427.out hb); replace HB := aM (below_step (bX1 HB.out GE427.out) hb); (try clear hb); (try clear hb2); (try clear hk); (try clear hi)))
  go_meet
  case rel => exact ⟨_, (true), vX, H', ⟨by first | omega | exact Nat.le_refl _⟩, ⟨kX BK427.out⟩, ⟨bX1 HB.out GE427.out⟩⟩
  }
 case rest =>
 clear HC3
 try clear c6
 try clear c7
 try clear c7b0
 try clear hcz10_0
 try clear hcz10_1
 try clear hcz12_0
 try clear hcz12_1
 try clear hcz13_0
 try clear hcz13_1
 try clear hcz8_0
 try clear hcz8_1
 try clear hfz10_0
 try clear hfz10_1
 try clear hfz12_0
 try clear hfz12_1
 try clear hfz13_0
 try clear hfz13_1
 try clear hfz8_0
 try clear hfz8_1
 obtain ⟨kq, x24_2, rfl, HA, HJ2, BK427, HB⟩ := hcut
 cases kq with
 | zero => exact absurd HA.out (by simp [i_NamesFrom.j0])
 | succ kj2 =>
 have H := HA.out
 clear HA
 simp only [i_NamesFrom.j0] at H
 by_cases c15 : x24_2 = true
 {
 subst c15
 have H1 : (some ([] : List Int)) = some r := by rw [if_pos rfl] at H; exact H
 clear H
 have H := H1
 clear H1
 obtain rfl := Option.some.inj H
 go_wp2
 go_ret
 exact ⟨_, eX, by first | exact Kd.R_nil _ _ _ _ _ | exact Kd.N_nil _ _ _ _ _ | exact Kd.V_nil _ _ _ _ _ | exact Kd.Q_nil _ _ _ _ _ | exact Kd.S_nil _ _ _ _ _, bX1 HB.out GE427.out⟩
 }
 {
 replace c15 := Bool.eq_false_iff.mpr c15
 subst c15
 have H1 : (if 0 ≤ (l0_0.length : Int) then (if ((l0_0.length : Int) : Int).toNat ≤ 35184372088832 then ((some (List.replicate ((l0_0.length : Int) : Int).toNat 0 : List Int)).bind fun y429 => (i_NamesFrom.l0 kj2 a1 y429 (y429.length : Int) 0 l0_0 l0_1)) else (none)) else (none)) = some r := by rw [if_neg (show ¬ (false = true) by decide)] at H; exact H
 clear H
 have H := H1
 clear H1
 by_cases c16 : 0 ≤ (l0_0.length : Int)
 {
 rw [if_pos c16] at H
 have c16b0 := eq_true c16
 have c16b1 : decide (0 ≤ (l0_0.length : Int)) = true := decide_eq_true c16
 clear c16
 by_cases c17 : ((l0_0.length : Int) : Int).toNat ≤ 35184372088832
 {
 rw [if_pos c17] at H
 have c17b0 := eq_true c17
 have c17b1 : decide (((l0_0.length : Int) : Int).toNat ≤ 35184372088832) = true := decide_eq_true c17
 clear c17
 obtain ⟨y429, hy429⟩ : ∃ y_ : List Int, y_ = (List.replicate ((l0_0.length : Int) : Int).toNat 0) := ⟨_, rfl⟩
 replace H : (i_NamesFrom.l0 kj2 a1 y429 (y429.length : Int) 0 l0_0 l0_1) = some r := by first | (rw [hy429]; with_reducible exact H) | (have H2_ := (Option.bind_some _ _).symm.trans H; rw [hy429]; with_reducible exact H2_) | (have H2_ := (Option.bind_some _ _).symm.trans H; with_reducible exact H2_) | with_reducible exact H | (rw [hy429]; exact H) | exact H
 have Ny429 := aM hy429
 clear hy429
 have H' := aM H
 clear H
 have hcz18_0 := cz20 BK427.out
 have hcz18_1 := cz21 BK427.out
 have hfz18_0 := blk_frozen BK427.out 0
 have hfz18_1 := blk_frozen BK427.out 1
 go_wp2_with (first | ((with_reducible refine gate_dst (N := 28) rfl ?_); (try (refine gate_guard (by rfl) ?_; dsimp only)); refine Kd.R_make (Kd.int .i64) _ 3 rfl (N := 28) rfl 25 _ _ rfl (l0_0.length : Int) rfl rfl Try.underlying25 (.int .i64 0) 8 info3 rfl (by decide) (by omega) 0 (ok := fun _ => True) (okp := fun _ => True) rfl (fun _ hk => hk) trivial (dX) (Nat.le_trans (Nat.mul_le_mul_right _ (dX : (l0_0.length : Int).toNat ≤ 35184372088832)) (by omega)) (Below.refl _ _) (Nat.le_refl _) ?_; intro v430 w19 ho20 hb hg_ hnew_; clear hg_ hnew_; (first | rw [← Ny429.out] at ho20 | (simp only [Int.reduceToNat] at ho20; rw [← Ny429.out] at ho20)); have HO431 := aM (Kd.R_lower ho20 (below_size (bX1 HB.out GE427.out))); replace BK427 := aM (bbX BK427.out hb); replace HB := aM (below_step (bX1 HB.out GE427.out) hb); clear hb ho20; obtain ⟨Ao21, co21, eo21⟩ := Kd.R_slice HO431.out; subst eo21))
 go_loopg [31] kj2 (fun kq v31 w' => ∃ (x5_2 : List Int) (x31_2 : Int), v31 = .int .i64 x31_2 ∧ Aside0 (i_NamesFrom.l0 kq a1 x5_2 (y429.length : Int) x31_2 l0_0 l0_1 = some r) ∧ Aside0 (kq ≤ kj2) ∧ Aside0 (Kd.R (Kd.int .i64) 3 w' w.heap.size (fun _ => True) (.slice Ao21 y429.length co21) x5_2) ∧ Aside0 (w'.heap[gb427]? = some (.cells #[(.slice A0_0 l0_0.length c0_0), (.slice A0_1 l0_1.length c0_1)] 27 (0, 0))) ∧ Aside0 (Below w.heap.size w w'))
 case atStart => exact ⟨(y429), (0), vX, H', ⟨Nat.le_refl _⟩, ⟨rX HO431.out⟩, ⟨kX BK427.out⟩, ⟨bX1 HB.out GE427.out⟩⟩
 case round =>
 clear H'
 try clear c6
 try clear c7
 try clear c7b0
 try clear c15
 try clear c16
 try clear c16b0
 try clear c16b1
 try clear c17
 try clear c17b0
 try clear c17b1
 try clear hcz10_0
 try clear hcz10_1
 try clear hcz12_0
 try clear hcz12_1
 try clear hcz13_0
 try clear hcz13_1
 try clear hcz18_0
 try clear hcz18_1
 try clear hcz8_0
 try clear hcz8_1
 try clear hfz10_0
 try clear hfz10_1
 try clear hfz12_0
 try clear hfz12_1
 try clear hfz13_0
 try clear hfz13_1
 try clear hfz18_0
 try clear hfz18_1
 try clear hfz8_0
 try clear hfz8_1
 obtain ⟨x5_2, x31_2, rfl, HA, HK2, HO_5, BK427, HB⟩ := hrel
 have hl5_2 := (Kd.R_reads' HO_5.out).1
 rw [hl5_2] at HO_5
 (try simp only [hl5_2])
 (try simp only [hl5_2] at BK427)
 cases gk with
 | zero => exact absurd HA.out (by simp [i_NamesFrom.l0])
 | succ k2 =>
 have H := HA.out
 clear HA
 simp only [i_NamesFrom.l0] at H
 by_cases c22 : x31_2 < (y429.length : Int)
 {
 rw [if_pos c22] at H
 have c22b0 : decide (x31_2 < (y429.length : Int)) = true := decide_eq_true c22
 clear c22
 by_cases c23 : 0 ≤ x31_2
 {
 rw [if_pos c23] at H
 have c23b0 : decide (0 ≤ x31_2) = true := decide_eq_true c23
 clear c23
 by_cases c24 : x31_2 < (x5_2.length : Int)
 {
 rw [if_pos c24] at H
 have c24b0 : decide (x31_2 < (x5_2.length : Int)) = true := decide_eq_true c24
 clear c24
 obtain ⟨y432, hy432⟩ : ∃ y_ : List Int, y_ = (x5_2.set (x31_2 : Int).toNat (-1)) := ⟨_, rfl⟩
 replace H : (i_NamesFrom.l0 k2 a1 y432 (y429.length : Int) (wrap64 (x31_2 + 1)) l0_0 l0_1) = some r := by first | (rw [hy432]; with_reducible exact H) | (have H2_ := (Option.bind_some _ _).symm.trans H; rw [hy432]; with_reducible exact H2_) | (have H2_ := (Option.bind_some _ _).symm.trans H; with_reducible exact H2_) | with_reducible exact H | (rw [hy432]; exact H) | exact H
 have Ny432 := aM hy432
 clear hy432
 have H' := aM H
 clear H
 have p25 : 0 ≤ (x31_2 : Int) := dX
 have q25 : (x31_2 : Int) < ((x5_2.length : Int) : Int) := dX
 obtain ⟨go25, co25, eo25, gb25, gl25, cl25, HG25⟩ := Kd.R_form HO_5.out (by omega)
 (first | cases eo25 | (injection eo25 with ea_ en_ ec_; (first | subst ea_ | (injection ea_ with ea_; subst ea_)); subst ec_; clear en_))
 have GB25 := aM gb25
 have GG25 := aM HG25
 clear gb25 gl25 HG25
 obtain ⟨hx25_0, hf25_0⟩ := Kd.R_celln 0 HO_5.out (x31_2 : Int) p25 q25
 replace p25 := eq_true p25
 replace q25 := eq_true q25
 have HP26 := Kd.R_putg HO_5.out (x31_2 : Int) (-1)
 go_wp2_with (first | ((with_reducible refine gate_store (t := 3) (p := 36) rfl ?_); refine store_event (t := 3) (p := 36) (v := ?vo_w27) (w1 := (wr.setCell ⟨go25, (x31_2 : Int).toNat, none⟩ (.int .i64 (-1)))) ?hg ?ho ?hn ?hr ?_; (case ho => rfl); (case hg => rfl); (case hn => rfl); (case hr => first | (go_simp; done) | (go_simp; rfl)); intro w27 hw; have hg : wr.grownBy w27 (some go25) := (by rw [hw]; exact HP26.2); have hp_ : Kd.R (Kd.int .i64) 3 w27 w.heap.size (fun _ => True) (.slice (some ⟨go25, 0, none⟩) x5_2.length co21) y432 := (by rw [hw, Ny432.out]; exact HP26.1); clear HP26; replace BK427 := aM (bgX BK427.out hg (Kd.R_ne HO_5.out BK427.out (by decide))); replace HO_5 := aM (hp_); replace HB := aM ((by rw [hw]; exact below_set (HB.out) GB25.out : Below w.heap.size w w27)); clear hg hw hp_))
 (try simp only [← hl5_2])
 go_roundg k2
 case measure => have := HJ2.out; have := HK2.out; omega
 case rel => exact ⟨(y432), (wrap64 (x31_2 + 1)), vX, H', ⟨by have := HJ2.out; have := HK2.out; omega⟩, ⟨by (try simp only [hl5_2]); (with_reducible repeat (first|apply rA|apply rN|apply rD)); exact HO_5.out⟩, ⟨by (try simp only [hl5_2]); (with_reducible repeat (first|refine kN ?_ _|refine kD ?_|refine kA ?_ _)); exact BK427.out⟩, ⟨bX1 HB.out GE427.out⟩⟩
 }
 {
 rw [if_neg c24] at H
 exact absurd H (by simp)
 }
 }
 {
 rw [if_neg c23] at H
 exact absurd H (by simp)
 }
 }
 {
 rw [if_neg c22] at H
 have c22b0 : decide (x31_2 < (y429.length : Int)) = false := decide_eq_false c22
 (try rw [hl5_2] at c22b0)
 clear c22
 by_cases c28 : 0 ≤ a1
 {
 rw [if_pos c28] at H
 have c28b0 : decide (0 ≤ a1) = true := decide_eq_true c28
 clear c28
 by_cases c29 : a1 < (x5_2.length : Int)
 {
 rw [if_pos c29] at H
 have c29b0 : decide (a1 < (x5_2.length : Int)) = true := decide_eq_true c29
 clear c29
 obtain ⟨y433, hy433⟩ : ∃ y_ : List Int, y_ = (x5_2.set (a1 : Int).toNat 0) := ⟨_, rfl⟩
 replace H : (i_NamesFrom.l1 k2 y433 (([a1] : List Int)) 0 l0_0 l0_1) = some r := by first | (rw [hy433]; with_reducible exact H) | (have H2_ := (Option.bind_some _ _).symm.trans H; rw [hy433]; with_reducible exact H2_) | (have H2_ := (Option.bind_some _ _).symm.trans H; with_reducible exact H2_) | with_reducible exact H | (rw [hy433]; exact H) | exact H
 have Ny433 := aM hy433
 clear hy433
 obtain ⟨y434, hy434⟩ : ∃ y_ : List Int, y_ = (([a1] : List Int)) := ⟨_, rfl⟩
 replace H : (i_NamesFrom.l1 k2 y433 y434 0 l0_0 l0_1) = some r := by first | (rw [hy434]; with_reducible exact H) | (have H2_ := (Option.bind_some _ _).symm.trans H; rw [hy434]; with_reducible exact H2_) | (have H2_ := (Option.bind_some _ _).symm.trans H; with_reducible exact H2_) | with_reducible exact H | (rw [hy434]; exact H) | exact H
 have Ny434 := aM hy434
 clear hy434
 have H' := aM H
 clear H
 have p30 : 0 ≤ (a1 : Int) := dX
 have q30 : (a1 : Int) < ((x5_2.length : Int) : Int) := dX
 obtain ⟨go30, co30, eo30, gb30, gl30, cl30, HG30⟩ := Kd.R_form HO_5.out (by omega)
 (first | cases eo30 | (injection eo30 with ea_ en_ ec_; (first | subst ea_ | (injection ea_ with ea_; subst ea_)); subst ec_; clear en_))
 have GB30 := aM gb30
 have GG30 := aM HG30
 clear gb30 gl30 HG30
 obtain ⟨hx30_0, hf30_0⟩ := Kd.R_celln 0 HO_5.out (a1 : Int) p30 q30
 replace p30 := eq_true p30
 replace q30 := eq_true q30
 have HP31 := Kd.R_putg HO_5.out (a1 : Int) 0
 go_wp2_with (first | ((with_reducible refine gate_store (t := 3) (p := 40) rfl ?_); refine store_event (t := 3) (p := 40) (v := ?vo_w32) (w1 := (wr.setCell ⟨go30, (a1 : Int).toNat, none⟩ (.int .i64 0))) ?hg ?ho ?hn ?hr ?_; (case ho => rfl); (case hg => rfl); (case hn => rfl); (case hr => first | (go_simp; done) | (go_simp; rfl)); intro w32 hw; have hg : wr.grownBy w32 (some go30) := (by rw [hw]; exact HP31.2); have hp_ : Kd.R (Kd.int .i64) 3 w32 w.heap.size (fun _ => True) (.slice (some ⟨go30, 0, none⟩) x5_2.length co21) y433 := (by rw [hw, Ny433.out]; exact HP31.1); clear HP31; replace BK427 := aM (bgX BK427.out hg (Kd.R_ne HO_5.out BK427.out (by decide))); replace HO_5 := aM (hp_); replace HB := aM ((by rw [hw]; exact below_set (HB.out) GB30.out : Below w.heap.size w w32)); clear hg hw hp_) | ((with_reducible refine gate_dst (N := 42) rfl ?_); (try (refine gate_guard (by rfl) ?_; dsimp only)); refine Kd.R_lit (Kd.int .i64) _ 3 ?hg (N := 42) ?hd (xs := ([a1] : List Int)) (inner := [.int .i64 a1]) (ok := fun _ => True) (okp := fun _ => True) ?hr ?hp (fun _ hk => hk) trivial (Below.refl _ _) (Nat.le_refl _) (by simp) ?_; (case hd => rfl); (case hg => rfl); (case hr => first | (go_simp; done) | (go_simp; rfl)); (case hp => exact (Reps.one (show Kd.M (Kd.int .i64) _ _ _ a1 [.int .i64 a1] from rfl) (Reps.none _ _))); intro v435 w33 ho34 hb hg_ hnew_; clear hg_ hnew_; (first | rw [← Ny434.out] at ho34 | (simp only [Int.reduceToNat] at ho34; rw [← Ny434.out] at ho34)); have HO436 := aM (Kd.R_lower (Kd.R_new' ho34 (Kd.R_lt (rX HO_5.out))) (below_size (bX1 HB.out GE427.out))); replace HO_5 := aM (Kd.R_elder' (rX HO_5.out) (Kd.R_base ho34) hb); replace BK427 := aM (bbX BK427.out hb); replace HB := aM (below_step (bX1 HB.out GE427.out) hb); clear hb ho34))
 go_loopg [7, 8] k2 (fun kq v7 v8 w' => ∃ (x5_3 : List Int) (x7_3 : List Int) (x8_3 : Int), v8 = .int .i64 x8_3 ∧ Aside0 (i_NamesFrom.l1 kq x5_3 x7_3 x8_3 l0_0 l0_1 = some r) ∧ Aside0 (kq ≤ k2) ∧ Aside0 (Kd.R (Kd.int .i64) 3 w' w.heap.size (fun k_ => some k_ ≠ (v7 : Value).ownBlock) (.slice (some ⟨go30, 0, none⟩) x5_2.length co21) x5_3) ∧ Aside0 (Kd.R (Kd.int .i64) 3 w' w.heap.size (fun k_ => some k_ ≠ ((.slice (some ⟨go30, 0, none⟩) x5_2.length co21) : Value).ownBlock) v7 x7_3) ∧ Aside0 (w'.heap[gb427]? = some (.cells #[(.slice A0_0 l0_0.length c0_0), (.slice A0_1 l0_1.length c0_1)] 27 (0, 0))) ∧ Aside0 (Below w.heap.size w w'))
 case atStart => exact ⟨(y433), (y434), (0), vX, H', ⟨Nat.le_refl _⟩, ⟨by (try simp only [hl5_2]); (with_reducible repeat (first|apply rA|apply rN|apply rD)); exact Kd.R_mono HO_5.out (fun _ hk => hk.2)⟩, ⟨by (try simp only [hl5_2]); (with_reducible repeat (first|apply rA|apply rN|apply rD)); exact Kd.R_mono HO436.out (fun _ hk => hk.2)⟩, ⟨by (try simp only [hl5_2]); (with_reducible repeat (first|refine kN ?_ _|refine kD ?_|refine kA ?_ _)); exact BK427.out⟩, ⟨bX1 HB.out GE427.out⟩⟩
 case round =>
 clear H'
 try clear c6
 try clear c7
 try clear c7b0
 try clear c15
 try clear c16
 try clear c16b0
 try clear c16b1
 try clear c17
 try clear c17b0
 try clear c17b1
 try clear c22
 try clear c22b0
 try clear c23
 try clear c23b0
 try clear c24
 try clear c24b0
 try clear p25
 try clear q25
 try clear c28
 try clear c28b0
 try clear c29
 try clear c29b0
 try clear p30
 try clear q30
 try clear hcz10_0
 try clear hcz10_1
 try clear hcz12_0
 try clear hcz12_1
 try clear hcz13_0
 try clear hcz13_1
 try clear hcz18_0
 try clear hcz18_1
 try clear hcz8_0
 try clear hcz8_1
 try clear hfz10_0
 try clear hfz10_1
 try clear hfz12_0
 try clear hfz12_1
 try clear hfz13_0
 try clear hfz13_1
 try clear hfz18_0
 try clear hfz18_1
 try clear hfz8_0
 try clear hfz8_1
 try clear hx25_0
 try clear hx30_0
 try clear p25
 try clear p30
 try clear q25
 try clear q30
 obtain ⟨x5_3, x7_3, x8_3, rfl, HA, HK3, HO_5, HO_7, BK427, HB⟩ := hrel
 have hl5_3 := (Kd.R_reads' HO_5.out).1
 rw [hl5_3] at HO_5
 (try simp only [hl5_3])
 (try simp only [hl5_3] at BK427)
 (try simp only [hl5_3] at HO_7)
 cases gk with
 | zero => exact absurd HA.out (by simp [i_NamesFrom.l1])
 | succ k3 =>
 have H := HA.out
 clear HA
 simp only [i_NamesFrom.l1] at H
 by_cases c35 : x8_3 < (x7_3.length : Int)
 {
 rw [if_pos c35] at H
 have c35b0 : decide (x8_3 < (x7_3.length : Int)) = true := decide_eq_true c35
 clear c35
 by_cases c36 : 0 ≤ x8_3
 {
 rw [if_pos c36] at H
 have c36b0 : decide (0 ≤ x8_3) = true := decide_eq_true c36
 clear c36
 by_cases c37 : 0 ≤ (rd x7_3 x8_3)
 {
 rw [if_pos c37] at H
 have c37b0 : decide (0 ≤ (rd x7_3 x8_3)) = true := decide_eq_true c37
 clear c37
 by_cases c38 : (rd x7_3 x8_3) < (l0_0.length : Int)
 {
 rw [if_pos c38] at H
 have c38b0 : decide ((rd x7_3 x8_3) < (l0_0.length : Int)) = true := decide_eq_true c38
 clear c38
 by_cases c39 : (rd x7_3 x8_3) < (l0_1.length : Int)
 {
 rw [if_pos c39] at H
 have c39b0 : decide ((rd x7_3 x8_3) < (l0_1.length : Int)) = true := decide_eq_true c39
 clear c39
 obtain ⟨y441, hy441⟩ : ∃ y_ : List Int, y_ = (([rd l0_0 (rd x7_3 x8_3), rd l0_1 (rd x7_3 x8_3)] : List Int)) := ⟨_, rfl⟩
 replace H : (i_NamesFrom.l2 k3 x5_3 x7_3 x8_3 y441 (y441.length : Int) 0 l0_0 l0_1) = some r := by first | (rw [hy441]; with_reducible exact H) | (have H2_ := (Option.bind_some _ _).symm.trans H; rw [hy441]; with_reducible exact H2_) | (have H2_ := (Option.bind_some _ _).symm.trans H; with_reducible exact H2_) | with_reducible exact H | (rw [hy441]; exact H) | exact H
 have Ny441 := aM hy441
 clear hy441
 have H' := aM H
 clear H
 obtain ⟨Ao40, co40, eo40⟩ := Kd.R_slice HO_7.out
 subst eo40
 try go_wp2
 replace HO_5 := aM (Kd.R_drew HO_5.out)
 replace HO_7 := aM (Kd.R_drew HO_7.out)
 replace BK427 := aM (blk_drew BK427.out)
 replace HB := aM (below_drew1 HB.out)
 have p437 : 0 ≤ (x8_3 : Int) := dX
 have q437 : x8_3 < (x7_3.length : Int) := dX
 obtain ⟨ad437, e437, hx437_0⟩ := Kd.at_int (Kd.R_reads' HO_7.out).2.2 x8_3 p437 q437
 cases e437
 replace p437 := eq_true p437
 replace q437 := eq_true q437
 have p438 : 0 ≤ ((rd x7_3 x8_3) : Int) := dX
 have q438 : (rd x7_3 x8_3) < (l0_0.length : Int) := dX
 obtain ⟨ad438, e438, hx438_0⟩ := Kd.at_int HR0_0.out (rd x7_3 x8_3) p438 q438
 have hw438_0 := hx438_0
 cases e438
 replace hx438_0 := (HB.out.cell (World.block_lt_of_cell? w _ hx438_0)).trans hx438_0
 replace p438 := eq_true p438
 replace q438 := eq_true q438
 have p439 : 0 ≤ (x8_3 : Int) := dX
 have q439 : x8_3 < (x7_3.length : Int) := dX
 obtain ⟨ad439, e439, hx439_0⟩ := Kd.at_int (Kd.R_reads' HO_7.out).2.2 x8_3 p439 q439
 obtain rfl : ad437 = ad439 := (by injection e439)
 replace p439 := eq_true p439
 replace q439 := eq_true q439
 have p440 : 0 ≤ ((rd x7_3 x8_3) : Int) := dX
 have q440 : (rd x7_3 x8_3) < (l0_1.length : Int) := dX
 obtain ⟨ad440, e440, hx440_0⟩ := Kd.at_int HR0_1.out (rd x7_3 x8_3) p440 q440
 have hw440_0 := hx440_0
 cases e440
 replace hx440_0 := (HB.out.cell (World.block_lt_of_cell? w _ hx440_0)).trans hx440_0
 replace p440 := eq_true p440
 replace q440 := eq_true q440
 refine start_ (n := 19) (S := fun w' => w'.cell? ⟨gb427, 0, none⟩ = some (.slice (some ad438) l0_0.length c0_0) ∧ w'.cell? ⟨gb427, 1, none⟩ = some (.slice (some ad440) l0_1.length c0_1) ∧ w'.cell? (ad437.add (x8_3).toNat) = some (.int .i64 (rd x7_3 x8_3)) ∧ w'.cell? (ad438.add ((rd x7_3 x8_3)).toNat) = some (.int .i64 (rd l0_0 (rd x7_3 x8_3))) ∧ w'.cell? (ad437.add (x8_3).toNat) = some (.int .i64 (rd x7_3 x8_3)) ∧ w'.cell? (ad440.add ((rd x7_3 x8_3)).toNat) = some (.int .i64 (rd l0_1 (rd x7_3 x8_3)))) (ds := []) #[ff,ff,ff,ff,ff,ff,ff,ff,ff,ff,ff,ff,ff,ff,ff,ff,ff,ff,ff] (by kernel_rfl) rfl rfl ⟨cz20 BK427.out, cz21 BK427.out, hx437_0, ((HB.out.cell (World.block_lt_of_cell? w _ hw438_0)).trans hw438_0), hx439_0, ((HB.out.cell (World.block_lt_of_cell? w _ hw440_0)).trans hw440_0)⟩ (fun hHeld => ?_); refine with_tabW i_NamesFrom.tab14 i_NamesFrom.bits14 (fun HT_ HW_ => ?_)
 generalize wr.drew = w41 at HO_5 HO_7 BK427 HB hx437_0 hx438_0 hx439_0 hx440_0 hHeld ⊢
 refine pX 0 49 (fl 19 1) rfl rfl HT_.out ?_
 refine pX 2 51 (fl 19 5) rfl rfl HT_.out ?_
 refine pX 3 52 (fl 19 13) rfl rfl HT_.out ?_
 refine pX 4 53 (fl 19 29) rfl rfl HT_.out ?_
 refine pX 8 57 (fl 19 285) rfl rfl HT_.out ?_
 refine pX 10 59 (fl 19 1309) rfl rfl HT_.out ?_
 refine pX 11 60 (fl 19 3357) rfl rfl HT_.out ?_
 refine pX 12 61 (fl 19 7453) rfl rfl HT_.out ?_
 refine pX 18 67 (fl 19 269597) rfl rfl HT_.out ?_
 refine tX6 1 50 (fl 19 269599) rfl rfl HT_.out HW_.out hHeld ?_
 refine tX6 5 54 (fl 19 269631) rfl rfl HT_.out HW_.out hHeld ?_
 refine pX 6 55 (fl 19 269695) rfl rfl HT_.out ?_
 refine tX6 7 56 (fl 19 269823) rfl rfl HT_.out HW_.out hHeld ?_
 refine tX6 9 58 (fl 19 270335) rfl rfl HT_.out HW_.out hHeld ?_
 refine tX6 13 62 (fl 19 278527) rfl rfl HT_.out HW_.out hHeld ?_
 refine pX 14 63 (fl 19 294911) rfl rfl HT_.out ?_
 refine tX6 15 64 (fl 19 327679) rfl rfl HT_.out HW_.out hHeld ?_
 refine one_ (i := 16) (N := some 65) #[tt,tt,tt,tt,tt,tt,tt,tt,tt,tt,tt,tt,tt,tt,tt,tt,tt,ff,tt] rfl rfl (one_of HT_.out (by kernel_rfl)) (by decide) (fun K hK => ?_)
 refine Kd.R_lit_step (Kd.int .i64) _ 3 ?hg (N := 65) ?hd (xs := ([rd l0_0 (rd x7_3 x8_3), rd l0_1 (rd x7_3 x8_3)] : List Int)) (inner := [.int .i64 (rd l0_0 (rd x7_3 x8_3)), .int .i64 (rd l0_1 (rd x7_3 x8_3))]) (ok := fun _ => True) (okp := fun _ => True) ?hr ?hp (fun _ hk => hk) trivial (Below.refl _ _) (Nat.le_refl _) (by simp) ?_; (case hd => rfl); (case hg => rfl); (case hr => first | (go_simp; done) | (go_simp; rfl)); (case hp => exact (Reps.one (show Kd.M (Kd.int .i64) _ _ _ (rd l0_0 (rd x7_3 x8_3)) [.int .i64 (rd l0_0 (rd x7_3 x8_3))] from rfl) (Reps.one (show Kd.M (Kd.int .i64) _ _ _ (rd l0_1 (rd x7_3 x8_3)) [.int .i64 (rd l0_1 (rd x7_3 x8_3))] from rfl) (Reps.none _ _))))
 intro v442 w42 ho43 hb hg_ hnew_
 have HS2_ := (hb.cell (World.block_lt_of_cell? _ _ (hHeld.2.2.1))).trans (hHeld.2.2.1)
 have HS4_ := (hb.cell (World.block_lt_of_cell? _ _ (hHeld.2.2.2.2.1))).trans (hHeld.2.2.2.2.1)
 clear hg_ hnew_
 (first | rw [← Ny441.out] at ho43 | (simp only [Int.reduceToNat] at ho43; rw [← Ny441.out] at ho43))
 have HO443 := aM (Kd.R_lower (Kd.R_new' (Kd.R_new' ho43 (Kd.R_lt (rX HO_5.out))) (Kd.R_lt (rX HO_7.out))) (below_size (bX1 HB.out GE427.out)))
 replace HO_5 := aM (Kd.R_elder' (rX HO_5.out) (Kd.R_base ho43) hb)
 replace HO_7 := aM (Kd.R_elder' (rX HO_7.out) (Kd.R_base ho43) hb)
 replace BK427 := aM (bbX BK427.out hb)
 replace HB := aM (below_step (bX1 HB.out GE427.out) hb)
 clear hb ho43
 obtain ⟨Ao44, co44, eo44⟩ := Kd.R_slice HO443.out
 (first | subst eo44 | (injection eo44 with f1_ f2_ f3_; have f4_ := f1_.symm; have f5_ := f3_.symm; clear f1_ f2_ f3_; subst f4_; subst f5_))
 refine hK.out _ _ ⟨cz20 BK427.out, cz21 BK427.out, HS2_, ((HB.out.cell (World.block_lt_of_cell? w _ hw438_0)).trans hw438_0), HS4_, ((HB.out.cell (World.block_lt_of_cell? w _ hw440_0)).trans hw440_0)⟩ (fun hHeld => ?_)
 clear hK K
 refine norm_ (a' := ?_) ?_ ?_
 rotate_left
 {
 show Act.put _ (some 65) _ = _
 simp only [Act.put, zA, zB, zC, i64_w, i32_w]
 rfl
 }
 refine pX 17 66 (fl 19 524287) rfl rfl HT_.out ?_
 refine done_ (done_of HT_.out (by kernel_rfl)) ?_
 try go_wp2
 go_loopg [7, 67] k3 (fun kq v7 v67 w' => ∃ (x5_4 : List Int) (x7_4 : List Int) (x67_4 : Int), v67 = .int .i64 x67_4 ∧ Aside0 (i_NamesFrom.l2 kq x5_4 x7_4 x8_3 y441 (y441.length : Int) x67_4 l0_0 l0_1 = some r) ∧ Aside0 (kq ≤ k3) ∧ Aside0 (Kd.R (Kd.int .i64) 3 w' w.heap.size (fun k_ => some k_ ≠ (v7 : Value).ownBlock ∧ some k_ ≠ ((.slice Ao44 y441.length co44) : Value).ownBlock) (.slice (some ⟨go30, 0, none⟩) x5_3.length co21) x5_4) ∧ Aside0 (Kd.R (Kd.int .i64) 3 w' w.heap.size (fun k_ => some k_ ≠ ((.slice (some ⟨go30, 0, none⟩) x5_3.length co21) : Value).ownBlock ∧ some k_ ≠ ((.slice Ao44 y441.length co44) : Value).ownBlock) v7 x7_4) ∧ Aside0 (Kd.R (Kd.int .i64) 3 w' w.heap.size (fun k_ => some k_ ≠ ((.slice (some ⟨go30, 0, none⟩) x5_3.length co21) : Value).ownBlock ∧ some k_ ≠ (v7 : Value).ownBlock) (.slice Ao44 y441.length co44) y441) ∧ Aside0 (w'.heap[gb427]? = some (.cells #[(.slice (some ad438) l0_0.length c0_0), (.slice (some ad440) l0_1.length c0_1)] 27 (0, 0))) ∧ Aside0 (Below w.heap.size w w'))
 case atStart => exact ⟨(x5_3), (x7_3), (0), vX, H', ⟨Nat.le_refl _⟩, ⟨by (try simp only [hl5_2]); (try simp only [hl5_3]); (with_reducible repeat (first|apply rA|apply rN|apply rD)); exact HO_5.out⟩, ⟨by (try simp only [hl5_2]); (try simp only [hl5_3]); (with_reducible repeat (first|apply rA|apply rN|apply rD)); exact HO_7.out⟩, ⟨by (try simp only [hl5_2]); (try simp only [hl5_3]); (with_reducible repeat (first|apply rA|apply rN|apply rD)); exact Kd.R_mono HO443.out (fun _ hk => ⟨hk.1.2, hk.2⟩)⟩, ⟨by (try simp only [hl5_2]); (try simp only [hl5_3]); (with_reducible repeat (first|refine kN ?_ _|refine kD ?_|refine kA ?_ _)); exact BK427.out⟩, ⟨bX1 HB.out GE427.out⟩⟩
 case round =>
 clear H'
 try clear c6
 try clear c7
 try clear c7b0
 try clear c15
 try clear c16
 try clear c16b0
 try clear c16b1
 try clear c17
 try clear c17b0
 try clear c17b1
 try clear c22
 try clear c22b0
 try clear c23
 try clear c23b0
 try clear c24
 try clear c24b0
 try clear p25
 try clear q25
 try clear c28
 try clear c28b0
 try clear c29
 try clear c29b0
 try clear p30
 try clear q30
 try clear c35
 try clear c35b0
 try clear c36
 try clear c36b0
 try clear c37
 try clear c37b0
 try clear c38
 try clear c38b0
 try clear c39
 try clear c39b0
 try clear hcz10_0
 try clear hcz10_1
 try clear hcz12_0
 try clear hcz12_1
 try clear hcz13_0
 try clear hcz13_1
 try clear hcz18_0
 try clear hcz18_1
 try clear hcz8_0
 try clear hcz8_1
 try clear hfz10_0
 try clear hfz10_1
 try clear hfz12_0
 try clear hfz12_1
 try clear hfz13_0
 try clear hfz13_1
 try clear hfz18_0
 try clear hfz18_1
 try clear hfz8_0
 try clear hfz8_1
 try clear hx25_0
 try clear hx30_0
 try clear hx437_0
 try clear hx438_0
 try clear hx439_0
 try clear hx440_0
 try clear p25
 try clear p30
 try clear p437
 try clear p438
 try clear p439
 try clear p440
 try clear q25
 try clear q30
 try clear q437
 try clear q438
 try clear q439
 try clear q440
 obtain ⟨x5_4, x7_4, x67_4, rfl, HA, HK4, HO_5, HO_7, HO_65, BK427, HB⟩ := hrel
 have hl5_4 := (Kd.R_reads' HO_5.out).1
 rw [hl5_4] at HO_5
 (try simp only [hl5_4])
 (try simp only [hl5_4] at BK427)
 (try simp only [hl5_4] at HO_7)
 (try simp only [hl5_4] at HO_65)
 cases gk with
 | zero => exact absurd HA.out (by simp [i_NamesFrom.l2])
 | succ k4 =>
 have H := HA.out
 clear HA
 simp only [i_NamesFrom.l2] at H
 by_cases c45 : x67_4 < (y441.length : Int)
 {
 rw [if_pos c45] at H
 have c45b0 : decide (x67_4 < (y441.length : Int)) = true := decide_eq_true c45
 clear c45
 by_cases c46 : 0 ≤ x67_4
 {
 rw [if_pos c46] at H
 have c46b0 : decide (0 ≤ x67_4) = true := decide_eq_true c46
 clear c46
 by_cases c47 : x67_4 < (y441.length : Int)
 {
 rw [if_pos c47] at H
 have c47b0 : decide (x67_4 < (y441.length : Int)) = true := decide_eq_true c47
 clear c47
 by_cases c48 : 0 ≤ (rd y441 x67_4)
 {
 rw [if_pos c48] at H
 have c48b0 : decide (0 ≤ (rd y441 x67_4)) = true := decide_eq_true c48
 clear c48
 by_cases c49 : (rd y441 x67_4) < (x5_4.length : Int)
 {
 rw [if_pos c49] at H
 have c49b0 : decide ((rd y441 x67_4) < (x5_4.length : Int)) = true := decide_eq_true c49
 clear c49
 by_cases c50 : (rd x5_4 (rd y441 x67_4)) < 0
 {
 rw [if_pos c50] at H
 have c50b0 : decide ((rd x5_4 (rd y441 x67_4)) < 0) = true := decide_eq_true c50
 clear c50
 obtain ⟨y446, hy446⟩ : ∃ y_ : List Int, y_ = (x5_4.set ((rd y441 x67_4) : Int).toNat (x7_4.length : Int)) := ⟨_, rfl⟩
 replace H : (if x7_4.length < 17592186044416 then (i_NamesFrom.l2 k4 y446 (x7_4 ++ [rd y441 x67_4]) x8_3 y441 (y441.length : Int) (wrap64 (x67_4 + 1)) l0_0 l0_1) else (none)) = some r := by first | (rw [hy446]; with_reducible exact H) | (have H2_ := (Option.bind_some _ _).symm.trans H; rw [hy446]; with_reducible exact H2_) | (have H2_ := (Option.bind_some _ _).symm.trans H; with_reducible exact H2_) | with_reducible exact H | (rw [hy446]; exact H) | exact H
 have Ny446 := aM hy446
 clear hy446
 by_cases c52 : x7_4.length < 17592186044416
 {
 rw [if_pos c52] at H
 have LMc52 := aM c52
 clear c52
 obtain ⟨y447, hy447⟩ : ∃ y_ : List Int, y_ = (x7_4 ++ [rd y441 x67_4]) := ⟨_, rfl⟩
 replace H : (i_NamesFrom.l2 k4 y446 y447 x8_3 y441 (y441.length : Int) (wrap64 (x67_4 + 1)) l0_0 l0_1) = some r := by first | (rw [hy447]; with_reducible exact H) | (have H2_ := (Option.bind_some _ _).symm.trans H; rw [hy447]; with_reducible exact H2_) | (have H2_ := (Option.bind_some _ _).symm.trans H; with_reducible exact H2_) | with_reducible exact H | (rw [hy447]; exact H) | exact H
 have Ny447 := aM hy447
 clear hy447
 have H' := aM H
 clear H
 have p444 : 0 ≤ (x67_4 : Int) := dX
 have q444 : x67_4 < (y441.length : Int) := dX
 obtain ⟨ad444, e444, hx444_0⟩ := Kd.at_int (Kd.R_reads' HO_65.out).2.2 x67_4 p444 q444
 cases e444
 replace p444 := eq_true p444
 replace q444 := eq_true q444
 have p445 : 0 ≤ ((rd y441 x67_4) : Int) := dX
 have q445 : (rd y441 x67_4) < (x5_4.length : Int) := dX
 obtain ⟨ad445, e445, hx445_0⟩ := Kd.at_int (Kd.R_reads' HO_5.out).2.2 (rd y441 x67_4) p445 q445
 obtain rfl : (⟨go30, 0, none⟩ : Addr) = ad445 := (by injection e445)
 (first | simp only [add_plain] at hx445_0 | simp only [add_at] at hx445_0 | simp only [Addr.add, Nat.zero_add] at hx445_0 | skip)
 replace p445 := eq_true p445
 replace q445 := eq_true q445
 obtain ⟨Ao53, co53, eo53⟩ := Kd.R_slice HO_7.out
 subst eo53
 have p51 : 0 ≤ ((rd y441 x67_4) : Int) := dX
 have q51 : ((rd y441 x67_4) : Int) < ((x5_4.length : Int) : Int) := dX
 obtain ⟨hx51_0, hf51_0⟩ := Kd.R_celln 0 HO_5.out ((rd y441 x67_4) : Int) p51 q51
 replace p51 := eq_true p51
 replace q51 := eq_true q51
 have HP54 := Kd.R_putg HO_5.out ((rd y441 x67_4) : Int) (x7_4.length : Int)
 go_wp2_with (first | ((with_reducible refine gate_store (t := 3) (p := 80) rfl ?_); refine store_event (t := 3) (p := 80) (v := ?vo_w55) (w1 := (wr.setCell ⟨go30, ((rd y441 x67_4) : Int).toNat, none⟩ (.int .i64 (x7_4.length : Int)))) ?hg ?ho ?hn ?hr ?_; (case ho => rfl); (case hg => rfl); (case hn => rfl); (case hr => first | (go_simp; done) | (go_simp; rfl)); intro w55 hw; have hg : wr.grownBy w55 (some go30) := (by rw [hw]; exact HP54.2); have hp_ : Kd.R (Kd.int .i64) 3 w55 w.heap.size (fun k_ => some k_ ≠ (.slice Ao53 x7_4.length co53 : Value).ownBlock ∧ some k_ ≠ (.slice (some ad444) y441.length co44 : Value).ownBlock) (.slice (some ⟨go30, 0, none⟩) x5_4.length co21) y446 := (by rw [hw, Ny446.out]; exact HP54.1); clear HP54; replace HO_7 := aM (Kd.R_after (v := (.slice (some ⟨go30, 0, none⟩) x5_4.length co21)) (v1 := (.slice (some ⟨go30, 0, none⟩) x5_4.length co21)) (ok := (fun k_ => some k_ ≠ (.slice (some ad444) y441.length co44 : Value).ownBlock)) (rM HO_7.out (fun _ hk => ⟨hk.2, hk.1⟩)) hg (.inl rfl)); replace HO_65 := aM (Kd.R_after (v := (.slice (some ⟨go30, 0, none⟩) x5_4.length co21)) (v1 := (.slice (some ⟨go30, 0, none⟩) x5_4.length co21)) (ok := (fun k_ => some k_ ≠ (.slice Ao53 x7_4.length co53 : Value).ownBlock)) (rM HO_65.out (fun _ hk => ⟨hk.2, hk.1⟩)) hg (.inl rfl)); replace BK427 := aM (bgX BK427.out hg (Kd.R_ne HO_5.out BK427.out (by decide))); replace HO_5 := aM (hp_); replace HB := aM ((by rw [hw]; exact below_set (HB.out) GB30.out : Below w.heap.size w w55)); clear hg hw hp_) | ((with_reducible refine gate_builtin (b := .append) (xs := #[.tmp 81, .tmp 83]) rfl ?_); (try (refine gate_guard (by rfl) ?_; dsimp only)); at_builtin; refine Kd.R_append (Kd.int .i64) (w0 := w) w.heap.size rfl (.tmp 81) (.tmp 83) 25 3 (.int .i64 0) 8 rfl Try.underlying25 info3 rfl (by decide) (by omega) (.slice Ao53 x7_4.length co53) x7_4 (rd y441 x67_4) [.int .i64 (rd y441 x67_4)] (fun k_ => some k_ ≠ (.slice (some ⟨go30, 0, none⟩) x5_4.length co21 : Value).ownBlock ∧ some k_ ≠ (.slice (some ad444) y441.length co44 : Value).ownBlock) (fun _ => False) rfl rfl ?aP (fun _ hk => hk.elim) ?aF ?aO ?aB ?aS ?aL ?_; (case aP => exact rfl); (case aB => exact (bX1 HB.out GE427.out)); (case aF => exact (fun k_ hk => ⟨Kd.fresh' (Kd.R_lt (rX HO_5.out)) k_ hk, Kd.fresh' (Kd.R_lt (rX HO_65.out)) k_ hk⟩)); (case aO => exact (rM HO_7.out (fun _ hk => ⟨hk.2, hk.1⟩))); (case aS => exact (below_size (bX1 HB.out GE427.out))); (case aL => have := LMc52.out; omega); intro v448 w56 ho hb hg hat; rw [← Ny447.out] at ho; replace HO_5 := aM (Kd.R_after (ok := (fun k_ => some k_ ≠ (.slice (some ad444) y441.length co44 : Value).ownBlock)) (rM HO_5.out (fun _ hk => ⟨hk.2, hk.1⟩)) hg hat); replace HO_65 := aM (Kd.R_after (ok := (fun k_ => some k_ ≠ (.slice (some ⟨go30, 0, none⟩) x5_4.length co21 : Value).ownBlock)) (rM HO_65.out (fun _ hk => ⟨hk.2, hk.1⟩)) hg hat); replace BK427 := aM (bgX BK427.out hg (Kd.R_ne HO_7.out BK427.out (by decide))); replace HB := aM (hb); have HO449 := aM (ho); clear HO_7 ho hb hg hat))
 (try simp only [← hl5_4])
 go_roundg k4
 case measure => have := HJ2.out; have := HK2.out; have := HK3.out; have := HK4.out; omega
 case rel => exact ⟨(y446), (y447), (wrap64 (x67_4 + 1)), vX, H', ⟨by have := HJ2.out; have := HK2.out; have := HK3.out; have := HK4.out; omega⟩, ⟨by (try simp only [hl5_2]); (try simp only [hl5_3]); (try simp only [hl5_4]); (with_reducible repeat (first|apply rA|apply rN|apply rD)); exact Kd.R_mono HO_5.out (fun _ hk => ⟨hk.2, hk.1⟩)⟩, ⟨by (try simp only [hl5_2]); (try simp only [hl5_3]); (try simp only [hl5_4]); (with_reducible repeat (first|apply rA|apply rN|apply rD)); exact HO449.out⟩, ⟨by (try simp only [hl5_2]); (try simp only [hl5_3]); (try simp only [hl5_4]); (with_reducible repeat (first|apply rA|apply rN|apply rD)); exact HO_65.out⟩, ⟨by (try simp only [hl5_2]); (try simp only [hl5_3]); (try simp only [hl5_4]); (with_reducible repeat (first|refine kN ?_ _|refine kD ?_|refine kA ?_ _)); exact BK427.out⟩, ⟨bX1 HB.out GE427.out⟩⟩
 }
 {
 rw [if_neg c52] at H
 exact absurd H (by simp)
 }
 }
 {
 rw [if_neg c50] at H
 have c50b0 : decide ((rd x5_4 (rd y441 x67_4)) < 0) = false := decide_eq_false c50
 clear c50
 have H' := aM H
 clear H
 have p444 : 0 ≤ (x67_4 : Int) := dX
 have q444 : x67_4 < (y441.length : Int) := dX
 obtain ⟨ad444, e444, hx444_0⟩ := Kd.at_int (Kd.R_reads' HO_65.out).2.2 x67_4 p444 q444
 cases e444
 replace p444 := eq_true p444
 replace q444 := eq_true q444
 have p445 : 0 ≤ ((rd y441 x67_4) : Int) := dX
 have q445 : (rd y441 x67_4) < (x5_4.length : Int) := dX
 obtain ⟨ad445, e445, hx445_0⟩ := Kd.at_int (Kd.R_reads' HO_5.out).2.2 (rd y441 x67_4) p445 q445
 obtain rfl : (⟨go30, 0, none⟩ : Addr) = ad445 := (by injection e445)
 (first | simp only [add_plain] at hx445_0 | simp only [add_at] at hx445_0 | simp only [Addr.add, Nat.zero_add] at hx445_0 | skip)
 replace p445 := eq_true p445
 replace q445 := eq_true q445
 go_wp2
 (try simp only [← hl5_4])
 go_roundg k4
 case measure => have := HJ2.out; have := HK2.out; have := HK3.out; have := HK4.out; omega
 case rel => exact ⟨(x5_4), (x7_4), (wrap64 (x67_4 + 1)), vX, H', ⟨by have := HJ2.out; have := HK2.out; have := HK3.out; have := HK4.out; omega⟩, ⟨by (try simp only [hl5_2]); (try simp only [hl5_3]); (try simp only [hl5_4]); (with_reducible repeat (first|apply rA|apply rN|apply rD)); exact HO_5.out⟩, ⟨by (try simp only [hl5_2]); (try simp only [hl5_3]); (try simp only [hl5_4]); (with_reducible repeat (first|apply rA|apply rN|apply rD)); exact HO_7.out⟩, ⟨by (try simp only [hl5_2]); (try simp only [hl5_3]); (try simp only [hl5_4]); (with_reducible repeat (first|apply rA|apply rN|apply rD)); exact HO_65.out⟩, ⟨by (try simp only [hl5_2]); (try simp only [hl5_3]); (try simp only [hl5_4]); (with_reducible repeat (first|refine kN ?_ _|refine kD ?_|refine kA ?_ _)); exact BK427.out⟩, ⟨bX1 HB.out GE427.out⟩⟩
 }
 }
 {
 rw [if_neg c49] at H
 exact absurd H (by simp)
 }
 }
 {
 rw [if_neg c48] at H
 exact absurd H (by simp)
 }
 }
 {
 rw [if_neg c47] at H
 exact absurd H (by simp)
 }
 }
 {
 rw [if_neg c46] at H
 exact absurd H (by simp)
 }
 }
 {
 rw [if_neg c45] at H
 have c45b0 : decide (x67_4 < (y441.length : Int)) = false := decide_eq_false c45
 clear c45
 have H' := aM H
 clear H
 go_wp2
 (try simp only [← hl5_3, ← hl5_4])
 go_roundg k4
 case measure => have := HJ2.out; have := HK2.out; have := HK3.out; have := HK4.out; omega
 case rel => exact ⟨(x5_4), (x7_4), (wrap64 (x8_3 + 1)), vX, H', ⟨by have := HJ2.out; have := HK2.out; have := HK3.out; have := HK4.out; omega⟩, ⟨by (try simp only [hl5_2]); (try simp only [hl5_3]); (try simp only [hl5_4]); (with_reducible repeat (first|apply rA|apply rN|apply rD)); exact Kd.R_mono HO_5.out (fun _ hk => hk.1)⟩, ⟨by (try simp only [hl5_2]); (try simp only [hl5_3]); (try simp only [hl5_4]); (with_reducible repeat (first|apply rA|apply rN|apply rD)); exact Kd.R_mono HO_7.out (fun _ hk => hk.1)⟩, ⟨by (try simp only [hl5_2]); (try simp only [hl5_3]); (try simp only [hl5_4]); (with_reducible repeat (first|refine kN ?_ _|refine kD ?_|refine kA ?_ _)); exact BK427.out⟩, ⟨bX1 HB.out GE427.out⟩⟩
 }
 }
 {
 rw [if_neg c39] at H
 exact absurd H (by simp)
 }
 }
 {
 rw [if_neg c38] at H
 exact absurd H (by simp)
 }
 }
 {
 rw [if_neg c37] at H
 exact absurd H (by simp)
 }
 }
 {
 rw [if_neg c36] at H
 exact absurd H (by simp)
 }
 }
 {
 rw [if_neg c35] at H
 have c35b0 : decide (x8_3 < (x7_3.length : Int)) = false := decide_eq_false c35
 clear c35
 obtain rfl := Option.some.inj H
 obtain ⟨Ao57, co57, eo57⟩ := Kd.R_slice HO_7.out
 subst eo57
 go_wp2
 go_ret
 exact ⟨_, eX, by (with_reducible repeat (first|apply rA|apply rN|apply rD)); exact Kd.R_mono HO_5.out (fun _ hk => trivial), bX1 HB.out GE427.out⟩
 }
 }
 {
 rw [if_neg c29] at H
 exact absurd H (by simp)
 }
 }
 {
 rw [if_neg c28] at H
 exact absurd H (by simp)
 }
 }
 }
 {
 rw [if_neg c17] at H
 exact absurd H (by simp)
 }
 }
 {
 rw [if_neg c16] at H
 exact absurd H (by simp)
 }
 }

/-! ### i_namedFrom: function 51 -/
def i_namedFrom.l0 : Nat → List (S27) → Int → List Int → List Int → Option ((List (S27)))
 | 0, _, _, _, _ => none
 | k + 1, x3, x4, x451000, x451001 => (i_CountSquares.f k x451000 x451001).bind fun t454 => (if x4 < t454 then ((i_NamesFrom.f k x451000 x451001 x4).bind fun t455 => ((i_RenameSurface.f k x451000 x451001 t455).bind fun bt458 => (if x3.length < 2932031007402 then (i_namedFrom.l0 k (x3 ++ [(⟨bt458.1, bt458.2.1⟩ : S27)]) (wrap64 (x4 + 1)) x451000 x451001) else (none)))) else (some x3))
def i_namedFrom.f (k : Nat) (l0_0 : List Int) (l0_1 : List Int) : Option ((List (S27))) := i_namedFrom.l0 k (([] : List (S27))) 0 l0_0 l0_1
def i_namedFrom.T5 : Bool × List (List Nat × List Nat) := (true, [([], []), ([], []), ([], []), ([1, 2], [1, 2]), ([0, 3, 3], [0, 3]), ([4], [4]), ([5], [5]), ([5], [5]), ([], []), ([8, 6, 4, 0, 1, 2, 3, 4, 5, 6, 8], [6, 8]), ([7, 9, 0, 1, 2, 3, 4, 5, 6, 7, 8, 9], [7])])
def i_namedFrom.B5 : List Nat := [0, 0, 0, 6, 15, 31, 63, 63, 0, 383, 1023]
theorem i_namedFrom.tab5 : rtab .any (opsOf Try.f51 5) = i_namedFrom.T5 := by kernel_rfl
theorem i_namedFrom.bits5 : waitsOk i_namedFrom.T5.2 i_namedFrom.B5 = true := by kernel_rfl
theorem i_namedFrom.calls (k : Nat) (A0_0 : Option Addr) (c0_0 : Nat) (l0_0 : List Int) (A0_1 : Option Addr) (c0_1 : Nat) (l0_1 : List Int) (r : List (S27)) (w : World) (hr0_0 : Kd.C (Kd.int .i64) w A0_0 l0_0.length l0_0) (hc0_0 : l0_0.length ≤ c0_0) (hr0_1 : Kd.C (Kd.int .i64) w A0_1 l0_1.length l0_1) (hc0_1 : l0_1.length ≤ c0_1) (h : i_namedFrom.f k l0_0 l0_1 = some r) :
  Calls Try.prog 51 #[.agg #[.slice A0_0 l0_0.length c0_0, .slice A0_1 l0_1.length c0_1]] w fun e w' => ∃ v0_ : Value, e = .returned (v0_) ∧ Kd.S k27 27 w' w.heap.size (fun _ => True) v0_ r ∧ Below w.heap.size w w' := by
 have hu27 := Try.underlying27
 have HR0_0 := aM hr0_0
 have HC0_0 := aM hc0_0
 clear hr0_0 hc0_0
 have HR0_1 := aM hr0_1
 have HC0_1 := aM hc0_1
 clear hr0_1 hc0_1
 have HB := aM (Below.refl w.heap.size w)
 have H : (i_namedFrom.l0 k (([] : List (S27))) 0 l0_0 l0_1) = some r := h
 clear h
 obtain ⟨y451, hy451⟩ : ∃ y_ : List (S27), y_ = (([] : List (S27))) := ⟨_, rfl⟩
 replace H : (i_namedFrom.l0 k y451 0 l0_0 l0_1) = some r := by first | (rw [hy451]; with_reducible exact H) | (have H2_ := (Option.bind_some _ _).symm.trans H; rw [hy451]; with_reducible exact H2_) | (have H2_ := (Option.bind_some _ _).symm.trans H; with_reducible exact H2_) | with_reducible exact H | (rw [hy451]; exact H) | exact H
 have Ny451 := aM hy451
 clear hy451
 have H' := aM H
 clear H
 go_enter Try.func51, Try.ntmps51
 go_wp2_with (first | ((with_reducible refine gate_dst (N := 1) rfl ?_); refine bEv (cs := #[.slice A0_0 l0_0.length c0_0, .slice A0_1 l0_1.length c0_1]) (t := 27) ?_; intro gb450 hg w2 hbox hb; have BK450 := aM (hbox); have GW450 := aM ((szX (below_size (bX HB.out)) hg : w.heap.size ≤ gb450)); have GE450 := aM ((szX (below_size (bX HB.out)) hg : w.heap.size ≤ gb450)); replace HB := aM (below_step (bX HB.out) hb); clear hb hbox hg) | ((with_reducible refine gate_dst (N := 7) rfl ?_); refine Kd.S_lit k27 _ 27 ?hg (N := 7) ?hd (xs := ([] : List (S27))) (inner := []) (ok := fun _ => True) (okp := fun _ => True) ?hr ?hp (fun _ hk => hk) trivial (Below.refl _ _) (Nat.le_refl _) (by simp) ?_; (case hd => rfl); (case hg => rfl); (case hr => first | (go_simp; done) | (go_simp; rfl)); (case hp => exact (Reps.none _ _)); intro v452 w3 ho4 hb hg_ hnew_; clear hg_ hnew_; (first | rw [← Ny451.out] at ho4 | (simp only [Int.reduceToNat] at ho4; rw [← Ny451.out] at ho4)); have HO453 := aM (Kd.S_lower (Kd.S_newB ho4 (g := gb450) (o := .cells #[.slice A0_0 l0_0.length c0_0, .slice A0_1 l0_1.length c0_1] 27 (0, 0)) (kX BK450.out)) (below_size (bX1 HB.out GE450.out))); replace BK450 := aM (bbX BK450.out hb); replace HB := aM (below_step (bX1 HB.out GE450.out) hb); clear hb ho4))
 go_loopg [3, 4] k (fun kq v3 v4 w' => ∃ (x3_1 : List (S27)) (x4_1 : Int), v4 = .int .i64 x4_1 ∧ Aside0 (i_namedFrom.l0 kq x3_1 x4_1 l0_0 l0_1 = some r) ∧ Aside0 (kq ≤ k) ∧ Aside0 (Kd.S k27 27 w' w.heap.size (fun k_ => k_ ≠ gb450) v3 x3_1) ∧ Aside0 (w'.heap[gb450]? = some (.cells #[(.slice A0_0 l0_0.length c0_0), (.slice A0_1 l0_1.length c0_1)] 27 (0, 0))) ∧ Aside0 (Below w.heap.size w w'))
 case atStart => exact ⟨(y451), (0), vX, H', ⟨Nat.le_refl _⟩, ⟨by (with_reducible repeat (first | apply Kd.S_alloc | apply Kd.S_drewN | apply Kd.S_drew)); exact Kd.S_mono HO453.out (fun _ hk => hk.2)⟩, ⟨kX BK450.out⟩, ⟨bX1 HB.out GE450.out⟩⟩
 case round =>
 clear H'
 obtain ⟨x3_1, x4_1, rfl, HA, HK1, HO_3, BK450, HB⟩ := hrel
 cases gk with
 | zero => exact absurd HA.out (by simp [i_namedFrom.l0])
 | succ k1 =>
 have H := HA.out
 clear HA
 simp only [i_namedFrom.l0] at H
 replace H := oB H
 obtain ⟨t454, A50, H⟩ := H
 replace H : (if x4_1 < t454 then ((i_NamesFrom.f k1 l0_0 l0_1 x4_1).bind fun t455 => ((i_RenameSurface.f k1 l0_0 l0_1 t455).bind fun bt458 => (if x3_1.length < 2932031007402 then (i_namedFrom.l0 k1 (x3_1 ++ [(⟨bt458.1, bt458.2.1⟩ : S27)]) (wrap64 (x4_1 + 1)) l0_0 l0_1) else (none)))) else (some x3_1)) = some r := H
 have A5 := aM A50
 clear A50
 by_cases c6 : x4_1 < t454
 {
 rw [if_pos c6] at H
 have c6b0 : decide (x4_1 < t454) = true := decide_eq_true c6
 clear c6
 replace H := oB H
 obtain ⟨t455, A70, H⟩ := H
 replace H : ((i_RenameSurface.f k1 l0_0 l0_1 t455).bind fun bt458 => (if x3_1.length < 2932031007402 then (i_namedFrom.l0 k1 (x3_1 ++ [(⟨bt458.1, bt458.2.1⟩ : S27)]) (wrap64 (x4_1 + 1)) l0_0 l0_1) else (none))) = some r := H
 have A7 := aM A70
 clear A70
 replace H := oB H
 obtain ⟨⟨t458, t461, t464⟩, A80, H⟩ := H
 replace H : (if x3_1.length < 2932031007402 then (i_namedFrom.l0 k1 (x3_1 ++ [(⟨t458, t461⟩ : S27)]) (wrap64 (x4_1 + 1)) l0_0 l0_1) else (none)) = some r := H
 have A8 := aM A80
 clear A80
 by_cases c9 : x3_1.length < 2932031007402
 {
 rw [if_pos c9] at H
 have LMc9 := aM c9
 clear c9
 obtain ⟨y466, hy466⟩ : ∃ y_ : List (S27), y_ = (x3_1 ++ [(⟨t458, t461⟩ : S27)]) := ⟨_, rfl⟩
 replace H : (i_namedFrom.l0 k1 y466 (wrap64 (x4_1 + 1)) l0_0 l0_1) = some r := by first | (rw [hy466]; with_reducible exact H) | (have H2_ := (Option.bind_some _ _).symm.trans H; rw [hy466]; with_reducible exact H2_) | (have H2_ := (Option.bind_some _ _).symm.trans H; with_reducible exact H2_) | with_reducible exact H | (rw [hy466]; exact H) | exact H
 have Ny466 := aM hy466
 clear hy466
 have H' := aM H
 clear H
 have hcz10_0 := cz20 BK450.out
 have hcz10_1 := cz21 BK450.out
 have hfz10_0 := blk_frozen BK450.out 0
 have hfz10_1 := blk_frozen BK450.out 1
 try go_wp2_with (first | ((with_reducible refine gate_callee (f := 8) rfl ?_); refine goesL_ (some 10) rfl rfl Try.func8 (by kernel_rfl) rfl #[.agg #[.slice A0_0 l0_0.length c0_0, .slice A0_1 l0_1.length c0_1]] rfl aX ?_; (with_reducible refine (i_CountSquares.calls k1 _ _ l0_0 _ _ l0_1 t454 _ ?side1 ?side2 ?side3 ?side4 A5.out).mono ?_); (case side1 => exact cX (Kd.C_below HR0_0.out HB.out)); (case side2 => exact HC0_0.out); (case side3 => exact cX (Kd.C_below HR0_1.out HB.out)); (case side4 => exact HC0_1.out); rintro e w11 ⟨rfl, hb⟩; refine ⟨_, rfl, ?_⟩; replace HO_3 := aM (Kd.S_below (by (with_reducible repeat (first | apply Kd.S_alloc | apply Kd.S_drewN | apply Kd.S_drew)); exact HO_3.out) hb); replace BK450 := aM (bbX BK450.out hb); replace HB := aM (below_step (bX1 HB.out GE450.out) hb); (try clear hb); (try clear hb2); (try clear hk); (try clear hi)))
 replace HO_3 := aM (Kd.S_drew HO_3.out)
 replace BK450 := aM (blk_drew BK450.out)
 replace HB := aM (below_drew1 HB.out)
 refine start_ (n := 11) (S := fun w' => w'.cell? ⟨gb450, 0, none⟩ = some (.slice A0_0 l0_0.length c0_0) ∧ w'.cell? ⟨gb450, 1, none⟩ = some (.slice A0_1 l0_1.length c0_1)) (ds := []) #[ff,ff,ff,ff,ff,ff,ff,ff,ff,ff,ff] (by kernel_rfl) rfl rfl ⟨cz20 BK450.out, cz21 BK450.out⟩ (fun hHeld => ?_); refine with_tabW i_namedFrom.tab5 i_namedFrom.bits5 (fun HT_ HW_ => ?_)
 generalize w11.drew = w12 at HO_3 BK450 HB hHeld ⊢
 refine pX 2 17 (fl 11 4) rfl rfl HT_.out ?_
 refine tX2 0 15 (fl 11 5) rfl rfl HT_.out HW_.out hHeld ?_
 refine tX2 1 16 (fl 11 7) rfl rfl HT_.out HW_.out hHeld ?_
 refine join_ (σ := Value × Value × Value × Nat) 2 #[tt,tt,tt,tt,tt,tt,tt,tt,tt,ff,ff] (fun s_ => [(18, s_.1), (19, .tuple #[.agg #[s_.2.1, s_.2.2.1], .bool t464]), (5, .pointer (some ⟨s_.2.2.2, 0, none⟩)), (14, .tuple #[.agg #[s_.2.1, s_.2.2.1], .bool t464]), (20, .agg #[s_.2.1, s_.2.2.1]), (21, .bool t464)]) (fun s_ w' => (w'.cell? ⟨gb450, 0, none⟩ = some (.slice A0_0 l0_0.length c0_0) ∧ w'.cell? ⟨gb450, 1, none⟩ = some (.slice A0_1 l0_1.length c0_1)) ∧ (Kd.R (Kd.int .i64) 3 w' w.heap.size (fun k_ => some k_ ≠ (s_.2.1 : Value).ownBlock ∧ some k_ ≠ (s_.2.2.1 : Value).ownBlock) s_.1 t455) ∧ (Kd.R (Kd.int .i64) 3 w' w.heap.size (fun k_ => some k_ ≠ (s_.1 : Value).ownBlock ∧ some k_ ≠ (s_.2.2.1 : Value).ownBlock) s_.2.1 t458) ∧ (Kd.R (Kd.int .i64) 3 w' w.heap.size (fun k_ => some k_ ≠ (s_.1 : Value).ownBlock ∧ some k_ ≠ (s_.2.1 : Value).ownBlock) s_.2.2.1 t461) ∧ (Kd.S k27 27 w' w.heap.size (fun k_ => some k_ ≠ (s_.1 : Value).ownBlock ∧ some k_ ≠ (s_.2.1 : Value).ownBlock ∧ some k_ ≠ (s_.2.2.1 : Value).ownBlock ∧ k_ ≠ gb450 ∧ k_ ≠ s_.2.2.2) u3 x3_1) ∧ (w'.heap[gb450]? = some (.cells #[.slice A0_0 l0_0.length c0_0, .slice A0_1 l0_1.length c0_1] 27 (0, 0))) ∧ (w'.heap[s_.2.2.2]? = some (.cells #[.slice none 0 0, .slice none 0 0] 27 (0, 0))) ∧ (w.heap.size ≤ s_.2.2.2) ∧ (w.heap.size ≤ s_.2.2.2) ∧ (gb450 ≠ s_.2.2.2) ∧ (s_.2.2.2 ≠ gb450) ∧ (Below w.heap.size w w')) ?_ ?_
 rotate_left
 {
 intro hCont
 refine two_ (i := 3) (j := 8) (Ni := some 18) (Nj := some 5) #[tt,tt,tt,tt,ff,ff,ff,ff,ff,ff,ff] #[tt,tt,tt,ff,ff,ff,ff,ff,tt,ff,ff] rfl rfl rfl rfl (two_of HT_.out (by kernel_rfl)) (by decide) (by decide) (fun K hK => ?_) (fun K hK => ?_)
 {
 skip
 refine goes_ Try.func68 (by kernel_rfl) rfl #[.agg #[.slice A0_0 l0_0.length c0_0, .slice A0_1 l0_1.length c0_1], .int .i64 x4_1] (by rfl) rfl rfl aX ?_
 with_reducible refine (i_NamesFrom.calls k1 _ _ l0_0 _ _ l0_1 x4_1 t455 _ ?side1 ?side2 ?side3 ?side4 A7.out).mono ?_
 (case side1 => exact cX (Kd.C_below HR0_0.out HB.out))
 (case side2 => exact HC0_0.out)
 (case side3 => exact cX (Kd.C_below HR0_1.out HB.out))
 (case side4 => exact HC0_1.out)
 rintro e w13 ⟨v456, rfl, ho0, hb⟩
 refine ⟨_, rfl, ?_⟩
 replace HO_3 := aM (Kd.S_elder' (by (with_reducible repeat (first | apply Kd.S_alloc | apply Kd.S_drewN | apply Kd.S_drew)); exact HO_3.out) (Kd.R_base ho0) hb)
 have HO457 := aM (Kd.R_lower ho0 (below_size (bX1 HB.out GE450.out)))
 replace BK450 := aM (bbX BK450.out hb)
 replace HB := aM (below_step (bX1 HB.out GE450.out) hb)
 (try clear hb)
 (try clear hb2)
 (try clear hk)
 (try clear hi)
 (try clear ho0)
 obtain ⟨Ao14, co14, eo14⟩ := Kd.R_slice HO457.out
 (first | subst eo14 | (injection eo14 with f1_ f2_ f3_; have f4_ := f1_.symm; have f5_ := f3_.symm; clear f1_ f2_ f3_; subst f4_; subst f5_))
 refine hK.out _ _ ⟨cz20 BK450.out, cz21 BK450.out⟩ (fun hHeld => ?_)
 clear hK K
 refine norm_ (a' := ?_) ?_ ?_
 rotate_left
 {
 show Act.put _ (some 18) _ = _
 simp only [Act.put, zA, zB, zC, i64_w, i32_w]
 rfl
 }
 refine two_ (i := 4) (j := 8) (Ni := some 19) (Nj := some 5) #[tt,tt,tt,tt,tt,ff,ff,ff,ff,ff,ff] #[tt,tt,tt,tt,ff,ff,ff,ff,tt,ff,ff] rfl rfl rfl rfl (two_of HT_.out (by kernel_rfl)) (by decide) (by decide) (fun K hK => ?_) (fun K hK => ?_)
 {
 skip
 refine goes_ Try.func67 (by kernel_rfl) rfl #[.agg #[.slice A0_0 l0_0.length c0_0, .slice A0_1 l0_1.length c0_1], .slice Ao14 t455.length co14] (by rfl) rfl rfl aX ?_
 with_reducible refine (i_RenameSurface.calls k1 _ _ l0_0 _ _ l0_1 _ _ t455 t458 t461 t464 _ ?side1 ?side2 ?side3 ?side4 ?side5 ?side6 A8.out).mono ?_
 (case side1 => exact cX (Kd.C_below HR0_0.out HB.out))
 (case side2 => exact HC0_0.out)
 (case side3 => exact cX (Kd.C_below HR0_1.out HB.out))
 (case side4 => exact HC0_1.out)
 (case side5 => exact cX (Kd.R_reads' HO457.out).2.2)
 (case side6 => exact (Kd.R_reads' HO457.out).2.1)
 rintro e w15 ⟨v459, v462, rfl, ho0, ho1, hb⟩
 refine ⟨_, rfl, ?_⟩
 replace HO_3 := aM (Kd.S_mono (Kd.S_told (Kd.S_told (Kd.S_old (by (with_reducible repeat (first | apply Kd.S_alloc | apply Kd.S_drewN | apply Kd.S_drew)); exact HO_3.out) hb) (Kd.R_base ho0)) (Kd.R_base ho1)) (fun _ h_ => h_.1))
 have HO460 := aM (Kd.R_lower (Kd.R_new' ho0 (Kd.R_lt (rX HO457.out))) (below_size (bX1 HB.out GE450.out)))
 have HO463 := aM (Kd.R_lower (Kd.R_new' ho1 (Kd.R_lt (rX HO457.out))) (below_size (bX1 HB.out GE450.out)))
 replace HO457 := aM (Kd.R_mono (Kd.R_told (Kd.R_told (Kd.R_old (rX HO457.out) hb) (Kd.R_base ho0)) (Kd.R_base ho1)) (fun _ h_ => h_.1))
 replace BK450 := aM (bbX BK450.out hb)
 replace HB := aM (below_step (bX1 HB.out GE450.out) hb)
 (try clear hb)
 (try clear hb2)
 (try clear hk)
 (try clear hi)
 (try clear ho0)
 (try clear ho1)
 refine hK.out _ _ ⟨cz20 BK450.out, cz21 BK450.out⟩ (fun hHeld => ?_)
 clear hK K
 refine norm_ (a' := ?_) ?_ ?_
 rotate_left
 {
 show Act.put _ (some 19) _ = _
 simp only [Act.put, zA, zB, zC, i64_w, i32_w]
 rfl
 }
 refine pX 5 14 (fl 11 63) rfl rfl HT_.out ?_
 refine pX 6 20 (fl 11 127) rfl rfl HT_.out ?_
 refine pX 7 21 (fl 11 255) rfl rfl HT_.out ?_
 refine one_ (i := 8) (N := some 5) #[tt,tt,tt,tt,tt,tt,tt,tt,tt,ff,ff] rfl rfl (one_of HT_.out (by kernel_rfl)) (by decide) (fun K hK => ?_)
 refine box_step ?hg (N := 5) ?hd (cs := #[.slice none 0 0, .slice none 0 0]) (t := 27) ?hr ?_; (case hd => rfl); (case hg => rfl); (case hr => first | (go_simp; done) | (go_simp; rfl))
 intro gb465 hg w16 hbox hb
 replace HO_3 := aM (Kd.S_below (Kd.S_elderB (by (with_reducible repeat (first | apply Kd.S_alloc | apply Kd.S_drewN | apply Kd.S_drew)); exact HO_3.out) gb465 (Nat.le_of_eq hg.symm)) hb)
 replace HO457 := aM (Kd.R_below (rX HO457.out) hb)
 replace HO460 := aM (Kd.R_below (rX HO460.out) hb)
 replace HO463 := aM (Kd.R_below (rX HO463.out) hb)
 have BK465 := aM (hbox)
 have GW465 := aM ((szX (below_size (bX1 HB.out GE450.out)) hg : w.heap.size ≤ gb465))
 have GE465 := aM ((szX (below_size (bX1 HB.out GE450.out)) hg : w.heap.size ≤ gb465))
 replace HB := aM (below_step (bX1 HB.out GE450.out) hb)
 have NB450_465 := aM (neX BK450.out hg)
 have NB465_450 := aM (nfX BK450.out hg)
 replace BK450 := aM (bbX BK450.out hb)
 clear hb hbox hg
 refine hK.out _ _ ⟨cz20 BK450.out, cz21 BK450.out⟩ (fun hHeld => ?_)
 clear hK K
 refine norm_ (a' := ?_) ?_ ?_
 rotate_left
 {
 show Act.put _ (some 5) _ = _
 simp only [Act.put, zA, zB, zC, i64_w, i32_w]
 rfl
 }
 exact norm_ (by simp only [putAll, Act.put, List.setIfInBounds_toArray, List.set_cons_zero, List.set_cons_succ]) (hCont (.slice Ao14 t455.length co14, v459, v462, gb465) _ ⟨hHeld, (rM HO457.out (fun _ hk => ⟨hk.1.2, hk.2⟩)), (rM HO460.out (fun _ hk => ⟨hk.2, hk.1⟩)), (rM HO463.out (fun _ hk => ⟨hk.2, hk.1⟩)), (by (with_reducible repeat (first | apply Kd.S_alloc | apply Kd.S_drewN | apply Kd.S_drew)); exact Kd.S_mono HO_3.out (fun _ hk => ⟨hk.1.1.1.2, ⟨hk.1.1.2, ⟨hk.1.2, ⟨hk.1.1.1.1, hk.2⟩⟩⟩⟩)), (kX BK450.out), (kX BK465.out), GW465.out, GE465.out, NB450_465.out, NB465_450.out, (bX2 HB.out GE450.out GE465.out)⟩)
 }
 {
 skip
 refine box_step ?hg (N := 5) ?hd (cs := #[.slice none 0 0, .slice none 0 0]) (t := 27) ?hr ?_; (case hd => rfl); (case hg => rfl); (case hr => first | (go_simp; done) | (go_simp; rfl))
 intro gb465 hg w14 hbox hb
 replace HO_3 := aM (Kd.S_below (Kd.S_elderB (by (with_reducible repeat (first | apply Kd.S_alloc | apply Kd.S_drewN | apply Kd.S_drew)); exact HO_3.out) gb465 (Nat.le_of_eq hg.symm)) hb)
 replace HO457 := aM (Kd.R_below (rX HO457.out) hb)
 have BK465 := aM (hbox)
 have GW465 := aM ((szX (below_size (bX1 HB.out GE450.out)) hg : w.heap.size ≤ gb465))
 have GE465 := aM ((szX (below_size (bX1 HB.out GE450.out)) hg : w.heap.size ≤ gb465))
 replace HB := aM (below_step (bX1 HB.out GE450.out) hb)
 have NB450_465 := aM (neX BK450.out hg)
 have NB465_450 := aM (nfX BK450.out hg)
 replace BK450 := aM (bbX BK450.out hb)
 clear hb hbox hg
 obtain ⟨Ao15, co15, eo15⟩ := Kd.R_slice HO457.out
 (first | subst eo15 | (injection eo15 with f1_ f2_ f3_; have f4_ := f1_.symm; have f5_ := f3_.symm; clear f1_ f2_ f3_; subst f4_; subst f5_))
 refine hK.out _ _ ⟨cz20 BK450.out, cz21 BK450.out⟩ (fun hHeld => ?_)
 clear hK K
 refine norm_ (a' := ?_) ?_ ?_
 rotate_left
 {
 show Act.put _ (some 5) _ = _
 simp only [Act.put, zA, zB, zC, i64_w, i32_w]
 rfl
 }
 refine one_ (i := 4) (N := some 19) #[tt,tt,tt,tt,tt,ff,ff,ff,tt,ff,ff] rfl rfl (one_of HT_.out (by kernel_rfl)) (by decide) (fun K hK => ?_)
 refine goes_ Try.func67 (by kernel_rfl) rfl #[.agg #[.slice A0_0 l0_0.length c0_0, .slice A0_1 l0_1.length c0_1], .slice Ao15 t455.length co15] (by rfl) rfl rfl aX ?_
 with_reducible refine (i_RenameSurface.calls k1 _ _ l0_0 _ _ l0_1 _ _ t455 t458 t461 t464 _ ?side1 ?side2 ?side3 ?side4 ?side5 ?side6 A8.out).mono ?_
 (case side1 => exact cX (Kd.C_below HR0_0.out HB.out))
 (case side2 => exact HC0_0.out)
 (case side3 => exact cX (Kd.C_below HR0_1.out HB.out))
 (case side4 => exact HC0_1.out)
 (case side5 => exact cX (Kd.R_reads' HO457.out).2.2)
 (case side6 => exact (Kd.R_reads' HO457.out).2.1)
 rintro e w16 ⟨v459, v462, rfl, ho0, ho1, hb⟩
 refine ⟨_, rfl, ?_⟩
 replace HO_3 := aM (Kd.S_mono (Kd.S_told (Kd.S_told (Kd.S_old (by (with_reducible repeat (first | apply Kd.S_alloc | apply Kd.S_drewN | apply Kd.S_drew)); exact HO_3.out) hb) (Kd.R_base ho0)) (Kd.R_base ho1)) (fun _ h_ => h_.1))
 have HO460 := aM (Kd.R_lower (Kd.R_new' ho0 (Kd.R_lt (rX HO457.out))) (below_size (bX2 HB.out GE450.out GE465.out)))
 have HO463 := aM (Kd.R_lower (Kd.R_new' ho1 (Kd.R_lt (rX HO457.out))) (below_size (bX2 HB.out GE450.out GE465.out)))
 replace HO457 := aM (Kd.R_mono (Kd.R_told (Kd.R_told (Kd.R_old (rX HO457.out) hb) (Kd.R_base ho0)) (Kd.R_base ho1)) (fun _ h_ => h_.1))
 replace BK450 := aM (bbX BK450.out hb)
 replace BK465 := aM (bbX BK465.out hb)
 replace HB := aM (below_step (bX2 HB.out GE450.out GE465.out) hb)
 (try clear hb)
 (try clear hb2)
 (try clear hk)
 (try clear hi)
 (try clear ho0)
 (try clear ho1)
 refine hK.out _ _ ⟨cz20 BK450.out, cz21 BK450.out⟩ (fun hHeld => ?_)
 clear hK K
 refine norm_ (a' := ?_) ?_ ?_
 rotate_left
 {
 show Act.put _ (some 19) _ = _
 simp only [Act.put, zA, zB, zC, i64_w, i32_w]
 rfl
 }
 refine pX 5 14 (fl 11 319) rfl rfl HT_.out ?_
 refine pX 6 20 (fl 11 383) rfl rfl HT_.out ?_
 refine pX 7 21 (fl 11 511) rfl rfl HT_.out ?_
 exact norm_ (by simp only [putAll, Act.put, List.setIfInBounds_toArray, List.set_cons_zero, List.set_cons_succ]) (hCont (.slice Ao15 t455.length co15, v459, v462, gb465) _ ⟨hHeld, (rM HO457.out (fun _ hk => ⟨hk.1.2, hk.2⟩)), (rM HO460.out (fun _ hk => ⟨hk.2, hk.1⟩)), (rM HO463.out (fun _ hk => ⟨hk.2, hk.1⟩)), (by (with_reducible repeat (first | apply Kd.S_alloc | apply Kd.S_drewN | apply Kd.S_drew)); exact Kd.S_mono HO_3.out (fun _ hk => ⟨hk.1.1.1.2, ⟨hk.1.2, ⟨hk.2, ⟨hk.1.1.1.1, hk.1.1.2⟩⟩⟩⟩)), (kX BK450.out), (kX BK465.out), GW465.out, GE465.out, NB450_465.out, NB465_450.out, (bX2 HB.out GE450.out GE465.out)⟩)
 }
 }
 {
 skip
 refine box_step ?hg (N := 5) ?hd (cs := #[.slice none 0 0, .slice none 0 0]) (t := 27) ?hr ?_; (case hd => rfl); (case hg => rfl); (case hr => first | (go_simp; done) | (go_simp; rfl))
 intro gb465 hg w13 hbox hb
 replace HO_3 := aM (Kd.S_below (Kd.S_elderB (by (with_reducible repeat (first | apply Kd.S_alloc | apply Kd.S_drewN | apply Kd.S_drew)); exact HO_3.out) gb465 (Nat.le_of_eq hg.symm)) hb)
 have BK465 := aM (hbox)
 have GW465 := aM ((szX (below_size (bX1 HB.out GE450.out)) hg : w.heap.size ≤ gb465))
 have GE465 := aM ((szX (below_size (bX1 HB.out GE450.out)) hg : w.heap.size ≤ gb465))
 replace HB := aM (below_step (bX1 HB.out GE450.out) hb)
 have NB450_465 := aM (neX BK450.out hg)
 have NB465_450 := aM (nfX BK450.out hg)
 replace BK450 := aM (bbX BK450.out hb)
 clear hb hbox hg
 refine hK.out _ _ ⟨cz20 BK450.out, cz21 BK450.out⟩ (fun hHeld => ?_)
 clear hK K
 refine norm_ (a' := ?_) ?_ ?_
 rotate_left
 {
 show Act.put _ (some 5) _ = _
 simp only [Act.put, zA, zB, zC, i64_w, i32_w]
 rfl
 }
 refine one_ (i := 3) (N := some 18) #[tt,tt,tt,tt,ff,ff,ff,ff,tt,ff,ff] rfl rfl (one_of HT_.out (by kernel_rfl)) (by decide) (fun K hK => ?_)
 refine goes_ Try.func68 (by kernel_rfl) rfl #[.agg #[.slice A0_0 l0_0.length c0_0, .slice A0_1 l0_1.length c0_1], .int .i64 x4_1] (by rfl) rfl rfl aX ?_
 with_reducible refine (i_NamesFrom.calls k1 _ _ l0_0 _ _ l0_1 x4_1 t455 _ ?side1 ?side2 ?side3 ?side4 A7.out).mono ?_
 (case side1 => exact cX (Kd.C_below HR0_0.out HB.out))
 (case side2 => exact HC0_0.out)
 (case side3 => exact cX (Kd.C_below HR0_1.out HB.out))
 (case side4 => exact HC0_1.out)
 rintro e w14 ⟨v456, rfl, ho0, hb⟩
 refine ⟨_, rfl, ?_⟩
 replace HO_3 := aM (Kd.S_elder' (by (with_reducible repeat (first | apply Kd.S_alloc | apply Kd.S_drewN | apply Kd.S_drew)); exact HO_3.out) (Kd.R_base ho0) hb)
 have HO457 := aM (Kd.R_lower ho0 (below_size (bX2 HB.out GE450.out GE465.out)))
 replace BK450 := aM (bbX BK450.out hb)
 replace BK465 := aM (bbX BK465.out hb)
 replace HB := aM (below_step (bX2 HB.out GE450.out GE465.out) hb)
 (try clear hb)
 (try clear hb2)
 (try clear hk)
 (try clear hi)
 (try clear ho0)
 obtain ⟨Ao15, co15, eo15⟩ := Kd.R_slice HO457.out
 (first | subst eo15 | (injection eo15 with f1_ f2_ f3_; have f4_ := f1_.symm; have f5_ := f3_.symm; clear f1_ f2_ f3_; subst f4_; subst f5_))
 refine hK.out _ _ ⟨cz20 BK450.out, cz21 BK450.out⟩ (fun hHeld => ?_)
 clear hK K
 refine norm_ (a' := ?_) ?_ ?_
 rotate_left
 {
 show Act.put _ (some 18) _ = _
 simp only [Act.put, zA, zB, zC, i64_w, i32_w]
 rfl
 }
 refine one_ (i := 4) (N := some 19) #[tt,tt,tt,tt,tt,ff,ff,ff,tt,ff,ff] rfl rfl (one_of HT_.out (by kernel_rfl)) (by decide) (fun K hK => ?_)
 refine goes_ Try.func67 (by kernel_rfl) rfl #[.agg #[.slice A0_0 l0_0.length c0_0, .slice A0_1 l0_1.length c0_1], .slice Ao15 t455.length co15] (by rfl) rfl rfl aX ?_
 with_reducible refine (i_RenameSurface.calls k1 _ _ l0_0 _ _ l0_1 _ _ t455 t458 t461 t464 _ ?side1 ?side2 ?side3 ?side4 ?side5 ?side6 A8.out).mono ?_
 (case side1 => exact cX (Kd.C_below HR0_0.out HB.out))
 (case side2 => exact HC0_0.out)
 (case side3 => exact cX (Kd.C_below HR0_1.out HB.out))
 (case side4 => exact HC0_1.out)
 (case side5 => exact cX (Kd.R_reads' HO457.out).2.2)
 (case side6 => exact (Kd.R_reads' HO457.out).2.1)
 rintro e w16 ⟨v459, v462, rfl, ho0, ho1, hb⟩
 refine ⟨_, rfl, ?_⟩
 replace HO_3 := aM (Kd.S_mono (Kd.S_told (Kd.S_told (Kd.S_old (by (with_reducible repeat (first | apply Kd.S_alloc | apply Kd.S_drewN | apply Kd.S_drew)); exact HO_3.out) hb) (Kd.R_base ho0)) (Kd.R_base ho1)) (fun _ h_ => h_.1))
 have HO460 := aM (Kd.R_lower (Kd.R_new' ho0 (Kd.R_lt (rX HO457.out))) (below_size (bX2 HB.out GE450.out GE465.out)))
 have HO463 := aM (Kd.R_lower (Kd.R_new' ho1 (Kd.R_lt (rX HO457.out))) (below_size (bX2 HB.out GE450.out GE465.out)))
 replace HO457 := aM (Kd.R_mono (Kd.R_told (Kd.R_told (Kd.R_old (rX HO457.out) hb) (Kd.R_base ho0)) (Kd.R_base ho1)) (fun _ h_ => h_.1))
 replace BK450 := aM (bbX BK450.out hb)
 replace BK465 := aM (bbX BK465.out hb)
 replace HB := aM (below_step (bX2 HB.out GE450.out GE465.out) hb)
 (try clear hb)
 (try clear hb2)
 (try clear hk)
 (try clear hi)
 (try clear ho0)
 (try clear ho1)
 refine hK.out _ _ ⟨cz20 BK450.out, cz21 BK450.out⟩ (fun hHeld => ?_)
 clear hK K
 refine norm_ (a' := ?_) ?_ ?_
 rotate_left
 {
 show Act.put _ (some 19) _ = _
 simp only [Act.put, zA, zB, zC, i64_w, i32_w]
 rfl
 }
 refine pX 5 14 (fl 11 319) rfl rfl HT_.out ?_
 refine pX 6 20 (fl 11 383) rfl rfl HT_.out ?_
 refine pX 7 21 (fl 11 511) rfl rfl HT_.out ?_
 exact norm_ (by simp only [putAll, Act.put, List.setIfInBounds_toArray, List.set_cons_zero, List.set_cons_succ]) (hCont (.slice Ao15 t455.length co15, v459, v462, gb465) _ ⟨hHeld, (rM HO457.out (fun _ hk => ⟨hk.1.2, hk.2⟩)), (rM HO460.out (fun _ hk => ⟨hk.2, hk.1⟩)), (rM HO463.out (fun _ hk => ⟨hk.2, hk.1⟩)), (by (with_reducible repeat (first | apply Kd.S_alloc | apply Kd.S_drewN | apply Kd.S_drew)); exact Kd.S_mono HO_3.out (fun _ hk => ⟨hk.1.1.2, ⟨hk.1.2, ⟨hk.2, ⟨hk.1.1.1.1, hk.1.1.1.2⟩⟩⟩⟩)), (kX BK450.out), (kX BK465.out), GW465.out, GE465.out, NB450_465.out, NB465_450.out, (bX2 HB.out GE450.out GE465.out)⟩)
 }
 }
 rintro ⟨v456, v459, v462, gb465⟩ w17 ⟨hS_, h0_, h1_, h2_, h3_, h4_, h5_, h6_, h7_, h8_, h9_, h10_⟩
 have n0_ : Aside0 (Kd.R (Kd.int .i64) 3 w17 w.heap.size (fun k_ => some k_ ≠ (v459 : Value).ownBlock ∧ some k_ ≠ (v462 : Value).ownBlock) v456 t455) := ⟨h0_⟩
 have n1_ : Aside0 (Kd.R (Kd.int .i64) 3 w17 w.heap.size (fun k_ => some k_ ≠ (v456 : Value).ownBlock ∧ some k_ ≠ (v462 : Value).ownBlock) v459 t458) := ⟨h1_⟩
 have n2_ : Aside0 (Kd.R (Kd.int .i64) 3 w17 w.heap.size (fun k_ => some k_ ≠ (v456 : Value).ownBlock ∧ some k_ ≠ (v459 : Value).ownBlock) v462 t461) := ⟨h2_⟩
 have n3_ : Aside0 (Kd.S k27 27 w17 w.heap.size (fun k_ => some k_ ≠ (v456 : Value).ownBlock ∧ some k_ ≠ (v459 : Value).ownBlock ∧ some k_ ≠ (v462 : Value).ownBlock ∧ k_ ≠ gb450 ∧ k_ ≠ gb465) u3 x3_1) := ⟨h3_⟩
 have n4_ : Aside0 (w17.heap[gb450]? = some (.cells #[.slice A0_0 l0_0.length c0_0, .slice A0_1 l0_1.length c0_1] 27 (0, 0))) := ⟨h4_⟩
 have n5_ : Aside0 (w17.heap[gb465]? = some (.cells #[.slice none 0 0, .slice none 0 0] 27 (0, 0))) := ⟨h5_⟩
 have n6_ : Aside0 (w.heap.size ≤ gb465) := ⟨h6_⟩
 have n7_ : Aside0 (w.heap.size ≤ gb465) := ⟨h7_⟩
 have n8_ : Aside0 (gb450 ≠ gb465) := ⟨h8_⟩
 have n9_ : Aside0 (gb465 ≠ gb450) := ⟨h9_⟩
 have n10_ : Aside0 (Below w.heap.size w w17) := ⟨h10_⟩
 clear HO_3 BK450 HB h0_ h1_ h2_ h3_ h4_ h5_ h6_ h7_ h8_ h9_ h10_
 have HO457 := n0_
 have HO460 := n1_
 have HO463 := n2_
 have HO_3 := n3_
 have BK450 := n4_
 have BK465 := n5_
 have GW465 := n6_
 have GE465 := n7_
 have NB450_465 := n8_
 have NB465_450 := n9_
 have HB := n10_
 clear n0_ n1_ n2_ n3_ n4_ n5_ n6_ n7_ n8_ n9_ n10_
 have hHeld : w17.cell? ⟨gb450, 0, none⟩ = some (.slice A0_0 l0_0.length c0_0) ∧ w17.cell? ⟨gb450, 1, none⟩ = some (.slice A0_1 l0_1.length c0_1) := hS_
 obtain ⟨Ao18, co18, eo18⟩ := Kd.R_slice HO460.out
 (first | subst eo18 | (injection eo18 with f1_ f2_ f3_; have f4_ := f1_.symm; have f5_ := f3_.symm; clear f1_ f2_ f3_; subst f4_; subst f5_))
 obtain ⟨Ao20, co20, eo20⟩ := Kd.R_slice HO463.out
 (first | subst eo20 | (injection eo20 with f1_ f2_ f3_; have f4_ := f1_.symm; have f5_ := f3_.symm; clear f1_ f2_ f3_; subst f4_; subst f5_))
 refine norm_ (a' := ?_) ?_ ?_
 rotate_left
 {
 simp only [putAll, Act.put, List.setIfInBounds_toArray, List.set_cons_zero, List.set_cons_succ]
 rfl
 }
 refine one_ (i := 9) (N := none) #[tt,tt,tt,tt,tt,tt,tt,tt,tt,tt,ff] rfl rfl (one_of HT_.out (by kernel_rfl)) (by decide) (fun K hK => ?_)
 have hs19 : w17.cell? ⟨gb465, 0, none⟩ = some (.slice none 0 0) := cz20 BK465.out
 have hfs19 := blk_frozen BK465.out 0
 have hns19_0 := NB450_465.out
 have hms19_0 := NB465_450.out
 have hs21 : w17.cell? ⟨gb465, 1, none⟩ = some (.slice none 0 0) := cz21 BK465.out
 have hfs21 := blk_frozen BK465.out 1
 have hns21_0 := NB450_465.out
 have hms21_0 := NB465_450.out
 refine skip_ (w1 := ?_) (by rfl) rfl ?_ ?_
 rotate_left
 {
 go_simp
 rfl
 }
 refine hK.out _ _ ⟨((cell_far (p := ⟨gb465, _, none⟩) NB450_465.out _).trans (((cell_far (p := ⟨gb465, _, none⟩) NB450_465.out _).trans (hHeld.1)))), ((cell_far (p := ⟨gb465, _, none⟩) NB450_465.out _).trans (((cell_far (p := ⟨gb465, _, none⟩) NB450_465.out _).trans (hHeld.2))))⟩ (fun hHeld => ?_)
 clear hK K
 refine pX 10 6 (fl 11 2047) rfl rfl HT_.out ?_
 refine done_ (done_of HT_.out (by kernel_rfl)) ?_
 have n0_ : Aside0 (Kd.S k27 27 ((w17.setCell ⟨gb465, 0, none⟩ (.slice Ao18 t458.length co18)).setCell ⟨gb465, 1, none⟩ (.slice Ao20 t461.length co20)) w.heap.size (fun k_ => some k_ ≠ (v456 : Value).ownBlock ∧ some k_ ≠ (.slice Ao18 t458.length co18 : Value).ownBlock ∧ some k_ ≠ (.slice Ao20 t461.length co20 : Value).ownBlock ∧ k_ ≠ gb450 ∧ k_ ≠ gb465) u3 x3_1) := ⟨by (with_reducible repeat (first | apply Kd.S_alloc | apply Kd.S_drewN | apply Kd.S_drew)); exact Kd.S_mono (Kd.S_far (p := ⟨gb465, 1, none⟩) (Kd.S_far (p := ⟨gb465, 0, none⟩) (Kd.S_mono HO_3.out (fun k_ hk => (⟨hk, hk.2.2.2.2⟩ : _ ∧ k_ ≠ gb465))) (fun _ hk => hk.2) (.slice Ao18 t458.length co18)) (fun _ hk => hk.2) (.slice Ao20 t461.length co20)) (fun _ hk => ⟨hk.1.1, ⟨hk.1.2.1, ⟨hk.1.2.2.1, ⟨hk.1.2.2.2.1, hk.1.2.2.2.2⟩⟩⟩⟩)⟩
 have n1_ : Aside0 (Kd.R (Kd.int .i64) 3 ((w17.setCell ⟨gb465, 0, none⟩ (.slice Ao18 t458.length co18)).setCell ⟨gb465, 1, none⟩ (.slice Ao20 t461.length co20)) w.heap.size (fun k_ => some k_ ≠ (.slice Ao18 t458.length co18 : Value).ownBlock ∧ some k_ ≠ (.slice Ao20 t461.length co20 : Value).ownBlock) v456 t455) := ⟨by (with_reducible repeat (first|apply rA|apply rN|apply rD)); exact Kd.R_mono (Kd.R_far (p := ⟨gb465, 1, none⟩) (Kd.R_far (p := ⟨gb465, 0, none⟩) (Kd.R_types HO457.out BK465.out (by decide)) (fun _ hk => hk.2) (.slice Ao18 t458.length co18)) (fun _ hk => hk.2) (.slice Ao20 t461.length co20)) (fun _ hk => ⟨hk.1.1, hk.1.2⟩)⟩
 have n2_ : Aside0 (Kd.R (Kd.int .i64) 3 ((w17.setCell ⟨gb465, 0, none⟩ (.slice Ao18 t458.length co18)).setCell ⟨gb465, 1, none⟩ (.slice Ao20 t461.length co20)) w.heap.size (fun k_ => some k_ ≠ (v456 : Value).ownBlock ∧ some k_ ≠ (.slice Ao20 t461.length co20 : Value).ownBlock) (.slice Ao18 t458.length co18) t458) := ⟨by (with_reducible repeat (first|apply rA|apply rN|apply rD)); exact Kd.R_mono (Kd.R_far (p := ⟨gb465, 1, none⟩) (Kd.R_far (p := ⟨gb465, 0, none⟩) (Kd.R_types HO460.out BK465.out (by decide)) (fun _ hk => hk.2) (.slice Ao18 t458.length co18)) (fun _ hk => hk.2) (.slice Ao20 t461.length co20)) (fun _ hk => ⟨hk.1.1, hk.1.2⟩)⟩
 have n3_ : Aside0 (Kd.R (Kd.int .i64) 3 ((w17.setCell ⟨gb465, 0, none⟩ (.slice Ao18 t458.length co18)).setCell ⟨gb465, 1, none⟩ (.slice Ao20 t461.length co20)) w.heap.size (fun k_ => some k_ ≠ (v456 : Value).ownBlock ∧ some k_ ≠ (.slice Ao18 t458.length co18 : Value).ownBlock) (.slice Ao20 t461.length co20) t461) := ⟨by (with_reducible repeat (first|apply rA|apply rN|apply rD)); exact Kd.R_mono (Kd.R_far (p := ⟨gb465, 1, none⟩) (Kd.R_far (p := ⟨gb465, 0, none⟩) (Kd.R_types HO463.out BK465.out (by decide)) (fun _ hk => hk.2) (.slice Ao18 t458.length co18)) (fun _ hk => hk.2) (.slice Ao20 t461.length co20)) (fun _ hk => ⟨hk.1.1, hk.1.2⟩)⟩
 have n4_ : Aside0 (((w17.setCell ⟨gb465, 0, none⟩ (.slice Ao18 t458.length co18)).setCell ⟨gb465, 1, none⟩ (.slice Ao20 t461.length co20)).heap[gb450]? = some (.cells #[.slice A0_0 l0_0.length c0_0, .slice A0_1 l0_1.length c0_1] 27 (0, 0))) := ⟨by (with_reducible repeat (first|refine kN ?_ _|refine kD ?_|refine kA ?_ _)); refine blk_far ?_ NB450_465.out _; (with_reducible repeat (first|refine kN ?_ _|refine kD ?_|refine kA ?_ _)); refine blk_far ?_ NB450_465.out _; (with_reducible repeat (first|refine kN ?_ _|refine kD ?_|refine kA ?_ _)); exact BK450.out⟩
 have n5_ : Aside0 (((w17.setCell ⟨gb465, 0, none⟩ (.slice Ao18 t458.length co18)).setCell ⟨gb465, 1, none⟩ (.slice Ao20 t461.length co20)).heap[gb465]? = some (.cells #[.slice Ao18 t458.length co18, .slice Ao20 t461.length co20] 27 (0, 0))) := ⟨by (with_reducible repeat (first|refine kN ?_ _|refine kD ?_|refine kA ?_ _)); refine blk_put (cs := #[.slice Ao18 t458.length co18, .slice none 0 0]) ?_ 1 _ rfl; (with_reducible repeat (first|refine kN ?_ _|refine kD ?_|refine kA ?_ _)); refine blk_put (cs := #[.slice none 0 0, .slice none 0 0]) ?_ 0 _ rfl; (with_reducible repeat (first|refine kN ?_ _|refine kD ?_|refine kA ?_ _)); exact BK465.out⟩
 have n6_ : Aside0 (Below w.heap.size w ((w17.setCell ⟨gb465, 0, none⟩ (.slice Ao18 t458.length co18)).setCell ⟨gb465, 1, none⟩ (.slice Ao20 t461.length co20))) := ⟨bX2 HB.out GE450.out GE465.out⟩
 (try clear HO_3)
 (try clear HO457)
 (try clear HO460)
 (try clear HO463)
 (try clear BK450)
 (try clear BK465)
 (try clear HB)
 generalize ((w17.setCell ⟨gb465, 0, none⟩ (.slice Ao18 t458.length co18)).setCell ⟨gb465, 1, none⟩ (.slice Ao20 t461.length co20)) = w22 at n0_ n1_ n2_ n3_ n4_ n5_ n6_ ⊢
 have HO_3 := n0_
 have HO457 := n1_
 have HO460 := n2_
 have HO463 := n3_
 have BK450 := n4_
 have BK465 := n5_
 have HB := n6_
 clear n0_ n1_ n2_ n3_ n4_ n5_ n6_
 have hnb23 := NB465_450.out
 have hnc23 := NB450_465.out
 have hcz24_0 := cz20 BK465.out
 have hcz24_1 := cz21 BK465.out
 have hfz24_0 := blk_frozen BK465.out 0
 have hfz24_1 := blk_frozen BK465.out 1
 try go_wp2_with (first | ((with_reducible refine gate_builtin (b := .append) (xs := #[.tmp 22, .tmp 24]) rfl ?_); at_builtin; refine Kd.S_append k27 (w0 := w) w.heap.size rfl (.tmp 22) (.tmp 24) 74 27 (.agg #[(.slice none 0 0), (.slice none 0 0)]) 48 rfl Try.underlying74 info27 rfl (by decide) (by omega) u3 x3_1 (⟨t458, t461⟩ : S27) [.slice Ao18 t458.length co18, .slice Ao20 t461.length co20] (fun k_ => some k_ ≠ (v456 : Value).ownBlock ∧ k_ ≠ gb450 ∧ k_ ≠ gb465) (fun k_ => some k_ = (.slice Ao18 t458.length co18 : Value).ownBlock ∨ some k_ = (.slice Ao20 t461.length co20 : Value).ownBlock) rfl rfl ?aP (fun k_ hk_ => hk_.elim (fun h_ => ((Kd.R_mono (ok' := fun k_ => ((fun k_ => some k_ ≠ (v456 : Value).ownBlock ∧ k_ ≠ gb450 ∧ k_ ≠ gb465)) k_ ∧ some k_ ≠ (u3 : Value).ownBlock) (Kd.R_types (Kd.R_types (Kd.R_apart' (HO460.out) (Kd.S_typed HO_3.out) (by decide)) BK450.out (by decide)) BK465.out (by decide)) (fun k_ hk => ⟨⟨hk.1.1.1.1, ⟨hk.1.2, hk.2⟩⟩, hk.1.1.2⟩))).1 k_ h_.symm) (fun h_ => ((Kd.R_mono (ok' := fun k_ => ((fun k_ => some k_ ≠ (v456 : Value).ownBlock ∧ k_ ≠ gb450 ∧ k_ ≠ gb465)) k_ ∧ some k_ ≠ (u3 : Value).ownBlock) (Kd.R_types (Kd.R_types (Kd.R_apart' (HO463.out) (Kd.S_typed HO_3.out) (by decide)) BK450.out (by decide)) BK465.out (by decide)) (fun k_ hk => ⟨⟨hk.1.1.1.1, ⟨hk.1.2, hk.2⟩⟩, hk.1.1.2⟩))).1 k_ h_.symm)) ?aF ?aO ?aB ?aS ?aL ?_; (case aP => exact k27_mkM _ _ _ (⟨t458, t461⟩ : S27) (Kd.R_mono (Kd.R_tight rfl (Kd.R_mono (ok' := fun k_ => ((fun k_ => some k_ ≠ (v456 : Value).ownBlock ∧ k_ ≠ gb450 ∧ k_ ≠ gb465)) k_ ∧ some k_ ≠ (u3 : Value).ownBlock) (Kd.R_types (Kd.R_types (Kd.R_apart' (HO460.out) (Kd.S_typed HO_3.out) (by decide)) BK450.out (by decide)) BK465.out (by decide)) (fun k_ hk => ⟨⟨hk.1.1.1.1, ⟨hk.1.2, hk.2⟩⟩, hk.1.1.2⟩))) (fun _ h_ => Or.inl h_)) (Kd.R_mono (Kd.R_tight rfl (Kd.R_mono (ok' := fun k_ => ((fun k_ => some k_ ≠ (v456 : Value).ownBlock ∧ k_ ≠ gb450 ∧ k_ ≠ gb465)) k_ ∧ some k_ ≠ (u3 : Value).ownBlock) (Kd.R_types (Kd.R_types (Kd.R_apart' (HO463.out) (Kd.S_typed HO_3.out) (by decide)) BK450.out (by decide)) BK465.out (by decide)) (fun k_ hk => ⟨⟨hk.1.1.1.1, ⟨hk.1.2, hk.2⟩⟩, hk.1.1.2⟩))) (fun _ h_ => Or.inr (h_)))); (case aB => exact (bX2 HB.out GE450.out GE465.out)); (case aF => exact (fun k_ hk => ⟨Kd.fresh' (Kd.R_lt (rX HO457.out)) k_ hk, Kd.freshB (g := gb450) (o := .cells #[.slice A0_0 l0_0.length c0_0, .slice A0_1 l0_1.length c0_1] 27 (0, 0)) (kX BK450.out) k_ hk, Kd.freshB (g := gb465) (o := .cells #[.slice Ao18 t458.length co18, .slice Ao20 t461.length co20] 27 (0, 0)) (kX BK465.out) k_ hk⟩)); (case aO => exact (by (with_reducible repeat (first | apply Kd.S_alloc | apply Kd.S_drewN | apply Kd.S_drew)); exact Kd.S_mono HO_3.out (fun k_ hk => ⟨⟨hk.1, ⟨hk.2.2.2.1, hk.2.2.2.2⟩⟩, fun e_ => e_.elim (fun h_ => hk.2.1 h_) (fun h_ => hk.2.2.1 h_)⟩))); (case aS => exact (below_size (bX2 HB.out GE450.out GE465.out))); (case aL => have := LMc9.out; omega); intro v467 w25 ho hb hg hat; rw [← Ny466.out] at ho; replace BK450 := aM (bgX BK450.out hg (Kd.S_away HO_3.out (fun _ hk => hk.2.2.2.1))); replace HO457 := aM (Kd.R_over' (rX HO457.out) (Kd.S_typed (by (with_reducible repeat (first | apply Kd.S_alloc | apply Kd.S_drewN | apply Kd.S_drew)); exact HO_3.out)) (by decide) hg); replace BK465 := aM (bgX BK465.out hg (Kd.S_away HO_3.out (fun _ hk => hk.2.2.2.2))); replace HB := aM (hb); have HO468 := aM (ho); clear HO_3 HO460 HO463 ho hb hg hat))
 go_roundg k1
 case measure => have := HK1.out; omega
 case rel => exact ⟨(y466), (wrap64 (x4_1 + 1)), vX, H', ⟨by have := HK1.out; omega⟩, ⟨by (with_reducible repeat (first | apply Kd.S_alloc | apply Kd.S_drewN | apply Kd.S_drew)); exact Kd.S_mono HO468.out (fun _ hk => hk.2.1)⟩, ⟨kX BK450.out⟩, ⟨bX2 HB.out GE450.out GE465.out⟩⟩
 }
 {
 rw [if_neg c9] at H
 exact absurd H (by simp)
 }
 }
 {
 rw [if_neg c6] at H
 have c6b0 : decide (x4_1 < t454) = false := decide_eq_false c6
 clear c6
 obtain rfl := Option.some.inj H
 have hcz26_0 := cz20 BK450.out
 have hcz26_1 := cz21 BK450.out
 have hfz26_0 := blk_frozen BK450.out 0
 have hfz26_1 := blk_frozen BK450.out 1
 go_wp2_with (first | ((with_reducible refine gate_callee (f := 8) rfl ?_); refine goesL_ (some 10) rfl rfl Try.func8 (by kernel_rfl) rfl #[.agg #[.slice A0_0 l0_0.length c0_0, .slice A0_1 l0_1.length c0_1]] rfl aX ?_; (with_reducible refine (i_CountSquares.calls k1 _ _ l0_0 _ _ l0_1 t454 _ ?side1 ?side2 ?side3 ?side4 A5.out).mono ?_); (case side1 => exact cX (Kd.C_below HR0_0.out HB.out)); (case side2 => exact HC0_0.out); (case side3 => exact cX (Kd.C_below HR0_1.out HB.out)); (case side4 => exact HC0_1.out); rintro e w27 ⟨rfl, hb⟩; refine ⟨_, rfl, ?_⟩; replace HO_3 := aM (Kd.S_below (by (with_reducible repeat (first | apply Kd.S_alloc | apply Kd.S_drewN | apply Kd.S_drew)); exact HO_3.out) hb); replace BK450 := aM (bbX BK450.out hb); replace HB := aM (below_step (bX1 HB.out GE450.out) hb); (try clear hb); (try clear hb2); (try clear hk); (try clear hi)))
 go_ret
 exact ⟨_, eX, by (with_reducible repeat (first | apply Kd.S_alloc | apply Kd.S_drewN | apply Kd.S_drew)); exact Kd.S_mono HO_3.out (fun _ hk => trivial), bX1 HB.out GE450.out⟩
 }

/-! ### cmp_isNaN_int: function 80 -/
def cmp_isNaN_int.f (a0 : Int) : Option (Bool) := some (a0 != a0)
theorem cmp_isNaN_int.calls (a0 : Int) (r : Bool) (w : World) (h : cmp_isNaN_int.f a0 = some r) :
  Calls Try.prog 80 #[.int .i64 a0] w fun e w' => e = .returned (.bool r) ∧ Drawn0 w w' := by
 have H : (some (a0 != a0)) = some r := h
 clear h
 obtain rfl := Option.some.inj H
 go_enter Try.func80, Try.ntmps80
 go_wp2
 go_ret
 exact ⟨by first | rfl | (simp; done) | (simp [*]; done), by repeat (first | exact Drawn0.refl _ | apply Drawn0.step)⟩

/-! ### cmp_Compare_int: function 78 -/
def cmp_Compare_int.f (a0 : Int) (a1 : Int) : Option (Int) := (cmp_isNaN_int.f a0).bind fun t469 => ((cmp_isNaN_int.f a1).bind fun t470 => (if t469 = true then (if t470 = true then (some 0) else (some (-1))) else (if t470 = true then (some 1) else (if a0 < a1 then (some (-1)) else (if a0 > a1 then (some 1) else (some 0))))))
theorem cmp_Compare_int.calls (a0 : Int) (a1 : Int) (r : Int) (w : World) (h : cmp_Compare_int.f a0 a1 = some r) :
  Calls Try.prog 78 #[.int .i64 a0, .int .i64 a1] w fun e w' => e = .returned (.int .i64 r) ∧ Drawn0 w w' := by
 have H : ((cmp_isNaN_int.f a0).bind fun t469 => ((cmp_isNaN_int.f a1).bind fun t470 => (if t469 = true then (if t470 = true then (some 0) else (some (-1))) else (if t470 = true then (some 1) else (if a0 < a1 then (some (-1)) else (if a0 > a1 then (some 1) else (some 0))))))) = some r := h
 clear h
 replace H := oB H
 obtain ⟨t469, A30, H⟩ := H
 replace H : ((cmp_isNaN_int.f a1).bind fun t470 => (if t469 = true then (if t470 = true then (some 0) else (some (-1))) else (if t470 = true then (some 1) else (if a0 < a1 then (some (-1)) else (if a0 > a1 then (some 1) else (some 0)))))) = some r := H
 have A3 := aM A30
 clear A30
 replace H := oB H
 obtain ⟨t470, A40, H⟩ := H
 replace H : (if t469 = true then (if t470 = true then (some 0) else (some (-1))) else (if t470 = true then (some 1) else (if a0 < a1 then (some (-1)) else (if a0 > a1 then (some 1) else (some 0))))) = some r := H
 have A4 := aM A40
 clear A40
 by_cases c5 : t469 = true
 {
 subst c5
 have H1 : (if t470 = true then (some 0) else (some (-1))) = some r := by rw [if_pos rfl] at H; exact H
 clear H
 have H := H1
 clear H1
 by_cases c6 : t470 = true
 {
 subst c6
 have H1 : (some 0) = some r := by rw [if_pos rfl] at H; exact H
 clear H
 have H := H1
 clear H1
 obtain rfl := Option.some.inj H
 go_enter Try.func78, Try.ntmps78
 go_wp2_with (first | ((with_reducible refine gate_callee (f := 80) rfl ?_); refine goesL_ (some 8) rfl rfl Try.func80 (by kernel_rfl) rfl #[.int .i64 a0] rfl aX ?_; (with_reducible refine (cmp_isNaN_int.calls a0 true _ A3.out).mono ?_); rintro e w' ⟨rfl, ⟨nd, rfl⟩⟩; refine ⟨_, rfl, ?_⟩) | ((with_reducible refine gate_callee (f := 80) rfl ?_); refine goesL_ (some 10) rfl rfl Try.func80 (by kernel_rfl) rfl #[.int .i64 a1] rfl aX ?_; (with_reducible refine (cmp_isNaN_int.calls a1 true _ A4.out).mono ?_); rintro e w' ⟨rfl, ⟨nd, rfl⟩⟩; refine ⟨_, rfl, ?_⟩))
 go_ret
 exact ⟨by first | rfl | (simp; done) | (simp [*]; done), by repeat (first | exact Drawn0.refl _ | apply Drawn0.step)⟩
 }
 {
 replace c6 := Bool.eq_false_iff.mpr c6
 subst c6
 have H1 : (some (-1)) = some r := by rw [if_neg (show ¬ (false = true) by decide)] at H; exact H
 clear H
 have H := H1
 clear H1
 obtain rfl := Option.some.inj H
 go_enter Try.func78, Try.ntmps78
 go_wp2_with (first | ((with_reducible refine gate_callee (f := 80) rfl ?_); refine goesL_ (some 8) rfl rfl Try.func80 (by kernel_rfl) rfl #[.int .i64 a0] rfl aX ?_; (with_reducible refine (cmp_isNaN_int.calls a0 true _ A3.out).mono ?_); rintro e w' ⟨rfl, ⟨nd, rfl⟩⟩; refine ⟨_, rfl, ?_⟩) | ((with_reducible refine gate_callee (f := 80) rfl ?_); refine goesL_ (some 10) rfl rfl Try.func80 (by kernel_rfl) rfl #[.int .i64 a1] rfl aX ?_; (with_reducible refine (cmp_isNaN_int.calls a1 false _ A4.out).mono ?_); rintro e w' ⟨rfl, ⟨nd, rfl⟩⟩; refine ⟨_, rfl, ?_⟩))
 go_ret
 exact ⟨by first | rfl | (simp; done) | (simp [*]; done), by repeat (first | exact Drawn0.refl _ | apply Drawn0.step)⟩
 }
 }
 {
 replace c5 := Bool.eq_false_iff.mpr c5
 subst c5
 have H1 : (if t470 = true then (some 1) else (if a0 < a1 then (some (-1)) else (if a0 > a1 then (some 1) else (some 0)))) = some r := by rw [if_neg (show ¬ (false = true) by decide)] at H; exact H
 clear H
 have H := H1
 clear H1
 by_cases c7 : t470 = true
 {
 subst c7
 have H1 : (some 1) = some r := by rw [if_pos rfl] at H; exact H
 clear H
 have H := H1
 clear H1
 obtain rfl := Option.some.inj H
 go_enter Try.func78, Try.ntmps78
 go_wp2_with (first | ((with_reducible refine gate_callee (f := 80) rfl ?_); refine goesL_ (some 8) rfl rfl Try.func80 (by kernel_rfl) rfl #[.int .i64 a0] rfl aX ?_; (with_reducible refine (cmp_isNaN_int.calls a0 false _ A3.out).mono ?_); rintro e w' ⟨rfl, ⟨nd, rfl⟩⟩; refine ⟨_, rfl, ?_⟩) | ((with_reducible refine gate_callee (f := 80) rfl ?_); refine goesL_ (some 10) rfl rfl Try.func80 (by kernel_rfl) rfl #[.int .i64 a1] rfl aX ?_; (with_reducible refine (cmp_isNaN_int.calls a1 true _ A4.out).mono ?_); rintro e w' ⟨rfl, ⟨nd, rfl⟩⟩; refine ⟨_, rfl, ?_⟩))
 go_ret
 exact ⟨by first | rfl | (simp; done) | (simp [*]; done), by repeat (first | exact Drawn0.refl _ | apply Drawn0.step)⟩
 }
 {
 replace c7 := Bool.eq_false_iff.mpr c7
 subst c7
 have H1 : (if a0 < a1 then (some (-1)) else (if a0 > a1 then (some 1) else (some 0))) = some r := by rw [if_neg (show ¬ (false = true) by decide)] at H; exact H
 clear H
 have H := H1
 clear H1
 by_cases c8 : a0 < a1
 {
 rw [if_pos c8] at H
 have c8b0 : decide (a0 < a1) = true := decide_eq_true c8
 clear c8
 obtain rfl := Option.some.inj H
 go_enter Try.func78, Try.ntmps78
 go_wp2_with (first | ((with_reducible refine gate_callee (f := 80) rfl ?_); refine goesL_ (some 8) rfl rfl Try.func80 (by kernel_rfl) rfl #[.int .i64 a0] rfl aX ?_; (with_reducible refine (cmp_isNaN_int.calls a0 false _ A3.out).mono ?_); rintro e w' ⟨rfl, ⟨nd, rfl⟩⟩; refine ⟨_, rfl, ?_⟩) | ((with_reducible refine gate_callee (f := 80) rfl ?_); refine goesL_ (some 10) rfl rfl Try.func80 (by kernel_rfl) rfl #[.int .i64 a1] rfl aX ?_; (with_reducible refine (cmp_isNaN_int.calls a1 false _ A4.out).mono ?_); rintro e w' ⟨rfl, ⟨nd, rfl⟩⟩; refine ⟨_, rfl, ?_⟩))
 go_ret
 exact ⟨by first | rfl | (simp; done) | (simp [*]; done), by repeat (first | exact Drawn0.refl _ | apply Drawn0.step)⟩
 }
 {
 rw [if_neg c8] at H
 have c8b0 : decide (a0 < a1) = false := decide_eq_false c8
 clear c8
 by_cases c9 : a0 > a1
 {
 rw [if_pos c9] at H
 have c9b0 : decide (a1 < a0) = true := decide_eq_true c9
 clear c9
 obtain rfl := Option.some.inj H
 go_enter Try.func78, Try.ntmps78
 go_wp2_with (first | ((with_reducible refine gate_callee (f := 80) rfl ?_); refine goesL_ (some 8) rfl rfl Try.func80 (by kernel_rfl) rfl #[.int .i64 a0] rfl aX ?_; (with_reducible refine (cmp_isNaN_int.calls a0 false _ A3.out).mono ?_); rintro e w' ⟨rfl, ⟨nd, rfl⟩⟩; refine ⟨_, rfl, ?_⟩) | ((with_reducible refine gate_callee (f := 80) rfl ?_); refine goesL_ (some 10) rfl rfl Try.func80 (by kernel_rfl) rfl #[.int .i64 a1] rfl aX ?_; (with_reducible refine (cmp_isNaN_int.calls a1 false _ A4.out).mono ?_); rintro e w' ⟨rfl, ⟨nd, rfl⟩⟩; refine ⟨_, rfl, ?_⟩))
 go_ret
 exact ⟨by first | rfl | (simp; done) | (simp [*]; done), by repeat (first | exact Drawn0.refl _ | apply Drawn0.step)⟩
 }
 {
 rw [if_neg c9] at H
 have c9b0 : decide (a1 < a0) = false := decide_eq_false c9
 clear c9
 obtain rfl := Option.some.inj H
 go_enter Try.func78, Try.ntmps78
 go_wp2_with (first | ((with_reducible refine gate_callee (f := 80) rfl ?_); refine goesL_ (some 8) rfl rfl Try.func80 (by kernel_rfl) rfl #[.int .i64 a0] rfl aX ?_; (with_reducible refine (cmp_isNaN_int.calls a0 false _ A3.out).mono ?_); rintro e w' ⟨rfl, ⟨nd, rfl⟩⟩; refine ⟨_, rfl, ?_⟩) | ((with_reducible refine gate_callee (f := 80) rfl ?_); refine goesL_ (some 10) rfl rfl Try.func80 (by kernel_rfl) rfl #[.int .i64 a1] rfl aX ?_; (with_reducible refine (cmp_isNaN_int.calls a1 false _ A4.out).mono ?_); rintro e w' ⟨rfl, ⟨nd, rfl⟩⟩; refine ⟨_, rfl, ?_⟩))
 go_ret
 exact ⟨by first | rfl | (simp; done) | (simp [*]; done), by repeat (first | exact Drawn0.refl _ | apply Drawn0.step)⟩
 }
 }
 }
 }

/-! ### slices_Compare_int_int: function 69 -/
def slices_Compare_int_int.l0 : Nat → List Int → List Int → List Int → Int → Int → Option (Int)
 | 0, _, _, _, _, _ => none
 | k + 1, x0, x1, x9, x10, x11 => if x11 < x10 then (if 0 ≤ x11 then (if x11 < (x9.length : Int) then (if x11 ≥ (x1.length : Int) then (some 1) else (if x11 < (x1.length : Int) then ((cmp_Compare_int.f (rd x9 x11) (rd x1 x11)).bind fun t473 => (if t473 = 0 then (slices_Compare_int_int.l0 k x0 x1 x9 x10 (wrap64 (x11 + 1))) else (some t473))) else (none))) else (none)) else (none)) else (if (x0.length : Int) < (x1.length : Int) then (some (-1)) else (some 0))
def slices_Compare_int_int.f (k : Nat) (l0 : List Int) (l1 : List Int) : Option (Int) := slices_Compare_int_int.l0 k l0 l1 l0 (l0.length : Int) 0
theorem slices_Compare_int_int.calls (k : Nat) (A0 : Option Addr) (c0 : Nat) (l0 : List Int) (A1 : Option Addr) (c1 : Nat) (l1 : List Int) (r : Int) (w : World) (hr0 : Kd.C (Kd.int .i64) w A0 l0.length l0) (hc0 : l0.length ≤ c0) (hr1 : Kd.C (Kd.int .i64) w A1 l1.length l1) (hc1 : l1.length ≤ c1) (h : slices_Compare_int_int.f k l0 l1 = some r) :
  Calls Try.prog 69 #[.slice A0 l0.length c0, .slice A1 l1.length c1] w fun e w' => e = .returned (.int .i64 r) ∧ Drawn0 w w' := by
 have HR0 := aM hr0
 have HC0 := aM hc0
 clear hr0 hc0
 have HR1 := aM hr1
 have HC1 := aM hc1
 clear hr1 hc1
 have H : (slices_Compare_int_int.l0 k l0 l1 l0 (l0.length : Int) 0) = some r := h
 clear h
 have H' := aM H
 clear H
 go_enter Try.func69, Try.ntmps69
 go_wp2
 go_loopg [11] k (fun kq v11 w' => ∃ (x11_1 : Int), v11 = .int .i64 x11_1 ∧ Aside0 (slices_Compare_int_int.l0 kq l0 l1 l0 (l0.length : Int) x11_1 = some r) ∧ Aside0 (kq ≤ k) ∧ Drawn0 w w')
 case atStart => exact ⟨(0), vX, H', ⟨Nat.le_refl _⟩, by repeat (first | exact Drawn0.refl _ | apply Drawn0.step)⟩
 case round =>
 clear H'
 try clear c1
 obtain ⟨x11_1, rfl, HA, HK1, ⟨m1, rfl⟩⟩ := hrel
 cases gk with
 | zero => exact absurd HA.out (by simp [slices_Compare_int_int.l0])
 | succ k1 =>
 have H := HA.out
 clear HA
 simp only [slices_Compare_int_int.l0] at H
 by_cases c3 : x11_1 < (l0.length : Int)
 {
 rw [if_pos c3] at H
 have c3b0 : decide (x11_1 < (l0.length : Int)) = true := decide_eq_true c3
 clear c3
 by_cases c4 : 0 ≤ x11_1
 {
 rw [if_pos c4] at H
 have c4b0 : decide (0 ≤ x11_1) = true := decide_eq_true c4
 clear c4
 by_cases c5 : x11_1 < (l0.length : Int)
 {
 rw [if_pos c5] at H
 have c5b0 : decide (x11_1 < (l0.length : Int)) = true := decide_eq_true c5
 clear c5
 by_cases c6 : x11_1 ≥ (l1.length : Int)
 {
 rw [if_pos c6] at H
 have c6b0 : decide ((l1.length : Int) ≤ x11_1) = true := decide_eq_true c6
 clear c6
 obtain rfl := Option.some.inj H
 have p471 : 0 ≤ (x11_1 : Int) := dX
 have q471 : x11_1 < (l0.length : Int) := dX
 obtain ⟨ad471, e471, hx471_0⟩ := Kd.at_int HR0.out x11_1 p471 q471
 cases e471
 replace p471 := eq_true p471
 replace q471 := eq_true q471
 go_wp2
 go_ret
 exact ⟨by first | rfl | (simp; done) | (simp [*]; done), by repeat (first | exact Drawn0.refl _ | apply Drawn0.step)⟩
 }
 {
 rw [if_neg c6] at H
 have c6b0 : decide ((l1.length : Int) ≤ x11_1) = false := decide_eq_false c6
 clear c6
 by_cases c7 : x11_1 < (l1.length : Int)
 {
 rw [if_pos c7] at H
 have c7b0 : decide (x11_1 < (l1.length : Int)) = true := decide_eq_true c7
 clear c7
 replace H := oB H
 obtain ⟨t473, A80, H⟩ := H
 replace H : (if t473 = 0 then (slices_Compare_int_int.l0 k1 l0 l1 l0 (l0.length : Int) (wrap64 (x11_1 + 1))) else (some t473)) = some r := H
 have A8 := aM A80
 clear A80
 by_cases c9 : t473 = 0
 {
 rw [if_pos c9] at H
 have c9b0 : (t473 == 0) = true := beq_iff_eq.mpr c9
 have c9b1 : (t473 != 0) = false := bne_eq_false_iff_eq.mpr c9
 clear c9
 have H' := aM H
 clear H
 have p471 : 0 ≤ (x11_1 : Int) := dX
 have q471 : x11_1 < (l0.length : Int) := dX
 obtain ⟨ad471, e471, hx471_0⟩ := Kd.at_int HR0.out x11_1 p471 q471
 cases e471
 replace p471 := eq_true p471
 replace q471 := eq_true q471
 have p472 : 0 ≤ (x11_1 : Int) := dX
 have q472 : x11_1 < (l1.length : Int) := dX
 obtain ⟨ad472, e472, hx472_0⟩ := Kd.at_int HR1.out x11_1 p472 q472
 cases e472
 replace p472 := eq_true p472
 replace q472 := eq_true q472
 go_wp2_with (first | ((with_reducible refine gate_callee (f := 78) rfl ?_); refine goesL_ (some 26) rfl rfl Try.func78 (by kernel_rfl) rfl #[.int .i64 (rd l0 x11_1), .int .i64 (rd l1 x11_1)] rfl aX ?_; (with_reducible refine (cmp_Compare_int.calls (rd l0 x11_1) (rd l1 x11_1) t473 _ A8.out).mono ?_); rintro e w' ⟨rfl, ⟨nd, rfl⟩⟩; refine ⟨_, rfl, ?_⟩))
 go_roundg k1
 case measure => have := HK1.out; omega
 case rel => exact ⟨(wrap64 (x11_1 + 1)), vX, H', ⟨by have := HK1.out; omega⟩, by repeat (first | exact Drawn0.refl _ | apply Drawn0.step)⟩
 }
 {
 rw [if_neg c9] at H
 have c9b0 : (t473 == 0) = false := beq_eq_false_iff_ne.mpr c9
 have c9b1 : (t473 != 0) = true := bne_iff_ne.mpr c9
 obtain rfl := Option.some.inj H
 have p471 : 0 ≤ (x11_1 : Int) := dX
 have q471 : x11_1 < (l0.length : Int) := dX
 obtain ⟨ad471, e471, hx471_0⟩ := Kd.at_int HR0.out x11_1 p471 q471
 cases e471
 replace p471 := eq_true p471
 replace q471 := eq_true q471
 have p472 : 0 ≤ (x11_1 : Int) := dX
 have q472 : x11_1 < (l1.length : Int) := dX
 obtain ⟨ad472, e472, hx472_0⟩ := Kd.at_int HR1.out x11_1 p472 q472
 cases e472
 replace p472 := eq_true p472
 replace q472 := eq_true q472
 go_wp2_with (first | ((with_reducible refine gate_callee (f := 78) rfl ?_); refine goesL_ (some 26) rfl rfl Try.func78 (by kernel_rfl) rfl #[.int .i64 (rd l0 x11_1), .int .i64 (rd l1 x11_1)] rfl aX ?_; (with_reducible refine (cmp_Compare_int.calls (rd l0 x11_1) (rd l1 x11_1) t473 _ A8.out).mono ?_); rintro e w' ⟨rfl, ⟨nd, rfl⟩⟩; refine ⟨_, rfl, ?_⟩))
 go_ret
 exact ⟨by first | rfl | (simp; done) | (simp [*]; done), by repeat (first | exact Drawn0.refl _ | apply Drawn0.step)⟩
 }
 }
 {
 rw [if_neg c7] at H
 exact absurd H (by simp)
 }
 }
 }
 {
 rw [if_neg c5] at H
 exact absurd H (by simp)
 }
 }
 {
 rw [if_neg c4] at H
 exact absurd H (by simp)
 }
 }
 {
 rw [if_neg c3] at H
 have c3b0 : decide (x11_1 < (l0.length : Int)) = false := decide_eq_false c3
 clear c3
 by_cases c10 : (l0.length : Int) < (l1.length : Int)
 {
 rw [if_pos c10] at H
 have c10b0 : decide ((l0.length : Int) < (l1.length : Int)) = true := decide_eq_true c10
 have c10b1 : decide (l0.length < l1.length) = true := decide_eq_true (Int.ofNat_lt.mp c10)
 clear c10
 obtain rfl := Option.some.inj H
 go_wp2
 go_ret
 exact ⟨by first | rfl | (simp; done) | (simp [*]; done), by repeat (first | exact Drawn0.refl _ | apply Drawn0.step)⟩
 }
 {
 rw [if_neg c10] at H
 have c10b0 : decide ((l0.length : Int) < (l1.length : Int)) = false := decide_eq_false c10
 have c10b1 : decide (l0.length < l1.length) = false := decide_eq_false (fun h => c10 (Int.ofNat_lt.mpr h))
 clear c10
 obtain rfl := Option.some.inj H
 go_wp2
 go_ret
 exact ⟨by first | rfl | (simp; done) | (simp [*]; done), by repeat (first | exact Drawn0.refl _ | apply Drawn0.step)⟩
 }
 }

end Go.Proofs.Ytlbhjemkjkdndaa.S
