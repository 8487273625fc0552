-- PRINTED by print.py (a twelfth state) out of the translation. Not trusted: Lean checks it.
import Derived.Test.YtlbhjemkjkdndaaS0
import Derived.Test.YtlbhjemkjkdndaaS5
import Derived.Test.YtlbhjemkjkdndaaS6
namespace Go.Proofs.Ytlbhjemkjkdndaa.S
set_option maxHeartbeats 8000000
set_option maxRecDepth 100000
open Go.RowKit Go.Proofs.YtlbhjemkjkdndaaW.PrintWords Go.Proofs.YtlbhjemkjkdndaaW.PrintLast Go.Proofs.YtlbhjemkjkdndaaW.PrintMore
attribute [local go_sem] max2_int min2_int max_two min_two max_three min_three max_four min_four   -- for this text's walks alone
set_option linter.unusedVariables false
set_option linter.unusedSimpArgs false

/-! ### i_IsTurn: function 12 -/
mutual
def i_IsTurn.j0 : Nat → List Int → Bool → List Int → List Int → Option (Bool)
 | 0, _, _, _, _ => none
 | k + 1, x1, x23, x509000, x509001 => if x23 = true then (some false) else ((i_InversePerm.f k x509000).bind fun t511 => ((i_InversePerm.f k x509001).bind fun t514 => (i_IsTurn.l0 k x1 t511 t514 (x1.length : Int) 0 x509000 x509001)))
def i_IsTurn.l0 : Nat → List Int → List Int → List Int → Int → Int → List Int → List Int → Option (Bool)
 | 0, _, _, _, _, _, _, _ => none
 | k + 1, x1, x5, x6, x31, x32, x509000, x509001 => if x32 < x31 then (if 0 ≤ x32 then (if x32 < (x509000.length : Int) then (if 0 ≤ (rd x509000 x32) then (if (rd x509000 x32) < (x1.length : Int) then (if x32 < (x1.length : Int) then (if 0 ≤ (rd x1 x32) then (if (rd x1 x32) < (x5.length : Int) then (if (rd x1 (rd x509000 x32)) = (rd x5 (rd x1 x32)) then (if x32 < (x509001.length : Int) then (if 0 ≤ (rd x509001 x32) then (if (rd x509001 x32) < (x1.length : Int) then (if (rd x1 x32) < (x6.length : Int) then (if (rd x1 (rd x509001 x32)) = (rd x6 (rd x1 x32)) then (i_IsTurn.l0 k x1 x5 x6 x31 (wrap64 (x32 + 1)) x509000 x509001) else (some false)) else (none)) else (none)) else (none)) else (none)) else (some false)) else (none)) else (none)) else (none)) else (none)) else (none)) else (none)) else (none)) else (some true)
end
def i_IsTurn.f (k : Nat) (l0_0 : List Int) (l0_1 : List Int) (l1 : List Int) : Option (Bool) := (i_SurfaceOk.f k l0_0 l0_1).bind fun t509 => (if t509 = true then ((i_PermOk.f l1).bind fun t510 => (if t510 = true then (i_IsTurn.j0 k l1 ((l1.length : Int) != (l0_0.length : Int)) l0_0 l0_1) else (i_IsTurn.j0 k l1 true l0_0 l0_1))) else (i_IsTurn.j0 k l1 true l0_0 l0_1))
theorem i_IsTurn.calls (k : Nat) (A0_0 : Option Addr) (c0_0 : Nat) (l0_0 : List Int) (A0_1 : Option Addr) (c0_1 : Nat) (l0_1 : List Int) (A1 : Option Addr) (c1 : Nat) (l1 : List Int) (r : Bool) (w : World) (hr0_0 : Kd.C (Kd.int .i64) w A0_0 l0_0.length l0_0) (hc0_0 : l0_0.length ≤ c0_0) (hr0_1 : Kd.C (Kd.int .i64) w A0_1 l0_1.length l0_1) (hc0_1 : l0_1.length ≤ c0_1) (hr1 : Kd.C (Kd.int .i64) w A1 l1.length l1) (hc1 : l1.length ≤ c1) (h : i_IsTurn.f k l0_0 l0_1 l1 = some r) :
  Calls Try.prog 12 #[.agg #[.slice A0_0 l0_0.length c0_0, .slice A0_1 l0_1.length c0_1], .slice A1 l1.length c1] w fun e w' => e = .returned (.bool r) ∧ Below w.heap.size w w' := by
 have hu27 := Try.underlying27
 have HR0_0 := aM hr0_0
 have HC0_0 := aM hc0_0
 clear hr0_0 hc0_0
 have HR0_1 := aM hr0_1
 have HC0_1 := aM hc0_1
 clear hr0_1 hc0_1
 have HR1 := aM hr1
 have HC1 := aM hc1
 clear hr1 hc1
 have HB := aM (Below.refl w.heap.size w)
 have H : ((i_SurfaceOk.f k l0_0 l0_1).bind fun t509 => (if t509 = true then ((i_PermOk.f l1).bind fun t510 => (if t510 = true then (i_IsTurn.j0 k l1 ((l1.length : Int) != (l0_0.length : Int)) l0_0 l0_1) else (i_IsTurn.j0 k l1 true l0_0 l0_1))) else (i_IsTurn.j0 k l1 true l0_0 l0_1))) = some r := h
 clear h
 have HC3 := aM H
 clear H
 go_enter Try.func12, Try.ntmps12
 go_upto_region 1 with (first | ((with_reducible refine gate_dst (N := 2) rfl ?_); (try (refine gate_guard (by rfl) ?_; dsimp only)); refine bEv (cs := #[.slice A0_0 l0_0.length c0_0, .slice A0_1 l0_1.length c0_1]) (t := 27) ?_; intro gb508 hg w4 hbox hb; have BK508 := aM (hbox); have GW508 := aM ((szX (below_size (bX HB.out)) hg : w.heap.size ≤ gb508)); have GE508 := aM ((szX (below_size (bX HB.out)) hg : w.heap.size ≤ gb508)); replace HB := aM (below_step (bX HB.out) hb); clear hb hbox hg))
 repeat (go_quiet (first | ((with_reducible refine gate_dst (N := 2) rfl ?_); (try (refine gate_guard (by rfl) ?_; dsimp only)); refine bEv (cs := #[.slice A0_0 l0_0.length c0_0, .slice A0_1 l0_1.length c0_1]) (t := 27) ?_; intro gb508 hg w4 hbox hb; have BK508 := aM (hbox); have GW508 := aM ((szX (below_size (bX HB.out)) hg : w.heap.size ≤ gb508)); have GE508 := aM ((szX (below_size (bX HB.out)) hg : w.heap.size ≤ gb508)); replace HB := aM (below_step (bX HB.out) hb); clear hb hbox hg)); go_upto_region 1 with (first | ((with_reducible refine gate_dst (N := 2) rfl ?_); (try (refine gate_guard (by rfl) ?_; dsimp only)); refine bEv (cs := #[.slice A0_0 l0_0.length c0_0, .slice A0_1 l0_1.length c0_1]) (t := 27) ?_; intro gb508 hg w4 hbox hb; have BK508 := aM (hbox); have GW508 := aM ((szX (below_size (bX HB.out)) hg : w.heap.size ≤ gb508)); have GE508 := aM ((szX (below_size (bX HB.out)) hg : w.heap.size ≤ gb508)); replace HB := aM (below_step (bX HB.out) hb); clear hb hbox hg)))
 (try simp only [Act.put, List.setIfInBounds_toArray, List.set_cons_zero, List.set_cons_succ])
 go_cut [23] (fun v23 wc => ∃ (kq : Nat) (x23_2 : Bool), v23 = .bool x23_2 ∧ Aside0 (i_IsTurn.j0 kq l1 x23_2 l0_0 l0_1 = some r) ∧ Aside0 (kq ≤ k) ∧ Aside0 (wc.heap[gb508]? = some (.cells #[(.slice A0_0 l0_0.length c0_0), (.slice A0_1 l0_1.length c0_1)] 27 (0, 0))) ∧ Aside0 (Below w.heap.size w wc))
 case first =>
  have H := HC3.out
  clear HC3
  replace H := oB H
  obtain ⟨t509, A50, H⟩ := H
  replace H : (if t509 = true then ((i_PermOk.f l1).bind fun t510 => (if t510 = true then (i_IsTurn.j0 k l1 ((l1.length : Int) != (l0_0.length : Int)) l0_0 l0_1) else (i_IsTurn.j0 k l1 true l0_0 l0_1))) else (i_IsTurn.j0 k l1 true l0_0 l0_1)) = some r := H
  have A5 := aM A50
  clear A50
  by_cases c6 : t509 = true
  {
  subst c6
  have H1 : ((i_PermOk.f l1).bind fun t510 => (if t510 = true then (i_IsTurn.j0 k l1 ((l1.length : Int) != (l0_0.length : Int)) l0_0 l0_1) else (i_IsTurn.j0 k l1 true l0_0 l0_1))) = some r := by rw [if_pos rfl] at H; exact H
  clear H
  have H := H1
  clear H1
  replace H := oB H
  obtain ⟨t510, A70, H⟩ := H
  replace H : (if t510 = true then (i_IsTurn.j0 k l1 ((l1.length : Int) != (l0_0.length : Int)) l0_0 l0_1) else (i_IsTurn.j0 k l1 true l0_0 l0_1)) = some r := H
  have A7 := aM A70
  clear A70
  by_cases c8 : t510 = true
  {
  subst c8
  have H1 : (i_IsTurn.j0 k l1 ((l1.length : Int) != (l0_0.length : Int)) l0_0 l0_1) = some r := by rw [if_pos rfl] at H; exact H
  clear H
  have H := H1
  clear H1
  have H' := aM H
  clear H
  have hcz9_0 := cz20 BK508.out
  have hcz9_1 := cz21 BK508.out
  have hfz9_0 := blk_frozen BK508.out 0
  have hfz9_1 := blk_frozen BK508.out 1
  go_wp2_with (first | (go_at_call 19; (with_reducible refine (i_SurfaceOk.calls k _ _ l0_0 _ _ l0_1 true _ ?side1 ?side2 ?side3 ?side4 A5.out).mono ?_); (case side1 => exact cX (Kd.C_below HR0_0.out HB.out)); (case side2 => exact HC0_0.out); (case side3 => exact cX (Kd.C_below HR0_1.out HB.out)); (case side4 => exact HC0_1.out); rintro e w10 ⟨rfl, hb⟩; replace BK508 := aM (bbX BK508.out hb); replace HB := aM (below_step (bX1 HB.out GE508.out) hb); (try clear hb); (try clear hb2); (try clear hk); (try clear hi)) | (go_at_call 21; (with_reducible refine (i_PermOk.calls _ _ l1 true _ ?side1 ?side2 A7.out).mono ?_); (case side1 => exact cX (Kd.C_below HR1.out HB.out)); (case side2 => exact HC1.out); rintro e w11 ⟨rfl, hb⟩; replace BK508 := aM (bbX BK508.out hb); replace HB := aM (below_step (bX1 HB.out GE508.out) hb); (try clear hb); (try clear hb2); (try clear hk); (try clear hi); have hcz12_0 := cz20 BK508.out; have hcz12_1 := cz21 BK508.out; have hfz12_0 := blk_frozen BK508.out 0; have hfz12_1 := blk_frozen BK508.out 1))
  repeat (go_quiet (first | (go_at_call 19; (with_reducible refine (i_SurfaceOk.calls k _ _ l0_0 _ _ l0_1 true _ ?side1 ?side2 ?side3 ?side4 A5.out).mono ?_); (case side1 => exact cX (Kd.C_below HR0_0.out HB.out)); (case side2 => exact HC0_0.out); (case side3 => exact cX (Kd.C_below HR0_1.out HB.out)); (case side4 => exact HC0_1.out); rintro e w10 ⟨rfl, hb⟩; replace BK508 := aM (bbX BK508.out hb); replace HB := aM (below_step (bX1 HB.out GE508.out) hb); (try clear hb); (try clear hb2); (try clear hk); (try clear hi)) | (go_at_call 21; (with_reducible refine (i_PermOk.calls _ _ l1 true _ ?side1 ?side2 A7.out).mono ?_); (case side1 => exact cX (Kd.C_below HR1.out HB.out)); (case side2 => exact HC1.out); rintro e w11 ⟨rfl, hb⟩; replace BK508 := aM (bbX BK508.out hb); replace HB := aM (below_step (bX1 HB.out GE508.out) hb); (try clear hb); (try clear hb2); (try clear hk); (try clear hi); have hcz12_0 := cz20 BK508.out; have hcz12_1 := cz21 BK508.out; have hfz12_0 := blk_frozen BK508.out 0; have hfz12_1 := blk_frozen BK508.out 1)); try go_wp2_with (first | (go_at_call 19; (with_reducible refine (i_SurfaceOk.calls k _ _ l0_0 _ _ l0_1 true _ ?side1 ?side2 ?side3 ?side4 A5.out).mono ?_); (case side1 => exact cX (Kd.C_below HR0_0.out HB.out)); (case side2 => exact HC0_0.out); (case side3 => exact cX (Kd.C_below HR0_1.out HB.out)); (case side4 => exact HC0_1.out); rintro e w10 ⟨rfl, hb⟩; replace BK508 := aM (bbX BK508.out hb); replace HB := aM (below_step (bX1 HB.out GE508.out) hb); (try clear hb); (try clear hb2); (try clear hk); (try clear hi)) | (go_at_call 21; (with_reducible refine (i_PermOk.calls _ _ l1 true _ ?side1 ?side2 A7.out).mono ?_); (case side1 => exact cX (Kd.C_below HR1.out HB.out)); (case side2 => exact HC1.out); rintro e w11 ⟨rfl, hb⟩; replace BK508 := aM (bbX BK508.out hb); replace HB := aM (below_step (bX1 HB.out GE508.out) hb); (try clear hb); (try clear hb2); (try clear hk); (try clear hi); have hcz12_0 := cz20 BK508.out; have hcz12_1 := cz21 BK508.out; have hfz12_0 := blk_frozen BK508.out 0; have hfz12_1 := blk_frozen BK508.out 1)))
  go_meet
  case rel => exact ⟨_, (((l1.length : Int) != (l0_0.length : Int))), vX, H', ⟨by first | omega | exact Nat.le_refl _⟩, ⟨kX BK508.out⟩, ⟨bX1 HB.out GE508.out⟩⟩
  }
  {
  replace c8 := Bool.eq_false_iff.mpr c8
  subst c8
  have H1 : (i_IsTurn.j0 k l1 true l0_0 l0_1) = some r := by rw [if_neg (show ¬ (false = true) by decide)] at H; exact H
  clear H
  have H := H1
  clear H1
  have H' := aM H
  clear H
  have hcz13_0 := cz20 BK508.out
  have hcz13_1 := cz21 BK508.out
  have hfz13_0 := blk_frozen BK508.out 0
  have hfz13_1 := blk_frozen BK508.out 1
  go_wp2_with (first | (go_at_call 19; (with_reducible refine (i_SurfaceOk.calls k _ _ l0_0 _ _ l0_1 true _ ?side1 ?side2 ?side3 ?side4 A5.out).mono ?_); (case side1 => exact cX (Kd.C_below HR0_0.out HB.out)); (case side2 => exact HC0_0.out); (case side3 => exact cX (Kd.C_below HR0_1.out HB.out)); (case side4 => exact HC0_1.out); rintro e w14 ⟨rfl, hb⟩; replace BK508 := aM (bbX BK508.out hb); replace HB := aM (below_step (bX1 HB.out GE508.out) hb); (try clear hb); (try clear hb2); (try clear hk); (try clear hi)) | (go_at_call 21; (with_reducible refine (i_PermOk.calls _ _ l1 false _ ?side1 ?side2 A7.out).mono ?_); (case side1 => exact cX (Kd.C_below HR1.out HB.out)); (case side2 => exact HC1.out); rintro e w15 ⟨rfl, hb⟩; replace BK508 := aM (bbX BK508.out hb); replace HB := aM (below_step (bX1 HB.out GE508.out) hb); (try clear hb); (try clear hb2); (try clear hk); (try clear hi)))
  repeat (go_quiet (first | (go_at_call 19; (with_reducible refine (i_SurfaceOk.calls k _ _ l0_0 _ _ l0_1 true _ ?side1 ?side2 ?side3 ?side4 A5.out).mono ?_); (case side1 => exact cX (Kd.C_below HR0_0.out HB.out)); (case side2 => exact HC0_0.out); (case side3 => exact cX (Kd.C_below HR0_1.out HB.out)); (case side4 => exact HC0_1.out); rintro e w14 ⟨rfl, hb⟩; replace BK508 := aM (bbX BK508.out hb); replace HB := aM (below_step (bX1 HB.out GE508.out) hb); (try clear hb); (try clear hb2); (try clear hk); (try clear hi)) | (go_at_call 21; (with_reducible refine (i_PermOk.calls _ _ l1 false _ ?side1 ?side2 A7.out).mono ?_); (case side1 => exact cX (Kd.C_below HR1.out HB.out)); (case side2 => exact HC1.out); rintro e w15 ⟨rfl, hb⟩; replace BK508 := aM (bbX BK508.out hb); replace HB := aM (below_step (bX1 HB.out GE508.out) hb); (try clear hb); (try clear hb2); (try clear hk); (try clear hi))); try go_wp2_with (first | (go_at_call 19; (with_reducible refine (i_SurfaceOk.calls k _ _ l0_0 _ _ l0_1 true _ ?side1 ?side2 ?side3 ?side4 A5.out).mono ?_); (case side1 => exact cX (Kd.C_below HR0_0.out HB.out)); (case side2 => exact HC0_0.out); (case side3 => exact cX (Kd.C_below HR0_1.out HB.out)); (case side4 => exact HC0_1.out); rintro e w14 ⟨rfl, hb⟩; replace BK508 := aM (bbX BK508.out hb); replace HB := aM (below_step (bX1 HB.out GE508.out) hb); (try clear hb); (try clear hb2); (try clear hk); (try clear hi)) | (go_at_call 21; (with_reducible refine (i_PermOk.calls _ _ l1 false _ ?side1 ?side2 A7.out).mono ?_); (case side1 => exact cX (Kd.C_below HR1.out HB.out)); (case side2 => exact HC1.out); rintro e w15 ⟨rfl, hb⟩; replace BK508 := aM (bbX BK508.out hb); replace HB := aM (below_step (bX1 HB.out GE508.out) hb); (try clear hb); (try clear hb2); (try clear hk); (try clear hi))))
  go_meet
  case rel => exact ⟨_, (true), vX, H', ⟨by first | omega | exact Nat.le_refl _⟩, ⟨kX BK508.out⟩, ⟨bX1 HB.out GE508.out⟩⟩
  }
  }
  {
  replace c6 := Bool.eq_false_iff.mpr c6
  subst c6
  have H1 : (i_IsTurn.j0 k l1 true l0_0 l0_1) = some r := by rw [if_neg (show ¬ (false = true) by decide)] at H; exact H
  clear H
  have H := H1
  clear H1
  have H' := aM H
  clear H
  have hcz16_0 := cz20 BK508.out
  have hcz16_1 := cz21 BK508.out
  have hfz16_0 := blk_frozen BK508.out 0
  have hfz16_1 := blk_frozen BK508.out 1
  go_wp2_with (first | (go_at_call 19; (with_reducible refine (i_SurfaceOk.calls k _ _ l0_0 _ _ l0_1 false _ ?side1 ?side2 ?side3 ?side4 A5.out).mono ?_); (case side1 => exact cX (Kd.C_below HR0_0.out HB.out)); (case side2 => exact HC0_0.out); (case side3 => exact cX (Kd.C_below HR0_1.out HB.out)); (case side4 => exact HC0_1.out); rintro e w17 ⟨rfl, hb⟩; replace BK508 := aM (bbX BK508.out hb); replace HB := aM (below_step (bX1 HB.out GE508.out) hb); (try clear hb); (try clear hb2); (try clear hk); (try clear hi)))
  repeat (go_quiet (first | (go_at_call 19; (with_reducible refine (i_SurfaceOk.calls k _ _ l0_0 _ _ l0_1 false _ ?side1 ?side2 ?side3 ?side4 A5.out).mono ?_); (case side1 => exact cX (Kd.C_below HR0_0.out HB.out)); (case side2 => exact HC0_0.out); (case side3 => exact cX (Kd.C_below HR0_1.out HB.out)); (case side4 => exact HC0_1.out); rintro e w17 ⟨rfl, hb⟩; replace BK508 := aM (bbX BK508.out hb); replace HB := aM (below_step (bX1 HB.out GE508.out) hb); (try clear hb); (try clear hb2); (try clear hk); (try clear hi))); try go_wp2_with (first | (go_at_call 19; (with_reducible refine (i_SurfaceOk.calls k _ _ l0_0 _ _ l0_1 false _ ?side1 ?side2 ?side3 ?side4 A5.out).mono ?_); (case side1 => exact cX (Kd.C_below HR0_0.out HB.out)); (case side2 => exact HC0_0.out); (case side3 => exact cX (Kd.C_below HR0_1.out HB.out)); (case side4 => exact HC0_1.out); rintro e w17 ⟨rfl, hb⟩; replace BK508 := aM (bbX BK508.out hb); replace HB := aM (below_step (bX1 HB.out GE508.out) hb); (try clear hb); (try clear hb2); (try clear hk); (try clear hi))))
  go_meet
  case rel => exact ⟨_, (true), vX, H', ⟨by first | omega | exact Nat.le_refl _⟩, ⟨kX BK508.out⟩, ⟨bX1 HB.out GE508.out⟩⟩
  }
 case rest =>
 clear HC3
 try clear c1
 try clear c6
 try clear c8
 try clear hcz12_0
 try clear hcz12_1
 try clear hcz13_0
 try clear hcz13_1
 try clear hcz16_0
 try clear hcz16_1
 try clear hcz9_0
 try clear hcz9_1
 try clear hfz12_0
 try clear hfz12_1
 try clear hfz13_0
 try clear hfz13_1
 try clear hfz16_0
 try clear hfz16_1
 try clear hfz9_0
 try clear hfz9_1
 obtain ⟨kq, x23_2, rfl, HA, HJ2, BK508, HB⟩ := hcut
 cases kq with
 | zero => exact absurd HA.out (by simp [i_IsTurn.j0])
 | succ kj2 =>
 have H := HA.out
 clear HA
 simp only [i_IsTurn.j0] at H
 by_cases c18 : x23_2 = true
 {
 subst c18
 have H1 : (some false) = some r := by rw [if_pos rfl] at H; exact H
 clear H
 have H := H1
 clear H1
 obtain rfl := Option.some.inj H
 go_wp2
 repeat (go_quiet (fail); try go_wp2)
 go_ret
 exact ⟨eX, bX1 HB.out GE508.out⟩
 }
 {
 replace c18 := Bool.eq_false_iff.mpr c18
 subst c18
 have H1 : ((i_InversePerm.f kj2 l0_0).bind fun t511 => ((i_InversePerm.f kj2 l0_1).bind fun t514 => (i_IsTurn.l0 kj2 l1 t511 t514 (l1.length : Int) 0 l0_0 l0_1))) = some r := by rw [if_neg (show ¬ (false = true) by decide)] at H; exact H
 clear H
 have H := H1
 clear H1
 replace H := oB H
 obtain ⟨t511, A190, H⟩ := H
 replace H : ((i_InversePerm.f kj2 l0_1).bind fun t514 => (i_IsTurn.l0 kj2 l1 t511 t514 (l1.length : Int) 0 l0_0 l0_1)) = some r := H
 have A19 := aM A190
 clear A190
 replace H := oB H
 obtain ⟨t514, A200, H⟩ := H
 replace H : (i_IsTurn.l0 kj2 l1 t511 t514 (l1.length : Int) 0 l0_0 l0_1) = some r := H
 have A20 := aM A200
 clear A200
 have H' := aM H
 clear H
 have hcz21_0 := cz20 BK508.out
 have hcz21_1 := cz21 BK508.out
 have hfz21_0 := blk_frozen BK508.out 0
 have hfz21_1 := blk_frozen BK508.out 1
 go_wp2_with (first | (go_at_call 22; (with_reducible refine (i_InversePerm.calls kj2 _ _ l0_0 t511 _ ?side1 ?side2 A19.out).mono ?_); (case side1 => exact cX (Kd.C_below HR0_0.out HB.out)); (case side2 => exact HC0_0.out); rintro e w22 ⟨v512, rfl, ho0, hb⟩; have HO513 := aM (Kd.R_lower ho0 (below_size (bX1 HB.out GE508.out))); replace BK508 := aM (bbX BK508.out hb); replace HB := aM (below_step (bX1 HB.out GE508.out) hb); (try clear hb); (try clear hb2); (try clear hk); (try clear hi); (try clear ho0); have hcz23_0 := cz20 BK508.out; have hcz23_1 := cz21 BK508.out; have hfz23_0 := blk_frozen BK508.out 0; have hfz23_1 := blk_frozen BK508.out 1) | (go_at_call 22; (with_reducible refine (i_InversePerm.calls kj2 _ _ l0_1 t514 _ ?side1 ?side2 A20.out).mono ?_); (case side1 => exact cX (Kd.C_below HR0_1.out HB.out)); (case side2 => exact HC0_1.out); rintro e w24 ⟨v515, rfl, ho0, hb⟩; have HO516 := aM (Kd.R_lower (Kd.R_new' ho0 (Kd.R_lt (rX HO513.out))) (below_size (bX1 HB.out GE508.out))); replace HO513 := aM (Kd.R_elder' (rX HO513.out) (Kd.R_base ho0) hb); replace BK508 := aM (bbX BK508.out hb); replace HB := aM (below_step (bX1 HB.out GE508.out) hb); (try clear hb); (try clear hb2); (try clear hk); (try clear hi); (try clear ho0)))
 repeat (go_quiet (first | (go_at_call 22; (with_reducible refine (i_InversePerm.calls kj2 _ _ l0_0 t511 _ ?side1 ?side2 A19.out).mono ?_); (case side1 => exact cX (Kd.C_below HR0_0.out HB.out)); (case side2 => exact HC0_0.out); rintro e w22 ⟨v512, rfl, ho0, hb⟩; have HO513 := aM (Kd.R_lower ho0 (below_size (bX1 HB.out GE508.out))); replace BK508 := aM (bbX BK508.out hb); replace HB := aM (below_step (bX1 HB.out GE508.out) hb); (try clear hb); (try clear hb2); (try clear hk); (try clear hi); (try clear ho0); have hcz23_0 := cz20 BK508.out; have hcz23_1 := cz21 BK508.out; have hfz23_0 := blk_frozen BK508.out 0; have hfz23_1 := blk_frozen BK508.out 1) | (go_at_call 22; (with_reducible refine (i_InversePerm.calls kj2 _ _ l0_1 t514 _ ?side1 ?side2 A20.out).mono ?_); (case side1 => exact cX (Kd.C_below HR0_1.out HB.out)); (case side2 => exact HC0_1.out); rintro e w24 ⟨v515, rfl, ho0, hb⟩; have HO516 := aM (Kd.R_lower (Kd.R_new' ho0 (Kd.R_lt (rX HO513.out))) (below_size (bX1 HB.out GE508.out))); replace HO513 := aM (Kd.R_elder' (rX HO513.out) (Kd.R_base ho0) hb); replace BK508 := aM (bbX BK508.out hb); replace HB := aM (below_step (bX1 HB.out GE508.out) hb); (try clear hb); (try clear hb2); (try clear hk); (try clear hi); (try clear ho0))); try go_wp2_with (first | (go_at_call 22; (with_reducible refine (i_InversePerm.calls kj2 _ _ l0_0 t511 _ ?side1 ?side2 A19.out).mono ?_); (case side1 => exact cX (Kd.C_below HR0_0.out HB.out)); (case side2 => exact HC0_0.out); rintro e w22 ⟨v512, rfl, ho0, hb⟩; have HO513 := aM (Kd.R_lower ho0 (below_size (bX1 HB.out GE508.out))); replace BK508 := aM (bbX BK508.out hb); replace HB := aM (below_step (bX1 HB.out GE508.out) hb); (try clear hb); (try clear hb2); (try clear hk); (try clear hi); (try clear ho0); have hcz23_0 := cz20 BK508.out; have hcz23_1 := cz21 BK508.out; have hfz23_0 := blk_frozen BK508.out 0; have hfz23_1 := blk_frozen BK508.out 1) | (go_at_call 22; (with_reducible refine (i_InversePerm.calls kj2 _ _ l0_1 t514 _ ?side1 ?side2 A20.out).mono ?_); (case side1 => exact cX (Kd.C_below HR0_1.out HB.out)); (case side2 => exact HC0_1.out); rintro e w24 ⟨v515, rfl, ho0, hb⟩; have HO516 := aM (Kd.R_lower (Kd.R_new' ho0 (Kd.R_lt (rX HO513.out))) (below_size (bX1 HB.out GE508.out))); replace HO513 := aM (Kd.R_elder' (rX HO513.out) (Kd.R_base ho0) hb); replace BK508 := aM (bbX BK508.out hb); replace HB := aM (below_step (bX1 HB.out GE508.out) hb); (try clear hb); (try clear hb2); (try clear hk); (try clear hi); (try clear ho0))))
 go_loopg [32] kj2 (fun kq v32 w' => ∃ (x32_2 : Int), v32 = .int .i64 x32_2 ∧ Aside0 (i_IsTurn.l0 kq l1 t511 t514 (l1.length : Int) x32_2 l0_0 l0_1 = some r) ∧ Aside0 (kq ≤ kj2) ∧ Aside0 (Kd.R (Kd.int .i64) 3 w' w.heap.size (fun k_ => some k_ ≠ (v515 : Value).ownBlock) v512 t511) ∧ Aside0 (Kd.R (Kd.int .i64) 3 w' w.heap.size (fun k_ => some k_ ≠ (v512 : Value).ownBlock) v515 t514) ∧ Aside0 (w'.heap[gb508]? = some (.cells #[(.slice A0_0 l0_0.length c0_0), (.slice A0_1 l0_1.length c0_1)] 27 (0, 0))) ∧ Aside0 (Below w.heap.size w w'))
 case atStart => exact ⟨(0), vX, H', ⟨Nat.le_refl _⟩, ⟨rM HO513.out (fun _ hk => hk.2)⟩, ⟨rM HO516.out (fun _ hk => hk.2)⟩, ⟨kX BK508.out⟩, ⟨bX1 HB.out GE508.out⟩⟩
 case round =>
 clear H'
 try clear c1
 try clear c6
 try clear c8
 try clear c18
 try clear hcz12_0
 try clear hcz12_1
 try clear hcz13_0
 try clear hcz13_1
 try clear hcz16_0
 try clear hcz16_1
 try clear hcz21_0
 try clear hcz21_1
 try clear hcz23_0
 try clear hcz23_1
 try clear hcz9_0
 try clear hcz9_1
 try clear hfz12_0
 try clear hfz12_1
 try clear hfz13_0
 try clear hfz13_1
 try clear hfz16_0
 try clear hfz16_1
 try clear hfz21_0
 try clear hfz21_1
 try clear hfz23_0
 try clear hfz23_1
 try clear hfz9_0
 try clear hfz9_1
 obtain ⟨x32_2, rfl, HA, HK2, HO_5, HO_6, BK508, HB⟩ := hrel
 cases gk with
 | zero => exact absurd HA.out (by simp [i_IsTurn.l0])
 | succ k2 =>
 have H := HA.out
 clear HA
 simp only [i_IsTurn.l0] at H
 by_cases c25 : x32_2 < (l1.length : Int)
 {
 rw [if_pos c25] at H
 have c25b0 : decide (x32_2 < (l1.length : Int)) = true := decide_eq_true c25
 clear c25
 by_cases c26 : 0 ≤ x32_2
 {
 rw [if_pos c26] at H
 have c26b0 : decide (0 ≤ x32_2) = true := decide_eq_true c26
 clear c26
 by_cases c27 : x32_2 < (l0_0.length : Int)
 {
 rw [if_pos c27] at H
 have c27b0 : decide (x32_2 < (l0_0.length : Int)) = true := decide_eq_true c27
 clear c27
 by_cases c28 : 0 ≤ (rd l0_0 x32_2)
 {
 rw [if_pos c28] at H
 have c28b0 : decide (0 ≤ (rd l0_0 x32_2)) = true := decide_eq_true c28
 clear c28
 by_cases c29 : (rd l0_0 x32_2) < (l1.length : Int)
 {
 rw [if_pos c29] at H
 have c29b0 : decide ((rd l0_0 x32_2) < (l1.length : Int)) = true := decide_eq_true c29
 clear c29
 by_cases c30 : x32_2 < (l1.length : Int)
 {
 rw [if_pos c30] at H
 have c30b0 : decide (x32_2 < (l1.length : Int)) = true := decide_eq_true c30
 clear c30
 by_cases c31 : 0 ≤ (rd l1 x32_2)
 {
 rw [if_pos c31] at H
 have c31b0 : decide (0 ≤ (rd l1 x32_2)) = true := decide_eq_true c31
 clear c31
 by_cases c32 : (rd l1 x32_2) < (t511.length : Int)
 {
 rw [if_pos c32] at H
 have c32b0 : decide ((rd l1 x32_2) < (t511.length : Int)) = true := decide_eq_true c32
 clear c32
 by_cases c33 : (rd l1 (rd l0_0 x32_2)) = (rd t511 (rd l1 x32_2))
 {
 rw [if_pos c33] at H
 have c33b0 : ((rd l1 (rd l0_0 x32_2)) == (rd t511 (rd l1 x32_2))) = true := beq_iff_eq.mpr c33
 have c33b1 : ((rd l1 (rd l0_0 x32_2)) != (rd t511 (rd l1 x32_2))) = false := bne_eq_false_iff_eq.mpr c33
 clear c33
 by_cases c34 : x32_2 < (l0_1.length : Int)
 {
 rw [if_pos c34] at H
 have c34b0 : decide (x32_2 < (l0_1.length : Int)) = true := decide_eq_true c34
 clear c34
 by_cases c35 : 0 ≤ (rd l0_1 x32_2)
 {
 rw [if_pos c35] at H
 have c35b0 : decide (0 ≤ (rd l0_1 x32_2)) = true := decide_eq_true c35
 clear c35
 by_cases c36 : (rd l0_1 x32_2) < (l1.length : Int)
 {
 rw [if_pos c36] at H
 have c36b0 : decide ((rd l0_1 x32_2) < (l1.length : Int)) = true := decide_eq_true c36
 clear c36
 by_cases c37 : (rd l1 x32_2) < (t514.length : Int)
 {
 rw [if_pos c37] at H
 have c37b0 : decide ((rd l1 x32_2) < (t514.length : Int)) = true := decide_eq_true c37
 clear c37
 by_cases c38 : (rd l1 (rd l0_1 x32_2)) = (rd t514 (rd l1 x32_2))
 {
 rw [if_pos c38] at H
 have c38b0 : ((rd l1 (rd l0_1 x32_2)) == (rd t514 (rd l1 x32_2))) = true := beq_iff_eq.mpr c38
 have c38b1 : ((rd l1 (rd l0_1 x32_2)) != (rd t514 (rd l1 x32_2))) = false := bne_eq_false_iff_eq.mpr c38
 clear c38
 have H' := aM H
 clear H
 have hcz39_0 := cz20 BK508.out
 have hcz39_1 := cz21 BK508.out
 have hfz39_0 := blk_frozen BK508.out 0
 have hfz39_1 := blk_frozen BK508.out 1
 have p517 : 0 ≤ (x32_2 : Int) := dX
 have q517 : x32_2 < (l0_0.length : Int) := dX
 obtain ⟨ad517, e517, hx517_0⟩ := Kd.at_int HR0_0.out x32_2 p517 q517
 cases e517
 replace hx517_0 := (HB.out.cell (World.block_lt_of_cell? w _ hx517_0)).trans hx517_0
 replace p517 := eq_true p517
 replace q517 := eq_true q517
 have p518 : 0 ≤ ((rd l0_0 x32_2) : Int) := dX
 have q518 : (rd l0_0 x32_2) < (l1.length : Int) := dX
 obtain ⟨ad518, e518, hx518_0⟩ := Kd.at_int HR1.out (rd l0_0 x32_2) p518 q518
 cases e518
 replace hx518_0 := (HB.out.cell (World.block_lt_of_cell? w _ hx518_0)).trans hx518_0
 replace p518 := eq_true p518
 replace q518 := eq_true q518
 have p519 : 0 ≤ (x32_2 : Int) := dX
 have q519 : x32_2 < (l1.length : Int) := dX
 obtain ⟨ad519, e519, hx519_0⟩ := Kd.at_int HR1.out x32_2 p519 q519
 obtain rfl : ad518 = ad519 := (by injection e519)
 replace hx519_0 := (HB.out.cell (World.block_lt_of_cell? w _ hx519_0)).trans hx519_0
 replace p519 := eq_true p519
 replace q519 := eq_true q519
 obtain ⟨Ao40, co40, eo40⟩ := Kd.R_slice HO_5.out
 subst eo40
 have p520 : 0 ≤ ((rd l1 x32_2) : Int) := dX
 have q520 : (rd l1 x32_2) < (t511.length : Int) := dX
 obtain ⟨ad520, e520, hx520_0⟩ := Kd.at_int (Kd.R_reads' HO_5.out).2.2 (rd l1 x32_2) p520 q520
 cases e520
 replace p520 := eq_true p520
 replace q520 := eq_true q520
 have p521 : 0 ≤ (x32_2 : Int) := dX
 have q521 : x32_2 < (l0_1.length : Int) := dX
 obtain ⟨ad521, e521, hx521_0⟩ := Kd.at_int HR0_1.out x32_2 p521 q521
 cases e521
 replace hx521_0 := (HB.out.cell (World.block_lt_of_cell? w _ hx521_0)).trans hx521_0
 replace p521 := eq_true p521
 replace q521 := eq_true q521
 have p522 : 0 ≤ ((rd l0_1 x32_2) : Int) := dX
 have q522 : (rd l0_1 x32_2) < (l1.length : Int) := dX
 obtain ⟨ad522, e522, hx522_0⟩ := Kd.at_int HR1.out (rd l0_1 x32_2) p522 q522
 obtain rfl : ad518 = ad522 := (by injection e522)
 replace hx522_0 := (HB.out.cell (World.block_lt_of_cell? w _ hx522_0)).trans hx522_0
 replace p522 := eq_true p522
 replace q522 := eq_true q522
 have p523 : 0 ≤ (x32_2 : Int) := dX
 have q523 : x32_2 < (l1.length : Int) := dX
 obtain ⟨ad523, e523, hx523_0⟩ := Kd.at_int HR1.out x32_2 p523 q523
 obtain rfl : ad518 = ad523 := (by injection e523)
 replace hx523_0 := (HB.out.cell (World.block_lt_of_cell? w _ hx523_0)).trans hx523_0
 replace p523 := eq_true p523
 replace q523 := eq_true q523
 obtain ⟨Ao41, co41, eo41⟩ := Kd.R_slice HO_6.out
 subst eo41
 have p524 : 0 ≤ ((rd l1 x32_2) : Int) := dX
 have q524 : (rd l1 x32_2) < (t514.length : Int) := dX
 obtain ⟨ad524, e524, hx524_0⟩ := Kd.at_int (Kd.R_reads' HO_6.out).2.2 (rd l1 x32_2) p524 q524
 cases e524
 replace p524 := eq_true p524
 replace q524 := eq_true q524
 go_wp2
 repeat (go_quiet (fail); try go_wp2)
 go_roundg k2
 case measure => have := HJ2.out; have := HK2.out; omega
 case rel => exact ⟨(wrap64 (x32_2 + 1)), vX, H', ⟨by have := HJ2.out; have := HK2.out; omega⟩, ⟨rX HO_5.out⟩, ⟨rX HO_6.out⟩, ⟨kX BK508.out⟩, ⟨bX1 HB.out GE508.out⟩⟩
 }
 {
 rw [if_neg c38] at H
 have c38b0 : ((rd l1 (rd l0_1 x32_2)) == (rd t514 (rd l1 x32_2))) = false := beq_eq_false_iff_ne.mpr c38
 have c38b1 : ((rd l1 (rd l0_1 x32_2)) != (rd t514 (rd l1 x32_2))) = true := bne_iff_ne.mpr c38
 obtain rfl := Option.some.inj H
 have hcz42_0 := cz20 BK508.out
 have hcz42_1 := cz21 BK508.out
 have hfz42_0 := blk_frozen BK508.out 0
 have hfz42_1 := blk_frozen BK508.out 1
 have p517 : 0 ≤ (x32_2 : Int) := dX
 have q517 : x32_2 < (l0_0.length : Int) := dX
 obtain ⟨ad517, e517, hx517_0⟩ := Kd.at_int HR0_0.out x32_2 p517 q517
 cases e517
 replace hx517_0 := (HB.out.cell (World.block_lt_of_cell? w _ hx517_0)).trans hx517_0
 replace p517 := eq_true p517
 replace q517 := eq_true q517
 have p518 : 0 ≤ ((rd l0_0 x32_2) : Int) := dX
 have q518 : (rd l0_0 x32_2) < (l1.length : Int) := dX
 obtain ⟨ad518, e518, hx518_0⟩ := Kd.at_int HR1.out (rd l0_0 x32_2) p518 q518
 cases e518
 replace hx518_0 := (HB.out.cell (World.block_lt_of_cell? w _ hx518_0)).trans hx518_0
 replace p518 := eq_true p518
 replace q518 := eq_true q518
 have p519 : 0 ≤ (x32_2 : Int) := dX
 have q519 : x32_2 < (l1.length : Int) := dX
 obtain ⟨ad519, e519, hx519_0⟩ := Kd.at_int HR1.out x32_2 p519 q519
 obtain rfl : ad518 = ad519 := (by injection e519)
 replace hx519_0 := (HB.out.cell (World.block_lt_of_cell? w _ hx519_0)).trans hx519_0
 replace p519 := eq_true p519
 replace q519 := eq_true q519
 obtain ⟨Ao43, co43, eo43⟩ := Kd.R_slice HO_5.out
 subst eo43
 have p520 : 0 ≤ ((rd l1 x32_2) : Int) := dX
 have q520 : (rd l1 x32_2) < (t511.length : Int) := dX
 obtain ⟨ad520, e520, hx520_0⟩ := Kd.at_int (Kd.R_reads' HO_5.out).2.2 (rd l1 x32_2) p520 q520
 cases e520
 replace p520 := eq_true p520
 replace q520 := eq_true q520
 have p521 : 0 ≤ (x32_2 : Int) := dX
 have q521 : x32_2 < (l0_1.length : Int) := dX
 obtain ⟨ad521, e521, hx521_0⟩ := Kd.at_int HR0_1.out x32_2 p521 q521
 cases e521
 replace hx521_0 := (HB.out.cell (World.block_lt_of_cell? w _ hx521_0)).trans hx521_0
 replace p521 := eq_true p521
 replace q521 := eq_true q521
 have p522 : 0 ≤ ((rd l0_1 x32_2) : Int) := dX
 have q522 : (rd l0_1 x32_2) < (l1.length : Int) := dX
 obtain ⟨ad522, e522, hx522_0⟩ := Kd.at_int HR1.out (rd l0_1 x32_2) p522 q522
 obtain rfl : ad518 = ad522 := (by injection e522)
 replace hx522_0 := (HB.out.cell (World.block_lt_of_cell? w _ hx522_0)).trans hx522_0
 replace p522 := eq_true p522
 replace q522 := eq_true q522
 have p523 : 0 ≤ (x32_2 : Int) := dX
 have q523 : x32_2 < (l1.length : Int) := dX
 obtain ⟨ad523, e523, hx523_0⟩ := Kd.at_int HR1.out x32_2 p523 q523
 obtain rfl : ad518 = ad523 := (by injection e523)
 replace hx523_0 := (HB.out.cell (World.block_lt_of_cell? w _ hx523_0)).trans hx523_0
 replace p523 := eq_true p523
 replace q523 := eq_true q523
 obtain ⟨Ao44, co44, eo44⟩ := Kd.R_slice HO_6.out
 subst eo44
 have p524 : 0 ≤ ((rd l1 x32_2) : Int) := dX
 have q524 : (rd l1 x32_2) < (t514.length : Int) := dX
 obtain ⟨ad524, e524, hx524_0⟩ := Kd.at_int (Kd.R_reads' HO_6.out).2.2 (rd l1 x32_2) p524 q524
 cases e524
 replace p524 := eq_true p524
 replace q524 := eq_true q524
 go_wp2
 repeat (go_quiet (fail); try go_wp2)
 go_ret
 exact ⟨eX, bX1 HB.out GE508.out⟩
 }
 }
 {
 rw [if_neg c37] at H
 exact absurd H (by simp)
 }
 }
 {
 rw [if_neg c36] at H
 exact absurd H (by simp)
 }
 }
 {
 rw [if_neg c35] at H
 exact absurd H (by simp)
 }
 }
 {
 rw [if_neg c34] at H
 exact absurd H (by simp)
 }
 }
 {
 rw [if_neg c33] at H
 have c33b0 : ((rd l1 (rd l0_0 x32_2)) == (rd t511 (rd l1 x32_2))) = false := beq_eq_false_iff_ne.mpr c33
 have c33b1 : ((rd l1 (rd l0_0 x32_2)) != (rd t511 (rd l1 x32_2))) = true := bne_iff_ne.mpr c33
 obtain rfl := Option.some.inj H
 have hcz45_0 := cz20 BK508.out
 have hcz45_1 := cz21 BK508.out
 have hfz45_0 := blk_frozen BK508.out 0
 have hfz45_1 := blk_frozen BK508.out 1
 have p517 : 0 ≤ (x32_2 : Int) := dX
 have q517 : x32_2 < (l0_0.length : Int) := dX
 obtain ⟨ad517, e517, hx517_0⟩ := Kd.at_int HR0_0.out x32_2 p517 q517
 cases e517
 replace hx517_0 := (HB.out.cell (World.block_lt_of_cell? w _ hx517_0)).trans hx517_0
 replace p517 := eq_true p517
 replace q517 := eq_true q517
 have p518 : 0 ≤ ((rd l0_0 x32_2) : Int) := dX
 have q518 : (rd l0_0 x32_2) < (l1.length : Int) := dX
 obtain ⟨ad518, e518, hx518_0⟩ := Kd.at_int HR1.out (rd l0_0 x32_2) p518 q518
 cases e518
 replace hx518_0 := (HB.out.cell (World.block_lt_of_cell? w _ hx518_0)).trans hx518_0
 replace p518 := eq_true p518
 replace q518 := eq_true q518
 have p519 : 0 ≤ (x32_2 : Int) := dX
 have q519 : x32_2 < (l1.length : Int) := dX
 obtain ⟨ad519, e519, hx519_0⟩ := Kd.at_int HR1.out x32_2 p519 q519
 obtain rfl : ad518 = ad519 := (by injection e519)
 replace hx519_0 := (HB.out.cell (World.block_lt_of_cell? w _ hx519_0)).trans hx519_0
 replace p519 := eq_true p519
 replace q519 := eq_true q519
 obtain ⟨Ao46, co46, eo46⟩ := Kd.R_slice HO_5.out
 subst eo46
 have p520 : 0 ≤ ((rd l1 x32_2) : Int) := dX
 have q520 : (rd l1 x32_2) < (t511.length : Int) := dX
 obtain ⟨ad520, e520, hx520_0⟩ := Kd.at_int (Kd.R_reads' HO_5.out).2.2 (rd l1 x32_2) p520 q520
 cases e520
 replace p520 := eq_true p520
 replace q520 := eq_true q520
 go_wp2
 repeat (go_quiet (fail); try go_wp2)
 go_ret
 exact ⟨eX, bX1 HB.out GE508.out⟩
 }
 }
 {
 rw [if_neg c32] at H
 exact absurd H (by simp)
 }
 }
 {
 rw [if_neg c31] at H
 exact absurd H (by simp)
 }
 }
 {
 rw [if_neg c30] at H
 exact absurd H (by simp)
 }
 }
 {
 rw [if_neg c29] at H
 exact absurd H (by simp)
 }
 }
 {
 rw [if_neg c28] at H
 exact absurd H (by simp)
 }
 }
 {
 rw [if_neg c27] at H
 exact absurd H (by simp)
 }
 }
 {
 rw [if_neg c26] at H
 exact absurd H (by simp)
 }
 }
 {
 rw [if_neg c25] at H
 have c25b0 : decide (x32_2 < (l1.length : Int)) = false := decide_eq_false c25
 clear c25
 obtain rfl := Option.some.inj H
 go_wp2
 repeat (go_quiet (fail); try go_wp2)
 go_ret
 exact ⟨eX, bX1 HB.out GE508.out⟩
 }
 }

/-! ### laws_same: function 13 -/
def laws_same.l0 : Nat → List Int → List Int → Int → Int → Option (Bool)
 | 0, _, _, _, _ => none
 | k + 1, x1, x12, x13, x14 => if x14 < x13 then (if 0 ≤ x14 then (if x14 < (x12.length : Int) then (if x14 < (x1.length : Int) then (if (rd x12 x14) = (rd x1 x14) then (laws_same.l0 k x1 x12 x13 (wrap64 (x14 + 1))) else (some false)) else (none)) else (none)) else (none)) else (some true)
def laws_same.f (k : Nat) (l0 : List Int) (l1 : List Int) : Option (Bool) := if (l0.length : Int) = (l1.length : Int) then (laws_same.l0 k l1 l0 (l0.length : Int) 0) else (some false)
theorem laws_same.calls (k : Nat) (A0 : Option Addr) (c0 : Nat) (l0 : List Int) (A1 : Option Addr) (c1 : Nat) (l1 : List Int) (r : Bool) (w : World) (hr0 : Kd.C (Kd.int .i64) w A0 l0.length l0) (hc0 : l0.length ≤ c0) (hr1 : Kd.C (Kd.int .i64) w A1 l1.length l1) (hc1 : l1.length ≤ c1) (h : laws_same.f k l0 l1 = some r) :
  Calls Try.prog 13 #[.slice A0 l0.length c0, .slice A1 l1.length c1] w fun e w' => e = .returned (.bool r) ∧ Drawn0 w w' := by
 have HR0 := aM hr0
 have HC0 := aM hc0
 clear hr0 hc0
 have HR1 := aM hr1
 have HC1 := aM hc1
 clear hr1 hc1
 have H : (if (l0.length : Int) = (l1.length : Int) then (laws_same.l0 k l1 l0 (l0.length : Int) 0) else (some false)) = some r := h
 clear h
 by_cases c3 : (l0.length : Int) = (l1.length : Int)
 {
 rw [if_pos c3] at H
 have c3b0 : ((l0.length : Int) == (l1.length : Int)) = true := beq_iff_eq.mpr c3
 have c3b1 : ((l0.length : Int) != (l1.length : Int)) = false := bne_eq_false_iff_eq.mpr c3
 have c3b2 : (l0.length == l1.length) = true := by first | simpa using c3 | (simp at c3 ⊢; omega)
 clear c3
 have H' := aM H
 clear H
 go_enter Try.func13, Try.ntmps13
 go_wp2
 go_loopg [14] k (fun kq v14 w' => ∃ (x14_1 : Int), v14 = .int .i64 x14_1 ∧ Aside0 (laws_same.l0 kq l1 l0 (l0.length : Int) x14_1 = some r) ∧ Aside0 (kq ≤ k) ∧ Drawn0 w w')
 case atStart => exact ⟨(0), vX, H', ⟨Nat.le_refl _⟩, by repeat (first | exact Drawn0.refl _ | apply Drawn0.step)⟩
 case round =>
 clear H'
 try clear c1
 try clear c3
 try clear c3b0
 try clear c3b1
 try clear c3b2
 obtain ⟨x14_1, rfl, HA, HK1, ⟨m1, rfl⟩⟩ := hrel
 cases gk with
 | zero => exact absurd HA.out (by simp [laws_same.l0])
 | succ k1 =>
 have H := HA.out
 clear HA
 simp only [laws_same.l0] at H
 by_cases c4 : x14_1 < (l0.length : Int)
 {
 rw [if_pos c4] at H
 have c4b0 : decide (x14_1 < (l0.length : Int)) = true := decide_eq_true c4
 clear c4
 by_cases c5 : 0 ≤ x14_1
 {
 rw [if_pos c5] at H
 have c5b0 : decide (0 ≤ x14_1) = true := decide_eq_true c5
 clear c5
 by_cases c6 : x14_1 < (l0.length : Int)
 {
 rw [if_pos c6] at H
 have c6b0 : decide (x14_1 < (l0.length : Int)) = true := decide_eq_true c6
 clear c6
 by_cases c7 : x14_1 < (l1.length : Int)
 {
 rw [if_pos c7] at H
 have c7b0 : decide (x14_1 < (l1.length : Int)) = true := decide_eq_true c7
 clear c7
 by_cases c8 : (rd l0 x14_1) = (rd l1 x14_1)
 {
 rw [if_pos c8] at H
 have c8b0 : ((rd l0 x14_1) == (rd l1 x14_1)) = true := beq_iff_eq.mpr c8
 have c8b1 : ((rd l0 x14_1) != (rd l1 x14_1)) = false := bne_eq_false_iff_eq.mpr c8
 clear c8
 have H' := aM H
 clear H
 have p525 : 0 ≤ (x14_1 : Int) := dX
 have q525 : x14_1 < (l0.length : Int) := dX
 obtain ⟨ad525, e525, hx525_0⟩ := Kd.at_int HR0.out x14_1 p525 q525
 cases e525
 replace p525 := eq_true p525
 replace q525 := eq_true q525
 have p526 : 0 ≤ (x14_1 : Int) := dX
 have q526 : x14_1 < (l1.length : Int) := dX
 obtain ⟨ad526, e526, hx526_0⟩ := Kd.at_int HR1.out x14_1 p526 q526
 cases e526
 replace p526 := eq_true p526
 replace q526 := eq_true q526
 go_wp2
 go_roundg k1
 case measure => have := HK1.out; omega
 case rel => exact ⟨(wrap64 (x14_1 + 1)), vX, H', ⟨by have := HK1.out; omega⟩, by repeat (first | exact Drawn0.refl _ | apply Drawn0.step)⟩
 }
 {
 rw [if_neg c8] at H
 have c8b0 : ((rd l0 x14_1) == (rd l1 x14_1)) = false := beq_eq_false_iff_ne.mpr c8
 have c8b1 : ((rd l0 x14_1) != (rd l1 x14_1)) = true := bne_iff_ne.mpr c8
 obtain rfl := Option.some.inj H
 have p525 : 0 ≤ (x14_1 : Int) := dX
 have q525 : x14_1 < (l0.length : Int) := dX
 obtain ⟨ad525, e525, hx525_0⟩ := Kd.at_int HR0.out x14_1 p525 q525
 cases e525
 replace p525 := eq_true p525
 replace q525 := eq_true q525
 have p526 : 0 ≤ (x14_1 : Int) := dX
 have q526 : x14_1 < (l1.length : Int) := dX
 obtain ⟨ad526, e526, hx526_0⟩ := Kd.at_int HR1.out x14_1 p526 q526
 cases e526
 replace p526 := eq_true p526
 replace q526 := eq_true q526
 go_wp2
 go_ret
 exact ⟨by first | rfl | (simp; done) | (simp [*]; done), by repeat (first | exact Drawn0.refl _ | apply Drawn0.step)⟩
 }
 }
 {
 rw [if_neg c7] at H
 exact absurd H (by simp)
 }
 }
 {
 rw [if_neg c6] at H
 exact absurd H (by simp)
 }
 }
 {
 rw [if_neg c5] at H
 exact absurd H (by simp)
 }
 }
 {
 rw [if_neg c4] at H
 have c4b0 : decide (x14_1 < (l0.length : Int)) = false := decide_eq_false c4
 clear c4
 obtain rfl := Option.some.inj H
 go_wp2
 go_ret
 exact ⟨by first | rfl | (simp; done) | (simp [*]; done), by repeat (first | exact Drawn0.refl _ | apply Drawn0.step)⟩
 }
 }
 {
 rw [if_neg c3] at H
 have c3b0 : ((l0.length : Int) == (l1.length : Int)) = false := beq_eq_false_iff_ne.mpr c3
 have c3b1 : ((l0.length : Int) != (l1.length : Int)) = true := bne_iff_ne.mpr c3
 have c3b2 : (l0.length == l1.length) = false := by first | simpa using c3 | (simp at c3 ⊢; omega)
 obtain rfl := Option.some.inj H
 go_enter Try.func13, Try.ntmps13
 go_wp2
 go_ret
 exact ⟨by first | rfl | (simp; done) | (simp [*]; done), by repeat (first | exact Drawn0.refl _ | apply Drawn0.step)⟩
 }

/-! ### i_CyclesOf: function 41 -/
mutual
def i_CyclesOf.l0 : Nat → List Int → List Bool → List (List Int) → Int → Int → Option ((List (List Int)))
 | 0, _, _, _, _, _ => none
 | k + 1, x0, x3, x4, x16, x17 => if x17 < x16 then (if 0 ≤ x17 then (if x17 < (x3.length : Int) then (if rdOf false x3 x17 = true then (i_CyclesOf.l0 k x0 x3 x4 x16 (wrap64 (x17 + 1))) else (i_CyclesOf.l1 k x0 x3 x4 (([] : List Int)) x17 x16 x17)) else (none)) else (none)) else (some x4)
def i_CyclesOf.l1 : Nat → List Int → List Bool → List (List Int) → List Int → Int → Int → Int → Option ((List (List Int)))
 | 0, _, _, _, _, _, _, _ => none
 | k + 1, x0, x3, x4, x6, x7, x16, x17 => if 0 ≤ x7 then (if x7 < (x3.length : Int) then (if rdOf false x3 x7 = true then (if x4.length < 5864062014805 then (i_CyclesOf.l0 k x0 x3 (x4 ++ [x6]) x16 (wrap64 (x17 + 1))) else (none)) else (if x6.length < 17592186044416 then (if x7 < (x0.length : Int) then (i_CyclesOf.l1 k x0 (x3.set (x7 : Int).toNat true) x4 (x6 ++ [x7]) (rd x0 x7) x16 x17) else (none)) else (none))) else (none)) else (none)
end
def i_CyclesOf.f (k : Nat) (l0 : List Int) : Option ((List (List Int))) := (i_PermOk.f l0).bind fun t527 => (if t527 = true then (if 0 ≤ (l0.length : Int) then (if ((l0.length : Int) : Int).toNat ≤ 281474976710656 then (i_CyclesOf.l0 k l0 (List.replicate ((l0.length : Int) : Int).toNat false) (([] : List (List Int))) (l0.length : Int) 0) else (none)) else (none)) else (some ([] : List (List Int))))
theorem i_CyclesOf.calls (k : Nat) (A0 : Option Addr) (c0 : Nat) (l0 : List Int) (r : List (List Int)) (w : World) (hr0 : Kd.C (Kd.int .i64) w A0 l0.length l0) (hc0 : l0.length ≤ c0) (h : i_CyclesOf.f k l0 = some r) :
  Calls Try.prog 41 #[.slice A0 l0.length c0] w fun e w' => ∃ v0_ : Value, e = .returned (v0_) ∧ Kd.S (Kd.slice 3 (Kd.int .i64)) 25 w' w.heap.size (fun _ => True) v0_ r ∧ Below w.heap.size w w' := by
 have HR0 := aM hr0
 have HC0 := aM hc0
 clear hr0 hc0
 have HB := aM (Below.refl w.heap.size w)
 have H : ((i_PermOk.f l0).bind fun t527 => (if t527 = true then (if 0 ≤ (l0.length : Int) then (if ((l0.length : Int) : Int).toNat ≤ 281474976710656 then (i_CyclesOf.l0 k l0 (List.replicate ((l0.length : Int) : Int).toNat false) (([] : List (List Int))) (l0.length : Int) 0) else (none)) else (none)) else (some ([] : List (List Int))))) = some r := h
 clear h
 replace H := oB H
 obtain ⟨t527, A20, H⟩ := H
 replace H : (if t527 = true then (if 0 ≤ (l0.length : Int) then (if ((l0.length : Int) : Int).toNat ≤ 281474976710656 then (i_CyclesOf.l0 k l0 (List.replicate ((l0.length : Int) : Int).toNat false) (([] : List (List Int))) (l0.length : Int) 0) else (none)) else (none)) else (some ([] : List (List Int)))) = some r := H
 have A2 := aM A20
 clear A20
 by_cases c3 : t527 = true
 {
 subst c3
 have H1 : (if 0 ≤ (l0.length : Int) then (if ((l0.length : Int) : Int).toNat ≤ 281474976710656 then (i_CyclesOf.l0 k l0 (List.replicate ((l0.length : Int) : Int).toNat false) (([] : List (List Int))) (l0.length : Int) 0) else (none)) else (none)) = some r := by rw [if_pos rfl] at H; exact H
 clear H
 have H := H1
 clear H1
 by_cases c4 : 0 ≤ (l0.length : Int)
 {
 rw [if_pos c4] at H
 have c4b0 := eq_true c4
 have c4b1 : decide (0 ≤ (l0.length : Int)) = true := decide_eq_true c4
 clear c4
 by_cases c5 : ((l0.length : Int) : Int).toNat ≤ 281474976710656
 {
 rw [if_pos c5] at H
 have c5b0 := eq_true c5
 have c5b1 : decide (((l0.length : Int) : Int).toNat ≤ 281474976710656) = true := decide_eq_true c5
 clear c5
 obtain ⟨y528, hy528⟩ : ∃ y_ : List Bool, y_ = (List.replicate ((l0.length : Int) : Int).toNat false) := ⟨_, rfl⟩
 replace H : (i_CyclesOf.l0 k l0 y528 (([] : List (List Int))) (l0.length : Int) 0) = some r := by first | (rw [hy528]; with_reducible exact H) | (have H2_ := (Option.bind_some _ _).symm.trans H; rw [hy528]; with_reducible exact H2_) | (have H2_ := (Option.bind_some _ _).symm.trans H; with_reducible exact H2_) | with_reducible exact H | (rw [hy528]; exact H) | exact H
 have Ny528 := aM hy528
 clear hy528
 obtain ⟨y531, hy531⟩ : ∃ y_ : List (List Int), y_ = (([] : List (List Int))) := ⟨_, rfl⟩
 replace H : (i_CyclesOf.l0 k l0 y528 y531 (l0.length : Int) 0) = some r := by first | (rw [hy531]; with_reducible exact H) | (have H2_ := (Option.bind_some _ _).symm.trans H; rw [hy531]; with_reducible exact H2_) | (have H2_ := (Option.bind_some _ _).symm.trans H; with_reducible exact H2_) | with_reducible exact H | (rw [hy531]; exact H) | exact H
 have Ny531 := aM hy531
 clear hy531
 have H' := aM H
 clear H
 go_enter Try.func41, Try.ntmps41
 go_wp2_with (first | ((with_reducible refine gate_callee (f := 21) rfl ?_); refine goesL_ (some 9) rfl rfl Try.func21 (by kernel_rfl) rfl #[.slice A0 l0.length c0] rfl aX ?_; (with_reducible refine (i_PermOk.calls _ _ l0 true _ ?side1 ?side2 A2.out).mono ?_); (case side1 => exact cX HR0.out); (case side2 => exact HC0.out); rintro e w6 ⟨rfl, hb⟩; refine ⟨_, rfl, ?_⟩; replace HB := aM (below_step (bX HB.out) hb); (try clear hb); (try clear hb2); (try clear hk); (try clear hi)) | ((with_reducible refine gate_dst (N := 13) rfl ?_); refine Kd.R_make Kd.bool _ 4 rfl (N := 13) rfl 64 _ _ rfl (l0.length : Int) rfl rfl Try.underlying64 (.bool false) 1 info4 rfl (by decide) (by omega) false (ok := fun _ => True) (okp := fun _ => True) rfl (fun _ hk => hk) trivial (dX) (Nat.le_trans (Nat.mul_le_mul_right _ (dX : (l0.length : Int).toNat ≤ 281474976710656)) (by omega)) (Below.refl _ _) (Nat.le_refl _) ?_; intro v529 w7 ho8 hb hg_ hnew_; clear hg_ hnew_; (first | rw [← Ny528.out] at ho8 | (simp only [Int.reduceToNat] at ho8; rw [← Ny528.out] at ho8)); have HO530 := aM (Kd.R_lower ho8 (below_size (bX HB.out))); replace HB := aM (below_step (bX HB.out) hb); clear hb ho8) | ((with_reducible refine gate_dst (N := 14) rfl ?_); refine Kd.S_lit (Kd.slice 3 (Kd.int .i64)) _ 25 ?hg (N := 14) ?hd (xs := ([] : List (List Int))) (inner := []) (ok := fun _ => True) (okp := fun _ => True) ?hr ?hp (fun _ hk => hk) trivial (Below.refl _ _) (Nat.le_refl _) (by simp) ?_; (case hd => rfl); (case hg => rfl); (case hr => first | (go_simp; done) | (go_simp; rfl)); (case hp => exact (Reps.none _ _)); intro v532 w9 ho10 hb hg_ hnew_; clear hg_ hnew_; (first | rw [← Ny531.out] at ho10 | (simp only [Int.reduceToNat] at ho10; rw [← Ny531.out] at ho10)); replace HO530 := aM (Kd.R_below (rX HO530.out) hb); have HO533 := aM (Kd.S_lower ho10 (below_size (bX HB.out))); replace HB := aM (below_step (bX HB.out) hb); clear hb ho10))
 go_loopg [4, 17] k (fun kq v4 v17 w' => ∃ (x3_1 : List Bool) (x4_1 : List (List Int)) (x17_1 : Int), v17 = .int .i64 x17_1 ∧ Aside0 (i_CyclesOf.l0 kq l0 x3_1 x4_1 (l0.length : Int) x17_1 = some r) ∧ Aside0 (kq ≤ k) ∧ Aside0 (Kd.R Kd.bool 4 w' w.heap.size (fun _ => True) v529 x3_1) ∧ Aside0 (Kd.S (Kd.slice 3 (Kd.int .i64)) 25 w' w.heap.size (fun _ => True) v4 x4_1) ∧ Aside0 (Below w.heap.size w w'))
 case atStart => exact ⟨(y528), (y531), (0), vX, H', ⟨Nat.le_refl _⟩, ⟨rX HO530.out⟩, ⟨by (with_reducible repeat (first | apply Kd.S_alloc | apply Kd.S_drewN | apply Kd.S_drew)); exact HO533.out⟩, ⟨bX HB.out⟩⟩
 case round =>
 clear H'
 try clear c3
 try clear c4
 try clear c4b0
 try clear c4b1
 try clear c5
 try clear c5b0
 try clear c5b1
 obtain ⟨x3_1, x4_1, x17_1, rfl, HA, HK1, HO_3, HO_4, HB⟩ := hrel
 cases gk with
 | zero => exact absurd HA.out (by simp [i_CyclesOf.l0])
 | succ k1 =>
 have H := HA.out
 clear HA
 simp only [i_CyclesOf.l0] at H
 by_cases c11 : x17_1 < (l0.length : Int)
 {
 rw [if_pos c11] at H
 have c11b0 : decide (x17_1 < (l0.length : Int)) = true := decide_eq_true c11
 clear c11
 by_cases c12 : 0 ≤ x17_1
 {
 rw [if_pos c12] at H
 have c12b0 : decide (0 ≤ x17_1) = true := decide_eq_true c12
 clear c12
 by_cases c13 : x17_1 < (x3_1.length : Int)
 {
 rw [if_pos c13] at H
 have c13b0 : decide (x17_1 < (x3_1.length : Int)) = true := decide_eq_true c13
 clear c13
 obtain ⟨bq14, hbq14⟩ : ∃ b_ : Bool, b_ = (rdOf false x3_1 x17_1) := ⟨_, rfl⟩
 replace H : (if bq14 = true then (i_CyclesOf.l0 k1 l0 x3_1 x4_1 (l0.length : Int) (wrap64 (x17_1 + 1))) else (i_CyclesOf.l1 k1 l0 x3_1 x4_1 (([] : List Int)) x17_1 (l0.length : Int) x17_1)) = some r := by rw [← hbq14] at H; exact H
 have Nbq14 := aM hbq14
 clear hbq14
 by_cases c15 : bq14 = true
 {
 subst c15
 have H1 : (i_CyclesOf.l0 k1 l0 x3_1 x4_1 (l0.length : Int) (wrap64 (x17_1 + 1))) = some r := by rw [if_pos rfl] at H; exact H
 clear H
 have H := H1
 clear H1
 have H' := aM H
 clear H
 obtain ⟨Ao16, co16, eo16⟩ := Kd.R_slice HO_3.out
 subst eo16
 have p534 : 0 ≤ (x17_1 : Int) := dX
 have q534 : x17_1 < (x3_1.length : Int) := dX
 obtain ⟨ad534, e534, hx534_0⟩ := Kd.at_bool (Kd.R_reads' HO_3.out).2.2 x17_1 p534 q534
 (try rw [← Nbq14.out] at hx534_0)
 cases e534
 replace p534 := eq_true p534
 replace q534 := eq_true q534
 go_wp2
 go_roundg k1
 case measure => have := HK1.out; omega
 case rel => exact ⟨(x3_1), (x4_1), (wrap64 (x17_1 + 1)), vX, H', ⟨by have := HK1.out; omega⟩, ⟨rX HO_3.out⟩, ⟨by (with_reducible repeat (first | apply Kd.S_alloc | apply Kd.S_drewN | apply Kd.S_drew)); exact HO_4.out⟩, ⟨bX HB.out⟩⟩
 }
 {
 replace c15 := Bool.eq_false_iff.mpr c15
 subst c15
 have H1 : (i_CyclesOf.l1 k1 l0 x3_1 x4_1 (([] : List Int)) x17_1 (l0.length : Int) x17_1) = some r := by rw [if_neg (show ¬ (false = true) by decide)] at H; exact H
 clear H
 have H := H1
 clear H1
 obtain ⟨y535, hy535⟩ : ∃ y_ : List Int, y_ = (([] : List Int)) := ⟨_, rfl⟩
 replace H : (i_CyclesOf.l1 k1 l0 x3_1 x4_1 y535 x17_1 (l0.length : Int) x17_1) = some r := by first | (rw [hy535]; with_reducible exact H) | (have H2_ := (Option.bind_some _ _).symm.trans H; rw [hy535]; with_reducible exact H2_) | (have H2_ := (Option.bind_some _ _).symm.trans H; with_reducible exact H2_) | with_reducible exact H | (rw [hy535]; exact H) | exact H
 have Ny535 := aM hy535
 clear hy535
 have H' := aM H
 clear H
 obtain ⟨Ao17, co17, eo17⟩ := Kd.R_slice HO_3.out
 subst eo17
 have p534 : 0 ≤ (x17_1 : Int) := dX
 have q534 : x17_1 < (x3_1.length : Int) := dX
 obtain ⟨ad534, e534, hx534_0⟩ := Kd.at_bool (Kd.R_reads' HO_3.out).2.2 x17_1 p534 q534
 (try rw [← Nbq14.out] at hx534_0)
 cases e534
 replace p534 := eq_true p534
 replace q534 := eq_true q534
 go_wp2_with (first | ((with_reducible refine gate_dst (N := 24) rfl ?_); refine Kd.R_lit (Kd.int .i64) _ 3 ?hg (N := 24) ?hd (xs := ([] : List Int)) (inner := []) (ok := fun _ => True) (okp := fun _ => True) ?hr ?hp (fun _ hk => hk) trivial (Below.refl _ _) (Nat.le_refl _) (by simp) ?_; (case hd => rfl); (case hg => rfl); (case hr => first | (go_simp; done) | (go_simp; rfl)); (case hp => exact (Reps.none _ _)); intro v536 w18 ho19 hb hg_ hnew_; clear hg_ hnew_; (first | rw [← Ny535.out] at ho19 | (simp only [Int.reduceToNat] at ho19; rw [← Ny535.out] at ho19)); replace HO_3 := aM (Kd.R_below (rX HO_3.out) hb); replace HO_4 := aM (Kd.S_elder' (by (with_reducible repeat (first | apply Kd.S_alloc | apply Kd.S_drewN | apply Kd.S_drew)); exact HO_4.out) (Kd.R_base ho19) hb); have HO537 := aM (Kd.R_lower ho19 (below_size (bX HB.out))); replace HB := aM (below_step (bX HB.out) hb); clear hb ho19))
 go_loopg [6, 7] k1 (fun kq v6 v7 w' => ∃ (x3_2 : List Bool) (x6_2 : List Int) (x7_2 : Int), v7 = .int .i64 x7_2 ∧ Aside0 (i_CyclesOf.l1 kq l0 x3_2 x4_1 x6_2 x7_2 (l0.length : Int) x17_1 = some r) ∧ Aside0 (kq ≤ k1) ∧ Aside0 (Kd.R Kd.bool 4 w' w.heap.size (fun _ => True) (.slice (some ad534) x3_1.length co17) x3_2) ∧ Aside0 (Kd.S (Kd.slice 3 (Kd.int .i64)) 25 w' w.heap.size (fun k_ => some k_ ≠ (v6 : Value).ownBlock) u4 x4_1) ∧ Aside0 (Kd.R (Kd.int .i64) 3 w' w.heap.size (fun _ => True) v6 x6_2) ∧ Aside0 (Below w.heap.size w w'))
 case atStart => exact ⟨(x3_1), (y535), (x17_1), vX, H', ⟨Nat.le_refl _⟩, ⟨rX HO_3.out⟩, ⟨by (with_reducible repeat (first | apply Kd.S_alloc | apply Kd.S_drewN | apply Kd.S_drew)); exact Kd.S_mono HO_4.out (fun _ hk => hk.2)⟩, ⟨rX HO537.out⟩, ⟨bX HB.out⟩⟩
 case round =>
 clear H'
 try clear c3
 try clear c4
 try clear c4b0
 try clear c4b1
 try clear c5
 try clear c5b0
 try clear c5b1
 try clear c11
 try clear c11b0
 try clear c12
 try clear c12b0
 try clear c13
 try clear c13b0
 try clear c15
 try clear hx534_0
 try clear p534
 try clear q534
 obtain ⟨x3_2, x6_2, x7_2, rfl, HA, HK2, HO_3, HO_4, HO_6, HB⟩ := hrel
 have hl3_2 := (Kd.R_reads' HO_3.out).1
 rw [hl3_2] at HO_3
 (try simp only [hl3_2])
 (try simp only [hl3_2] at HO_4)
 (try simp only [hl3_2] at HO_6)
 cases gk with
 | zero => exact absurd HA.out (by simp [i_CyclesOf.l1])
 | succ k2 =>
 have H := HA.out
 clear HA
 simp only [i_CyclesOf.l1] at H
 by_cases c20 : 0 ≤ x7_2
 {
 rw [if_pos c20] at H
 have c20b0 : decide (0 ≤ x7_2) = true := decide_eq_true c20
 clear c20
 by_cases c21 : x7_2 < (x3_2.length : Int)
 {
 rw [if_pos c21] at H
 have c21b0 : decide (x7_2 < (x3_2.length : Int)) = true := decide_eq_true c21
 clear c21
 obtain ⟨bq22, hbq22⟩ : ∃ b_ : Bool, b_ = (rdOf false x3_2 x7_2) := ⟨_, rfl⟩
 replace H : (if bq22 = true then (if x4_1.length < 5864062014805 then (i_CyclesOf.l0 k2 l0 x3_2 (x4_1 ++ [x6_2]) (l0.length : Int) (wrap64 (x17_1 + 1))) else (none)) else (if x6_2.length < 17592186044416 then (if x7_2 < (l0.length : Int) then (i_CyclesOf.l1 k2 l0 (x3_2.set (x7_2 : Int).toNat true) x4_1 (x6_2 ++ [x7_2]) (rd l0 x7_2) (l0.length : Int) x17_1) else (none)) else (none))) = some r := by rw [← hbq22] at H; exact H
 have Nbq22 := aM hbq22
 clear hbq22
 by_cases c23 : bq22 = true
 {
 subst c23
 have H1 : (if x4_1.length < 5864062014805 then (i_CyclesOf.l0 k2 l0 x3_2 (x4_1 ++ [x6_2]) (l0.length : Int) (wrap64 (x17_1 + 1))) else (none)) = some r := by rw [if_pos rfl] at H; exact H
 clear H
 have H := H1
 clear H1
 by_cases c24 : x4_1.length < 5864062014805
 {
 rw [if_pos c24] at H
 have LMc24 := aM c24
 clear c24
 obtain ⟨y539, hy539⟩ : ∃ y_ : List (List Int), y_ = (x4_1 ++ [x6_2]) := ⟨_, rfl⟩
 replace H : (i_CyclesOf.l0 k2 l0 x3_2 y539 (l0.length : Int) (wrap64 (x17_1 + 1))) = some r := by first | (rw [hy539]; with_reducible exact H) | (have H2_ := (Option.bind_some _ _).symm.trans H; rw [hy539]; with_reducible exact H2_) | (have H2_ := (Option.bind_some _ _).symm.trans H; with_reducible exact H2_) | with_reducible exact H | (rw [hy539]; exact H) | exact H
 have Ny539 := aM hy539
 clear hy539
 have H' := aM H
 clear H
 have p538 : 0 ≤ (x7_2 : Int) := dX
 have q538 : x7_2 < (x3_2.length : Int) := dX
 obtain ⟨ad538, e538, hx538_0⟩ := Kd.at_bool (Kd.R_reads' HO_3.out).2.2 x7_2 p538 q538
 (try rw [← Nbq14.out] at hx538_0)
 (try rw [← Nbq22.out] at hx538_0)
 obtain rfl : ad534 = ad538 := (by injection e538)
 replace p538 := eq_true p538
 replace q538 := eq_true q538
 obtain ⟨Ao26, co26, eo26⟩ := Kd.R_slice HO_6.out
 subst eo26
 go_wp2_with (first | ((with_reducible refine gate_builtin (b := .append) (xs := #[.tmp 42, .tmp 44]) rfl ?_); at_builtin; refine Kd.S_append (Kd.slice 3 (Kd.int .i64)) (w0 := w) w.heap.size rfl (.tmp 42) (.tmp 44) 52 25 (.slice none 0 0) 24 rfl Try.underlying52 info25 rfl (by decide) (by omega) u4 x4_1 x6_2 [.slice Ao26 x6_2.length co26] (fun _ => True) (fun k_ => some k_ = (.slice Ao26 x6_2.length co26 : Value).ownBlock) rfl rfl ?aP (fun k_ hk_ => ((Kd.R_mono (ok' := fun k_ => ((fun _ => True)) k_ ∧ some k_ ≠ (u4 : Value).ownBlock) (Kd.R_apart' (HO_6.out) (Kd.S_typed HO_4.out) (by decide)) (fun k_ hk => ⟨trivial, hk.2⟩))).1 k_ hk_.symm) ?aF ?aO ?aB ?aS ?aL ?_; (case aP => exact Kd.M_row (Kd.R_mono (Kd.R_tight rfl (Kd.R_mono (ok' := fun k_ => ((fun _ => True)) k_ ∧ some k_ ≠ (u4 : Value).ownBlock) (Kd.R_apart' (HO_6.out) (Kd.S_typed HO_4.out) (by decide)) (fun k_ hk => ⟨trivial, hk.2⟩))) (fun _ h_ => h_))); (case aB => exact (bX HB.out)); (case aF => exact (fun _ _ => trivial)); (case aO => exact (by (with_reducible repeat (first | apply Kd.S_alloc | apply Kd.S_drewN | apply Kd.S_drew)); exact Kd.S_mono HO_4.out (fun k_ hk => ⟨trivial, fun e_ => hk e_⟩))); (case aS => exact (below_size (bX HB.out))); (case aL => have := LMc24.out; omega); intro v540 w25 ho hb hg hat; rw [← Ny539.out] at ho; replace HO_3 := aM (Kd.R_over' (rX HO_3.out) (Kd.S_typed (by (with_reducible repeat (first | apply Kd.S_alloc | apply Kd.S_drewN | apply Kd.S_drew)); exact HO_4.out)) (by decide) hg); replace HB := aM (hb); have HO541 := aM (ho); clear HO_4 HO_6 ho hb hg hat))
 (try simp only [← hl3_2])
 (try simp only [add_plain] at *)
 go_roundg k2
 case measure => have := HK1.out; have := HK2.out; omega
 case rel => exact ⟨(x3_2), (y539), (wrap64 (x17_1 + 1)), vX, H', ⟨by have := HK1.out; have := HK2.out; omega⟩, ⟨by (try simp only [hl3_2]); (with_reducible repeat (first|apply rA|apply rN|apply rD)); exact HO_3.out⟩, ⟨by (try simp only [hl3_2]); (with_reducible repeat (first | apply Kd.S_alloc | apply Kd.S_drewN | apply Kd.S_drew)); exact HO541.out⟩, ⟨bX HB.out⟩⟩
 }
 {
 rw [if_neg c24] at H
 exact absurd H (by simp)
 }
 }
 {
 replace c23 := Bool.eq_false_iff.mpr c23
 subst c23
 have H1 : (if x6_2.length < 17592186044416 then (if x7_2 < (l0.length : Int) then (i_CyclesOf.l1 k2 l0 (x3_2.set (x7_2 : Int).toNat true) x4_1 (x6_2 ++ [x7_2]) (rd l0 x7_2) (l0.length : Int) x17_1) else (none)) else (none)) = some r := by rw [if_neg (show ¬ (false = true) by decide)] at H; exact H
 clear H
 have H := H1
 clear H1
 obtain ⟨y542, hy542⟩ : ∃ y_ : List Bool, y_ = (x3_2.set (x7_2 : Int).toNat true) := ⟨_, rfl⟩
 replace H : (if x6_2.length < 17592186044416 then (if x7_2 < (l0.length : Int) then (i_CyclesOf.l1 k2 l0 y542 x4_1 (x6_2 ++ [x7_2]) (rd l0 x7_2) (l0.length : Int) x17_1) else (none)) else (none)) = some r := by first | (rw [hy542]; with_reducible exact H) | (have H2_ := (Option.bind_some _ _).symm.trans H; rw [hy542]; with_reducible exact H2_) | (have H2_ := (Option.bind_some _ _).symm.trans H; with_reducible exact H2_) | with_reducible exact H | (rw [hy542]; exact H) | exact H
 have Ny542 := aM hy542
 clear hy542
 by_cases c28 : x6_2.length < 17592186044416
 {
 rw [if_pos c28] at H
 have LMc28 := aM c28
 clear c28
 obtain ⟨y543, hy543⟩ : ∃ y_ : List Int, y_ = (x6_2 ++ [x7_2]) := ⟨_, rfl⟩
 replace H : (if x7_2 < (l0.length : Int) then (i_CyclesOf.l1 k2 l0 y542 x4_1 y543 (rd l0 x7_2) (l0.length : Int) x17_1) else (none)) = some r := by first | (rw [hy543]; with_reducible exact H) | (have H2_ := (Option.bind_some _ _).symm.trans H; rw [hy543]; with_reducible exact H2_) | (have H2_ := (Option.bind_some _ _).symm.trans H; with_reducible exact H2_) | with_reducible exact H | (rw [hy543]; exact H) | exact H
 have Ny543 := aM hy543
 clear hy543
 by_cases c29 : x7_2 < (l0.length : Int)
 {
 rw [if_pos c29] at H
 have c29b0 : decide (x7_2 < (l0.length : Int)) = true := decide_eq_true c29
 clear c29
 have H' := aM H
 clear H
 have p538 : 0 ≤ (x7_2 : Int) := dX
 have q538 : x7_2 < (x3_2.length : Int) := dX
 obtain ⟨ad538, e538, hx538_0⟩ := Kd.at_bool (Kd.R_reads' HO_3.out).2.2 x7_2 p538 q538
 (try rw [← Nbq14.out] at hx538_0)
 (try rw [← Nbq22.out] at hx538_0)
 obtain rfl : ad534 = ad538 := (by injection e538)
 replace p538 := eq_true p538
 replace q538 := eq_true q538
 have p27 : 0 ≤ (x7_2 : Int) := dX
 have q27 : (x7_2 : Int) < ((x3_2.length : Int) : Int) := dX
 obtain ⟨go27, co27, eo27, gb27, gl27, cl27, HG27⟩ := Kd.R_form HO_3.out (by omega)
 (first | cases eo27 | (injection eo27 with ea_ en_ ec_; (first | subst ea_ | (injection ea_ with ea_; subst ea_)); subst ec_; clear en_))
 have GB27 := aM gb27
 have GG27 := aM HG27
 clear gb27 gl27 HG27
 (first | simp only [add_plain] at hx534_0 | skip)
 (first | simp only [add_plain] at hx538_0 | skip)
 obtain ⟨hx27_0, hf27_0⟩ := Kd.R_celln false HO_3.out (x7_2 : Int) p27 q27
 replace p27 := eq_true p27
 replace q27 := eq_true q27
 have HP30 := Kd.R_putg HO_3.out (x7_2 : Int) true
 go_wp2_with (first | ((with_reducible refine gate_store (t := 4) (p := 37) rfl ?_); refine store_event (t := 4) (p := 37) (v := ?vo_w31) (w1 := (wr.setCell ⟨go27, (x7_2 : Int).toNat, none⟩ (.bool true))) ?hg ?ho ?hn ?hr ?_; (case ho => rfl); (case hg => rfl); (case hn => rfl); (case hr => first | (go_simp; done) | (go_simp; rfl)); intro w31 hw; have hg : wr.grownBy w31 (some go27) := (by rw [hw]; exact HP30.2); have hp_ : Kd.R Kd.bool 4 w31 w.heap.size (fun _ => True) (.slice (some ⟨go27, 0, none⟩) x3_2.length co17) y542 := (by rw [hw, Ny542.out]; exact HP30.1); clear HP30; replace HO_4 := aM (Kd.S_over' (v := (.slice (some ⟨go27, 0, none⟩) x3_2.length co17)) (by (with_reducible repeat (first | apply Kd.S_alloc | apply Kd.S_drewN | apply Kd.S_drew)); exact HO_4.out) (Kd.R_typed HO_3.out) (by decide) hg); replace HO_6 := aM (Kd.R_over' (v := (.slice (some ⟨go27, 0, none⟩) x3_2.length co17)) (rX HO_6.out) (Kd.R_typed HO_3.out) (by decide) hg); replace HO_3 := aM (hp_); replace HB := aM ((by rw [hw]; exact below_set (HB.out) GB27.out : Below w.heap.size w w31)); clear hg hw hp_) | ((with_reducible refine gate_builtin (b := .append) (xs := #[.tmp 38, .tmp 40]) rfl ?_); at_builtin; refine Kd.R_append (Kd.int .i64) (w0 := w) w.heap.size rfl (.tmp 38) (.tmp 40) 25 3 (.int .i64 0) 8 rfl Try.underlying25 info3 rfl (by decide) (by omega) u6 x6_2 x7_2 [.int .i64 x7_2] (fun _ => True) (fun _ => False) rfl rfl ?aP (fun _ hk => hk.elim) ?aF ?aO ?aB ?aS ?aL ?_; (case aP => exact rfl); (case aB => exact (bX HB.out)); (case aF => exact (fun _ _ => trivial)); (case aO => exact (rX HO_6.out)); (case aS => exact (below_size (bX HB.out))); (case aL => have := LMc28.out; omega); intro v544 w32 ho hb hg hat; rw [← Ny543.out] at ho; replace HO_3 := aM (Kd.R_over' (rX HO_3.out) (Kd.R_typed (rX HO_6.out)) (by decide) hg); replace HO_4 := aM (Kd.S_after (ok := (fun _ => True)) (by (with_reducible repeat (first | apply Kd.S_alloc | apply Kd.S_drewN | apply Kd.S_drew)); exact Kd.S_mono HO_4.out (fun _ hk => ⟨trivial, hk⟩)) hg hat); replace HB := aM (hb); have HO545 := aM (ho); clear HO_6 ho hb hg hat; have p546 : 0 ≤ (x7_2 : Int) := dX; have q546 : x7_2 < (l0.length : Int) := dX; obtain ⟨ad546, e546, hx546_0⟩ := Kd.at_int HR0.out x7_2 p546 q546; cases e546; replace hx546_0 := (HB.out.cell (World.block_lt_of_cell? w _ hx546_0)).trans hx546_0; replace p546 := eq_true p546; replace q546 := eq_true q546))
 (try simp only [← hl3_2])
 (try simp only [add_plain] at *)
 go_roundg k2
 case measure => have := HK1.out; have := HK2.out; omega
 case rel => exact ⟨(y542), (y543), (rd l0 x7_2), vX, H', ⟨by have := HK1.out; have := HK2.out; omega⟩, ⟨by (try simp only [hl3_2]); (with_reducible repeat (first|apply rA|apply rN|apply rD)); exact HO_3.out⟩, ⟨by (try simp only [hl3_2]); (with_reducible repeat (first | apply Kd.S_alloc | apply Kd.S_drewN | apply Kd.S_drew)); exact Kd.S_mono HO_4.out (fun _ hk => hk.2)⟩, ⟨by (try simp only [hl3_2]); (with_reducible repeat (first|apply rA|apply rN|apply rD)); exact HO545.out⟩, ⟨bX HB.out⟩⟩
 }
 {
 rw [if_neg c29] at H
 exact absurd H (by simp)
 }
 }
 {
 rw [if_neg c28] at H
 exact absurd H (by simp)
 }
 }
 }
 {
 rw [if_neg c21] at H
 exact absurd H (by simp)
 }
 }
 {
 rw [if_neg c20] at H
 exact absurd H (by simp)
 }
 }
 }
 {
 rw [if_neg c13] at H
 exact absurd H (by simp)
 }
 }
 {
 rw [if_neg c12] at H
 exact absurd H (by simp)
 }
 }
 {
 rw [if_neg c11] at H
 have c11b0 : decide (x17_1 < (l0.length : Int)) = false := decide_eq_false c11
 clear c11
 obtain rfl := Option.some.inj H
 (try simp only [hl3_2] at *)
 go_wp2
 go_ret
 exact ⟨_, eX, by (with_reducible repeat (first | apply Kd.S_alloc | apply Kd.S_drewN | apply Kd.S_drew)); exact HO_4.out, bX HB.out⟩
 }
 }
 {
 rw [if_neg c5] at H
 exact absurd H (by simp)
 }
 }
 {
 rw [if_neg c4] at H
 exact absurd H (by simp)
 }
 }
 {
 replace c3 := Bool.eq_false_iff.mpr c3
 subst c3
 have H1 : (some ([] : List (List Int))) = some r := by rw [if_neg (show ¬ (false = true) by decide)] at H; exact H
 clear H
 have H := H1
 clear H1
 obtain rfl := Option.some.inj H
 go_enter Try.func41, Try.ntmps41
 go_wp2_with (first | ((with_reducible refine gate_callee (f := 21) rfl ?_); refine goesL_ (some 9) rfl rfl Try.func21 (by kernel_rfl) rfl #[.slice A0 l0.length c0] rfl aX ?_; (with_reducible refine (i_PermOk.calls _ _ l0 false _ ?side1 ?side2 A2.out).mono ?_); (case side1 => exact cX HR0.out); (case side2 => exact HC0.out); rintro e w33 ⟨rfl, hb⟩; refine ⟨_, rfl, ?_⟩; replace HB := aM (below_step (bX HB.out) hb); (try clear hb); (try clear hb2); (try clear hk); (try clear hi)))
 go_ret
 exact ⟨_, eX, by first | exact Kd.S_nil _ _ _ _ _ | exact Kd.N_nil _ _ _ _ _ | exact Kd.V_nil _ _ _ _ _ | exact Kd.Q_nil _ _ _ _ _ | exact Kd.R_nil _ _ _ _ _, bX HB.out⟩
 }

/-! ### i_AroundOf: function 42 -/
def i_AroundOf.f (k : Nat) (l0_0 : List Int) (l0_1 : List Int) : Option (List Int) := (i_SurfaceOk.f k l0_0 l0_1).bind fun t548 => (if t548 = true then ((i_ThenPerm.f k l0_0 l0_1).bind fun t549 => ((i_InversePerm.f k l0_0).bind fun t552 => ((i_InversePerm.f k l0_1).bind fun t555 => ((i_ThenPerm.f k t552 t555).bind fun t558 => ((i_ThenPerm.f k t549 t558).bind fun t561 => (some t561)))))) else (some ([] : List Int)))
def i_AroundOf.T3 : Bool × List (List Nat × List Nat) := (true, [([], []), ([0], [0]), ([], []), ([2], [2]), ([1, 3], [1, 3]), ([], []), ([5], [5]), ([6, 4], [6]), ([], []), ([8], [8]), ([9, 7], [9]), ([7, 10, 10], [7, 10]), ([4, 11, 11], [4, 11]), ([12, 12, 0, 1, 2, 3, 4, 5, 6, 7, 8, 9, 10, 11, 12], [12])])
def i_AroundOf.B3 : List Nat := [0, 1, 0, 4, 15, 0, 32, 127, 0, 256, 1023, 2047, 4095, 8191]
theorem i_AroundOf.tab3 : rtab .any (opsOf Try.f42 3) = i_AroundOf.T3 := by kernel_rfl
theorem i_AroundOf.bits3 : waitsOk i_AroundOf.T3.2 i_AroundOf.B3 = true := by kernel_rfl
theorem i_AroundOf.calls (k : Nat) (A0_0 : Option Addr) (c0_0 : Nat) (l0_0 : List Int) (A0_1 : Option Addr) (c0_1 : Nat) (l0_1 : List Int) (r : List Int) (w : World) (hr0_0 : Kd.C (Kd.int .i64) w A0_0 l0_0.length l0_0) (hc0_0 : l0_0.length ≤ c0_0) (hr0_1 : Kd.C (Kd.int .i64) w A0_1 l0_1.length l0_1) (hc0_1 : l0_1.length ≤ c0_1) (h : i_AroundOf.f k l0_0 l0_1 = some r) :
  Calls Try.prog 42 #[.agg #[.slice A0_0 l0_0.length c0_0, .slice A0_1 l0_1.length c0_1]] w fun e w' => ∃ v0_ : Value, e = .returned (v0_) ∧ Kd.R (Kd.int .i64) 3 w' w.heap.size (fun _ => True) v0_ r ∧ Below w.heap.size w w' := by
 have hu27 := Try.underlying27
 have HR0_0 := aM hr0_0
 have HC0_0 := aM hc0_0
 clear hr0_0 hc0_0
 have HR0_1 := aM hr0_1
 have HC0_1 := aM hc0_1
 clear hr0_1 hc0_1
 have HB := aM (Below.refl w.heap.size w)
 have H : ((i_SurfaceOk.f k l0_0 l0_1).bind fun t548 => (if t548 = true then ((i_ThenPerm.f k l0_0 l0_1).bind fun t549 => ((i_InversePerm.f k l0_0).bind fun t552 => ((i_InversePerm.f k l0_1).bind fun t555 => ((i_ThenPerm.f k t552 t555).bind fun t558 => ((i_ThenPerm.f k t549 t558).bind fun t561 => (some t561)))))) else (some ([] : List Int)))) = some r := h
 clear h
 replace H := oB H
 obtain ⟨t548, A20, H⟩ := H
 replace H : (if t548 = true then ((i_ThenPerm.f k l0_0 l0_1).bind fun t549 => ((i_InversePerm.f k l0_0).bind fun t552 => ((i_InversePerm.f k l0_1).bind fun t555 => ((i_ThenPerm.f k t552 t555).bind fun t558 => ((i_ThenPerm.f k t549 t558).bind fun t561 => (some t561)))))) else (some ([] : List Int))) = some r := H
 have A2 := aM A20
 clear A20
 by_cases c3 : t548 = true
 {
 subst c3
 have H1 : ((i_ThenPerm.f k l0_0 l0_1).bind fun t549 => ((i_InversePerm.f k l0_0).bind fun t552 => ((i_InversePerm.f k l0_1).bind fun t555 => ((i_ThenPerm.f k t552 t555).bind fun t558 => ((i_ThenPerm.f k t549 t558).bind fun t561 => (some t561)))))) = some r := by rw [if_pos rfl] at H; exact H
 clear H
 have H := H1
 clear H1
 replace H := oB H
 obtain ⟨t549, A40, H⟩ := H
 replace H : ((i_InversePerm.f k l0_0).bind fun t552 => ((i_InversePerm.f k l0_1).bind fun t555 => ((i_ThenPerm.f k t552 t555).bind fun t558 => ((i_ThenPerm.f k t549 t558).bind fun t561 => (some t561))))) = some r := H
 have A4 := aM A40
 clear A40
 replace H := oB H
 obtain ⟨t552, A50, H⟩ := H
 replace H : ((i_InversePerm.f k l0_1).bind fun t555 => ((i_ThenPerm.f k t552 t555).bind fun t558 => ((i_ThenPerm.f k t549 t558).bind fun t561 => (some t561)))) = some r := H
 have A5 := aM A50
 clear A50
 replace H := oB H
 obtain ⟨t555, A60, H⟩ := H
 replace H : ((i_ThenPerm.f k t552 t555).bind fun t558 => ((i_ThenPerm.f k t549 t558).bind fun t561 => (some t561))) = some r := H
 have A6 := aM A60
 clear A60
 replace H := oB H
 obtain ⟨t558, A70, H⟩ := H
 replace H : ((i_ThenPerm.f k t549 t558).bind fun t561 => (some t561)) = some r := H
 have A7 := aM A70
 clear A70
 replace H := oB H
 obtain ⟨t561, A80, H⟩ := H
 replace H : (some t561) = some r := H
 have A8 := aM A80
 clear A80
 obtain rfl := Option.some.inj H
 go_enter Try.func42, Try.ntmps42
 try go_wp2_with (first | ((with_reducible refine gate_dst (N := 1) rfl ?_); refine bEv (cs := #[.slice A0_0 l0_0.length c0_0, .slice A0_1 l0_1.length c0_1]) (t := 27) ?_; intro gb547 hg w9 hbox hb; have BK547 := aM (hbox); have GW547 := aM ((szX (below_size (bX HB.out)) hg : w.heap.size ≤ gb547)); have GE547 := aM ((szX (below_size (bX HB.out)) hg : w.heap.size ≤ gb547)); replace HB := aM (below_step (bX HB.out) hb); clear hb hbox hg; have hcz10_0 := cz20 BK547.out; have hcz10_1 := cz21 BK547.out; have hfz10_0 := blk_frozen BK547.out 0; have hfz10_1 := blk_frozen BK547.out 1) | ((with_reducible refine gate_callee (f := 19) rfl ?_); refine goesL_ (some 4) rfl rfl Try.func19 (by kernel_rfl) rfl #[.agg #[.slice A0_0 l0_0.length c0_0, .slice A0_1 l0_1.length c0_1]] rfl aX ?_; (with_reducible refine (i_SurfaceOk.calls k _ _ l0_0 _ _ l0_1 true _ ?side1 ?side2 ?side3 ?side4 A2.out).mono ?_); (case side1 => exact cX (Kd.C_below HR0_0.out HB.out)); (case side2 => exact HC0_0.out); (case side3 => exact cX (Kd.C_below HR0_1.out HB.out)); (case side4 => exact HC0_1.out); rintro e w11 ⟨rfl, hb⟩; refine ⟨_, rfl, ?_⟩; replace BK547 := aM (bbX BK547.out hb); replace HB := aM (below_step (bX1 HB.out GE547.out) hb); (try clear hb); (try clear hb2); (try clear hk); (try clear hi)))
 replace BK547 := aM (blk_drew BK547.out)
 replace HB := aM (below_drew1 HB.out)
 refine start_ (n := 14) (S := fun w' => w'.cell? ⟨gb547, 0, none⟩ = some (.slice A0_0 l0_0.length c0_0) ∧ w'.cell? ⟨gb547, 1, none⟩ = some (.slice A0_1 l0_1.length c0_1)) (ds := []) #[ff,ff,ff,ff,ff,ff,ff,ff,ff,ff,ff,ff,ff,ff] (by kernel_rfl) rfl rfl ⟨cz20 BK547.out, cz21 BK547.out⟩ (fun hHeld => ?_); refine with_tabW i_AroundOf.tab3 i_AroundOf.bits3 (fun HT_ HW_ => ?_)
 generalize w11.drew = w12 at BK547 HB hHeld ⊢
 refine pX 0 6 (fl 14 1) rfl rfl HT_.out ?_
 refine pX 2 8 (fl 14 5) rfl rfl HT_.out ?_
 refine pX 5 11 (fl 14 37) rfl rfl HT_.out ?_
 refine pX 8 14 (fl 14 293) rfl rfl HT_.out ?_
 refine tX2 1 7 (fl 14 295) rfl rfl HT_.out HW_.out hHeld ?_
 refine tX2 3 9 (fl 14 303) rfl rfl HT_.out HW_.out hHeld ?_
 refine tX2 6 12 (fl 14 367) rfl rfl HT_.out HW_.out hHeld ?_
 refine tX2 9 15 (fl 14 879) rfl rfl HT_.out HW_.out hHeld ?_
 refine one_ (i := 4) (N := some 10) #[tt,tt,tt,tt,tt,tt,tt,ff,tt,tt,ff,ff,ff,ff] rfl rfl (one_of HT_.out (by kernel_rfl)) (by decide) (fun K hK => ?_)
 refine goes_ Try.func55 (by kernel_rfl) rfl #[.slice A0_0 l0_0.length c0_0, .slice A0_1 l0_1.length c0_1] (by rfl) rfl rfl aX ?_
 with_reducible refine (i_ThenPerm.calls k _ _ l0_0 _ _ l0_1 t549 _ ?side1 ?side2 ?side3 ?side4 A4.out).mono ?_
 (case side1 => exact cX (Kd.C_below HR0_0.out HB.out))
 (case side2 => exact HC0_0.out)
 (case side3 => exact cX (Kd.C_below HR0_1.out HB.out))
 (case side4 => exact HC0_1.out)
 rintro e w13 ⟨v550, rfl, ho0, hb⟩
 refine ⟨_, rfl, ?_⟩
 have HO551 := aM (Kd.R_lower ho0 (below_size (bX1 HB.out GE547.out)))
 replace BK547 := aM (bbX BK547.out hb)
 replace HB := aM (below_step (bX1 HB.out GE547.out) hb)
 (try clear hb)
 (try clear hb2)
 (try clear hk)
 (try clear hi)
 (try clear ho0)
 refine hK.out _ _ ⟨cz20 BK547.out, cz21 BK547.out⟩ (fun hHeld => ?_)
 clear hK K
 refine norm_ (a' := ?_) ?_ ?_
 rotate_left
 {
 show Act.put _ (some 10) _ = _
 simp only [Act.put, zA, zB, zC, i64_w, i32_w]
 rfl
 }
 refine one_ (i := 7) (N := some 13) #[tt,tt,tt,tt,tt,tt,tt,tt,tt,tt,ff,ff,ff,ff] rfl rfl (one_of HT_.out (by kernel_rfl)) (by decide) (fun K hK => ?_)
 refine goes_ Try.func22 (by kernel_rfl) rfl #[.slice A0_0 l0_0.length c0_0] (by rfl) rfl rfl aX ?_
 with_reducible refine (i_InversePerm.calls k _ _ l0_0 t552 _ ?side1 ?side2 A5.out).mono ?_
 (case side1 => exact cX (Kd.C_below HR0_0.out HB.out))
 (case side2 => exact HC0_0.out)
 rintro e w14 ⟨v553, rfl, ho0, hb⟩
 refine ⟨_, rfl, ?_⟩
 have HO554 := aM (Kd.R_lower (Kd.R_new' ho0 (Kd.R_lt (rX HO551.out))) (below_size (bX1 HB.out GE547.out)))
 replace HO551 := aM (Kd.R_elder' (rX HO551.out) (Kd.R_base ho0) hb)
 replace BK547 := aM (bbX BK547.out hb)
 replace HB := aM (below_step (bX1 HB.out GE547.out) hb)
 (try clear hb)
 (try clear hb2)
 (try clear hk)
 (try clear hi)
 (try clear ho0)
 refine hK.out _ _ ⟨cz20 BK547.out, cz21 BK547.out⟩ (fun hHeld => ?_)
 clear hK K
 refine norm_ (a' := ?_) ?_ ?_
 rotate_left
 {
 show Act.put _ (some 13) _ = _
 simp only [Act.put, zA, zB, zC, i64_w, i32_w]
 rfl
 }
 refine one_ (i := 10) (N := some 16) #[tt,tt,tt,tt,tt,tt,tt,tt,tt,tt,tt,ff,ff,ff] rfl rfl (one_of HT_.out (by kernel_rfl)) (by decide) (fun K hK => ?_)
 refine goes_ Try.func22 (by kernel_rfl) rfl #[.slice A0_1 l0_1.length c0_1] (by rfl) rfl rfl aX ?_
 with_reducible refine (i_InversePerm.calls k _ _ l0_1 t555 _ ?side1 ?side2 A6.out).mono ?_
 (case side1 => exact cX (Kd.C_below HR0_1.out HB.out))
 (case side2 => exact HC0_1.out)
 rintro e w15 ⟨v556, rfl, ho0, hb⟩
 refine ⟨_, rfl, ?_⟩
 have HO557 := aM (Kd.R_lower (Kd.R_new' (Kd.R_new' ho0 (Kd.R_lt (rX HO551.out))) (Kd.R_lt (rX HO554.out))) (below_size (bX1 HB.out GE547.out)))
 replace HO551 := aM (Kd.R_elder' (rX HO551.out) (Kd.R_base ho0) hb)
 replace HO554 := aM (Kd.R_elder' (rX HO554.out) (Kd.R_base ho0) hb)
 replace BK547 := aM (bbX BK547.out hb)
 replace HB := aM (below_step (bX1 HB.out GE547.out) hb)
 (try clear hb)
 (try clear hb2)
 (try clear hk)
 (try clear hi)
 (try clear ho0)
 obtain ⟨Ao16, co16, eo16⟩ := Kd.R_slice HO554.out
 (first | subst eo16 | (injection eo16 with f1_ f2_ f3_; have f4_ := f1_.symm; have f5_ := f3_.symm; clear f1_ f2_ f3_; subst f4_; subst f5_))
 obtain ⟨Ao17, co17, eo17⟩ := Kd.R_slice HO557.out
 (first | subst eo17 | (injection eo17 with f1_ f2_ f3_; have f4_ := f1_.symm; have f5_ := f3_.symm; clear f1_ f2_ f3_; subst f4_; subst f5_))
 refine hK.out _ _ ⟨cz20 BK547.out, cz21 BK547.out⟩ (fun hHeld => ?_)
 clear hK K
 refine norm_ (a' := ?_) ?_ ?_
 rotate_left
 {
 show Act.put _ (some 16) _ = _
 simp only [Act.put, zA, zB, zC, i64_w, i32_w]
 rfl
 }
 refine one_ (i := 11) (N := some 17) #[tt,tt,tt,tt,tt,tt,tt,tt,tt,tt,tt,tt,ff,ff] rfl rfl (one_of HT_.out (by kernel_rfl)) (by decide) (fun K hK => ?_)
 refine goes_ Try.func55 (by kernel_rfl) rfl #[.slice Ao16 t552.length co16, .slice Ao17 t555.length co17] (by rfl) rfl rfl aX ?_
 with_reducible refine (i_ThenPerm.calls k _ _ t552 _ _ t555 t558 _ ?side1 ?side2 ?side3 ?side4 A7.out).mono ?_
 (case side1 => exact cX (Kd.R_reads' HO554.out).2.2)
 (case side2 => exact (Kd.R_reads' HO554.out).2.1)
 (case side3 => exact cX (Kd.R_reads' HO557.out).2.2)
 (case side4 => exact (Kd.R_reads' HO557.out).2.1)
 rintro e w18 ⟨v559, rfl, ho0, hb⟩
 refine ⟨_, rfl, ?_⟩
 have HO560 := aM (Kd.R_lower (Kd.R_new' (Kd.R_new' (Kd.R_new' ho0 (Kd.R_lt (rX HO551.out))) (Kd.R_lt (rX HO554.out))) (Kd.R_lt (rX HO557.out))) (below_size (bX1 HB.out GE547.out)))
 replace HO551 := aM (Kd.R_elder' (rX HO551.out) (Kd.R_base ho0) hb)
 replace HO554 := aM (Kd.R_elder' (rX HO554.out) (Kd.R_base ho0) hb)
 replace HO557 := aM (Kd.R_elder' (rX HO557.out) (Kd.R_base ho0) hb)
 replace BK547 := aM (bbX BK547.out hb)
 replace HB := aM (below_step (bX1 HB.out GE547.out) hb)
 (try clear hb)
 (try clear hb2)
 (try clear hk)
 (try clear hi)
 (try clear ho0)
 obtain ⟨Ao19, co19, eo19⟩ := Kd.R_slice HO551.out
 (first | subst eo19 | (injection eo19 with f1_ f2_ f3_; have f4_ := f1_.symm; have f5_ := f3_.symm; clear f1_ f2_ f3_; subst f4_; subst f5_))
 obtain ⟨Ao20, co20, eo20⟩ := Kd.R_slice HO560.out
 (first | subst eo20 | (injection eo20 with f1_ f2_ f3_; have f4_ := f1_.symm; have f5_ := f3_.symm; clear f1_ f2_ f3_; subst f4_; subst f5_))
 refine hK.out _ _ ⟨cz20 BK547.out, cz21 BK547.out⟩ (fun hHeld => ?_)
 clear hK K
 refine norm_ (a' := ?_) ?_ ?_
 rotate_left
 {
 show Act.put _ (some 17) _ = _
 simp only [Act.put, zA, zB, zC, i64_w, i32_w]
 rfl
 }
 refine one_ (i := 12) (N := some 18) #[tt,tt,tt,tt,tt,tt,tt,tt,tt,tt,tt,tt,tt,ff] rfl rfl (one_of HT_.out (by kernel_rfl)) (by decide) (fun K hK => ?_)
 refine goes_ Try.func55 (by kernel_rfl) rfl #[.slice Ao19 t549.length co19, .slice Ao20 t558.length co20] (by rfl) rfl rfl aX ?_
 with_reducible refine (i_ThenPerm.calls k _ _ t549 _ _ t558 t561 _ ?side1 ?side2 ?side3 ?side4 A8.out).mono ?_
 (case side1 => exact cX (Kd.R_reads' HO551.out).2.2)
 (case side2 => exact (Kd.R_reads' HO551.out).2.1)
 (case side3 => exact cX (Kd.R_reads' HO560.out).2.2)
 (case side4 => exact (Kd.R_reads' HO560.out).2.1)
 rintro e w21 ⟨v562, rfl, ho0, hb⟩
 refine ⟨_, rfl, ?_⟩
 have HO563 := aM (Kd.R_lower (Kd.R_new' (Kd.R_new' (Kd.R_new' (Kd.R_new' ho0 (Kd.R_lt (rX HO551.out))) (Kd.R_lt (rX HO554.out))) (Kd.R_lt (rX HO557.out))) (Kd.R_lt (rX HO560.out))) (below_size (bX1 HB.out GE547.out)))
 replace HO551 := aM (Kd.R_elder' (rX HO551.out) (Kd.R_base ho0) hb)
 replace HO554 := aM (Kd.R_elder' (rX HO554.out) (Kd.R_base ho0) hb)
 replace HO557 := aM (Kd.R_elder' (rX HO557.out) (Kd.R_base ho0) hb)
 replace HO560 := aM (Kd.R_elder' (rX HO560.out) (Kd.R_base ho0) hb)
 replace BK547 := aM (bbX BK547.out hb)
 replace HB := aM (below_step (bX1 HB.out GE547.out) hb)
 (try clear hb)
 (try clear hb2)
 (try clear hk)
 (try clear hi)
 (try clear ho0)
 refine hK.out _ _ ⟨cz20 BK547.out, cz21 BK547.out⟩ (fun hHeld => ?_)
 clear hK K
 refine norm_ (a' := ?_) ?_ ?_
 rotate_left
 {
 show Act.put _ (some 18) _ = _
 simp only [Act.put, zA, zB, zC, i64_w, i32_w]
 rfl
 }
 refine pX 13 2 (fl 14 16383) rfl rfl HT_.out ?_
 refine done_ (done_of HT_.out (by kernel_rfl)) ?_
 try go_wp2
 go_ret
 exact ⟨_, eX, by (with_reducible repeat (first|apply rA|apply rN|apply rD)); exact Kd.R_mono HO563.out (fun _ hk => trivial), bX1 HB.out GE547.out⟩
 }
 {
 replace c3 := Bool.eq_false_iff.mpr c3
 subst c3
 have H1 : (some ([] : List Int)) = some r := by rw [if_neg (show ¬ (false = true) by decide)] at H; exact H
 clear H
 have H := H1
 clear H1
 obtain rfl := Option.some.inj H
 go_enter Try.func42, Try.ntmps42
 go_wp2_with (first | ((with_reducible refine gate_dst (N := 1) rfl ?_); refine bEv (cs := #[.slice A0_0 l0_0.length c0_0, .slice A0_1 l0_1.length c0_1]) (t := 27) ?_; intro gb547 hg w22 hbox hb; have BK547 := aM (hbox); have GW547 := aM ((szX (below_size (bX HB.out)) hg : w.heap.size ≤ gb547)); have GE547 := aM ((szX (below_size (bX HB.out)) hg : w.heap.size ≤ gb547)); replace HB := aM (below_step (bX HB.out) hb); clear hb hbox hg; have hcz23_0 := cz20 BK547.out; have hcz23_1 := cz21 BK547.out; have hfz23_0 := blk_frozen BK547.out 0; have hfz23_1 := blk_frozen BK547.out 1) | ((with_reducible refine gate_callee (f := 19) rfl ?_); refine goesL_ (some 4) rfl rfl Try.func19 (by kernel_rfl) rfl #[.agg #[.slice A0_0 l0_0.length c0_0, .slice A0_1 l0_1.length c0_1]] rfl aX ?_; (with_reducible refine (i_SurfaceOk.calls k _ _ l0_0 _ _ l0_1 false _ ?side1 ?side2 ?side3 ?side4 A2.out).mono ?_); (case side1 => exact cX (Kd.C_below HR0_0.out HB.out)); (case side2 => exact HC0_0.out); (case side3 => exact cX (Kd.C_below HR0_1.out HB.out)); (case side4 => exact HC0_1.out); rintro e w24 ⟨rfl, hb⟩; refine ⟨_, rfl, ?_⟩; replace BK547 := aM (bbX BK547.out hb); replace HB := aM (below_step (bX1 HB.out GE547.out) hb); (try clear hb); (try clear hb2); (try clear hk); (try clear hi)))
 go_ret
 exact ⟨_, eX, by first | exact Kd.R_nil _ _ _ _ _ | exact Kd.N_nil _ _ _ _ _ | exact Kd.V_nil _ _ _ _ _ | exact Kd.Q_nil _ _ _ _ _ | exact Kd.S_nil _ _ _ _ _, bX1 HB.out GE547.out⟩
 }

/-! ### i_CornersOf: function 32 -/
def i_CornersOf.f (k : Nat) (l0_0 : List Int) (l0_1 : List Int) : Option ((List (List Int))) := (i_SurfaceOk.f k l0_0 l0_1).bind fun t565 => (if t565 = true then ((i_AroundOf.f k l0_0 l0_1).bind fun t566 => ((i_CyclesOf.f k t566).bind fun t569 => (some t569))) else (some ([] : List (List Int))))
theorem i_CornersOf.calls (k : Nat) (A0_0 : Option Addr) (c0_0 : Nat) (l0_0 : List Int) (A0_1 : Option Addr) (c0_1 : Nat) (l0_1 : List Int) (r : List (List Int)) (w : World) (hr0_0 : Kd.C (Kd.int .i64) w A0_0 l0_0.length l0_0) (hc0_0 : l0_0.length ≤ c0_0) (hr0_1 : Kd.C (Kd.int .i64) w A0_1 l0_1.length l0_1) (hc0_1 : l0_1.length ≤ c0_1) (h : i_CornersOf.f k l0_0 l0_1 = some r) :
  Calls Try.prog 32 #[.agg #[.slice A0_0 l0_0.length c0_0, .slice A0_1 l0_1.length c0_1]] w fun e w' => ∃ v0_ : Value, e = .returned (v0_) ∧ Kd.S (Kd.slice 3 (Kd.int .i64)) 25 w' w.heap.size (fun _ => True) v0_ r ∧ Below w.heap.size w w' := by
 have hu27 := Try.underlying27
 have HR0_0 := aM hr0_0
 have HC0_0 := aM hc0_0
 clear hr0_0 hc0_0
 have HR0_1 := aM hr0_1
 have HC0_1 := aM hc0_1
 clear hr0_1 hc0_1
 have HB := aM (Below.refl w.heap.size w)
 have H : ((i_SurfaceOk.f k l0_0 l0_1).bind fun t565 => (if t565 = true then ((i_AroundOf.f k l0_0 l0_1).bind fun t566 => ((i_CyclesOf.f k t566).bind fun t569 => (some t569))) else (some ([] : List (List Int))))) = some r := h
 clear h
 replace H := oB H
 obtain ⟨t565, A20, H⟩ := H
 replace H : (if t565 = true then ((i_AroundOf.f k l0_0 l0_1).bind fun t566 => ((i_CyclesOf.f k t566).bind fun t569 => (some t569))) else (some ([] : List (List Int)))) = some r := H
 have A2 := aM A20
 clear A20
 by_cases c3 : t565 = true
 {
 subst c3
 have H1 : ((i_AroundOf.f k l0_0 l0_1).bind fun t566 => ((i_CyclesOf.f k t566).bind fun t569 => (some t569))) = some r := by rw [if_pos rfl] at H; exact H
 clear H
 have H := H1
 clear H1
 replace H := oB H
 obtain ⟨t566, A40, H⟩ := H
 replace H : ((i_CyclesOf.f k t566).bind fun t569 => (some t569)) = some r := H
 have A4 := aM A40
 clear A40
 replace H := oB H
 obtain ⟨t569, A50, H⟩ := H
 replace H : (some t569) = some r := H
 have A5 := aM A50
 clear A50
 obtain rfl := Option.some.inj H
 go_enter Try.func32, Try.ntmps32
 go_wp2_with (first | ((with_reducible refine gate_dst (N := 1) rfl ?_); refine bEv (cs := #[.slice A0_0 l0_0.length c0_0, .slice A0_1 l0_1.length c0_1]) (t := 27) ?_; intro gb564 hg w6 hbox hb; have BK564 := aM (hbox); have GW564 := aM ((szX (below_size (bX HB.out)) hg : w.heap.size ≤ gb564)); have GE564 := aM ((szX (below_size (bX HB.out)) hg : w.heap.size ≤ gb564)); replace HB := aM (below_step (bX HB.out) hb); clear hb hbox hg; have hcz7_0 := cz20 BK564.out; have hcz7_1 := cz21 BK564.out; have hfz7_0 := blk_frozen BK564.out 0; have hfz7_1 := blk_frozen BK564.out 1) | ((with_reducible refine gate_callee (f := 19) rfl ?_); refine goesL_ (some 4) rfl rfl Try.func19 (by kernel_rfl) rfl #[.agg #[.slice A0_0 l0_0.length c0_0, .slice A0_1 l0_1.length c0_1]] rfl aX ?_; (with_reducible refine (i_SurfaceOk.calls k _ _ l0_0 _ _ l0_1 true _ ?side1 ?side2 ?side3 ?side4 A2.out).mono ?_); (case side1 => exact cX (Kd.C_below HR0_0.out HB.out)); (case side2 => exact HC0_0.out); (case side3 => exact cX (Kd.C_below HR0_1.out HB.out)); (case side4 => exact HC0_1.out); rintro e w8 ⟨rfl, hb⟩; refine ⟨_, rfl, ?_⟩; replace BK564 := aM (bbX BK564.out hb); replace HB := aM (below_step (bX1 HB.out GE564.out) hb); (try clear hb); (try clear hb2); (try clear hk); (try clear hi); have hcz9_0 := cz20 BK564.out; have hcz9_1 := cz21 BK564.out; have hfz9_0 := blk_frozen BK564.out 0; have hfz9_1 := blk_frozen BK564.out 1) | ((with_reducible refine gate_callee (f := 42) rfl ?_); refine goesL_ (some 7) rfl rfl Try.func42 (by kernel_rfl) rfl #[.agg #[.slice A0_0 l0_0.length c0_0, .slice A0_1 l0_1.length c0_1]] rfl aX ?_; (with_reducible refine (i_AroundOf.calls k _ _ l0_0 _ _ l0_1 t566 _ ?side1 ?side2 ?side3 ?side4 A4.out).mono ?_); (case side1 => exact cX (Kd.C_below HR0_0.out HB.out)); (case side2 => exact HC0_0.out); (case side3 => exact cX (Kd.C_below HR0_1.out HB.out)); (case side4 => exact HC0_1.out); rintro e w10 ⟨v567, rfl, ho0, hb⟩; refine ⟨_, rfl, ?_⟩; have HO568 := aM (Kd.R_lower ho0 (below_size (bX1 HB.out GE564.out))); replace BK564 := aM (bbX BK564.out hb); replace HB := aM (below_step (bX1 HB.out GE564.out) hb); (try clear hb); (try clear hb2); (try clear hk); (try clear hi); (try clear ho0); obtain ⟨Ao11, co11, eo11⟩ := Kd.R_slice HO568.out; subst eo11) | ((with_reducible refine gate_callee (f := 41) rfl ?_); refine goesL_ (some 8) rfl rfl Try.func41 (by kernel_rfl) rfl #[.slice Ao11 t566.length co11] rfl aX ?_; (with_reducible refine (i_CyclesOf.calls k _ _ t566 t569 _ ?side1 ?side2 A5.out).mono ?_); (case side1 => exact cX (Kd.R_reads' HO568.out).2.2); (case side2 => exact (Kd.R_reads' HO568.out).2.1); rintro e w12 ⟨v570, rfl, ho0, hb⟩; refine ⟨_, rfl, ?_⟩; have HO571 := aM (Kd.S_lower (Kd.S_new' ho0 (Kd.R_lt (rX HO568.out))) (below_size (bX1 HB.out GE564.out))); replace HO568 := aM (Kd.R_below (rX HO568.out) hb); replace BK564 := aM (bbX BK564.out hb); replace HB := aM (below_step (bX1 HB.out GE564.out) hb); (try clear hb); (try clear hb2); (try clear hk); (try clear hi); (try clear ho0)))
 go_ret
 exact ⟨_, eX, by (with_reducible repeat (first | apply Kd.S_alloc | apply Kd.S_drewN | apply Kd.S_drew)); exact Kd.S_mono HO571.out (fun _ hk => trivial), bX1 HB.out GE564.out⟩
 }
 {
 replace c3 := Bool.eq_false_iff.mpr c3
 subst c3
 have H1 : (some ([] : List (List Int))) = some r := by rw [if_neg (show ¬ (false = true) by decide)] at H; exact H
 clear H
 have H := H1
 clear H1
 obtain rfl := Option.some.inj H
 go_enter Try.func32, Try.ntmps32
 go_wp2_with (first | ((with_reducible refine gate_dst (N := 1) rfl ?_); refine bEv (cs := #[.slice A0_0 l0_0.length c0_0, .slice A0_1 l0_1.length c0_1]) (t := 27) ?_; intro gb564 hg w13 hbox hb; have BK564 := aM (hbox); have GW564 := aM ((szX (below_size (bX HB.out)) hg : w.heap.size ≤ gb564)); have GE564 := aM ((szX (below_size (bX HB.out)) hg : w.heap.size ≤ gb564)); replace HB := aM (below_step (bX HB.out) hb); clear hb hbox hg; have hcz14_0 := cz20 BK564.out; have hcz14_1 := cz21 BK564.out; have hfz14_0 := blk_frozen BK564.out 0; have hfz14_1 := blk_frozen BK564.out 1) | ((with_reducible refine gate_callee (f := 19) rfl ?_); refine goesL_ (some 4) rfl rfl Try.func19 (by kernel_rfl) rfl #[.agg #[.slice A0_0 l0_0.length c0_0, .slice A0_1 l0_1.length c0_1]] rfl aX ?_; (with_reducible refine (i_SurfaceOk.calls k _ _ l0_0 _ _ l0_1 false _ ?side1 ?side2 ?side3 ?side4 A2.out).mono ?_); (case side1 => exact cX (Kd.C_below HR0_0.out HB.out)); (case side2 => exact HC0_0.out); (case side3 => exact cX (Kd.C_below HR0_1.out HB.out)); (case side4 => exact HC0_1.out); rintro e w15 ⟨rfl, hb⟩; refine ⟨_, rfl, ?_⟩; replace BK564 := aM (bbX BK564.out hb); replace HB := aM (below_step (bX1 HB.out GE564.out) hb); (try clear hb); (try clear hb2); (try clear hk); (try clear hi)))
 go_ret
 exact ⟨_, eX, by first | exact Kd.S_nil _ _ _ _ _ | exact Kd.N_nil _ _ _ _ _ | exact Kd.V_nil _ _ _ _ _ | exact Kd.Q_nil _ _ _ _ _ | exact Kd.R_nil _ _ _ _ _, bX1 HB.out GE564.out⟩
 }

/-! ### slices_SortFunc_int_int: function 33 -/
/-! by hand -/
/-- A function value that hands back the second less the first. -/
def IsDesc (g : Nat) : Prop := (∀ args w, (callFunc g args).run Try.prog w = .ok (.enter g args) w) ∧ ∀ (x y : Int) (W : World), Calls Try.prog g #[.int .i64 x, .int .i64 y] W fun e w' => e = .returned (.int .i64 (wrap64 (y - x))) ∧ w' = W
theorem angles_desc : IsDesc 34 := ⟨fun args w => enters_ Try.func34 (by kernel_rfl) rfl args w, fun x y W => by
  go_enter Try.func34, Try.ntmps34
  go_wp2
  go_ret
  exact ⟨by simp [i64_w], rfl⟩⟩
def Sml : Type := {x : Int // 0 ≤ x ∧ x ≤ 100000}
instance : Inhabited Sml := ⟨⟨0, by decide⟩⟩
def sEnc (x : Sml) : Value := .int .i64 x.1
def sCmp (x y : Sml) : Int := y.1 - x.1
theorem sLt (x y : Sml) : ltOf sCmp x y = decide (y.1 < x.1) := by
 unfold ltOf sCmp
 exact decide_eq_decide.2 (by omega)
theorem sSwo : Go.Sort.SWO (ltOf sCmp) where
  irrefl x := by rw [sLt]; simp
  trans x y z h1 h2 := by rw [sLt] at *; simp at *; omega
  ntrans x y z h1 h2 := by rw [sLt] at *; simp at *; omega
def slices_SortFunc_int_int.f (l0 : List Int) : Option (List Int) := if (∀ x ∈ l0, 0 ≤ x ∧ x ≤ 100000) ∧ l0.length ≤ 1000 then some (l0.mergeSort fun x y => decide (y ≤ x)) else none
def smls : (l : List Int) → (∀ x ∈ l, 0 ≤ x ∧ x ≤ 100000) → List Sml
  | [], _ => []
  | x :: l, h => ⟨x, h x List.mem_cons_self⟩ :: smls l (fun y hy => h y (List.mem_cons_of_mem _ hy))
theorem smls_map : ∀ (l : List Int) (h : ∀ x ∈ l, 0 ≤ x ∧ x ≤ 100000), (smls l h).map (·.1) = l
  | [], _ => rfl
  | x :: l, h => by
    show x :: (smls l _).map (·.1) = x :: l
    rw [smls_map l]
theorem smls_enc (l : List Int) (h : ∀ x ∈ l, 0 ≤ x ∧ x ≤ 100000) : (smls l h).map sEnc = encs (Value.int .i64) l := by
 have e : (smls l h).map sEnc = ((smls l h).map (·.1)).map (Value.int .i64) := by rw [List.map_map]; rfl
 rw [e, smls_map]
 rfl
theorem smls_sort (l : List Int) (h : ∀ x ∈ l, 0 ≤ x ∧ x ≤ 100000) : ((smls l h).mergeSort fun x y => !(ltOf sCmp) y x).map (·.1) = l.mergeSort fun x y => decide (y ≤ x) := by
 rw [List.map_mergeSort (s := fun x y => decide (y ≤ x)) (fun a _ b _ => by rw [sLt]; by_cases c : a.1 < b.1 <;> simp [c] <;> omega), smls_map]
/-- The world behind a sort. -/
theorem sort_world {enc : Sml → Value} {w w0 : World} {g n : Nat} {d : Array Sml} {os : Array Obj} (hg : w0.heap.size ≤ g) (hB : Below w0.heap.size w0 w) (hgw : g < w.heap.size) :
    Below w0.heap.size w0 (sortWorld enc w g 0 n d os) ∧ (∀ k, k < w.heap.size → k ≠ g → (sortWorld enc w g 0 n d os).heap[k]? = w.heap[k]?) ∧ w.heap.size ≤ (sortWorld enc w g 0 n d os).heap.size ∧
    ∀ cur e fz, w.heap[g]? = some (.cells cur e fz) → (sortWorld enc w g 0 n d os).heap[g]? = some (.cells (Go.Sort.putCells enc 0 d cur) e fz) := by
  have hsz : (Go.Sort.putRow enc (Go.Sort.ahead w n) g 0 d).heap.size = w.heap.size := by simp [Go.Sort.putRow, Go.Sort.mapBlock, Go.Sort.ahead]
  have old : ∀ k, k < w.heap.size → (sortWorld enc w g 0 n d os).heap[k]? = (w.heap.modify g (Go.Sort.onCells (Go.Sort.putCells enc 0 d)))[k]? := fun k hk => by
    unfold sortWorld
    rw [Go.Sort.heap_grow_old _ _ (by rw [hsz]; exact hk)]
    rfl
  have far : ∀ k, k < w.heap.size → k ≠ g → (sortWorld enc w g 0 n d os).heap[k]? = w.heap[k]? := fun k hk hne => by
    rw [old k hk, Array.getElem?_modify, if_neg (Ne.symm hne)]
  have big : w.heap.size ≤ (sortWorld enc w g 0 n d os).heap.size := by
    unfold sortWorld
    rw [Go.Sort.size_grow, hsz]
    omega
  refine ⟨⟨hB.os, hB.tape, hB.output, Nat.le_trans hB.size big, fun k hk => ?_⟩, far, big, fun cur e fz h => ?_⟩
  · rw [far k (Nat.lt_of_lt_of_le hk hB.size) (by omega)]
    exact hB.block k hk
  · rw [old g hgw, Array.getElem?_modify, if_pos rfl, h]
    rfl
theorem sort_close {w : World} {base g cap : Nat} {P : Nat → Prop} {l : List Int} {cur : Array Value} (hP : P g) (hg : base ≤ g) (hh : w.heap[g]? = some (.cells cur 3 (0, 0))) (h1 : l.length ≤ cap) (h2 : cap ≤ maxLen) (h3 : cur.size = cap) (h4 : cur.toList.take l.length = encs (Value.int .i64) l) :
    Kd.R (Kd.int .i64) 3 w base P (.slice (some ⟨g, 0, none⟩) l.length cap) l := by
 refine Kd.R_of_own (enc := Value.int .i64) (h1 := fun _ => rfl) ⟨by rw [encs_length, Nat.mul_one], .inr ⟨g, cap, cur, rfl, hg, hh, h1, h2, by rw [h3, Nat.mul_one], by rw [Nat.mul_one]; exact h4⟩⟩ ?_
 intro k hk
 have : g = k := by simpa [Value.ownBlock] using hk
 rw [← this]
 exact hP
set_option maxHeartbeats 4000000 in
theorem slices_SortFunc_int_int.calls (P0_ : Nat → Prop) (u9000_ : Value) (l0 : List Int) (r : List Int) (w0 w : World) (hB : Below w0.heap.size w0 w) (ho0 : Kd.R (Kd.int .i64) 3 w w0.heap.size P0_ u9000_ l0) (h : slices_SortFunc_int_int.f l0 = some r) {G : Nat} (hG : IsDesc G := by first | exact angles_desc | exact cusps_desc) :
    Calls Try.prog 33 #[u9000_, .func (.func G) #[] #[]] w fun e w' => e = .returned (.tuple #[]) ∧ Kd.R (Kd.int .i64) 3 w' w0.heap.size (fun k_ => (P0_ k_ ∨ w.heap.size ≤ k_)) u9000_ r ∧ Below w0.heap.size w0 w' ∧ Kept w w' (fun k_ => P0_ k_) := by
  unfold slices_SortFunc_int_int.f at h
  by_cases hc : (∀ x ∈ l0, 0 ≤ x ∧ x ≤ 100000) ∧ l0.length ≤ 1000
  · rw [if_pos hc] at h
    obtain rfl := Option.some.inj h
    have hown := Kd.own_of_R (enc := Value.int .i64) (h1 := fun _ => rfl) ho0
    by_cases hz : l0 = []
    · subst hz
      have hu : ∃ p c, u9000_ = .slice p 0 c := by
        rcases hown.2 with ⟨e, _⟩ | ⟨g, cap, cur, e, _⟩
        · exact ⟨none, 0, e⟩
        · exact ⟨_, _, e⟩
      obtain ⟨p, c, rfl⟩ := hu
      refine (Try.slices_SortFunc_none (α := Sml) p c _ w).mono ?_
      rintro e w' ⟨rfl, rfl⟩
      rw [show (([] : List Int).mergeSort fun x y => decide (y ≤ x)) = [] from by simp]
      exact ⟨rfl, Kd.R_mono ho0 (fun k hk => .inl hk), hB, Kept.refl _ _⟩
    · have hlen : 0 < l0.length := List.length_pos_iff.mpr hz
      rcases hown.2 with ⟨_, hn⟩ | ⟨g, cap, cur, rfl, hg, hh, h1, h2, h3, h4⟩
      · exact absurd hn (by omega)
      · rw [Nat.mul_one] at h3 h4
        have hP := ho0.1 g rfl
        have hgw : g < w.heap.size := blk_lt hh
        have hcur : cur.toList.take l0.length = encs (Value.int .i64) l0 := h4
        have hds : (smls l0 hc.1).length = l0.length := by have := congrArg List.length (smls_map l0 hc.1); simpa using this
        have hH : Go.Sort.Holds sEnc w g 0 (smls l0 hc.1).toArray := fun j hj => by
          have hj2 : j < (smls l0 hc.1).length := by simpa using hj
          refine ⟨?_, by rw [Nat.zero_add]; exact blk_frozen hh j⟩
          rw [Nat.zero_add, blk_cell hh]
          have e1 : cur[j]? = (encs (Value.int .i64) l0)[j]? := by
            rw [← hcur, List.getElem?_take, if_pos (by omega)]
            simp
          rw [e1, ← smls_enc l0 hc.1, List.getElem?_map]
          simp [hj2]
        have hcmp : CmpReads Try.prog G #[] sEnc sCmp g 0 (smls l0 hc.1).toArray.size w := fun m os dk hs x y => by
          refine (hG.2 x.1 y.1 _).mono ?_
          rintro e w' ⟨rfl, rfl⟩
          refine ⟨?_, 0, rfl⟩
          have hx := x.2
          have hy := y.2
          rw [show wrap64 (y.1 - x.1) = sCmp x y from by unfold wrap64 sCmp; omega]
        have hcall := Try.slices_SortFunc_total sEnc (fun _ => rfl) sCmp sSwo G #[] g 0 cap (smls l0 hc.1).toArray w hG.1 hcmp.lays hH hgw (by simp; omega) (fun x y h1 h2 => by rw [sLt] at h1 h2; simp at h1 h2; exact Subtype.ext (by omega))
        rw [List.size_toArray, hds] at hcall
        refine hcall.mono ?_
        clear hcall
        rintro e w' ⟨rfl, n, os, rfl⟩
        obtain ⟨s1, s2, s3, s4⟩ := sort_world (enc := sEnc) (n := n) (d := ((smls l0 hc.1).mergeSort fun x y => !(ltOf sCmp) y x).toArray) (os := os) hg hB hgw
        refine ⟨rfl, ?_, s1, ⟨s3, fun i hi hs => s2 i hi (fun e => hs (e ▸ hP))⟩⟩
        have hrl : (l0.mergeSort fun x y => decide (y ≤ x)).length = l0.length := List.length_mergeSort _
        have hsl : ((smls l0 hc.1).mergeSort fun x y => !(ltOf sCmp) y x).length = l0.length := by rw [List.length_mergeSort, hds]
        have hse : ((smls l0 hc.1).mergeSort fun x y => !(ltOf sCmp) y x).map sEnc = encs (Value.int .i64) (l0.mergeSort fun x y => decide (y ≤ x)) := by
          rw [← smls_sort l0 hc.1]
          show _ = (List.map _ _).map _
          rw [List.map_map]
          rfl
        have := sort_close (P := fun k_ => (P0_ k_ ∨ w.heap.size ≤ k_)) (l := l0.mergeSort fun x y => decide (y ≤ x)) (cap := cap) (.inl hP) hg (s4 cur 3 (0, 0) hh) (by rw [hrl]; exact h1) h2 (by simp [Go.Sort.putCells, h3]) (by
          rw [hrl, ← hse]
          apply List.ext_getElem?
          intro i
          by_cases hi : i < l0.length
          · have hic : i < cur.size := by omega
            have e2 : (((smls l0 hc.1).mergeSort fun x y => !(ltOf sCmp) y x).toArray)[i]! = ((smls l0 hc.1).mergeSort fun x y => !(ltOf sCmp) y x)[i]'(by omega) := by
              rw [getElem!_pos _ i (by rw [List.size_toArray]; omega)]
              simp
            simp [Go.Sort.putCells, List.getElem?_take, hi, hic, hsl, List.getElem?_map, e2]
          · rw [List.getElem?_eq_none (by rw [List.length_take]; omega), List.getElem?_eq_none (by rw [List.length_map]; omega)])
        rw [hrl] at this
        exact this
  · rw [if_neg hc] at h
    exact absurd h (by simp)

/-! ### i_AnglesOf: function 23 -/
def i_AnglesOf.l0 : Nat → List Int → List (List Int) → Int → Int → Option (List Int)
 | 0, _, _, _, _ => none
 | k + 1, x3, x8, x9, x10 => if x10 < x9 then (if 0 ≤ x10 then (if x10 < (x8.length : Int) then (if x3.length < 17592186044416 then (i_AnglesOf.l0 k (x3 ++ [((rd_L3 x8 x10).length : Int)]) x8 x9 (wrap64 (x10 + 1))) else (none)) else (none)) else (none)) else ((slices_SortFunc_int_int.f x3).bind fun t583 => (some t583))
def i_AnglesOf.f (k : Nat) (l0_0 : List Int) (l0_1 : List Int) : Option (List Int) := (i_CornersOf.f k l0_0 l0_1).bind fun t576 => (i_AnglesOf.l0 k (([] : List Int)) t576 (t576.length : Int) 0)
theorem i_AnglesOf.calls (k : Nat) (A0_0 : Option Addr) (c0_0 : Nat) (l0_0 : List Int) (A0_1 : Option Addr) (c0_1 : Nat) (l0_1 : List Int) (r : List Int) (w : World) (hr0_0 : Kd.C (Kd.int .i64) w A0_0 l0_0.length l0_0) (hc0_0 : l0_0.length ≤ c0_0) (hr0_1 : Kd.C (Kd.int .i64) w A0_1 l0_1.length l0_1) (hc0_1 : l0_1.length ≤ c0_1) (h : i_AnglesOf.f k l0_0 l0_1 = some r) :
  Calls Try.prog 23 #[.agg #[.slice A0_0 l0_0.length c0_0, .slice A0_1 l0_1.length c0_1]] w fun e w' => ∃ v0_ : Value, e = .returned (v0_) ∧ Kd.R (Kd.int .i64) 3 w' w.heap.size (fun _ => True) v0_ r ∧ Below w.heap.size w w' := by
 have hu27 := Try.underlying27
 have HR0_0 := aM hr0_0
 have HC0_0 := aM hc0_0
 clear hr0_0 hc0_0
 have HR0_1 := aM hr0_1
 have HC0_1 := aM hc0_1
 clear hr0_1 hc0_1
 have HB := aM (Below.refl w.heap.size w)
 have H : ((i_CornersOf.f k l0_0 l0_1).bind fun t576 => (i_AnglesOf.l0 k (([] : List Int)) t576 (t576.length : Int) 0)) = some r := h
 clear h
 obtain ⟨y573, hy573⟩ : ∃ y_ : List Int, y_ = (([] : List Int)) := ⟨_, rfl⟩
 replace H : ((i_CornersOf.f k l0_0 l0_1).bind fun t576 => (i_AnglesOf.l0 k y573 t576 (t576.length : Int) 0)) = some r := by first | (rw [hy573]; with_reducible exact H) | (have H2_ := (Option.bind_some _ _).symm.trans H; rw [hy573]; with_reducible exact H2_) | (have H2_ := (Option.bind_some _ _).symm.trans H; with_reducible exact H2_) | with_reducible exact H | (rw [hy573]; exact H) | exact H
 have Ny573 := aM hy573
 clear hy573
 replace H := oB H
 obtain ⟨t576, A20, H⟩ := H
 replace H : (i_AnglesOf.l0 k y573 t576 (t576.length : Int) 0) = some r := H
 have A2 := aM A20
 clear A20
 have H' := aM H
 clear H
 go_enter Try.func23, Try.ntmps23
 go_wp2_with (first | ((with_reducible refine gate_dst (N := 1) rfl ?_); refine bEv (cs := #[.slice A0_0 l0_0.length c0_0, .slice A0_1 l0_1.length c0_1]) (t := 27) ?_; intro gb572 hg w3 hbox hb; have BK572 := aM (hbox); have GW572 := aM ((szX (below_size (bX HB.out)) hg : w.heap.size ≤ gb572)); have GE572 := aM ((szX (below_size (bX HB.out)) hg : w.heap.size ≤ gb572)); replace HB := aM (below_step (bX HB.out) hb); clear hb hbox hg) | ((with_reducible refine gate_dst (N := 6) rfl ?_); refine Kd.R_lit (Kd.int .i64) _ 3 ?hg (N := 6) ?hd (xs := ([] : List Int)) (inner := []) (ok := fun _ => True) (okp := fun _ => True) ?hr ?hp (fun _ hk => hk) trivial (Below.refl _ _) (Nat.le_refl _) (by simp) ?_; (case hd => rfl); (case hg => rfl); (case hr => first | (go_simp; done) | (go_simp; rfl)); (case hp => exact (Reps.none _ _)); intro v574 w4 ho5 hb hg_ hnew_; clear hg_ hnew_; (first | rw [← Ny573.out] at ho5 | (simp only [Int.reduceToNat] at ho5; rw [← Ny573.out] at ho5)); have HO575 := aM (Kd.R_lower ho5 (below_size (bX1 HB.out GE572.out))); replace BK572 := aM (bbX BK572.out hb); replace HB := aM (below_step (bX1 HB.out GE572.out) hb); clear hb ho5; have hcz6_0 := cz20 BK572.out; have hcz6_1 := cz21 BK572.out; have hfz6_0 := blk_frozen BK572.out 0; have hfz6_1 := blk_frozen BK572.out 1) | ((with_reducible refine gate_callee (f := 32) rfl ?_); refine goesL_ (some 8) rfl rfl Try.func32 (by kernel_rfl) rfl #[.agg #[.slice A0_0 l0_0.length c0_0, .slice A0_1 l0_1.length c0_1]] rfl aX ?_; (with_reducible refine (i_CornersOf.calls k _ _ l0_0 _ _ l0_1 t576 _ ?side1 ?side2 ?side3 ?side4 A2.out).mono ?_); (case side1 => exact cX (Kd.C_below HR0_0.out HB.out)); (case side2 => exact HC0_0.out); (case side3 => exact cX (Kd.C_below HR0_1.out HB.out)); (case side4 => exact HC0_1.out); rintro e w7 ⟨v577, rfl, ho0, hb⟩; refine ⟨_, rfl, ?_⟩; have HO578 := aM (Kd.S_lower (Kd.S_new' ho0 (Kd.R_lt (rX HO575.out))) (below_size (bX1 HB.out GE572.out))); replace HO575 := aM (Kd.R_below (rX HO575.out) hb); replace BK572 := aM (bbX BK572.out hb); replace HB := aM (below_step (bX1 HB.out GE572.out) hb); (try clear hb); (try clear hb2); (try clear hk); (try clear hi); (try clear ho0); obtain ⟨Ao8, co8, eo8⟩ := Kd.S_slice HO578.out; subst eo8))
 go_loopg [3, 10] k (fun kq v3 v10 w' => ∃ (x3_1 : List Int) (x10_1 : Int), v10 = .int .i64 x10_1 ∧ Aside0 (i_AnglesOf.l0 kq x3_1 t576 (t576.length : Int) x10_1 = some r) ∧ Aside0 (kq ≤ k) ∧ Aside0 (Kd.R (Kd.int .i64) 3 w' w.heap.size (fun _ => True) v3 x3_1) ∧ Aside0 (Kd.S (Kd.slice 3 (Kd.int .i64)) 25 w' w.heap.size (fun k_ => some k_ ≠ (v3 : Value).ownBlock) (.slice Ao8 t576.length co8) t576) ∧ Aside0 (w'.heap[gb572]? = some (.cells #[(.slice A0_0 l0_0.length c0_0), (.slice A0_1 l0_1.length c0_1)] 27 (0, 0))) ∧ Aside0 (Below w.heap.size w w'))
 case atStart => exact ⟨(y573), (0), vX, H', ⟨Nat.le_refl _⟩, ⟨rX HO575.out⟩, ⟨by (with_reducible repeat (first | apply Kd.S_alloc | apply Kd.S_drewN | apply Kd.S_drew)); exact Kd.S_mono HO578.out (fun _ hk => hk.2)⟩, ⟨kX BK572.out⟩, ⟨bX1 HB.out GE572.out⟩⟩
 case round =>
 clear H'
 try clear hcz6_0
 try clear hcz6_1
 try clear hfz6_0
 try clear hfz6_1
 obtain ⟨x3_1, x10_1, rfl, HA, HK1, HO_3, HO_8, BK572, HB⟩ := hrel
 cases gk with
 | zero => exact absurd HA.out (by simp [i_AnglesOf.l0])
 | succ k1 =>
 have H := HA.out
 clear HA
 simp only [i_AnglesOf.l0] at H
 by_cases c9 : x10_1 < (t576.length : Int)
 {
 rw [if_pos c9] at H
 have c9b0 : decide (x10_1 < (t576.length : Int)) = true := decide_eq_true c9
 clear c9
 by_cases c10 : 0 ≤ x10_1
 {
 rw [if_pos c10] at H
 have c10b0 : decide (0 ≤ x10_1) = true := decide_eq_true c10
 clear c10
 by_cases c11 : x10_1 < (t576.length : Int)
 {
 rw [if_pos c11] at H
 have c11b0 : decide (x10_1 < (t576.length : Int)) = true := decide_eq_true c11
 clear c11
 by_cases c12 : x3_1.length < 17592186044416
 {
 rw [if_pos c12] at H
 have LMc12 := aM c12
 clear c12
 obtain ⟨y580, hy580⟩ : ∃ y_ : List Int, y_ = (x3_1 ++ [((rd_L3 t576 x10_1).length : Int)]) := ⟨_, rfl⟩
 replace H : (i_AnglesOf.l0 k1 y580 t576 (t576.length : Int) (wrap64 (x10_1 + 1))) = some r := by first | (rw [hy580]; with_reducible exact H) | (have H2_ := (Option.bind_some _ _).symm.trans H; rw [hy580]; with_reducible exact H2_) | (have H2_ := (Option.bind_some _ _).symm.trans H; with_reducible exact H2_) | with_reducible exact H | (rw [hy580]; exact H) | exact H
 have Ny580 := aM hy580
 clear hy580
 have H' := aM H
 clear H
 have p579 : 0 ≤ (x10_1 : Int) := dX
 have q579 : x10_1 < (t576.length : Int) := dX
 obtain ⟨ad579, A579_0, c579_0, e579, hx579_0, hl579_0, hi579_0⟩ := at_L3 (Kd.S_reads' HO_8.out).2.2 x10_1 p579 q579
 cases e579
 obtain ⟨ce579, hce579, hMe579, hcc579⟩ := Kd.S_get HO_8.out [] x10_1 p579 (by first | exact q579 | exact dX | (have e_ := (Kd.S_reads' HO_8.out).1; omega))
 obtain ⟨ve579_0, rfl, ge579_0⟩ := hMe579
 have hv579_0 := hcc579 0 _ rfl
 rw [Nat.add_zero, show ((Kd.slice 3 (Kd.int .i64))).sz = 1 from rfl, Nat.mul_one] at hv579_0
 replace hv579_0 := Option.some.inj (hv579_0.symm.trans hx579_0)
 rw [hv579_0] at ge579_0
 have HL579_0 := aM (show Kd.R (Kd.int .i64) 3 _ _ _ _ (rd_L3 t576 x10_1) from ge579_0)
 clear hv579_0 ge579_0 hcc579 hce579
 have HR579_0 := aM hi579_0
 have HC579_0 := aM hl579_0
 clear hi579_0 hl579_0
 replace p579 := eq_true p579
 replace q579 := eq_true q579
 go_wp2_with (first | ((with_reducible refine gate_builtin (b := .append) (xs := #[.tmp 14, .tmp 17]) rfl ?_); at_builtin; refine Kd.R_append (Kd.int .i64) (w0 := w) w.heap.size rfl (.tmp 14) (.tmp 17) 25 3 (.int .i64 0) 8 rfl Try.underlying25 info3 rfl (by decide) (by omega) u3 x3_1 ((rd_L3 t576 x10_1).length : Int) [.int .i64 ((rd_L3 t576 x10_1).length : Int)] (fun _ => True) (fun _ => False) rfl rfl ?aP (fun _ hk => hk.elim) ?aF ?aO ?aB ?aS ?aL ?_; (case aP => exact rfl); (case aB => exact (bX1 HB.out GE572.out)); (case aF => exact (fun _ _ => trivial)); (case aO => exact (rX HO_3.out)); (case aS => exact (below_size (bX1 HB.out GE572.out))); (case aL => have := LMc12.out; omega); intro v581 w13 ho hb hg hat; rw [← Ny580.out] at ho; replace HO_8 := aM (Kd.S_after (ok := (fun _ => True)) (by (with_reducible repeat (first | apply Kd.S_alloc | apply Kd.S_drewN | apply Kd.S_drew)); exact Kd.S_mono HO_8.out (fun _ hk => ⟨trivial, hk⟩)) hg hat); replace BK572 := aM (bgX BK572.out hg (Kd.R_ne HO_3.out BK572.out (by decide))); replace HL579_0 := aM (Kd.R_after (ok := (fun k_ => some k_ ≠ (.slice (some ad579) t576.length co8 : Value).ownBlock)) (rM HL579_0.out (fun _ hk => ⟨hk.2, hk.1⟩)) hg hat); replace HB := aM (hb); have HO582 := aM (ho); clear HO_3 ho hb hg hat))
 go_roundg k1
 case measure => have := HK1.out; omega
 case rel => exact ⟨(y580), (wrap64 (x10_1 + 1)), vX, H', ⟨by have := HK1.out; omega⟩, ⟨rX HO582.out⟩, ⟨by (with_reducible repeat (first | apply Kd.S_alloc | apply Kd.S_drewN | apply Kd.S_drew)); exact Kd.S_mono HO_8.out (fun _ hk => hk.2)⟩, ⟨kX BK572.out⟩, ⟨bX1 HB.out GE572.out⟩⟩
 }
 {
 rw [if_neg c12] at H
 exact absurd H (by simp)
 }
 }
 {
 rw [if_neg c11] at H
 exact absurd H (by simp)
 }
 }
 {
 rw [if_neg c10] at H
 exact absurd H (by simp)
 }
 }
 {
 rw [if_neg c9] at H
 have c9b0 : decide (x10_1 < (t576.length : Int)) = false := decide_eq_false c9
 clear c9
 replace H := oB H
 obtain ⟨t583, A140, H⟩ := H
 replace H : (some t583) = some r := H
 have A14 := aM A140
 clear A140
 obtain rfl := Option.some.inj H
 obtain ⟨Ao15, co15, eo15⟩ := Kd.R_slice HO_3.out
 subst eo15
 go_wp2_with (first | ((with_reducible refine gate_callee (f := 33) rfl ?_); refine goesL_ (some 21) rfl rfl Try.func33 (by kernel_rfl) rfl #[.slice Ao15 x3_1.length co15, .func (.func 34) #[] #[]] rfl aX ?_; (with_reducible refine (slices_SortFunc_int_int.calls (fun k_ => some k_ = (.slice Ao15 x3_1.length co15 : Value).ownBlock) (.slice Ao15 x3_1.length co15) x3_1 t583 w _ ?side1 ?side2 A14.out).mono ?_); (case side1 => repeat (first | (with_reducible first | exact HB.out|apply bA|apply bN|apply bD | refine below_set ?_ GE572.out) | exact HB.out)); (case side2 => exact Kd.R_tight rfl HO_3.out); rintro e w16 ⟨rfl, hy0, hb, hkp⟩; refine ⟨_, rfl, ?_⟩; replace HO_8 := aM (Kd.S_mono (ok' := fun k_ => some k_ ≠ (.slice Ao15 x3_1.length co15 : Value).ownBlock) (Kd.S_keptB (HO_8.out) hkp (fun k_ hk_ hs_ => (hk_) hs_)) (fun k_ hk_ => hk_.1)); replace BK572 := aM (blk_kept (kX BK572.out) hkp (fun hs_ => (fun e_ => (Kd.R_ne HO_3.out BK572.out (by decide)) e_) hs_)); replace HO_3 := aM (Kd.R_reok rfl hy0 (fun k_ e_ => HO_3.out.1 k_ e_)); replace HB := aM (hb); (try clear hb); (try clear hkp); (try clear hy0)))
 go_ret
 exact ⟨_, eX, by (with_reducible repeat (first|apply rA|apply rN|apply rD)); exact HO_3.out, bX1 HB.out GE572.out⟩
 }

/-! ### i_StratumOf: function 14 -/
def i_StratumOf.l0 : Nat → List Int → List Int → Int → Int → Option (List Int)
 | 0, _, _, _, _ => none
 | k + 1, x3, x8, x9, x10 => if x10 < x9 then (if 0 ≤ x10 then (if x10 < (x8.length : Int) then (if (rd x8 x10) > 1 then (if x3.length < 17592186044416 then (i_StratumOf.l0 k (x3 ++ [wrap64 ((rd x8 x10) - 1)]) x8 x9 (wrap64 (x10 + 1))) else (none)) else (i_StratumOf.l0 k x3 x8 x9 (wrap64 (x10 + 1)))) else (none)) else (none)) else (some x3)
def i_StratumOf.f (k : Nat) (l0_0 : List Int) (l0_1 : List Int) : Option (List Int) := (i_AnglesOf.f k l0_0 l0_1).bind fun t588 => (i_StratumOf.l0 k (([] : List Int)) t588 (t588.length : Int) 0)
theorem i_StratumOf.calls (k : Nat) (A0_0 : Option Addr) (c0_0 : Nat) (l0_0 : List Int) (A0_1 : Option Addr) (c0_1 : Nat) (l0_1 : List Int) (r : List Int) (w : World) (hr0_0 : Kd.C (Kd.int .i64) w A0_0 l0_0.length l0_0) (hc0_0 : l0_0.length ≤ c0_0) (hr0_1 : Kd.C (Kd.int .i64) w A0_1 l0_1.length l0_1) (hc0_1 : l0_1.length ≤ c0_1) (h : i_StratumOf.f k l0_0 l0_1 = some r) :
  Calls Try.prog 14 #[.agg #[.slice A0_0 l0_0.length c0_0, .slice A0_1 l0_1.length c0_1]] w fun e w' => ∃ v0_ : Value, e = .returned (v0_) ∧ Kd.R (Kd.int .i64) 3 w' w.heap.size (fun _ => True) v0_ r ∧ Below w.heap.size w w' := by
 have hu27 := Try.underlying27
 have HR0_0 := aM hr0_0
 have HC0_0 := aM hc0_0
 clear hr0_0 hc0_0
 have HR0_1 := aM hr0_1
 have HC0_1 := aM hc0_1
 clear hr0_1 hc0_1
 have HB := aM (Below.refl w.heap.size w)
 have H : ((i_AnglesOf.f k l0_0 l0_1).bind fun t588 => (i_StratumOf.l0 k (([] : List Int)) t588 (t588.length : Int) 0)) = some r := h
 clear h
 obtain ⟨y585, hy585⟩ : ∃ y_ : List Int, y_ = (([] : List Int)) := ⟨_, rfl⟩
 replace H : ((i_AnglesOf.f k l0_0 l0_1).bind fun t588 => (i_StratumOf.l0 k y585 t588 (t588.length : Int) 0)) = some r := by first | (rw [hy585]; with_reducible exact H) | (have H2_ := (Option.bind_some _ _).symm.trans H; rw [hy585]; with_reducible exact H2_) | (have H2_ := (Option.bind_some _ _).symm.trans H; with_reducible exact H2_) | with_reducible exact H | (rw [hy585]; exact H) | exact H
 have Ny585 := aM hy585
 clear hy585
 replace H := oB H
 obtain ⟨t588, A20, H⟩ := H
 replace H : (i_StratumOf.l0 k y585 t588 (t588.length : Int) 0) = some r := H
 have A2 := aM A20
 clear A20
 have H' := aM H
 clear H
 go_enter Try.func14, Try.ntmps14
 go_wp2_with (first | ((with_reducible refine gate_dst (N := 1) rfl ?_); refine bEv (cs := #[.slice A0_0 l0_0.length c0_0, .slice A0_1 l0_1.length c0_1]) (t := 27) ?_; intro gb584 hg w3 hbox hb; have BK584 := aM (hbox); have GW584 := aM ((szX (below_size (bX HB.out)) hg : w.heap.size ≤ gb584)); have GE584 := aM ((szX (below_size (bX HB.out)) hg : w.heap.size ≤ gb584)); replace HB := aM (below_step (bX HB.out) hb); clear hb hbox hg) | ((with_reducible refine gate_dst (N := 6) rfl ?_); refine Kd.R_lit (Kd.int .i64) _ 3 ?hg (N := 6) ?hd (xs := ([] : List Int)) (inner := []) (ok := fun _ => True) (okp := fun _ => True) ?hr ?hp (fun _ hk => hk) trivial (Below.refl _ _) (Nat.le_refl _) (by simp) ?_; (case hd => rfl); (case hg => rfl); (case hr => first | (go_simp; done) | (go_simp; rfl)); (case hp => exact (Reps.none _ _)); intro v586 w4 ho5 hb hg_ hnew_; clear hg_ hnew_; (first | rw [← Ny585.out] at ho5 | (simp only [Int.reduceToNat] at ho5; rw [← Ny585.out] at ho5)); have HO587 := aM (Kd.R_lower ho5 (below_size (bX1 HB.out GE584.out))); replace BK584 := aM (bbX BK584.out hb); replace HB := aM (below_step (bX1 HB.out GE584.out) hb); clear hb ho5; have hcz6_0 := cz20 BK584.out; have hcz6_1 := cz21 BK584.out; have hfz6_0 := blk_frozen BK584.out 0; have hfz6_1 := blk_frozen BK584.out 1) | ((with_reducible refine gate_callee (f := 23) rfl ?_); refine goesL_ (some 8) rfl rfl Try.func23 (by kernel_rfl) rfl #[.agg #[.slice A0_0 l0_0.length c0_0, .slice A0_1 l0_1.length c0_1]] rfl aX ?_; (with_reducible refine (i_AnglesOf.calls k _ _ l0_0 _ _ l0_1 t588 _ ?side1 ?side2 ?side3 ?side4 A2.out).mono ?_); (case side1 => exact cX (Kd.C_below HR0_0.out HB.out)); (case side2 => exact HC0_0.out); (case side3 => exact cX (Kd.C_below HR0_1.out HB.out)); (case side4 => exact HC0_1.out); rintro e w7 ⟨v589, rfl, ho0, hb⟩; refine ⟨_, rfl, ?_⟩; have HO590 := aM (Kd.R_lower (Kd.R_new' ho0 (Kd.R_lt (rX HO587.out))) (below_size (bX1 HB.out GE584.out))); replace HO587 := aM (Kd.R_elder' (rX HO587.out) (Kd.R_base ho0) hb); replace BK584 := aM (bbX BK584.out hb); replace HB := aM (below_step (bX1 HB.out GE584.out) hb); (try clear hb); (try clear hb2); (try clear hk); (try clear hi); (try clear ho0); obtain ⟨Ao8, co8, eo8⟩ := Kd.R_slice HO590.out; subst eo8))
 go_loopg [3, 10] k (fun kq v3 v10 w' => ∃ (x3_1 : List Int) (x10_1 : Int), v10 = .int .i64 x10_1 ∧ Aside0 (i_StratumOf.l0 kq x3_1 t588 (t588.length : Int) x10_1 = some r) ∧ Aside0 (kq ≤ k) ∧ Aside0 (Kd.R (Kd.int .i64) 3 w' w.heap.size (fun k_ => some k_ ≠ ((.slice Ao8 t588.length co8) : Value).ownBlock) v3 x3_1) ∧ Aside0 (Kd.R (Kd.int .i64) 3 w' w.heap.size (fun k_ => some k_ ≠ (v3 : Value).ownBlock) (.slice Ao8 t588.length co8) t588) ∧ Aside0 (w'.heap[gb584]? = some (.cells #[(.slice A0_0 l0_0.length c0_0), (.slice A0_1 l0_1.length c0_1)] 27 (0, 0))) ∧ Aside0 (Below w.heap.size w w'))
 case atStart => exact ⟨(y585), (0), vX, H', ⟨Nat.le_refl _⟩, ⟨rM HO587.out (fun _ hk => hk.2)⟩, ⟨rM HO590.out (fun _ hk => hk.2)⟩, ⟨kX BK584.out⟩, ⟨bX1 HB.out GE584.out⟩⟩
 case round =>
 clear H'
 try clear hcz6_0
 try clear hcz6_1
 try clear hfz6_0
 try clear hfz6_1
 obtain ⟨x3_1, x10_1, rfl, HA, HK1, HO_3, HO_8, BK584, HB⟩ := hrel
 cases gk with
 | zero => exact absurd HA.out (by simp [i_StratumOf.l0])
 | succ k1 =>
 have H := HA.out
 clear HA
 simp only [i_StratumOf.l0] at H
 by_cases c9 : x10_1 < (t588.length : Int)
 {
 rw [if_pos c9] at H
 have c9b0 : decide (x10_1 < (t588.length : Int)) = true := decide_eq_true c9
 clear c9
 by_cases c10 : 0 ≤ x10_1
 {
 rw [if_pos c10] at H
 have c10b0 : decide (0 ≤ x10_1) = true := decide_eq_true c10
 clear c10
 by_cases c11 : x10_1 < (t588.length : Int)
 {
 rw [if_pos c11] at H
 have c11b0 : decide (x10_1 < (t588.length : Int)) = true := decide_eq_true c11
 clear c11
 by_cases c12 : (rd t588 x10_1) > 1
 {
 rw [if_pos c12] at H
 have c12b0 : decide (1 < (rd t588 x10_1)) = true := decide_eq_true c12
 clear c12
 by_cases c13 : x3_1.length < 17592186044416
 {
 rw [if_pos c13] at H
 have LMc13 := aM c13
 clear c13
 obtain ⟨y592, hy592⟩ : ∃ y_ : List Int, y_ = (x3_1 ++ [wrap64 ((rd t588 x10_1) - 1)]) := ⟨_, rfl⟩
 replace H : (i_StratumOf.l0 k1 y592 t588 (t588.length : Int) (wrap64 (x10_1 + 1))) = some r := by first | (rw [hy592]; with_reducible exact H) | (have H2_ := (Option.bind_some _ _).symm.trans H; rw [hy592]; with_reducible exact H2_) | (have H2_ := (Option.bind_some _ _).symm.trans H; with_reducible exact H2_) | with_reducible exact H | (rw [hy592]; exact H) | exact H
 have Ny592 := aM hy592
 clear hy592
 have H' := aM H
 clear H
 have p591 : 0 ≤ (x10_1 : Int) := dX
 have q591 : x10_1 < (t588.length : Int) := dX
 obtain ⟨ad591, e591, hx591_0⟩ := Kd.at_int (Kd.R_reads' HO_8.out).2.2 x10_1 p591 q591
 cases e591
 replace p591 := eq_true p591
 replace q591 := eq_true q591
 go_wp2_with (first | ((with_reducible refine gate_builtin (b := .append) (xs := #[.tmp 16, .tmp 19]) rfl ?_); at_builtin; refine Kd.R_append (Kd.int .i64) (w0 := w) w.heap.size rfl (.tmp 16) (.tmp 19) 25 3 (.int .i64 0) 8 rfl Try.underlying25 info3 rfl (by decide) (by omega) u3 x3_1 (wrap64 ((rd t588 x10_1) - 1)) [.int .i64 (wrap64 ((rd t588 x10_1) - 1))] (fun k_ => some k_ ≠ (.slice (some ad591) t588.length co8 : Value).ownBlock) (fun _ => False) rfl rfl ?aP (fun _ hk => hk.elim) ?aF ?aO ?aB ?aS ?aL ?_; (case aP => exact rfl); (case aB => exact (bX1 HB.out GE584.out)); (case aF => exact (fun k_ hk => Kd.fresh' (Kd.R_lt (rX HO_8.out)) k_ hk)); (case aO => exact (rX HO_3.out)); (case aS => exact (below_size (bX1 HB.out GE584.out))); (case aL => have := LMc13.out; omega); intro v593 w14 ho hb hg hat; rw [← Ny592.out] at ho; replace HO_8 := aM (Kd.R_after (ok := (fun _ => True)) (rM HO_8.out (fun _ hk => ⟨trivial, hk⟩)) hg hat); replace BK584 := aM (bgX BK584.out hg (Kd.R_ne HO_3.out BK584.out (by decide))); replace HB := aM (hb); have HO594 := aM (ho); clear HO_3 ho hb hg hat))
 go_roundg k1
 case measure => have := HK1.out; omega
 case rel => exact ⟨(y592), (wrap64 (x10_1 + 1)), vX, H', ⟨by have := HK1.out; omega⟩, ⟨rX HO594.out⟩, ⟨rM HO_8.out (fun _ hk => hk.2)⟩, ⟨kX BK584.out⟩, ⟨bX1 HB.out GE584.out⟩⟩
 }
 {
 rw [if_neg c13] at H
 exact absurd H (by simp)
 }
 }
 {
 rw [if_neg c12] at H
 have c12b0 : decide (1 < (rd t588 x10_1)) = false := decide_eq_false c12
 clear c12
 have H' := aM H
 clear H
 have p591 : 0 ≤ (x10_1 : Int) := dX
 have q591 : x10_1 < (t588.length : Int) := dX
 obtain ⟨ad591, e591, hx591_0⟩ := Kd.at_int (Kd.R_reads' HO_8.out).2.2 x10_1 p591 q591
 cases e591
 replace p591 := eq_true p591
 replace q591 := eq_true q591
 go_wp2
 go_roundg k1
 case measure => have := HK1.out; omega
 case rel => exact ⟨(x3_1), (wrap64 (x10_1 + 1)), vX, H', ⟨by have := HK1.out; omega⟩, ⟨rX HO_3.out⟩, ⟨rX HO_8.out⟩, ⟨kX BK584.out⟩, ⟨bX1 HB.out GE584.out⟩⟩
 }
 }
 {
 rw [if_neg c11] at H
 exact absurd H (by simp)
 }
 }
 {
 rw [if_neg c10] at H
 exact absurd H (by simp)
 }
 }
 {
 rw [if_neg c9] at H
 have c9b0 : decide (x10_1 < (t588.length : Int)) = false := decide_eq_false c9
 clear c9
 obtain rfl := Option.some.inj H
 go_wp2
 go_ret
 exact ⟨_, eX, by (with_reducible repeat (first|apply rA|apply rN|apply rD)); exact Kd.R_mono HO_3.out (fun _ hk => trivial), bX1 HB.out GE584.out⟩
 }

end Go.Proofs.Ytlbhjemkjkdndaa.S
