-- PRINTED by print.py (a twelfth state) out of the translation. Not trusted: Lean checks it.
import Derived.Test.YtlbhjemkjkdndaaS0
import Derived.Test.YtlbhjemkjkdndaaS4
namespace Go.Proofs.Ytlbhjemkjkdndaa.S
set_option maxHeartbeats 8000000
set_option maxRecDepth 100000
open Go.RowKit Go.Proofs.YtlbhjemkjkdndaaW.PrintWords Go.Proofs.YtlbhjemkjkdndaaW.PrintLast Go.Proofs.YtlbhjemkjkdndaaW.PrintMore
attribute [local go_sem] max2_int min2_int max_two min_two max_three min_three max_four min_four   -- for this text's walks alone
set_option linter.unusedVariables false
set_option linter.unusedSimpArgs false

/-! ### i_UnfoldTable: function 5 -/
mutual
def i_UnfoldTable.l0 : Nat → List (S41) → List (S41) → Int → Int → List Int → List Int → Option (List Int × List Int × Bool)
 | 0, _, _, _, _, _, _ => none
 | k + 1, x0, x19, x20, x21, x227000, x227001 => if x21 < x20 then (if 0 ≤ x21 then (if x21 < (x19.length : Int) then (i_UnfoldTable.l1 k x0 x21 0 x19 x20 x21 x227000 x227001 ((rd_T41 x19 x21).f0) ((rd_T41 x19 x21).f1)) else (none)) else (none)) else (some (x227000, x227001, true))
def i_UnfoldTable.l1 : Nat → List (S41) → Int → Int → List (S41) → Int → Int → List Int → List Int → Int → Int → Option (List Int × List Int × Bool)
 | 0, _, _, _, _, _, _, _, _, _, _ => none
 | k + 1, x0, x5, x7, x19, x20, x21, x227000, x227001, x229000, x229001 => if x7 < 4 then (if (Go.bits .and .i64 x7 1) = 1 then (i_UnfoldTable.j2 k x0 x5 x7 (-1) 1 x19 x20 x21 x227000 x227001 x229000 x229001) else (i_UnfoldTable.j2 k x0 x5 x7 1 1 x19 x20 x21 x227000 x227001 x229000 x229001)) else (i_UnfoldTable.l0 k x0 x19 x20 (wrap64 (x21 + 1)) x227000 x227001)
def i_UnfoldTable.j2 : Nat → List (S41) → Int → Int → Int → Int → List (S41) → Int → Int → List Int → List Int → Int → Int → Option (List Int × List Int × Bool)
 | 0, _, _, _, _, _, _, _, _, _, _, _, _ => none
 | k + 1, x0, x5, x7, x8, x9, x19, x20, x21, x227000, x227001, x229000, x229001 => if (Go.bits .and .i64 x7 2) = 2 then (i_UnfoldTable.j3 k x0 x5 x7 x8 (-1) x19 x20 x21 x227000 x227001 x229000 x229001) else (i_UnfoldTable.j3 k x0 x5 x7 x8 x9 x19 x20 x21 x227000 x227001 x229000 x229001)
def i_UnfoldTable.j3 : Nat → List (S41) → Int → Int → Int → Int → List (S41) → Int → Int → List Int → List Int → Int → Int → Option (List Int × List Int × Bool)
 | 0, _, _, _, _, _, _, _, _, _, _, _, _ => none
 | k + 1, x0, x5, x7, x8, x9, x19, x20, x21, x227000, x227001, x229000, x229001 => (i_CellAt.f k x0 (wrap64 (x229000 + x8)) x229001).bind fun t229 => (if t229 ≥ 0 then ((i_CellAt.f k x0 x229000 (wrap64 (x229001 + x9))).bind fun t230 => (if t230 ≥ 0 then (if x227000.length < 17592186044416 then (if x227001.length < 17592186044416 then (i_UnfoldTable.l1 k x0 x5 (wrap64 (x7 + 1)) x19 x20 x21 (x227000 ++ [wrap64 ((wrap64 (4 * t229)) + x7)]) (x227001 ++ [wrap64 ((wrap64 (4 * t230)) + x7)]) x229000 x229001) else (none)) else (none)) else (if x227000.length < 17592186044416 then (if x227001.length < 17592186044416 then (i_UnfoldTable.l1 k x0 x5 (wrap64 (x7 + 1)) x19 x20 x21 (x227000 ++ [wrap64 ((wrap64 (4 * t229)) + x7)]) (x227001 ++ [wrap64 ((wrap64 (4 * x5)) + (Go.bits .xor .i64 x7 2))]) x229000 x229001) else (none)) else (none)))) else ((i_CellAt.f k x0 x229000 (wrap64 (x229001 + x9))).bind fun t243 => (if t243 ≥ 0 then (if x227000.length < 17592186044416 then (if x227001.length < 17592186044416 then (i_UnfoldTable.l1 k x0 x5 (wrap64 (x7 + 1)) x19 x20 x21 (x227000 ++ [wrap64 ((wrap64 (4 * x5)) + (Go.bits .xor .i64 x7 1))]) (x227001 ++ [wrap64 ((wrap64 (4 * t243)) + x7)]) x229000 x229001) else (none)) else (none)) else (if x227000.length < 17592186044416 then (if x227001.length < 17592186044416 then (i_UnfoldTable.l1 k x0 x5 (wrap64 (x7 + 1)) x19 x20 x21 (x227000 ++ [wrap64 ((wrap64 (4 * x5)) + (Go.bits .xor .i64 x7 1))]) (x227001 ++ [wrap64 ((wrap64 (4 * x5)) + (Go.bits .xor .i64 x7 2))]) x229000 x229001) else (none)) else (none)))))
end
def i_UnfoldTable.f (k : Nat) (l0 : List (S41)) : Option (List Int × List Int × Bool) := (i_TableOk.f k l0).bind fun t225 => (if t225 = true then (i_UnfoldTable.l0 k l0 l0 (l0.length : Int) 0 ([] : List Int) ([] : List Int)) else (some (([] : List Int), ([] : List Int), false)))
theorem i_UnfoldTable.calls (k : Nat) (A0 : Option Addr) (c0 : Nat) (l0 : List (S41)) (r1 : List Int) (r2 : List Int) (r3 : Bool) (w : World) (hr0 : Kd.C k41 w A0 l0.length l0) (hc0 : l0.length ≤ c0) (h : i_UnfoldTable.f k l0 = some (r1, r2, r3)) :
  Calls Try.prog 5 #[.slice A0 l0.length c0] w fun e w' => ∃ v0_ v1_ : Value, e = .returned (.tuple #[.agg #[v0_, v1_], .bool r3]) ∧ Kd.R (Kd.int .i64) 3 w' w.heap.size (fun k_ => some k_ ≠ (v1_ : Value).ownBlock) v0_ r1 ∧ Kd.R (Kd.int .i64) 3 w' w.heap.size (fun k_ => some k_ ≠ (v0_ : Value).ownBlock) v1_ r2 ∧ Below w.heap.size w w' := by
 have hu27 := Try.underlying27
 have hu41 := Try.underlying41
 have HR0 := aM hr0
 have HC0 := aM hc0
 clear hr0 hc0
 have HB := aM (Below.refl w.heap.size w)
 have H : ((i_TableOk.f k l0).bind fun t225 => (if t225 = true then (i_UnfoldTable.l0 k l0 l0 (l0.length : Int) 0 ([] : List Int) ([] : List Int)) else (some (([] : List Int), ([] : List Int), false)))) = some (r1, r2, r3) := h
 clear h
 replace H := oB H
 obtain ⟨t225, A20, H⟩ := H
 replace H : (if t225 = true then (i_UnfoldTable.l0 k l0 l0 (l0.length : Int) 0 ([] : List Int) ([] : List Int)) else (some (([] : List Int), ([] : List Int), false))) = some (r1, r2, r3) := H
 have A2 := aM A20
 clear A20
 by_cases c3 : t225 = true
 {
 subst c3
 have H1 : (i_UnfoldTable.l0 k l0 l0 (l0.length : Int) 0 ([] : List Int) ([] : List Int)) = some (r1, r2, r3) := by rw [if_pos rfl] at H; exact H
 clear H
 have H := H1
 clear H1
 have H' := aM H
 clear H
 go_enter Try.func5, Try.ntmps5
 go_wp2_with (first | ((with_reducible refine gate_dst (N := 2) rfl ?_); refine bEv (cs := #[.slice none 0 0, .slice none 0 0]) (t := 27) ?_; intro gb224 hg w4 hbox hb; have BK224 := aM (hbox); have GW224 := aM ((szX (below_size (bX HB.out)) hg : w.heap.size ≤ gb224)); have GE224 := aM ((szX (below_size (bX HB.out)) hg : w.heap.size ≤ gb224)); replace HB := aM (below_step (bX HB.out) hb); clear hb hbox hg) | ((with_reducible refine gate_callee (f := 7) rfl ?_); refine goesL_ (some 15) rfl rfl Try.func7 (by kernel_rfl) rfl #[.slice A0 l0.length c0] rfl aX ?_; (with_reducible refine (i_TableOk.calls k _ _ l0 true _ ?side1 ?side2 A2.out).mono ?_); (case side1 => exact cX (Kd.C_below HR0.out HB.out)); (case side2 => exact HC0.out); rintro e w5 ⟨rfl, hb⟩; refine ⟨_, rfl, ?_⟩; replace BK224 := aM (bbX BK224.out hb); replace HB := aM (below_step (bX1 HB.out GE224.out) hb); (try clear hb); (try clear hb2); (try clear hk); (try clear hi)) | ((with_reducible refine gate_dst (N := 4) rfl ?_); refine bEv (cs := #[.slice none 0 0, .slice none 0 0]) (t := 27) ?_; intro gb226 hg w6 hbox hb; have BK226 := aM (hbox); have GW226 := aM ((szX (below_size (bX1 HB.out GE224.out)) hg : w.heap.size ≤ gb226)); have GE226 := aM ((szX (below_size (bX1 HB.out GE224.out)) hg : w.heap.size ≤ gb226)); replace HB := aM (below_step (bX1 HB.out GE224.out) hb); have NB224_226 := aM (neX BK224.out hg); have NB226_224 := aM (nfX BK224.out hg); replace BK224 := aM (bbX BK224.out hb); clear hb hbox hg; have hnb7 := NB226_224.out; have hnc7 := NB224_226.out; have hcz8_0 := cz20 BK226.out; have hcz8_1 := cz21 BK226.out; have hfz8_0 := blk_frozen BK226.out 0; have hfz8_1 := blk_frozen BK226.out 1))
 go_loopg [21] k (fun kq v21 w' => ∃ (x21_1 : Int) (x227000_1 : List Int) (x227001_1 : List Int) (u227000 : Value) (u227001 : Value), v21 = .int .i64 x21_1 ∧ Aside0 (i_UnfoldTable.l0 kq l0 l0 (l0.length : Int) x21_1 x227000_1 x227001_1 = some (r1, r2, r3)) ∧ Aside0 (kq ≤ k) ∧ Aside0 (Kd.R (Kd.int .i64) 3 w' w.heap.size (fun k_ => some k_ ≠ (u227001 : Value).ownBlock) u227000 x227000_1) ∧ Aside0 (Kd.R (Kd.int .i64) 3 w' w.heap.size (fun k_ => some k_ ≠ (u227000 : Value).ownBlock) u227001 x227001_1) ∧ Aside0 (w'.heap[gb224]? = some (.cells #[(.slice none 0 0), (.slice none 0 0)] 27 (0, 0))) ∧ Aside0 (w'.heap[gb226]? = some (.cells #[u227000, u227001] 27 (0, 0))) ∧ Aside0 (Below w.heap.size w w'))
 case atStart => exact ⟨(0), (([] : List Int)), (([] : List Int)), (.slice none 0 0), (.slice none 0 0), vX, H', ⟨Nat.le_refl _⟩, ⟨by first | exact Kd.R_nil _ _ _ _ _ | exact Kd.N_nil _ _ _ _ _ | exact Kd.V_nil _ _ _ _ _ | exact Kd.Q_nil _ _ _ _ _ | exact Kd.S_nil _ _ _ _ _⟩, ⟨by first | exact Kd.R_nil _ _ _ _ _ | exact Kd.N_nil _ _ _ _ _ | exact Kd.V_nil _ _ _ _ _ | exact Kd.Q_nil _ _ _ _ _ | exact Kd.S_nil _ _ _ _ _⟩, ⟨by (with_reducible repeat (first|refine kN ?_ _|refine kD ?_|refine kA ?_ _)); refine blk_far ?_ NB224_226.out _; (with_reducible repeat (first|refine kN ?_ _|refine kD ?_|refine kA ?_ _)); refine blk_far ?_ NB224_226.out _; (with_reducible repeat (first|refine kN ?_ _|refine kD ?_|refine kA ?_ _)); exact BK224.out⟩, ⟨by (with_reducible repeat (first|refine kN ?_ _|refine kD ?_|refine kA ?_ _)); refine blk_put (cs := #[.slice none 0 0, .slice none 0 0]) ?_ 1 _ rfl; (with_reducible repeat (first|refine kN ?_ _|refine kD ?_|refine kA ?_ _)); refine blk_put (cs := #[.slice none 0 0, .slice none 0 0]) ?_ 0 _ rfl; (with_reducible repeat (first|refine kN ?_ _|refine kD ?_|refine kA ?_ _)); exact BK226.out⟩, ⟨bX2 HB.out GE224.out GE226.out⟩⟩
 case round =>
 clear H'
 try clear c3
 try clear hcz8_0
 try clear hcz8_1
 try clear hfz8_0
 try clear hfz8_1
 obtain ⟨x21_1, x227000_1, x227001_1, u227000, u227001, rfl, HA, HK1, HO_227000, HO_227001, BK224, BK226, HB⟩ := hrel
 cases gk with
 | zero => exact absurd HA.out (by simp [i_UnfoldTable.l0])
 | succ k1 =>
 have H := HA.out
 clear HA
 simp only [i_UnfoldTable.l0] at H
 by_cases c9 : x21_1 < (l0.length : Int)
 {
 rw [if_pos c9] at H
 have c9b0 : decide (x21_1 < (l0.length : Int)) = true := decide_eq_true c9
 clear c9
 by_cases c10 : 0 ≤ x21_1
 {
 rw [if_pos c10] at H
 have c10b0 : decide (0 ≤ x21_1) = true := decide_eq_true c10
 clear c10
 by_cases c11 : x21_1 < (l0.length : Int)
 {
 rw [if_pos c11] at H
 have c11b0 : decide (x21_1 < (l0.length : Int)) = true := decide_eq_true c11
 clear c11
 have H' := aM H
 clear H
 have p227 : 0 ≤ (x21_1 : Int) := dX
 have q227 : x21_1 < (l0.length : Int) := dX
 obtain ⟨ad227, e227, hx227_0, hx227_1⟩ := at_T41 HR0.out x21_1 p227 q227
 cases e227
 replace hx227_0 := (HB.out.cell (World.block_lt_of_cell? w _ hx227_0)).trans hx227_0
 replace hx227_1 := (HB.out.cell (World.block_lt_of_cell? w _ hx227_1)).trans hx227_1
 replace p227 := eq_true p227
 replace q227 := eq_true q227
 go_wp2_with (first | ((with_reducible refine gate_dst (N := 6) rfl ?_); refine bEv (cs := #[.int .i64 0, .int .i64 0]) (t := 41) ?_; intro gb228 hg w12 hbox hb; replace HO_227000 := aM (Kd.R_below (rX HO_227000.out) hb); replace HO_227001 := aM (Kd.R_below (rX HO_227001.out) hb); have BK228 := aM (hbox); have GW228 := aM ((szX (below_size (bX2 HB.out GE224.out GE226.out)) hg : w.heap.size ≤ gb228)); have GE228 := aM ((szX (below_size (bX2 HB.out GE224.out GE226.out)) hg : w.heap.size ≤ gb228)); replace HB := aM (below_step (bX2 HB.out GE224.out GE226.out) hb); have NB224_228 := aM (neX BK224.out hg); have NB228_224 := aM (nfX BK224.out hg); replace BK224 := aM (bbX BK224.out hb); have NB226_228 := aM (neX BK226.out hg); have NB228_226 := aM (nfX BK226.out hg); replace BK226 := aM (bbX BK226.out hb); clear hb hbox hg; have hnb13 := NB228_224.out; have hnc13 := NB224_228.out; have hnb14 := NB228_226.out; have hnc14 := NB226_228.out; have hcz15_0 := cz20 BK228.out; have hcz15_1 := cz21 BK228.out; have hfz15_0 := blk_frozen BK228.out 0; have hfz15_1 := blk_frozen BK228.out 1))
 go_loopg [7] k1 (fun kq v7 w' => ∃ (x7_2 : Int) (x227000_2 : List Int) (x227001_2 : List Int) (u227000 : Value) (u227001 : Value), v7 = .int .i64 x7_2 ∧ Aside0 (i_UnfoldTable.l1 kq l0 x21_1 x7_2 l0 (l0.length : Int) x21_1 x227000_2 x227001_2 ((rd_T41 l0 x21_1).f0) ((rd_T41 l0 x21_1).f1) = some (r1, r2, r3)) ∧ Aside0 (kq ≤ k1) ∧ Aside0 (Kd.R (Kd.int .i64) 3 w' w.heap.size (fun k_ => some k_ ≠ (u227001 : Value).ownBlock) u227000 x227000_2) ∧ Aside0 (Kd.R (Kd.int .i64) 3 w' w.heap.size (fun k_ => some k_ ≠ (u227000 : Value).ownBlock) u227001 x227001_2) ∧ Aside0 (w'.heap[gb224]? = some (.cells #[(.slice none 0 0), (.slice none 0 0)] 27 (0, 0))) ∧ Aside0 (w'.heap[gb226]? = some (.cells #[u227000, u227001] 27 (0, 0))) ∧ Aside0 (w'.heap[gb228]? = some (.cells #[.int .i64 ((rd_T41 l0 x21_1).f0), .int .i64 ((rd_T41 l0 x21_1).f1)] 41 (0, 0))) ∧ Aside0 (Below w.heap.size w w'))
 case atStart => exact ⟨(0), (x227000_1), (x227001_1), (u227000), (u227001), vX, H', ⟨Nat.le_refl _⟩, ⟨by (with_reducible repeat (first|apply rA|apply rN|apply rD)); exact Kd.R_mono (Kd.R_far (p := ⟨gb228, 1, none⟩) (Kd.R_far (p := ⟨gb228, 0, none⟩) (Kd.R_types HO_227000.out BK228.out (by decide)) (fun _ hk => hk.2) (.int .i64 ((rd_T41 l0 x21_1).f0))) (fun _ hk => hk.2) (.int .i64 ((rd_T41 l0 x21_1).f1))) (fun _ hk => hk.1)⟩, ⟨by (with_reducible repeat (first|apply rA|apply rN|apply rD)); exact Kd.R_mono (Kd.R_far (p := ⟨gb228, 1, none⟩) (Kd.R_far (p := ⟨gb228, 0, none⟩) (Kd.R_types HO_227001.out BK228.out (by decide)) (fun _ hk => hk.2) (.int .i64 ((rd_T41 l0 x21_1).f0))) (fun _ hk => hk.2) (.int .i64 ((rd_T41 l0 x21_1).f1))) (fun _ hk => hk.1)⟩, ⟨by (with_reducible repeat (first|refine kN ?_ _|refine kD ?_|refine kA ?_ _)); refine blk_far ?_ NB224_228.out _; (with_reducible repeat (first|refine kN ?_ _|refine kD ?_|refine kA ?_ _)); refine blk_far ?_ NB224_228.out _; (with_reducible repeat (first|refine kN ?_ _|refine kD ?_|refine kA ?_ _)); exact BK224.out⟩, ⟨by (with_reducible repeat (first|refine kN ?_ _|refine kD ?_|refine kA ?_ _)); refine blk_far ?_ NB226_228.out _; (with_reducible repeat (first|refine kN ?_ _|refine kD ?_|refine kA ?_ _)); refine blk_far ?_ NB226_228.out _; (with_reducible repeat (first|refine kN ?_ _|refine kD ?_|refine kA ?_ _)); exact BK226.out⟩, ⟨by (with_reducible repeat (first|refine kN ?_ _|refine kD ?_|refine kA ?_ _)); refine blk_put (cs := #[.int .i64 ((rd_T41 l0 x21_1).f0), .int .i64 0]) ?_ 1 _ rfl; (with_reducible repeat (first|refine kN ?_ _|refine kD ?_|refine kA ?_ _)); refine blk_put (cs := #[.int .i64 0, .int .i64 0]) ?_ 0 _ rfl; (with_reducible repeat (first|refine kN ?_ _|refine kD ?_|refine kA ?_ _)); exact BK228.out⟩, ⟨bX3 HB.out GE224.out GE226.out GE228.out⟩⟩
 case round =>
 clear H'
 try clear c3
 try clear c9
 try clear c9b0
 try clear c10
 try clear c10b0
 try clear c11
 try clear c11b0
 try clear hcz15_0
 try clear hcz15_1
 try clear hcz8_0
 try clear hcz8_1
 try clear hfz15_0
 try clear hfz15_1
 try clear hfz8_0
 try clear hfz8_1
 try clear hx227_0
 try clear hx227_1
 try clear p227
 try clear q227
 obtain ⟨x7_2, x227000_2, x227001_2, u227000, u227001, rfl, HA, HK2, HO_227000, HO_227001, BK224, BK226, BK228, HB⟩ := hrel
 cases gk with
 | zero => exact absurd HA.out (by simp [i_UnfoldTable.l1])
 | succ k2 =>
 have H := HA.out
 clear HA
 simp only [i_UnfoldTable.l1] at H
 by_cases c16 : x7_2 < 4
 {
 rw [if_pos c16] at H
 have c16b0 : decide (x7_2 < 4) = true := decide_eq_true c16
 clear c16
 have HC17 := aM H
 clear H
 go_upto_if 32 with (fail)
 go_cut [8] (fun v8 wc => ∃ (kq : Nat) (x8_16 : Int), v8 = .int .i64 x8_16 ∧ Aside0 (i_UnfoldTable.j2 kq l0 x21_1 x7_2 x8_16 1 l0 (l0.length : Int) x21_1 x227000_2 x227001_2 ((rd_T41 l0 x21_1).f0) ((rd_T41 l0 x21_1).f1) = some (r1, r2, r3)) ∧ Aside0 (kq ≤ k2) ∧ Aside0 (Kd.R (Kd.int .i64) 3 wc w.heap.size (fun k_ => some k_ ≠ (u227001 : Value).ownBlock) u227000 x227000_2) ∧ Aside0 (Kd.R (Kd.int .i64) 3 wc w.heap.size (fun k_ => some k_ ≠ (u227000 : Value).ownBlock) u227001 x227001_2) ∧ Aside0 (wc.heap[gb224]? = some (.cells #[(.slice none 0 0), (.slice none 0 0)] 27 (0, 0))) ∧ Aside0 (wc.heap[gb226]? = some (.cells #[u227000, u227001] 27 (0, 0))) ∧ Aside0 (wc.heap[gb228]? = some (.cells #[.int .i64 ((rd_T41 l0 x21_1).f0), .int .i64 ((rd_T41 l0 x21_1).f1)] 41 (0, 0))) ∧ Aside0 (Below w.heap.size w wc))
 case first =>
  have H := HC17.out
  clear HC17
  by_cases c18 : (Go.bits .and .i64 x7_2 1) = 1
  {
  rw [if_pos c18] at H
  have c18b0 : ((Go.bits .and .i64 x7_2 1) == 1) = true := beq_iff_eq.mpr c18
  have c18b1 : ((Go.bits .and .i64 x7_2 1) != 1) = false := bne_eq_false_iff_eq.mpr c18
  clear c18
  (first | rw [c18b0] | (simp only [i64_w, i32_w]; rw [c18b0]) | skip)
  have H' := aM H
  clear H
  go_wp2
  go_meet
  case rel => exact ⟨_, ((-1)), vX, H', ⟨by have := HK1.out; have := HK2.out; first | omega | exact Nat.le_refl _⟩, ⟨rX HO_227000.out⟩, ⟨rX HO_227001.out⟩, ⟨kX BK224.out⟩, ⟨kX BK226.out⟩, ⟨kX BK228.out⟩, ⟨bX3 HB.out GE224.out GE226.out GE228.out⟩⟩
  }
  {
  rw [if_neg c18] at H
  have c18b0 : ((Go.bits .and .i64 x7_2 1) == 1) = false := beq_eq_false_iff_ne.mpr c18
  have c18b1 : ((Go.bits .and .i64 x7_2 1) != 1) = true := bne_iff_ne.mpr c18
  (first | rw [c18b0] | (simp only [i64_w, i32_w]; rw [c18b0]) | skip)
  have H' := aM H
  clear H
  go_wp2
  go_meet
  case rel => exact ⟨_, (1), vX, H', ⟨by have := HK1.out; have := HK2.out; first | omega | exact Nat.le_refl _⟩, ⟨rX HO_227000.out⟩, ⟨rX HO_227001.out⟩, ⟨kX BK224.out⟩, ⟨kX BK226.out⟩, ⟨kX BK228.out⟩, ⟨bX3 HB.out GE224.out GE226.out GE228.out⟩⟩
  }
 case rest =>
 clear HC17
 try clear c3
 try clear c9
 try clear c9b0
 try clear c10
 try clear c10b0
 try clear c11
 try clear c11b0
 try clear c16
 try clear c16b0
 try clear c18
 try clear c18b0
 try clear c18b1
 try clear hcz15_0
 try clear hcz15_1
 try clear hcz8_0
 try clear hcz8_1
 try clear hfz15_0
 try clear hfz15_1
 try clear hfz8_0
 try clear hfz8_1
 try clear hx227_0
 try clear hx227_1
 try clear p227
 try clear q227
 obtain ⟨kq, x8_16, rfl, HA, HJ16, HO_227000, HO_227001, BK224, BK226, BK228, HB⟩ := hcut
 cases kq with
 | zero => exact absurd HA.out (by simp [i_UnfoldTable.j2])
 | succ kj16 =>
 have H := HA.out
 clear HA
 simp only [i_UnfoldTable.j2] at H
 have HC19 := aM H
 clear H
 go_upto_if 35 with (fail)
 go_cut [9] (fun v9 wc => ∃ (kq : Nat) (x9_18 : Int), v9 = .int .i64 x9_18 ∧ Aside0 (i_UnfoldTable.j3 kq l0 x21_1 x7_2 x8_16 x9_18 l0 (l0.length : Int) x21_1 x227000_2 x227001_2 ((rd_T41 l0 x21_1).f0) ((rd_T41 l0 x21_1).f1) = some (r1, r2, r3)) ∧ Aside0 (kq ≤ kj16) ∧ Aside0 (Kd.R (Kd.int .i64) 3 wc w.heap.size (fun k_ => some k_ ≠ (u227001 : Value).ownBlock) u227000 x227000_2) ∧ Aside0 (Kd.R (Kd.int .i64) 3 wc w.heap.size (fun k_ => some k_ ≠ (u227000 : Value).ownBlock) u227001 x227001_2) ∧ Aside0 (wc.heap[gb224]? = some (.cells #[(.slice none 0 0), (.slice none 0 0)] 27 (0, 0))) ∧ Aside0 (wc.heap[gb226]? = some (.cells #[u227000, u227001] 27 (0, 0))) ∧ Aside0 (wc.heap[gb228]? = some (.cells #[.int .i64 ((rd_T41 l0 x21_1).f0), .int .i64 ((rd_T41 l0 x21_1).f1)] 41 (0, 0))) ∧ Aside0 (Below w.heap.size w wc))
 case first =>
  have H := HC19.out
  clear HC19
  by_cases c20 : (Go.bits .and .i64 x7_2 2) = 2
  {
  rw [if_pos c20] at H
  have c20b0 : ((Go.bits .and .i64 x7_2 2) == 2) = true := beq_iff_eq.mpr c20
  have c20b1 : ((Go.bits .and .i64 x7_2 2) != 2) = false := bne_eq_false_iff_eq.mpr c20
  clear c20
  (first | rw [c20b0] | (simp only [i64_w, i32_w]; rw [c20b0]) | skip)
  have H' := aM H
  clear H
  go_wp2
  go_meet
  case rel => exact ⟨_, ((-1)), vX, H', ⟨by have := HK1.out; have := HK2.out; have := HJ16.out; first | omega | exact Nat.le_refl _⟩, ⟨rX HO_227000.out⟩, ⟨rX HO_227001.out⟩, ⟨kX BK224.out⟩, ⟨kX BK226.out⟩, ⟨kX BK228.out⟩, ⟨bX3 HB.out GE224.out GE226.out GE228.out⟩⟩
  }
  {
  rw [if_neg c20] at H
  have c20b0 : ((Go.bits .and .i64 x7_2 2) == 2) = false := beq_eq_false_iff_ne.mpr c20
  have c20b1 : ((Go.bits .and .i64 x7_2 2) != 2) = true := bne_iff_ne.mpr c20
  (first | rw [c20b0] | (simp only [i64_w, i32_w]; rw [c20b0]) | skip)
  have H' := aM H
  clear H
  go_wp2
  go_meet
  case rel => exact ⟨_, (1), vX, H', ⟨by have := HK1.out; have := HK2.out; have := HJ16.out; first | omega | exact Nat.le_refl _⟩, ⟨rX HO_227000.out⟩, ⟨rX HO_227001.out⟩, ⟨kX BK224.out⟩, ⟨kX BK226.out⟩, ⟨kX BK228.out⟩, ⟨bX3 HB.out GE224.out GE226.out GE228.out⟩⟩
  }
 case rest =>
 clear HC19
 try clear c3
 try clear c9
 try clear c9b0
 try clear c10
 try clear c10b0
 try clear c11
 try clear c11b0
 try clear c16
 try clear c16b0
 try clear c18
 try clear c18b0
 try clear c18b1
 try clear c20
 try clear c20b0
 try clear c20b1
 try clear hcz15_0
 try clear hcz15_1
 try clear hcz8_0
 try clear hcz8_1
 try clear hfz15_0
 try clear hfz15_1
 try clear hfz8_0
 try clear hfz8_1
 try clear hx227_0
 try clear hx227_1
 try clear p227
 try clear q227
 obtain ⟨kq, x9_18, rfl, HA, HJ18, HO_227000, HO_227001, BK224, BK226, BK228, HB⟩ := hcut
 cases kq with
 | zero => exact absurd HA.out (by simp [i_UnfoldTable.j3])
 | succ kj18 =>
 have H := HA.out
 clear HA
 simp only [i_UnfoldTable.j3] at H
 replace H := oB H
 obtain ⟨t229, A210, H⟩ := H
 replace H : (if t229 ≥ 0 then ((i_CellAt.f kj18 l0 ((rd_T41 l0 x21_1).f0) (wrap64 (((rd_T41 l0 x21_1).f1) + x9_18))).bind fun t230 => (if t230 ≥ 0 then (if x227000_2.length < 17592186044416 then (if x227001_2.length < 17592186044416 then (i_UnfoldTable.l1 kj18 l0 x21_1 (wrap64 (x7_2 + 1)) l0 (l0.length : Int) x21_1 (x227000_2 ++ [wrap64 ((wrap64 (4 * t229)) + x7_2)]) (x227001_2 ++ [wrap64 ((wrap64 (4 * t230)) + x7_2)]) ((rd_T41 l0 x21_1).f0) ((rd_T41 l0 x21_1).f1)) else (none)) else (none)) else (if x227000_2.length < 17592186044416 then (if x227001_2.length < 17592186044416 then (i_UnfoldTable.l1 kj18 l0 x21_1 (wrap64 (x7_2 + 1)) l0 (l0.length : Int) x21_1 (x227000_2 ++ [wrap64 ((wrap64 (4 * t229)) + x7_2)]) (x227001_2 ++ [wrap64 ((wrap64 (4 * x21_1)) + (Go.bits .xor .i64 x7_2 2))]) ((rd_T41 l0 x21_1).f0) ((rd_T41 l0 x21_1).f1)) else (none)) else (none)))) else ((i_CellAt.f kj18 l0 ((rd_T41 l0 x21_1).f0) (wrap64 (((rd_T41 l0 x21_1).f1) + x9_18))).bind fun t243 => (if t243 ≥ 0 then (if x227000_2.length < 17592186044416 then (if x227001_2.length < 17592186044416 then (i_UnfoldTable.l1 kj18 l0 x21_1 (wrap64 (x7_2 + 1)) l0 (l0.length : Int) x21_1 (x227000_2 ++ [wrap64 ((wrap64 (4 * x21_1)) + (Go.bits .xor .i64 x7_2 1))]) (x227001_2 ++ [wrap64 ((wrap64 (4 * t243)) + x7_2)]) ((rd_T41 l0 x21_1).f0) ((rd_T41 l0 x21_1).f1)) else (none)) else (none)) else (if x227000_2.length < 17592186044416 then (if x227001_2.length < 17592186044416 then (i_UnfoldTable.l1 kj18 l0 x21_1 (wrap64 (x7_2 + 1)) l0 (l0.length : Int) x21_1 (x227000_2 ++ [wrap64 ((wrap64 (4 * x21_1)) + (Go.bits .xor .i64 x7_2 1))]) (x227001_2 ++ [wrap64 ((wrap64 (4 * x21_1)) + (Go.bits .xor .i64 x7_2 2))]) ((rd_T41 l0 x21_1).f0) ((rd_T41 l0 x21_1).f1)) else (none)) else (none))))) = some (r1, r2, r3) := H
 have A21 := aM A210
 clear A210
 by_cases c22 : t229 ≥ 0
 {
 rw [if_pos c22] at H
 have c22b0 : decide (0 ≤ t229) = true := decide_eq_true c22
 clear c22
 replace H := oB H
 obtain ⟨t230, A230, H⟩ := H
 replace H : (if t230 ≥ 0 then (if x227000_2.length < 17592186044416 then (if x227001_2.length < 17592186044416 then (i_UnfoldTable.l1 kj18 l0 x21_1 (wrap64 (x7_2 + 1)) l0 (l0.length : Int) x21_1 (x227000_2 ++ [wrap64 ((wrap64 (4 * t229)) + x7_2)]) (x227001_2 ++ [wrap64 ((wrap64 (4 * t230)) + x7_2)]) ((rd_T41 l0 x21_1).f0) ((rd_T41 l0 x21_1).f1)) else (none)) else (none)) else (if x227000_2.length < 17592186044416 then (if x227001_2.length < 17592186044416 then (i_UnfoldTable.l1 kj18 l0 x21_1 (wrap64 (x7_2 + 1)) l0 (l0.length : Int) x21_1 (x227000_2 ++ [wrap64 ((wrap64 (4 * t229)) + x7_2)]) (x227001_2 ++ [wrap64 ((wrap64 (4 * x21_1)) + (Go.bits .xor .i64 x7_2 2))]) ((rd_T41 l0 x21_1).f0) ((rd_T41 l0 x21_1).f1)) else (none)) else (none))) = some (r1, r2, r3) := H
 have A23 := aM A230
 clear A230
 by_cases c24 : t230 ≥ 0
 {
 rw [if_pos c24] at H
 have c24b0 : decide (0 ≤ t230) = true := decide_eq_true c24
 clear c24
 by_cases c25 : x227000_2.length < 17592186044416
 {
 rw [if_pos c25] at H
 have LMc25 := aM c25
 clear c25
 obtain ⟨y231, hy231⟩ : ∃ y_ : List Int, y_ = (x227000_2 ++ [wrap64 ((wrap64 (4 * t229)) + x7_2)]) := ⟨_, rfl⟩
 replace H : (if x227001_2.length < 17592186044416 then (i_UnfoldTable.l1 kj18 l0 x21_1 (wrap64 (x7_2 + 1)) l0 (l0.length : Int) x21_1 y231 (x227001_2 ++ [wrap64 ((wrap64 (4 * t230)) + x7_2)]) ((rd_T41 l0 x21_1).f0) ((rd_T41 l0 x21_1).f1)) else (none)) = some (r1, r2, r3) := by first | (rw [hy231]; with_reducible exact H) | (have H2_ := (Option.bind_some _ _).symm.trans H; rw [hy231]; with_reducible exact H2_) | (have H2_ := (Option.bind_some _ _).symm.trans H; with_reducible exact H2_) | with_reducible exact H | (rw [hy231]; exact H) | exact H
 have Ny231 := aM hy231
 clear hy231
 by_cases c26 : x227001_2.length < 17592186044416
 {
 rw [if_pos c26] at H
 have LMc26 := aM c26
 clear c26
 obtain ⟨y234, hy234⟩ : ∃ y_ : List Int, y_ = (x227001_2 ++ [wrap64 ((wrap64 (4 * t230)) + x7_2)]) := ⟨_, rfl⟩
 replace H : (i_UnfoldTable.l1 kj18 l0 x21_1 (wrap64 (x7_2 + 1)) l0 (l0.length : Int) x21_1 y231 y234 ((rd_T41 l0 x21_1).f0) ((rd_T41 l0 x21_1).f1)) = some (r1, r2, r3) := by first | (rw [hy234]; with_reducible exact H) | (have H2_ := (Option.bind_some _ _).symm.trans H; rw [hy234]; with_reducible exact H2_) | (have H2_ := (Option.bind_some _ _).symm.trans H; with_reducible exact H2_) | with_reducible exact H | (rw [hy234]; exact H) | exact H
 have Ny234 := aM hy234
 clear hy234
 have H' := aM H
 clear H
 have hnb27 := NB228_224.out
 have hnc27 := NB224_228.out
 have hnb28 := NB228_226.out
 have hnc28 := NB226_228.out
 have hcz29_0 : wc.cell? ⟨gb228, 0, none⟩ = some (.int .i64 ((rd_T41 l0 x21_1).f0)) := cz20 BK228.out
 have hcz29_1 : wc.cell? ⟨gb228, 1, none⟩ = some (.int .i64 ((rd_T41 l0 x21_1).f1)) := cz21 BK228.out
 have hfz29_0 := blk_frozen BK228.out 0
 have hfz29_1 := blk_frozen BK228.out 1
 go_wp2_with (first | ((with_reducible refine gate_callee (f := 15) rfl ?_); refine goesL_ (some 48) rfl rfl Try.func15 (by kernel_rfl) rfl #[.slice (some ad227) l0.length c0, .int .i64 (wrap64 (((rd_T41 l0 x21_1).f0) + x8_16)), .int .i64 ((rd_T41 l0 x21_1).f1)] rfl aX ?_; (with_reducible refine (i_CellAt.calls kj18 _ _ l0 (wrap64 (((rd_T41 l0 x21_1).f0) + x8_16)) ((rd_T41 l0 x21_1).f1) t229 _ ?side1 ?side2 A21.out).mono ?_); (case side1 => exact cX (Kd.C_below HR0.out HB.out)); (case side2 => exact HC0.out); rintro e w30 ⟨rfl, hb⟩; refine ⟨_, rfl, ?_⟩; replace HO_227000 := aM (Kd.R_below (rX HO_227000.out) hb); replace HO_227001 := aM (Kd.R_below (rX HO_227001.out) hb); replace BK224 := aM (bbX BK224.out hb); replace BK226 := aM (bbX BK226.out hb); replace BK228 := aM (bbX BK228.out hb); replace HB := aM (below_step (bX3 HB.out GE224.out GE226.out GE228.out) hb); (try clear hb); (try clear hb2); (try clear hk); (try clear hi); have hcz31_0 : w30.cell? ⟨gb228, 0, none⟩ = some (.int .i64 ((rd_T41 l0 x21_1).f0)) := cz20 BK228.out; have hcz31_1 : w30.cell? ⟨gb228, 1, none⟩ = some (.int .i64 ((rd_T41 l0 x21_1).f1)) := cz21 BK228.out; have hfz31_0 := blk_frozen BK228.out 0; have hfz31_1 := blk_frozen BK228.out 1) | ((with_reducible refine gate_callee (f := 15) rfl ?_); refine goesL_ (some 67) rfl rfl Try.func15 (by kernel_rfl) rfl #[.slice (some ad227) l0.length c0, .int .i64 ((rd_T41 l0 x21_1).f0), .int .i64 (wrap64 (((rd_T41 l0 x21_1).f1) + x9_18))] rfl aX ?_; (with_reducible refine (i_CellAt.calls kj18 _ _ l0 ((rd_T41 l0 x21_1).f0) (wrap64 (((rd_T41 l0 x21_1).f1) + x9_18)) t230 _ ?side1 ?side2 A23.out).mono ?_); (case side1 => exact cX (Kd.C_below HR0.out HB.out)); (case side2 => exact HC0.out); rintro e w32 ⟨rfl, hb⟩; refine ⟨_, rfl, ?_⟩; replace HO_227000 := aM (Kd.R_below (rX HO_227000.out) hb); replace HO_227001 := aM (Kd.R_below (rX HO_227001.out) hb); replace BK224 := aM (bbX BK224.out hb); replace BK226 := aM (bbX BK226.out hb); replace BK228 := aM (bbX BK228.out hb); replace HB := aM (below_step (bX3 HB.out GE224.out GE226.out GE228.out) hb); (try clear hb); (try clear hb2); (try clear hk); (try clear hi); have hnb33 := NB226_224.out; have hnc33 := NB224_226.out; have hcz34_0 := cz20 BK226.out; have hcz34_1 := cz21 BK226.out; have hfz34_0 := blk_frozen BK226.out 0; have hfz34_1 := blk_frozen BK226.out 1) | ((with_reducible refine gate_builtin (b := .append) (xs := #[.tmp 75, .tmp 77]) rfl ?_); at_builtin; refine Kd.R_append (Kd.int .i64) (w0 := w) w.heap.size rfl (.tmp 75) (.tmp 77) 25 3 (.int .i64 0) 8 rfl Try.underlying25 info3 rfl (by decide) (by omega) u227000 x227000_2 (wrap64 ((wrap64 (4 * t229)) + x7_2)) [.int .i64 (wrap64 ((wrap64 (4 * t229)) + x7_2))] (fun k_ => some k_ ≠ (u227001 : Value).ownBlock) (fun _ => False) rfl rfl ?aP (fun _ hk => hk.elim) ?aF ?aO ?aB ?aS ?aL ?_; (case aP => exact rfl); (case aB => exact (bX3 HB.out GE224.out GE226.out GE228.out)); (case aF => exact (fun k_ hk => Kd.fresh' (Kd.R_lt (rX HO_227001.out)) k_ hk)); (case aO => exact (rX HO_227000.out)); (case aS => exact (below_size (bX3 HB.out GE224.out GE226.out GE228.out))); (case aL => have := LMc25.out; omega); intro v232 w35 ho hb hg hat; rw [← Ny231.out] at ho; replace HO_227001 := aM (Kd.R_after (ok := (fun _ => True)) (rM HO_227001.out (fun _ hk => ⟨trivial, hk⟩)) hg hat); replace BK224 := aM (bgX BK224.out hg (Kd.R_ne HO_227000.out BK224.out (by decide))); replace BK226 := aM (bgX BK226.out hg (Kd.R_ne HO_227000.out BK226.out (by decide))); replace BK228 := aM (bgX BK228.out hg (Kd.R_ne HO_227000.out BK228.out (by decide))); replace HB := aM (hb); have HO233 := aM (ho); clear HO_227000 ho hb hg hat; obtain ⟨Ao36, co36, eo36⟩ := Kd.R_slice HO233.out; subst eo36; have hcz37_0 := cz20 BK226.out; have hcz37_1 := cz21 BK226.out; have hfz37_0 := blk_frozen BK226.out 0; have hfz37_1 := blk_frozen BK226.out 1) | ((with_reducible refine gate_builtin (b := .append) (xs := #[.tmp 81, .tmp 83]) rfl ?_); at_builtin; refine Kd.R_append (Kd.int .i64) (w0 := w) w.heap.size rfl (.tmp 81) (.tmp 83) 25 3 (.int .i64 0) 8 rfl Try.underlying25 info3 rfl (by decide) (by omega) u227001 x227001_2 (wrap64 ((wrap64 (4 * t230)) + x7_2)) [.int .i64 (wrap64 ((wrap64 (4 * t230)) + x7_2))] (fun k_ => some k_ ≠ (.slice Ao36 y231.length co36 : Value).ownBlock) (fun _ => False) rfl (by first | (go_simp; done) | (go_simp; rfl)) ?aP (fun _ hk => hk.elim) ?aF ?aO ?aB ?aS ?aL ?_; (case aP => exact rfl); (case aB => exact (bX3 HB.out GE224.out GE226.out GE228.out)); (case aF => exact (fun k_ hk => Kd.fresh' (Kd.R_lt (rX (fr1 HO233.out BK226.out (.slice Ao36 y231.length co36)))) k_ hk)); (case aO => exact (by (with_reducible repeat (first|apply rA|apply rN|apply rD)); exact Kd.R_mono (Kd.R_far (p := ⟨gb226, 0, none⟩) (Kd.R_types HO_227001.out BK226.out (by decide)) (fun _ hk => hk.2) (.slice Ao36 y231.length co36)) (fun _ hk => hk.1.2))); (case aS => exact (below_size (bX3 HB.out GE224.out GE226.out GE228.out))); (case aL => have := LMc26.out; omega); intro v235 w38 ho hb hg hat; rw [← Ny234.out] at ho; replace BK224 := aM (blk_grown (g := gb224) (o := .cells #[.slice none 0 0, .slice none 0 0] 27 (0, 0)) (by (with_reducible repeat (first|refine kN ?_ _|refine kD ?_|refine kA ?_ _)); refine blk_far ?_ NB224_226.out _; (with_reducible repeat (first|refine kN ?_ _|refine kD ?_|refine kA ?_ _)); exact BK224.out) hg (Kd.R_ne HO_227001.out BK224.out (by decide))); replace BK228 := aM (blk_grown (g := gb228) (o := .cells #[.int .i64 ((rd_T41 l0 x21_1).f0), .int .i64 ((rd_T41 l0 x21_1).f1)] 41 (0, 0)) (by (with_reducible repeat (first|refine kN ?_ _|refine kD ?_|refine kA ?_ _)); refine blk_far ?_ NB228_226.out _; (with_reducible repeat (first|refine kN ?_ _|refine kD ?_|refine kA ?_ _)); exact BK228.out) hg (Kd.R_ne HO_227001.out BK228.out (by decide))); replace HO233 := aM (Kd.R_after (ok := (fun _ => True)) (by (with_reducible repeat (first|apply rA|apply rN|apply rD)); exact Kd.R_mono (Kd.R_far (p := ⟨gb226, 0, none⟩) (Kd.R_types HO233.out BK226.out (by decide)) (fun _ hk => hk.2) (.slice Ao36 y231.length co36)) (fun _ hk => ⟨trivial, hk.1⟩)) hg hat); replace BK226 := aM (blk_grown (g := gb226) (o := .cells #[.slice Ao36 y231.length co36, u227001] 27 (0, 0)) (by (with_reducible repeat (first|refine kN ?_ _|refine kD ?_|refine kA ?_ _)); refine blk_put (cs := #[u227000, u227001]) ?_ 0 _ rfl; (with_reducible repeat (first|refine kN ?_ _|refine kD ?_|refine kA ?_ _)); exact BK226.out) hg (Kd.R_ne HO_227001.out BK226.out (by decide))); replace HB := aM (hb); have HO236 := aM (ho); clear HO_227001 ho hb hg hat; obtain ⟨Ao39, co39, eo39⟩ := Kd.R_slice HO236.out; subst eo39; have hcz40_0 := cz20 BK226.out; have hcz40_1 := cz21 BK226.out; have hfz40_0 := blk_frozen BK226.out 0; have hfz40_1 := blk_frozen BK226.out 1))
 go_roundg kj18
 case measure => have := HK1.out; have := HK2.out; have := HJ16.out; have := HJ18.out; omega
 case rel => exact ⟨(wrap64 (x7_2 + 1)), (y231), (y234), (.slice Ao36 y231.length co36), (.slice Ao39 y234.length co39), vX, H', ⟨by have := HK1.out; have := HK2.out; have := HJ16.out; have := HJ18.out; omega⟩, ⟨by (with_reducible repeat (first|apply rA|apply rN|apply rD)); exact Kd.R_mono (Kd.R_far (p := ⟨gb226, 1, none⟩) (Kd.R_types HO233.out BK226.out (by decide)) (fun _ hk => hk.2) (.slice Ao39 y234.length co39)) (fun _ hk => hk.1.2)⟩, ⟨by (with_reducible repeat (first|apply rA|apply rN|apply rD)); exact Kd.R_mono (Kd.R_far (p := ⟨gb226, 1, none⟩) (Kd.R_types HO236.out BK226.out (by decide)) (fun _ hk => hk.2) (.slice Ao39 y234.length co39)) (fun _ hk => hk.1)⟩, ⟨by (with_reducible repeat (first|refine kN ?_ _|refine kD ?_|refine kA ?_ _)); refine blk_far ?_ NB224_226.out _; (with_reducible repeat (first|refine kN ?_ _|refine kD ?_|refine kA ?_ _)); exact BK224.out⟩, ⟨by (with_reducible repeat (first|refine kN ?_ _|refine kD ?_|refine kA ?_ _)); refine blk_put (cs := #[.slice Ao36 y231.length co36, u227001]) ?_ 1 _ rfl; (with_reducible repeat (first|refine kN ?_ _|refine kD ?_|refine kA ?_ _)); exact BK226.out⟩, ⟨by (with_reducible repeat (first|refine kN ?_ _|refine kD ?_|refine kA ?_ _)); refine blk_far ?_ NB228_226.out _; (with_reducible repeat (first|refine kN ?_ _|refine kD ?_|refine kA ?_ _)); exact BK228.out⟩, ⟨bX3 HB.out GE224.out GE226.out GE228.out⟩⟩
 }
 {
 rw [if_neg c26] at H
 exact absurd H (by simp)
 }
 }
 {
 rw [if_neg c25] at H
 exact absurd H (by simp)
 }
 }
 {
 rw [if_neg c24] at H
 have c24b0 : decide (0 ≤ t230) = false := decide_eq_false c24
 clear c24
 by_cases c41 : x227000_2.length < 17592186044416
 {
 rw [if_pos c41] at H
 have LMc41 := aM c41
 clear c41
 obtain ⟨y237, hy237⟩ : ∃ y_ : List Int, y_ = (x227000_2 ++ [wrap64 ((wrap64 (4 * t229)) + x7_2)]) := ⟨_, rfl⟩
 replace H : (if x227001_2.length < 17592186044416 then (i_UnfoldTable.l1 kj18 l0 x21_1 (wrap64 (x7_2 + 1)) l0 (l0.length : Int) x21_1 y237 (x227001_2 ++ [wrap64 ((wrap64 (4 * x21_1)) + (Go.bits .xor .i64 x7_2 2))]) ((rd_T41 l0 x21_1).f0) ((rd_T41 l0 x21_1).f1)) else (none)) = some (r1, r2, r3) := by first | (rw [hy237]; with_reducible exact H) | (have H2_ := (Option.bind_some _ _).symm.trans H; rw [hy237]; with_reducible exact H2_) | (have H2_ := (Option.bind_some _ _).symm.trans H; with_reducible exact H2_) | with_reducible exact H | (rw [hy237]; exact H) | exact H
 have Ny237 := aM hy237
 clear hy237
 by_cases c42 : x227001_2.length < 17592186044416
 {
 rw [if_pos c42] at H
 have LMc42 := aM c42
 clear c42
 obtain ⟨y240, hy240⟩ : ∃ y_ : List Int, y_ = (x227001_2 ++ [wrap64 ((wrap64 (4 * x21_1)) + (Go.bits .xor .i64 x7_2 2))]) := ⟨_, rfl⟩
 replace H : (i_UnfoldTable.l1 kj18 l0 x21_1 (wrap64 (x7_2 + 1)) l0 (l0.length : Int) x21_1 y237 y240 ((rd_T41 l0 x21_1).f0) ((rd_T41 l0 x21_1).f1)) = some (r1, r2, r3) := by first | (rw [hy240]; with_reducible exact H) | (have H2_ := (Option.bind_some _ _).symm.trans H; rw [hy240]; with_reducible exact H2_) | (have H2_ := (Option.bind_some _ _).symm.trans H; with_reducible exact H2_) | with_reducible exact H | (rw [hy240]; exact H) | exact H
 have Ny240 := aM hy240
 clear hy240
 have H' := aM H
 clear H
 have hnb43 := NB228_224.out
 have hnc43 := NB224_228.out
 have hnb44 := NB228_226.out
 have hnc44 := NB226_228.out
 have hcz45_0 : wc.cell? ⟨gb228, 0, none⟩ = some (.int .i64 ((rd_T41 l0 x21_1).f0)) := cz20 BK228.out
 have hcz45_1 : wc.cell? ⟨gb228, 1, none⟩ = some (.int .i64 ((rd_T41 l0 x21_1).f1)) := cz21 BK228.out
 have hfz45_0 := blk_frozen BK228.out 0
 have hfz45_1 := blk_frozen BK228.out 1
 go_wp2_with (first | ((with_reducible refine gate_callee (f := 15) rfl ?_); refine goesL_ (some 48) rfl rfl Try.func15 (by kernel_rfl) rfl #[.slice (some ad227) l0.length c0, .int .i64 (wrap64 (((rd_T41 l0 x21_1).f0) + x8_16)), .int .i64 ((rd_T41 l0 x21_1).f1)] rfl aX ?_; (with_reducible refine (i_CellAt.calls kj18 _ _ l0 (wrap64 (((rd_T41 l0 x21_1).f0) + x8_16)) ((rd_T41 l0 x21_1).f1) t229 _ ?side1 ?side2 A21.out).mono ?_); (case side1 => exact cX (Kd.C_below HR0.out HB.out)); (case side2 => exact HC0.out); rintro e w46 ⟨rfl, hb⟩; refine ⟨_, rfl, ?_⟩; replace HO_227000 := aM (Kd.R_below (rX HO_227000.out) hb); replace HO_227001 := aM (Kd.R_below (rX HO_227001.out) hb); replace BK224 := aM (bbX BK224.out hb); replace BK226 := aM (bbX BK226.out hb); replace BK228 := aM (bbX BK228.out hb); replace HB := aM (below_step (bX3 HB.out GE224.out GE226.out GE228.out) hb); (try clear hb); (try clear hb2); (try clear hk); (try clear hi); have hcz47_0 : w46.cell? ⟨gb228, 0, none⟩ = some (.int .i64 ((rd_T41 l0 x21_1).f0)) := cz20 BK228.out; have hcz47_1 : w46.cell? ⟨gb228, 1, none⟩ = some (.int .i64 ((rd_T41 l0 x21_1).f1)) := cz21 BK228.out; have hfz47_0 := blk_frozen BK228.out 0; have hfz47_1 := blk_frozen BK228.out 1) | ((with_reducible refine gate_callee (f := 15) rfl ?_); refine goesL_ (some 67) rfl rfl Try.func15 (by kernel_rfl) rfl #[.slice (some ad227) l0.length c0, .int .i64 ((rd_T41 l0 x21_1).f0), .int .i64 (wrap64 (((rd_T41 l0 x21_1).f1) + x9_18))] rfl aX ?_; (with_reducible refine (i_CellAt.calls kj18 _ _ l0 ((rd_T41 l0 x21_1).f0) (wrap64 (((rd_T41 l0 x21_1).f1) + x9_18)) t230 _ ?side1 ?side2 A23.out).mono ?_); (case side1 => exact cX (Kd.C_below HR0.out HB.out)); (case side2 => exact HC0.out); rintro e w48 ⟨rfl, hb⟩; refine ⟨_, rfl, ?_⟩; replace HO_227000 := aM (Kd.R_below (rX HO_227000.out) hb); replace HO_227001 := aM (Kd.R_below (rX HO_227001.out) hb); replace BK224 := aM (bbX BK224.out hb); replace BK226 := aM (bbX BK226.out hb); replace BK228 := aM (bbX BK228.out hb); replace HB := aM (below_step (bX3 HB.out GE224.out GE226.out GE228.out) hb); (try clear hb); (try clear hb2); (try clear hk); (try clear hi); have hnb49 := NB226_224.out; have hnc49 := NB224_226.out; have hcz50_0 := cz20 BK226.out; have hcz50_1 := cz21 BK226.out; have hfz50_0 := blk_frozen BK226.out 0; have hfz50_1 := blk_frozen BK226.out 1) | ((with_reducible refine gate_builtin (b := .append) (xs := #[.tmp 75, .tmp 77]) rfl ?_); at_builtin; refine Kd.R_append (Kd.int .i64) (w0 := w) w.heap.size rfl (.tmp 75) (.tmp 77) 25 3 (.int .i64 0) 8 rfl Try.underlying25 info3 rfl (by decide) (by omega) u227000 x227000_2 (wrap64 ((wrap64 (4 * t229)) + x7_2)) [.int .i64 (wrap64 ((wrap64 (4 * t229)) + x7_2))] (fun k_ => some k_ ≠ (u227001 : Value).ownBlock) (fun _ => False) rfl rfl ?aP (fun _ hk => hk.elim) ?aF ?aO ?aB ?aS ?aL ?_; (case aP => exact rfl); (case aB => exact (bX3 HB.out GE224.out GE226.out GE228.out)); (case aF => exact (fun k_ hk => Kd.fresh' (Kd.R_lt (rX HO_227001.out)) k_ hk)); (case aO => exact (rX HO_227000.out)); (case aS => exact (below_size (bX3 HB.out GE224.out GE226.out GE228.out))); (case aL => have := LMc41.out; omega); intro v238 w51 ho hb hg hat; rw [← Ny237.out] at ho; replace HO_227001 := aM (Kd.R_after (ok := (fun _ => True)) (rM HO_227001.out (fun _ hk => ⟨trivial, hk⟩)) hg hat); replace BK224 := aM (bgX BK224.out hg (Kd.R_ne HO_227000.out BK224.out (by decide))); replace BK226 := aM (bgX BK226.out hg (Kd.R_ne HO_227000.out BK226.out (by decide))); replace BK228 := aM (bgX BK228.out hg (Kd.R_ne HO_227000.out BK228.out (by decide))); replace HB := aM (hb); have HO239 := aM (ho); clear HO_227000 ho hb hg hat; obtain ⟨Ao52, co52, eo52⟩ := Kd.R_slice HO239.out; subst eo52; have hcz53_0 := cz20 BK226.out; have hcz53_1 := cz21 BK226.out; have hfz53_0 := blk_frozen BK226.out 0; have hfz53_1 := blk_frozen BK226.out 1) | ((with_reducible refine gate_builtin (b := .append) (xs := #[.tmp 81, .tmp 83]) rfl ?_); at_builtin; refine Kd.R_append (Kd.int .i64) (w0 := w) w.heap.size rfl (.tmp 81) (.tmp 83) 25 3 (.int .i64 0) 8 rfl Try.underlying25 info3 rfl (by decide) (by omega) u227001 x227001_2 (wrap64 ((wrap64 (4 * x21_1)) + (Go.bits .xor .i64 x7_2 2))) [.int .i64 (wrap64 ((wrap64 (4 * x21_1)) + (Go.bits .xor .i64 x7_2 2)))] (fun k_ => some k_ ≠ (.slice Ao52 y237.length co52 : Value).ownBlock) (fun _ => False) rfl (by first | (go_simp; done) | (go_simp; rfl)) ?aP (fun _ hk => hk.elim) ?aF ?aO ?aB ?aS ?aL ?_; (case aP => exact rfl); (case aB => exact (bX3 HB.out GE224.out GE226.out GE228.out)); (case aF => exact (fun k_ hk => Kd.fresh' (Kd.R_lt (rX (fr1 HO239.out BK226.out (.slice Ao52 y237.length co52)))) k_ hk)); (case aO => exact (by (with_reducible repeat (first|apply rA|apply rN|apply rD)); exact Kd.R_mono (Kd.R_far (p := ⟨gb226, 0, none⟩) (Kd.R_types HO_227001.out BK226.out (by decide)) (fun _ hk => hk.2) (.slice Ao52 y237.length co52)) (fun _ hk => hk.1.2))); (case aS => exact (below_size (bX3 HB.out GE224.out GE226.out GE228.out))); (case aL => have := LMc42.out; omega); intro v241 w54 ho hb hg hat; rw [← Ny240.out] at ho; replace BK224 := aM (blk_grown (g := gb224) (o := .cells #[.slice none 0 0, .slice none 0 0] 27 (0, 0)) (by (with_reducible repeat (first|refine kN ?_ _|refine kD ?_|refine kA ?_ _)); refine blk_far ?_ NB224_226.out _; (with_reducible repeat (first|refine kN ?_ _|refine kD ?_|refine kA ?_ _)); exact BK224.out) hg (Kd.R_ne HO_227001.out BK224.out (by decide))); replace BK228 := aM (blk_grown (g := gb228) (o := .cells #[.int .i64 ((rd_T41 l0 x21_1).f0), .int .i64 ((rd_T41 l0 x21_1).f1)] 41 (0, 0)) (by (with_reducible repeat (first|refine kN ?_ _|refine kD ?_|refine kA ?_ _)); refine blk_far ?_ NB228_226.out _; (with_reducible repeat (first|refine kN ?_ _|refine kD ?_|refine kA ?_ _)); exact BK228.out) hg (Kd.R_ne HO_227001.out BK228.out (by decide))); replace HO239 := aM (Kd.R_after (ok := (fun _ => True)) (by (with_reducible repeat (first|apply rA|apply rN|apply rD)); exact Kd.R_mono (Kd.R_far (p := ⟨gb226, 0, none⟩) (Kd.R_types HO239.out BK226.out (by decide)) (fun _ hk => hk.2) (.slice Ao52 y237.length co52)) (fun _ hk => ⟨trivial, hk.1⟩)) hg hat); replace BK226 := aM (blk_grown (g := gb226) (o := .cells #[.slice Ao52 y237.length co52, u227001] 27 (0, 0)) (by (with_reducible repeat (first|refine kN ?_ _|refine kD ?_|refine kA ?_ _)); refine blk_put (cs := #[u227000, u227001]) ?_ 0 _ rfl; (with_reducible repeat (first|refine kN ?_ _|refine kD ?_|refine kA ?_ _)); exact BK226.out) hg (Kd.R_ne HO_227001.out BK226.out (by decide))); replace HB := aM (hb); have HO242 := aM (ho); clear HO_227001 ho hb hg hat; obtain ⟨Ao55, co55, eo55⟩ := Kd.R_slice HO242.out; subst eo55; have hcz56_0 := cz20 BK226.out; have hcz56_1 := cz21 BK226.out; have hfz56_0 := blk_frozen BK226.out 0; have hfz56_1 := blk_frozen BK226.out 1))
 go_roundg kj18
 case measure => have := HK1.out; have := HK2.out; have := HJ16.out; have := HJ18.out; omega
 case rel => exact ⟨(wrap64 (x7_2 + 1)), (y237), (y240), (.slice Ao52 y237.length co52), (.slice Ao55 y240.length co55), vX, H', ⟨by have := HK1.out; have := HK2.out; have := HJ16.out; have := HJ18.out; omega⟩, ⟨by (with_reducible repeat (first|apply rA|apply rN|apply rD)); exact Kd.R_mono (Kd.R_far (p := ⟨gb226, 1, none⟩) (Kd.R_types HO239.out BK226.out (by decide)) (fun _ hk => hk.2) (.slice Ao55 y240.length co55)) (fun _ hk => hk.1.2)⟩, ⟨by (with_reducible repeat (first|apply rA|apply rN|apply rD)); exact Kd.R_mono (Kd.R_far (p := ⟨gb226, 1, none⟩) (Kd.R_types HO242.out BK226.out (by decide)) (fun _ hk => hk.2) (.slice Ao55 y240.length co55)) (fun _ hk => hk.1)⟩, ⟨by (with_reducible repeat (first|refine kN ?_ _|refine kD ?_|refine kA ?_ _)); refine blk_far ?_ NB224_226.out _; (with_reducible repeat (first|refine kN ?_ _|refine kD ?_|refine kA ?_ _)); exact BK224.out⟩, ⟨by (with_reducible repeat (first|refine kN ?_ _|refine kD ?_|refine kA ?_ _)); refine blk_put (cs := #[.slice Ao52 y237.length co52, u227001]) ?_ 1 _ rfl; (with_reducible repeat (first|refine kN ?_ _|refine kD ?_|refine kA ?_ _)); exact BK226.out⟩, ⟨by (with_reducible repeat (first|refine kN ?_ _|refine kD ?_|refine kA ?_ _)); refine blk_far ?_ NB228_226.out _; (with_reducible repeat (first|refine kN ?_ _|refine kD ?_|refine kA ?_ _)); exact BK228.out⟩, ⟨bX3 HB.out GE224.out GE226.out GE228.out⟩⟩
 }
 {
 rw [if_neg c42] at H
 exact absurd H (by simp)
 }
 }
 {
 rw [if_neg c41] at H
 exact absurd H (by simp)
 }
 }
 }
 {
 rw [if_neg c22] at H
 have c22b0 : decide (0 ≤ t229) = false := decide_eq_false c22
 clear c22
 replace H := oB H
 obtain ⟨t243, A570, H⟩ := H
 replace H : (if t243 ≥ 0 then (if x227000_2.length < 17592186044416 then (if x227001_2.length < 17592186044416 then (i_UnfoldTable.l1 kj18 l0 x21_1 (wrap64 (x7_2 + 1)) l0 (l0.length : Int) x21_1 (x227000_2 ++ [wrap64 ((wrap64 (4 * x21_1)) + (Go.bits .xor .i64 x7_2 1))]) (x227001_2 ++ [wrap64 ((wrap64 (4 * t243)) + x7_2)]) ((rd_T41 l0 x21_1).f0) ((rd_T41 l0 x21_1).f1)) else (none)) else (none)) else (if x227000_2.length < 17592186044416 then (if x227001_2.length < 17592186044416 then (i_UnfoldTable.l1 kj18 l0 x21_1 (wrap64 (x7_2 + 1)) l0 (l0.length : Int) x21_1 (x227000_2 ++ [wrap64 ((wrap64 (4 * x21_1)) + (Go.bits .xor .i64 x7_2 1))]) (x227001_2 ++ [wrap64 ((wrap64 (4 * x21_1)) + (Go.bits .xor .i64 x7_2 2))]) ((rd_T41 l0 x21_1).f0) ((rd_T41 l0 x21_1).f1)) else (none)) else (none))) = some (r1, r2, r3) := H
 have A57 := aM A570
 clear A570
 by_cases c58 : t243 ≥ 0
 {
 rw [if_pos c58] at H
 have c58b0 : decide (0 ≤ t243) = true := decide_eq_true c58
 clear c58
 by_cases c59 : x227000_2.length < 17592186044416
 {
 rw [if_pos c59] at H
 have LMc59 := aM c59
 clear c59
 obtain ⟨y244, hy244⟩ : ∃ y_ : List Int, y_ = (x227000_2 ++ [wrap64 ((wrap64 (4 * x21_1)) + (Go.bits .xor .i64 x7_2 1))]) := ⟨_, rfl⟩
 replace H : (if x227001_2.length < 17592186044416 then (i_UnfoldTable.l1 kj18 l0 x21_1 (wrap64 (x7_2 + 1)) l0 (l0.length : Int) x21_1 y244 (x227001_2 ++ [wrap64 ((wrap64 (4 * t243)) + x7_2)]) ((rd_T41 l0 x21_1).f0) ((rd_T41 l0 x21_1).f1)) else (none)) = some (r1, r2, r3) := by first | (rw [hy244]; with_reducible exact H) | (have H2_ := (Option.bind_some _ _).symm.trans H; rw [hy244]; with_reducible exact H2_) | (have H2_ := (Option.bind_some _ _).symm.trans H; with_reducible exact H2_) | with_reducible exact H | (rw [hy244]; exact H) | exact H
 have Ny244 := aM hy244
 clear hy244
 by_cases c60 : x227001_2.length < 17592186044416
 {
 rw [if_pos c60] at H
 have LMc60 := aM c60
 clear c60
 obtain ⟨y247, hy247⟩ : ∃ y_ : List Int, y_ = (x227001_2 ++ [wrap64 ((wrap64 (4 * t243)) + x7_2)]) := ⟨_, rfl⟩
 replace H : (i_UnfoldTable.l1 kj18 l0 x21_1 (wrap64 (x7_2 + 1)) l0 (l0.length : Int) x21_1 y244 y247 ((rd_T41 l0 x21_1).f0) ((rd_T41 l0 x21_1).f1)) = some (r1, r2, r3) := by first | (rw [hy247]; with_reducible exact H) | (have H2_ := (Option.bind_some _ _).symm.trans H; rw [hy247]; with_reducible exact H2_) | (have H2_ := (Option.bind_some _ _).symm.trans H; with_reducible exact H2_) | with_reducible exact H | (rw [hy247]; exact H) | exact H
 have Ny247 := aM hy247
 clear hy247
 have H' := aM H
 clear H
 have hnb61 := NB228_224.out
 have hnc61 := NB224_228.out
 have hnb62 := NB228_226.out
 have hnc62 := NB226_228.out
 have hcz63_0 : wc.cell? ⟨gb228, 0, none⟩ = some (.int .i64 ((rd_T41 l0 x21_1).f0)) := cz20 BK228.out
 have hcz63_1 : wc.cell? ⟨gb228, 1, none⟩ = some (.int .i64 ((rd_T41 l0 x21_1).f1)) := cz21 BK228.out
 have hfz63_0 := blk_frozen BK228.out 0
 have hfz63_1 := blk_frozen BK228.out 1
 go_wp2_with (first | ((with_reducible refine gate_callee (f := 15) rfl ?_); refine goesL_ (some 48) rfl rfl Try.func15 (by kernel_rfl) rfl #[.slice (some ad227) l0.length c0, .int .i64 (wrap64 (((rd_T41 l0 x21_1).f0) + x8_16)), .int .i64 ((rd_T41 l0 x21_1).f1)] rfl aX ?_; (with_reducible refine (i_CellAt.calls kj18 _ _ l0 (wrap64 (((rd_T41 l0 x21_1).f0) + x8_16)) ((rd_T41 l0 x21_1).f1) t229 _ ?side1 ?side2 A21.out).mono ?_); (case side1 => exact cX (Kd.C_below HR0.out HB.out)); (case side2 => exact HC0.out); rintro e w64 ⟨rfl, hb⟩; refine ⟨_, rfl, ?_⟩; replace HO_227000 := aM (Kd.R_below (rX HO_227000.out) hb); replace HO_227001 := aM (Kd.R_below (rX HO_227001.out) hb); replace BK224 := aM (bbX BK224.out hb); replace BK226 := aM (bbX BK226.out hb); replace BK228 := aM (bbX BK228.out hb); replace HB := aM (below_step (bX3 HB.out GE224.out GE226.out GE228.out) hb); (try clear hb); (try clear hb2); (try clear hk); (try clear hi); have hcz65_0 : w64.cell? ⟨gb228, 0, none⟩ = some (.int .i64 ((rd_T41 l0 x21_1).f0)) := cz20 BK228.out; have hcz65_1 : w64.cell? ⟨gb228, 1, none⟩ = some (.int .i64 ((rd_T41 l0 x21_1).f1)) := cz21 BK228.out; have hfz65_0 := blk_frozen BK228.out 0; have hfz65_1 := blk_frozen BK228.out 1) | ((with_reducible refine gate_callee (f := 15) rfl ?_); refine goesL_ (some 67) rfl rfl Try.func15 (by kernel_rfl) rfl #[.slice (some ad227) l0.length c0, .int .i64 ((rd_T41 l0 x21_1).f0), .int .i64 (wrap64 (((rd_T41 l0 x21_1).f1) + x9_18))] rfl aX ?_; (with_reducible refine (i_CellAt.calls kj18 _ _ l0 ((rd_T41 l0 x21_1).f0) (wrap64 (((rd_T41 l0 x21_1).f1) + x9_18)) t243 _ ?side1 ?side2 A57.out).mono ?_); (case side1 => exact cX (Kd.C_below HR0.out HB.out)); (case side2 => exact HC0.out); rintro e w66 ⟨rfl, hb⟩; refine ⟨_, rfl, ?_⟩; replace HO_227000 := aM (Kd.R_below (rX HO_227000.out) hb); replace HO_227001 := aM (Kd.R_below (rX HO_227001.out) hb); replace BK224 := aM (bbX BK224.out hb); replace BK226 := aM (bbX BK226.out hb); replace BK228 := aM (bbX BK228.out hb); replace HB := aM (below_step (bX3 HB.out GE224.out GE226.out GE228.out) hb); (try clear hb); (try clear hb2); (try clear hk); (try clear hi); have hnb67 := NB226_224.out; have hnc67 := NB224_226.out; have hcz68_0 := cz20 BK226.out; have hcz68_1 := cz21 BK226.out; have hfz68_0 := blk_frozen BK226.out 0; have hfz68_1 := blk_frozen BK226.out 1) | ((with_reducible refine gate_builtin (b := .append) (xs := #[.tmp 75, .tmp 77]) rfl ?_); at_builtin; refine Kd.R_append (Kd.int .i64) (w0 := w) w.heap.size rfl (.tmp 75) (.tmp 77) 25 3 (.int .i64 0) 8 rfl Try.underlying25 info3 rfl (by decide) (by omega) u227000 x227000_2 (wrap64 ((wrap64 (4 * x21_1)) + (Go.bits .xor .i64 x7_2 1))) [.int .i64 (wrap64 ((wrap64 (4 * x21_1)) + (Go.bits .xor .i64 x7_2 1)))] (fun k_ => some k_ ≠ (u227001 : Value).ownBlock) (fun _ => False) rfl rfl ?aP (fun _ hk => hk.elim) ?aF ?aO ?aB ?aS ?aL ?_; (case aP => exact rfl); (case aB => exact (bX3 HB.out GE224.out GE226.out GE228.out)); (case aF => exact (fun k_ hk => Kd.fresh' (Kd.R_lt (rX HO_227001.out)) k_ hk)); (case aO => exact (rX HO_227000.out)); (case aS => exact (below_size (bX3 HB.out GE224.out GE226.out GE228.out))); (case aL => have := LMc59.out; omega); intro v245 w69 ho hb hg hat; rw [← Ny244.out] at ho; replace HO_227001 := aM (Kd.R_after (ok := (fun _ => True)) (rM HO_227001.out (fun _ hk => ⟨trivial, hk⟩)) hg hat); replace BK224 := aM (bgX BK224.out hg (Kd.R_ne HO_227000.out BK224.out (by decide))); replace BK226 := aM (bgX BK226.out hg (Kd.R_ne HO_227000.out BK226.out (by decide))); replace BK228 := aM (bgX BK228.out hg (Kd.R_ne HO_227000.out BK228.out (by decide))); replace HB := aM (hb); have HO246 := aM (ho); clear HO_227000 ho hb hg hat; obtain ⟨Ao70, co70, eo70⟩ := Kd.R_slice HO246.out; subst eo70; have hcz71_0 := cz20 BK226.out; have hcz71_1 := cz21 BK226.out; have hfz71_0 := blk_frozen BK226.out 0; have hfz71_1 := blk_frozen BK226.out 1) | ((with_reducible refine gate_builtin (b := .append) (xs := #[.tmp 81, .tmp 83]) rfl ?_); at_builtin; refine Kd.R_append (Kd.int .i64) (w0 := w) w.heap.size rfl (.tmp 81) (.tmp 83) 25 3 (.int .i64 0) 8 rfl Try.underlying25 info3 rfl (by decide) (by omega) u227001 x227001_2 (wrap64 ((wrap64 (4 * t243)) + x7_2)) [.int .i64 (wrap64 ((wrap64 (4 * t243)) + x7_2))] (fun k_ => some k_ ≠ (.slice Ao70 y244.length co70 : Value).ownBlock) (fun _ => False) rfl (by first | (go_simp; done) | (go_simp; rfl)) ?aP (fun _ hk => hk.elim) ?aF ?aO ?aB ?aS ?aL ?_; (case aP => exact rfl); (case aB => exact (bX3 HB.out GE224.out GE226.out GE228.out)); (case aF => exact (fun k_ hk => Kd.fresh' (Kd.R_lt (rX (fr1 HO246.out BK226.out (.slice Ao70 y244.length co70)))) k_ hk)); (case aO => exact (by (with_reducible repeat (first|apply rA|apply rN|apply rD)); exact Kd.R_mono (Kd.R_far (p := ⟨gb226, 0, none⟩) (Kd.R_types HO_227001.out BK226.out (by decide)) (fun _ hk => hk.2) (.slice Ao70 y244.length co70)) (fun _ hk => hk.1.2))); (case aS => exact (below_size (bX3 HB.out GE224.out GE226.out GE228.out))); (case aL => have := LMc60.out; omega); intro v248 w72 ho hb hg hat; rw [← Ny247.out] at ho; replace BK224 := aM (blk_grown (g := gb224) (o := .cells #[.slice none 0 0, .slice none 0 0] 27 (0, 0)) (by (with_reducible repeat (first|refine kN ?_ _|refine kD ?_|refine kA ?_ _)); refine blk_far ?_ NB224_226.out _; (with_reducible repeat (first|refine kN ?_ _|refine kD ?_|refine kA ?_ _)); exact BK224.out) hg (Kd.R_ne HO_227001.out BK224.out (by decide))); replace BK228 := aM (blk_grown (g := gb228) (o := .cells #[.int .i64 ((rd_T41 l0 x21_1).f0), .int .i64 ((rd_T41 l0 x21_1).f1)] 41 (0, 0)) (by (with_reducible repeat (first|refine kN ?_ _|refine kD ?_|refine kA ?_ _)); refine blk_far ?_ NB228_226.out _; (with_reducible repeat (first|refine kN ?_ _|refine kD ?_|refine kA ?_ _)); exact BK228.out) hg (Kd.R_ne HO_227001.out BK228.out (by decide))); replace HO246 := aM (Kd.R_after (ok := (fun _ => True)) (by (with_reducible repeat (first|apply rA|apply rN|apply rD)); exact Kd.R_mono (Kd.R_far (p := ⟨gb226, 0, none⟩) (Kd.R_types HO246.out BK226.out (by decide)) (fun _ hk => hk.2) (.slice Ao70 y244.length co70)) (fun _ hk => ⟨trivial, hk.1⟩)) hg hat); replace BK226 := aM (blk_grown (g := gb226) (o := .cells #[.slice Ao70 y244.length co70, u227001] 27 (0, 0)) (by (with_reducible repeat (first|refine kN ?_ _|refine kD ?_|refine kA ?_ _)); refine blk_put (cs := #[u227000, u227001]) ?_ 0 _ rfl; (with_reducible repeat (first|refine kN ?_ _|refine kD ?_|refine kA ?_ _)); exact BK226.out) hg (Kd.R_ne HO_227001.out BK226.out (by decide))); replace HB := aM (hb); have HO249 := aM (ho); clear HO_227001 ho hb hg hat; obtain ⟨Ao73, co73, eo73⟩ := Kd.R_slice HO249.out; subst eo73; have hcz74_0 := cz20 BK226.out; have hcz74_1 := cz21 BK226.out; have hfz74_0 := blk_frozen BK226.out 0; have hfz74_1 := blk_frozen BK226.out 1))
 go_roundg kj18
 case measure => have := HK1.out; have := HK2.out; have := HJ16.out; have := HJ18.out; omega
 case rel => exact ⟨(wrap64 (x7_2 + 1)), (y244), (y247), (.slice Ao70 y244.length co70), (.slice Ao73 y247.length co73), vX, H', ⟨by have := HK1.out; have := HK2.out; have := HJ16.out; have := HJ18.out; omega⟩, ⟨by (with_reducible repeat (first|apply rA|apply rN|apply rD)); exact Kd.R_mono (Kd.R_far (p := ⟨gb226, 1, none⟩) (Kd.R_types HO246.out BK226.out (by decide)) (fun _ hk => hk.2) (.slice Ao73 y247.length co73)) (fun _ hk => hk.1.2)⟩, ⟨by (with_reducible repeat (first|apply rA|apply rN|apply rD)); exact Kd.R_mono (Kd.R_far (p := ⟨gb226, 1, none⟩) (Kd.R_types HO249.out BK226.out (by decide)) (fun _ hk => hk.2) (.slice Ao73 y247.length co73)) (fun _ hk => hk.1)⟩, ⟨by (with_reducible repeat (first|refine kN ?_ _|refine kD ?_|refine kA ?_ _)); refine blk_far ?_ NB224_226.out _; (with_reducible repeat (first|refine kN ?_ _|refine kD ?_|refine kA ?_ _)); exact BK224.out⟩, ⟨by (with_reducible repeat (first|refine kN ?_ _|refine kD ?_|refine kA ?_ _)); refine blk_put (cs := #[.slice Ao70 y244.length co70, u227001]) ?_ 1 _ rfl; (with_reducible repeat (first|refine kN ?_ _|refine kD ?_|refine kA ?_ _)); exact BK226.out⟩, ⟨by (with_reducible repeat (first|refine kN ?_ _|refine kD ?_|refine kA ?_ _)); refine blk_far ?_ NB228_226.out _; (with_reducible repeat (first|refine kN ?_ _|refine kD ?_|refine kA ?_ _)); exact BK228.out⟩, ⟨bX3 HB.out GE224.out GE226.out GE228.out⟩⟩
 }
 {
 rw [if_neg c60] at H
 exact absurd H (by simp)
 }
 }
 {
 rw [if_neg c59] at H
 exact absurd H (by simp)
 }
 }
 {
 rw [if_neg c58] at H
 have c58b0 : decide (0 ≤ t243) = false := decide_eq_false c58
 clear c58
 by_cases c75 : x227000_2.length < 17592186044416
 {
 rw [if_pos c75] at H
 have LMc75 := aM c75
 clear c75
 obtain ⟨y250, hy250⟩ : ∃ y_ : List Int, y_ = (x227000_2 ++ [wrap64 ((wrap64 (4 * x21_1)) + (Go.bits .xor .i64 x7_2 1))]) := ⟨_, rfl⟩
 replace H : (if x227001_2.length < 17592186044416 then (i_UnfoldTable.l1 kj18 l0 x21_1 (wrap64 (x7_2 + 1)) l0 (l0.length : Int) x21_1 y250 (x227001_2 ++ [wrap64 ((wrap64 (4 * x21_1)) + (Go.bits .xor .i64 x7_2 2))]) ((rd_T41 l0 x21_1).f0) ((rd_T41 l0 x21_1).f1)) else (none)) = some (r1, r2, r3) := by first | (rw [hy250]; with_reducible exact H) | (have H2_ := (Option.bind_some _ _).symm.trans H; rw [hy250]; with_reducible exact H2_) | (have H2_ := (Option.bind_some _ _).symm.trans H; with_reducible exact H2_) | with_reducible exact H | (rw [hy250]; exact H) | exact H
 have Ny250 := aM hy250
 clear hy250
 by_cases c76 : x227001_2.length < 17592186044416
 {
 rw [if_pos c76] at H
 have LMc76 := aM c76
 clear c76
 obtain ⟨y253, hy253⟩ : ∃ y_ : List Int, y_ = (x227001_2 ++ [wrap64 ((wrap64 (4 * x21_1)) + (Go.bits .xor .i64 x7_2 2))]) := ⟨_, rfl⟩
 replace H : (i_UnfoldTable.l1 kj18 l0 x21_1 (wrap64 (x7_2 + 1)) l0 (l0.length : Int) x21_1 y250 y253 ((rd_T41 l0 x21_1).f0) ((rd_T41 l0 x21_1).f1)) = some (r1, r2, r3) := by first | (rw [hy253]; with_reducible exact H) | (have H2_ := (Option.bind_some _ _).symm.trans H; rw [hy253]; with_reducible exact H2_) | (have H2_ := (Option.bind_some _ _).symm.trans H; with_reducible exact H2_) | with_reducible exact H | (rw [hy253]; exact H) | exact H
 have Ny253 := aM hy253
 clear hy253
 have H' := aM H
 clear H
 have hnb77 := NB228_224.out
 have hnc77 := NB224_228.out
 have hnb78 := NB228_226.out
 have hnc78 := NB226_228.out
 have hcz79_0 : wc.cell? ⟨gb228, 0, none⟩ = some (.int .i64 ((rd_T41 l0 x21_1).f0)) := cz20 BK228.out
 have hcz79_1 : wc.cell? ⟨gb228, 1, none⟩ = some (.int .i64 ((rd_T41 l0 x21_1).f1)) := cz21 BK228.out
 have hfz79_0 := blk_frozen BK228.out 0
 have hfz79_1 := blk_frozen BK228.out 1
 go_wp2_with (first | ((with_reducible refine gate_callee (f := 15) rfl ?_); refine goesL_ (some 48) rfl rfl Try.func15 (by kernel_rfl) rfl #[.slice (some ad227) l0.length c0, .int .i64 (wrap64 (((rd_T41 l0 x21_1).f0) + x8_16)), .int .i64 ((rd_T41 l0 x21_1).f1)] rfl aX ?_; (with_reducible refine (i_CellAt.calls kj18 _ _ l0 (wrap64 (((rd_T41 l0 x21_1).f0) + x8_16)) ((rd_T41 l0 x21_1).f1) t229 _ ?side1 ?side2 A21.out).mono ?_); (case side1 => exact cX (Kd.C_below HR0.out HB.out)); (case side2 => exact HC0.out); rintro e w80 ⟨rfl, hb⟩; refine ⟨_, rfl, ?_⟩; replace HO_227000 := aM (Kd.R_below (rX HO_227000.out) hb); replace HO_227001 := aM (Kd.R_below (rX HO_227001.out) hb); replace BK224 := aM (bbX BK224.out hb); replace BK226 := aM (bbX BK226.out hb); replace BK228 := aM (bbX BK228.out hb); replace HB := aM (below_step (bX3 HB.out GE224.out GE226.out GE228.out) hb); (try clear hb); (try clear hb2); (try clear hk); (try clear hi); have hcz81_0 : w80.cell? ⟨gb228, 0, none⟩ = some (.int .i64 ((rd_T41 l0 x21_1).f0)) := cz20 BK228.out; have hcz81_1 : w80.cell? ⟨gb228, 1, none⟩ = some (.int .i64 ((rd_T41 l0 x21_1).f1)) := cz21 BK228.out; have hfz81_0 := blk_frozen BK228.out 0; have hfz81_1 := blk_frozen BK228.out 1) | ((with_reducible refine gate_callee (f := 15) rfl ?_); refine goesL_ (some 67) rfl rfl Try.func15 (by kernel_rfl) rfl #[.slice (some ad227) l0.length c0, .int .i64 ((rd_T41 l0 x21_1).f0), .int .i64 (wrap64 (((rd_T41 l0 x21_1).f1) + x9_18))] rfl aX ?_; (with_reducible refine (i_CellAt.calls kj18 _ _ l0 ((rd_T41 l0 x21_1).f0) (wrap64 (((rd_T41 l0 x21_1).f1) + x9_18)) t243 _ ?side1 ?side2 A57.out).mono ?_); (case side1 => exact cX (Kd.C_below HR0.out HB.out)); (case side2 => exact HC0.out); rintro e w82 ⟨rfl, hb⟩; refine ⟨_, rfl, ?_⟩; replace HO_227000 := aM (Kd.R_below (rX HO_227000.out) hb); replace HO_227001 := aM (Kd.R_below (rX HO_227001.out) hb); replace BK224 := aM (bbX BK224.out hb); replace BK226 := aM (bbX BK226.out hb); replace BK228 := aM (bbX BK228.out hb); replace HB := aM (below_step (bX3 HB.out GE224.out GE226.out GE228.out) hb); (try clear hb); (try clear hb2); (try clear hk); (try clear hi); have hnb83 := NB226_224.out; have hnc83 := NB224_226.out; have hcz84_0 := cz20 BK226.out; have hcz84_1 := cz21 BK226.out; have hfz84_0 := blk_frozen BK226.out 0; have hfz84_1 := blk_frozen BK226.out 1) | ((with_reducible refine gate_builtin (b := .append) (xs := #[.tmp 75, .tmp 77]) rfl ?_); at_builtin; refine Kd.R_append (Kd.int .i64) (w0 := w) w.heap.size rfl (.tmp 75) (.tmp 77) 25 3 (.int .i64 0) 8 rfl Try.underlying25 info3 rfl (by decide) (by omega) u227000 x227000_2 (wrap64 ((wrap64 (4 * x21_1)) + (Go.bits .xor .i64 x7_2 1))) [.int .i64 (wrap64 ((wrap64 (4 * x21_1)) + (Go.bits .xor .i64 x7_2 1)))] (fun k_ => some k_ ≠ (u227001 : Value).ownBlock) (fun _ => False) rfl rfl ?aP (fun _ hk => hk.elim) ?aF ?aO ?aB ?aS ?aL ?_; (case aP => exact rfl); (case aB => exact (bX3 HB.out GE224.out GE226.out GE228.out)); (case aF => exact (fun k_ hk => Kd.fresh' (Kd.R_lt (rX HO_227001.out)) k_ hk)); (case aO => exact (rX HO_227000.out)); (case aS => exact (below_size (bX3 HB.out GE224.out GE226.out GE228.out))); (case aL => have := LMc75.out; omega); intro v251 w85 ho hb hg hat; rw [← Ny250.out] at ho; replace HO_227001 := aM (Kd.R_after (ok := (fun _ => True)) (rM HO_227001.out (fun _ hk => ⟨trivial, hk⟩)) hg hat); replace BK224 := aM (bgX BK224.out hg (Kd.R_ne HO_227000.out BK224.out (by decide))); replace BK226 := aM (bgX BK226.out hg (Kd.R_ne HO_227000.out BK226.out (by decide))); replace BK228 := aM (bgX BK228.out hg (Kd.R_ne HO_227000.out BK228.out (by decide))); replace HB := aM (hb); have HO252 := aM (ho); clear HO_227000 ho hb hg hat; obtain ⟨Ao86, co86, eo86⟩ := Kd.R_slice HO252.out; subst eo86; have hcz87_0 := cz20 BK226.out; have hcz87_1 := cz21 BK226.out; have hfz87_0 := blk_frozen BK226.out 0; have hfz87_1 := blk_frozen BK226.out 1) | ((with_reducible refine gate_builtin (b := .append) (xs := #[.tmp 81, .tmp 83]) rfl ?_); at_builtin; refine Kd.R_append (Kd.int .i64) (w0 := w) w.heap.size rfl (.tmp 81) (.tmp 83) 25 3 (.int .i64 0) 8 rfl Try.underlying25 info3 rfl (by decide) (by omega) u227001 x227001_2 (wrap64 ((wrap64 (4 * x21_1)) + (Go.bits .xor .i64 x7_2 2))) [.int .i64 (wrap64 ((wrap64 (4 * x21_1)) + (Go.bits .xor .i64 x7_2 2)))] (fun k_ => some k_ ≠ (.slice Ao86 y250.length co86 : Value).ownBlock) (fun _ => False) rfl (by first | (go_simp; done) | (go_simp; rfl)) ?aP (fun _ hk => hk.elim) ?aF ?aO ?aB ?aS ?aL ?_; (case aP => exact rfl); (case aB => exact (bX3 HB.out GE224.out GE226.out GE228.out)); (case aF => exact (fun k_ hk => Kd.fresh' (Kd.R_lt (rX (fr1 HO252.out BK226.out (.slice Ao86 y250.length co86)))) k_ hk)); (case aO => exact (by (with_reducible repeat (first|apply rA|apply rN|apply rD)); exact Kd.R_mono (Kd.R_far (p := ⟨gb226, 0, none⟩) (Kd.R_types HO_227001.out BK226.out (by decide)) (fun _ hk => hk.2) (.slice Ao86 y250.length co86)) (fun _ hk => hk.1.2))); (case aS => exact (below_size (bX3 HB.out GE224.out GE226.out GE228.out))); (case aL => have := LMc76.out; omega); intro v254 w88 ho hb hg hat; rw [← Ny253.out] at ho; replace BK224 := aM (blk_grown (g := gb224) (o := .cells #[.slice none 0 0, .slice none 0 0] 27 (0, 0)) (by (with_reducible repeat (first|refine kN ?_ _|refine kD ?_|refine kA ?_ _)); refine blk_far ?_ NB224_226.out _; (with_reducible repeat (first|refine kN ?_ _|refine kD ?_|refine kA ?_ _)); exact BK224.out) hg (Kd.R_ne HO_227001.out BK224.out (by decide))); replace BK228 := aM (blk_grown (g := gb228) (o := .cells #[.int .i64 ((rd_T41 l0 x21_1).f0), .int .i64 ((rd_T41 l0 x21_1).f1)] 41 (0, 0)) (by (with_reducible repeat (first|refine kN ?_ _|refine kD ?_|refine kA ?_ _)); refine blk_far ?_ NB228_226.out _; (with_reducible repeat (first|refine kN ?_ _|refine kD ?_|refine kA ?_ _)); exact BK228.out) hg (Kd.R_ne HO_227001.out BK228.out (by decide))); replace HO252 := aM (Kd.R_after (ok := (fun _ => True)) (by (with_reducible repeat (first|apply rA|apply rN|apply rD)); exact Kd.R_mono (Kd.R_far (p := ⟨gb226, 0, none⟩) (Kd.R_types HO252.out BK226.out (by decide)) (fun _ hk => hk.2) (.slice Ao86 y250.length co86)) (fun _ hk => ⟨trivial, hk.1⟩)) hg hat); replace BK226 := aM (blk_grown (g := gb226) (o := .cells #[.slice Ao86 y250.length co86, u227001] 27 (0, 0)) (by (with_reducible repeat (first|refine kN ?_ _|refine kD ?_|refine kA ?_ _)); refine blk_put (cs := #[u227000, u227001]) ?_ 0 _ rfl; (with_reducible repeat (first|refine kN ?_ _|refine kD ?_|refine kA ?_ _)); exact BK226.out) hg (Kd.R_ne HO_227001.out BK226.out (by decide))); replace HB := aM (hb); have HO255 := aM (ho); clear HO_227001 ho hb hg hat; obtain ⟨Ao89, co89, eo89⟩ := Kd.R_slice HO255.out; subst eo89; have hcz90_0 := cz20 BK226.out; have hcz90_1 := cz21 BK226.out; have hfz90_0 := blk_frozen BK226.out 0; have hfz90_1 := blk_frozen BK226.out 1))
 go_roundg kj18
 case measure => have := HK1.out; have := HK2.out; have := HJ16.out; have := HJ18.out; omega
 case rel => exact ⟨(wrap64 (x7_2 + 1)), (y250), (y253), (.slice Ao86 y250.length co86), (.slice Ao89 y253.length co89), vX, H', ⟨by have := HK1.out; have := HK2.out; have := HJ16.out; have := HJ18.out; omega⟩, ⟨by (with_reducible repeat (first|apply rA|apply rN|apply rD)); exact Kd.R_mono (Kd.R_far (p := ⟨gb226, 1, none⟩) (Kd.R_types HO252.out BK226.out (by decide)) (fun _ hk => hk.2) (.slice Ao89 y253.length co89)) (fun _ hk => hk.1.2)⟩, ⟨by (with_reducible repeat (first|apply rA|apply rN|apply rD)); exact Kd.R_mono (Kd.R_far (p := ⟨gb226, 1, none⟩) (Kd.R_types HO255.out BK226.out (by decide)) (fun _ hk => hk.2) (.slice Ao89 y253.length co89)) (fun _ hk => hk.1)⟩, ⟨by (with_reducible repeat (first|refine kN ?_ _|refine kD ?_|refine kA ?_ _)); refine blk_far ?_ NB224_226.out _; (with_reducible repeat (first|refine kN ?_ _|refine kD ?_|refine kA ?_ _)); exact BK224.out⟩, ⟨by (with_reducible repeat (first|refine kN ?_ _|refine kD ?_|refine kA ?_ _)); refine blk_put (cs := #[.slice Ao86 y250.length co86, u227001]) ?_ 1 _ rfl; (with_reducible repeat (first|refine kN ?_ _|refine kD ?_|refine kA ?_ _)); exact BK226.out⟩, ⟨by (with_reducible repeat (first|refine kN ?_ _|refine kD ?_|refine kA ?_ _)); refine blk_far ?_ NB228_226.out _; (with_reducible repeat (first|refine kN ?_ _|refine kD ?_|refine kA ?_ _)); exact BK228.out⟩, ⟨bX3 HB.out GE224.out GE226.out GE228.out⟩⟩
 }
 {
 rw [if_neg c76] at H
 exact absurd H (by simp)
 }
 }
 {
 rw [if_neg c75] at H
 exact absurd H (by simp)
 }
 }
 }
 }
 {
 rw [if_neg c16] at H
 have c16b0 : decide (x7_2 < 4) = false := decide_eq_false c16
 clear c16
 have H' := aM H
 clear H
 go_wp2
 go_roundg k2
 case measure => have := HK1.out; have := HK2.out; omega
 case rel => exact ⟨(wrap64 (x21_1 + 1)), (x227000_2), (x227001_2), (u227000), (u227001), vX, H', ⟨by have := HK1.out; have := HK2.out; omega⟩, ⟨rX HO_227000.out⟩, ⟨rX HO_227001.out⟩, ⟨kX BK224.out⟩, ⟨kX BK226.out⟩, ⟨bX3 HB.out GE224.out GE226.out GE228.out⟩⟩
 }
 }
 {
 rw [if_neg c11] at H
 exact absurd H (by simp)
 }
 }
 {
 rw [if_neg c10] at H
 exact absurd H (by simp)
 }
 }
 {
 rw [if_neg c9] at H
 have c9b0 : decide (x21_1 < (l0.length : Int)) = false := decide_eq_false c9
 clear c9
 simp only [Option.some.injEq, Prod.mk.injEq] at H
 obtain ⟨rfl, rfl, rfl⟩ := H
 have hnb91 := NB226_224.out
 have hnc91 := NB224_226.out
 have hcz92_0 := cz20 BK226.out
 have hcz92_1 := cz21 BK226.out
 have hfz92_0 := blk_frozen BK226.out 0
 have hfz92_1 := blk_frozen BK226.out 1
 obtain ⟨Ao93, co93, eo93⟩ := Kd.R_slice HO_227000.out
 subst eo93
 have hcz94_0 := cz20 BK224.out
 have hcz94_1 := cz21 BK224.out
 have hfz94_0 := blk_frozen BK224.out 0
 have hfz94_1 := blk_frozen BK224.out 1
 obtain ⟨Ao95, co95, eo95⟩ := Kd.R_slice HO_227001.out
 subst eo95
 go_wp2
 refine bodyPost_ret (results_ct rfl _ _ gb224 27 #[.slice Ao93 x227000_1.length co93, .slice Ao95 x227001_1.length co95] (0, 0) _ rfl (by (with_reducible repeat (first|refine kN ?_ _|refine kD ?_|refine kA ?_ _)); refine blk_put (cs := #[.slice Ao93 x227000_1.length co93, .slice none 0 0]) ?_ 1 _ rfl; (with_reducible repeat (first|refine kN ?_ _|refine kD ?_|refine kA ?_ _)); refine blk_put (cs := #[.slice none 0 0, .slice none 0 0]) ?_ 0 _ rfl; (with_reducible repeat (first|refine kN ?_ _|refine kD ?_|refine kA ?_ _)); exact BK224.out) Try.underlying27 rfl (by kernel_rfl)) rfl ?_
 exact ⟨_, _, eX, by (with_reducible repeat (first|apply rA|apply rN|apply rD)); exact Kd.R_mono (Kd.R_far (p := ⟨gb224, 1, none⟩) (Kd.R_far (p := ⟨gb224, 0, none⟩) (Kd.R_types HO_227000.out BK224.out (by decide)) (fun _ hk => hk.2) (.slice Ao93 x227000_1.length co93)) (fun _ hk => hk.2) (.slice Ao95 x227001_1.length co95)) (fun _ hk => hk.1), by (with_reducible repeat (first|apply rA|apply rN|apply rD)); exact Kd.R_mono (Kd.R_far (p := ⟨gb224, 1, none⟩) (Kd.R_far (p := ⟨gb224, 0, none⟩) (Kd.R_types HO_227001.out BK224.out (by decide)) (fun _ hk => hk.2) (.slice Ao93 x227000_1.length co93)) (fun _ hk => hk.2) (.slice Ao95 x227001_1.length co95)) (fun _ hk => hk.1), bX2 HB.out GE224.out GE226.out⟩
 }
 }
 {
 replace c3 := Bool.eq_false_iff.mpr c3
 subst c3
 have H1 : (some (([] : List Int), ([] : List Int), false)) = some (r1, r2, r3) := by rw [if_neg (show ¬ (false = true) by decide)] at H; exact H
 clear H
 have H := H1
 clear H1
 simp only [Option.some.injEq, Prod.mk.injEq] at H
 obtain ⟨rfl, rfl, rfl⟩ := H
 go_enter Try.func5, Try.ntmps5
 go_wp2_with (first | ((with_reducible refine gate_dst (N := 2) rfl ?_); refine bEv (cs := #[.slice none 0 0, .slice none 0 0]) (t := 27) ?_; intro gb224 hg w96 hbox hb; have BK224 := aM (hbox); have GW224 := aM ((szX (below_size (bX HB.out)) hg : w.heap.size ≤ gb224)); have GE224 := aM ((szX (below_size (bX HB.out)) hg : w.heap.size ≤ gb224)); replace HB := aM (below_step (bX HB.out) hb); clear hb hbox hg) | ((with_reducible refine gate_callee (f := 7) rfl ?_); refine goesL_ (some 15) rfl rfl Try.func7 (by kernel_rfl) rfl #[.slice A0 l0.length c0] rfl aX ?_; (with_reducible refine (i_TableOk.calls k _ _ l0 false _ ?side1 ?side2 A2.out).mono ?_); (case side1 => exact cX (Kd.C_below HR0.out HB.out)); (case side2 => exact HC0.out); rintro e w97 ⟨rfl, hb⟩; refine ⟨_, rfl, ?_⟩; replace BK224 := aM (bbX BK224.out hb); replace HB := aM (below_step (bX1 HB.out GE224.out) hb); (try clear hb); (try clear hb2); (try clear hk); (try clear hi); have hcz98_0 := cz20 BK224.out; have hcz98_1 := cz21 BK224.out; have hfz98_0 := blk_frozen BK224.out 0; have hfz98_1 := blk_frozen BK224.out 1))
 refine bodyPost_ret (results_ct rfl _ _ gb224 27 #[.slice none 0 0, .slice none 0 0] (0, 0) _ rfl (by (with_reducible repeat (first|refine kN ?_ _|refine kD ?_|refine kA ?_ _)); refine blk_put (cs := #[.slice none 0 0, .slice none 0 0]) ?_ 1 _ rfl; (with_reducible repeat (first|refine kN ?_ _|refine kD ?_|refine kA ?_ _)); refine blk_put (cs := #[.slice none 0 0, .slice none 0 0]) ?_ 0 _ rfl; (with_reducible repeat (first|refine kN ?_ _|refine kD ?_|refine kA ?_ _)); exact BK224.out) Try.underlying27 rfl (by kernel_rfl)) rfl ?_
 exact ⟨_, _, eX, by first | exact Kd.R_nil _ _ _ _ _ | exact Kd.N_nil _ _ _ _ _ | exact Kd.V_nil _ _ _ _ _ | exact Kd.Q_nil _ _ _ _ _ | exact Kd.S_nil _ _ _ _ _, by first | exact Kd.R_nil _ _ _ _ _ | exact Kd.N_nil _ _ _ _ _ | exact Kd.V_nil _ _ _ _ _ | exact Kd.Q_nil _ _ _ _ _ | exact Kd.S_nil _ _ _ _ _, bX1 HB.out GE224.out⟩
 }

/-! ### i_AnglesAt: function 6 -/
mutual
def i_AnglesAt.l0 : Nat → List (S41) → List Int → Int → Option (List Int)
 | 0, _, _, _ => none
 | k + 1, x0, x3, x4 => if x4 ≤ 10 then (i_AnglesAt.l1 k x0 x3 x4 0) else (some x3)
def i_AnglesAt.l1 : Nat → List (S41) → List Int → Int → Int → Option (List Int)
 | 0, _, _, _, _ => none
 | k + 1, x0, x3, x4, x5 => if x5 ≤ 10 then (i_AnglesAt.l2 k x0 x3 x4 x5 0 x0 (x0.length : Int) 0) else (i_AnglesAt.l0 k x0 x3 (wrap64 (x4 + 1)))
def i_AnglesAt.l2 : Nat → List (S41) → List Int → Int → Int → Int → List (S41) → Int → Int → Option (List Int)
 | 0, _, _, _, _, _, _, _, _ => none
 | k + 1, x0, x3, x4, x5, x6, x21, x22, x23 => if x23 < x22 then (if 0 ≤ x23 then (if x23 < (x21.length : Int) then (if ((rd_T41 x21 x23).f0) = x5 then (if ((rd_T41 x21 x23).f1) = x4 then (i_AnglesAt.l2 k x0 x3 x4 x5 (wrap64 (x6 + 1)) x21 x22 (wrap64 (x23 + 1))) else (if (wrap64 (((rd_T41 x21 x23).f1) + 1)) = x4 then (i_AnglesAt.l2 k x0 x3 x4 x5 (wrap64 (x6 + 1)) x21 x22 (wrap64 (x23 + 1))) else (i_AnglesAt.l2 k x0 x3 x4 x5 x6 x21 x22 (wrap64 (x23 + 1))))) else (if (wrap64 (((rd_T41 x21 x23).f0) + 1)) = x5 then (if ((rd_T41 x21 x23).f1) = x4 then (i_AnglesAt.l2 k x0 x3 x4 x5 (wrap64 (x6 + 1)) x21 x22 (wrap64 (x23 + 1))) else (if (wrap64 (((rd_T41 x21 x23).f1) + 1)) = x4 then (i_AnglesAt.l2 k x0 x3 x4 x5 (wrap64 (x6 + 1)) x21 x22 (wrap64 (x23 + 1))) else (i_AnglesAt.l2 k x0 x3 x4 x5 x6 x21 x22 (wrap64 (x23 + 1))))) else (i_AnglesAt.l2 k x0 x3 x4 x5 x6 x21 x22 (wrap64 (x23 + 1))))) else (none)) else (none)) else (if x6 > 0 then (if x3.length < 17592186044416 then (i_AnglesAt.l1 k x0 (x3 ++ [x6]) x4 (wrap64 (x5 + 1))) else (none)) else (i_AnglesAt.l1 k x0 x3 x4 (wrap64 (x5 + 1))))
end
def i_AnglesAt.f (k : Nat) (l0 : List (S41)) : Option (List Int) := (i_TableOk.f k l0).bind fun t256 => (if t256 = true then (i_AnglesAt.l0 k l0 (([] : List Int)) 0) else (some ([] : List Int)))
theorem i_AnglesAt.calls (k : Nat) (A0 : Option Addr) (c0 : Nat) (l0 : List (S41)) (r : List Int) (w : World) (hr0 : Kd.C k41 w A0 l0.length l0) (hc0 : l0.length ≤ c0) (h : i_AnglesAt.f k l0 = some r) :
  Calls Try.prog 6 #[.slice A0 l0.length c0] w fun e w' => ∃ v0_ : Value, e = .returned (v0_) ∧ Kd.R (Kd.int .i64) 3 w' w.heap.size (fun _ => True) v0_ r ∧ Below w.heap.size w w' := by
 have hu41 := Try.underlying41
 have HR0 := aM hr0
 have HC0 := aM hc0
 clear hr0 hc0
 have HB := aM (Below.refl w.heap.size w)
 have H : ((i_TableOk.f k l0).bind fun t256 => (if t256 = true then (i_AnglesAt.l0 k l0 (([] : List Int)) 0) else (some ([] : List Int)))) = some r := h
 clear h
 replace H := oB H
 obtain ⟨t256, A20, H⟩ := H
 replace H : (if t256 = true then (i_AnglesAt.l0 k l0 (([] : List Int)) 0) else (some ([] : List Int))) = some r := H
 have A2 := aM A20
 clear A20
 by_cases c3 : t256 = true
 {
 subst c3
 have H1 : (i_AnglesAt.l0 k l0 (([] : List Int)) 0) = some r := by rw [if_pos rfl] at H; exact H
 clear H
 have H := H1
 clear H1
 obtain ⟨y257, hy257⟩ : ∃ y_ : List Int, y_ = (([] : List Int)) := ⟨_, rfl⟩
 replace H : (i_AnglesAt.l0 k l0 y257 0) = some r := by first | (rw [hy257]; with_reducible exact H) | (have H2_ := (Option.bind_some _ _).symm.trans H; rw [hy257]; with_reducible exact H2_) | (have H2_ := (Option.bind_some _ _).symm.trans H; with_reducible exact H2_) | with_reducible exact H | (rw [hy257]; exact H) | exact H
 have Ny257 := aM hy257
 clear hy257
 have H' := aM H
 clear H
 go_enter Try.func6, Try.ntmps6
 go_wp2_with (first | ((with_reducible refine gate_callee (f := 7) rfl ?_); refine goesL_ (some 10) rfl rfl Try.func7 (by kernel_rfl) rfl #[.slice A0 l0.length c0] rfl aX ?_; (with_reducible refine (i_TableOk.calls k _ _ l0 true _ ?side1 ?side2 A2.out).mono ?_); (case side1 => exact cX HR0.out); (case side2 => exact HC0.out); rintro e w4 ⟨rfl, hb⟩; refine ⟨_, rfl, ?_⟩; replace HB := aM (below_step (bX HB.out) hb); (try clear hb); (try clear hb2); (try clear hk); (try clear hi)) | ((with_reducible refine gate_dst (N := 12) rfl ?_); refine Kd.R_lit (Kd.int .i64) _ 3 ?hg (N := 12) ?hd (xs := ([] : List Int)) (inner := []) (ok := fun _ => True) (okp := fun _ => True) ?hr ?hp (fun _ hk => hk) trivial (Below.refl _ _) (Nat.le_refl _) (by simp) ?_; (case hd => rfl); (case hg => rfl); (case hr => first | (go_simp; done) | (go_simp; rfl)); (case hp => exact (Reps.none _ _)); intro v258 w5 ho6 hb hg_ hnew_; clear hg_ hnew_; (first | rw [← Ny257.out] at ho6 | (simp only [Int.reduceToNat] at ho6; rw [← Ny257.out] at ho6)); have HO259 := aM (Kd.R_lower ho6 (below_size (bX HB.out))); replace HB := aM (below_step (bX HB.out) hb); clear hb ho6))
 go_loopg [3, 4] k (fun kq v3 v4 w' => ∃ (x3_1 : List Int) (x4_1 : Int), v4 = .int .i64 x4_1 ∧ Aside0 (i_AnglesAt.l0 kq l0 x3_1 x4_1 = some r) ∧ Aside0 (kq ≤ k) ∧ Aside0 (Kd.R (Kd.int .i64) 3 w' w.heap.size (fun _ => True) v3 x3_1) ∧ Aside0 (Below w.heap.size w w'))
 case atStart => exact ⟨(y257), (0), vX, H', ⟨Nat.le_refl _⟩, ⟨rX HO259.out⟩, ⟨bX HB.out⟩⟩
 case round =>
 clear H'
 try clear c3
 obtain ⟨x3_1, x4_1, rfl, HA, HK1, HO_3, HB⟩ := hrel
 cases gk with
 | zero => exact absurd HA.out (by simp [i_AnglesAt.l0])
 | succ k1 =>
 have H := HA.out
 clear HA
 simp only [i_AnglesAt.l0] at H
 by_cases c7 : x4_1 ≤ 10
 {
 rw [if_pos c7] at H
 have c7b0 : decide (x4_1 ≤ 10) = true := decide_eq_true c7
 clear c7
 have H' := aM H
 clear H
 go_wp2
 go_loopg [3, 5] k1 (fun kq v3 v5 w' => ∃ (x3_2 : List Int) (x5_2 : Int), v5 = .int .i64 x5_2 ∧ Aside0 (i_AnglesAt.l1 kq l0 x3_2 x4_1 x5_2 = some r) ∧ Aside0 (kq ≤ k1) ∧ Aside0 (Kd.R (Kd.int .i64) 3 w' w.heap.size (fun _ => True) v3 x3_2) ∧ Aside0 (Below w.heap.size w w'))
 case atStart => exact ⟨(x3_1), (0), vX, H', ⟨Nat.le_refl _⟩, ⟨rX HO_3.out⟩, ⟨bX HB.out⟩⟩
 case round =>
 clear H'
 try clear c3
 try clear c7
 try clear c7b0
 obtain ⟨x3_2, x5_2, rfl, HA, HK2, HO_3, HB⟩ := hrel
 cases gk with
 | zero => exact absurd HA.out (by simp [i_AnglesAt.l1])
 | succ k2 =>
 have H := HA.out
 clear HA
 simp only [i_AnglesAt.l1] at H
 by_cases c8 : x5_2 ≤ 10
 {
 rw [if_pos c8] at H
 have c8b0 : decide (x5_2 ≤ 10) = true := decide_eq_true c8
 clear c8
 have H' := aM H
 clear H
 go_wp2
 go_loopg [6, 23] k2 (fun kq v6 v23 w' => ∃ (x6_3 : Int) (x23_3 : Int), v6 = .int .i64 x6_3 ∧ v23 = .int .i64 x23_3 ∧ Aside0 (i_AnglesAt.l2 kq l0 x3_2 x4_1 x5_2 x6_3 l0 (l0.length : Int) x23_3 = some r) ∧ Aside0 (kq ≤ k2) ∧ Aside0 (Kd.R (Kd.int .i64) 3 w' w.heap.size (fun _ => True) u3 x3_2) ∧ Aside0 (Below w.heap.size w w'))
 case atStart => exact ⟨(0), (0), vX, vX, H', ⟨Nat.le_refl _⟩, ⟨rX HO_3.out⟩, ⟨bX HB.out⟩⟩
 case round =>
 clear H'
 try clear c3
 try clear c7
 try clear c7b0
 try clear c8
 try clear c8b0
 obtain ⟨x6_3, x23_3, rfl, rfl, HA, HK3, HO_3, HB⟩ := hrel
 cases gk with
 | zero => exact absurd HA.out (by simp [i_AnglesAt.l2])
 | succ k3 =>
 have H := HA.out
 clear HA
 simp only [i_AnglesAt.l2] at H
 by_cases c9 : x23_3 < (l0.length : Int)
 {
 rw [if_pos c9] at H
 have c9b0 : decide (x23_3 < (l0.length : Int)) = true := decide_eq_true c9
 clear c9
 by_cases c10 : 0 ≤ x23_3
 {
 rw [if_pos c10] at H
 have c10b0 : decide (0 ≤ x23_3) = true := decide_eq_true c10
 clear c10
 by_cases c11 : x23_3 < (l0.length : Int)
 {
 rw [if_pos c11] at H
 have c11b0 : decide (x23_3 < (l0.length : Int)) = true := decide_eq_true c11
 clear c11
 by_cases c12 : ((rd_T41 l0 x23_3).f0) = x5_2
 {
 rw [if_pos c12] at H
 have c12b0 : (((rd_T41 l0 x23_3).f0) == x5_2) = true := beq_iff_eq.mpr c12
 have c12b1 : (((rd_T41 l0 x23_3).f0) != x5_2) = false := bne_eq_false_iff_eq.mpr c12
 clear c12
 by_cases c13 : ((rd_T41 l0 x23_3).f1) = x4_1
 {
 rw [if_pos c13] at H
 have c13b0 : (((rd_T41 l0 x23_3).f1) == x4_1) = true := beq_iff_eq.mpr c13
 have c13b1 : (((rd_T41 l0 x23_3).f1) != x4_1) = false := bne_eq_false_iff_eq.mpr c13
 clear c13
 have H' := aM H
 clear H
 have p260 : 0 ≤ (x23_3 : Int) := dX
 have q260 : x23_3 < (l0.length : Int) := dX
 obtain ⟨ad260, e260, hx260_0, hx260_1⟩ := at_T41 HR0.out x23_3 p260 q260
 cases e260
 replace hx260_0 := (HB.out.cell (World.block_lt_of_cell? w _ hx260_0)).trans hx260_0
 replace hx260_1 := (HB.out.cell (World.block_lt_of_cell? w _ hx260_1)).trans hx260_1
 replace p260 := eq_true p260
 replace q260 := eq_true q260
 go_wp2_with (first | ((with_reducible refine gate_dst (N := 8) rfl ?_); refine bEv (cs := #[.int .i64 0, .int .i64 0]) (t := 41) ?_; intro gb261 hg w14 hbox hb; replace HO_3 := aM (Kd.R_below (rX HO_3.out) hb); have BK261 := aM (hbox); have GW261 := aM ((szX (below_size (bX HB.out)) hg : w.heap.size ≤ gb261)); have GE261 := aM ((szX (below_size (bX HB.out)) hg : w.heap.size ≤ gb261)); replace HB := aM (below_step (bX HB.out) hb); clear hb hbox hg; have hcz15_0 : w14.cell? ⟨gb261, 0, none⟩ = some (.int .i64 0) := (blk_cell BK261.out 0).trans rfl; have hcz15_1 : w14.cell? ⟨gb261, 1, none⟩ = some (.int .i64 0) := (blk_cell BK261.out 1).trans rfl; have hfz15_0 := blk_frozen BK261.out 0; have hfz15_1 := blk_frozen BK261.out 1))
 go_roundg k3
 case measure => have := HK1.out; have := HK2.out; have := HK3.out; omega
 case rel => exact ⟨(wrap64 (x6_3 + 1)), (wrap64 (x23_3 + 1)), vX, vX, H', ⟨by have := HK1.out; have := HK2.out; have := HK3.out; omega⟩, ⟨by (with_reducible repeat (first|apply rA|apply rN|apply rD)); exact Kd.R_mono (Kd.R_far (p := ⟨gb261, 1, none⟩) (Kd.R_far (p := ⟨gb261, 0, none⟩) (Kd.R_types HO_3.out BK261.out (by decide)) (fun _ hk => hk.2) (.int .i64 ((rd_T41 l0 x23_3).f0))) (fun _ hk => hk.2) (.int .i64 ((rd_T41 l0 x23_3).f1))) (fun _ hk => trivial)⟩, ⟨bX1 HB.out GE261.out⟩⟩
 }
 {
 rw [if_neg c13] at H
 have c13b0 : (((rd_T41 l0 x23_3).f1) == x4_1) = false := beq_eq_false_iff_ne.mpr c13
 have c13b1 : (((rd_T41 l0 x23_3).f1) != x4_1) = true := bne_iff_ne.mpr c13
 by_cases c16 : (wrap64 (((rd_T41 l0 x23_3).f1) + 1)) = x4_1
 {
 rw [if_pos c16] at H
 have c16b0 : ((wrap64 (((rd_T41 l0 x23_3).f1) + 1)) == x4_1) = true := beq_iff_eq.mpr c16
 have c16b1 : ((wrap64 (((rd_T41 l0 x23_3).f1) + 1)) != x4_1) = false := bne_eq_false_iff_eq.mpr c16
 clear c16
 have H' := aM H
 clear H
 have p260 : 0 ≤ (x23_3 : Int) := dX
 have q260 : x23_3 < (l0.length : Int) := dX
 obtain ⟨ad260, e260, hx260_0, hx260_1⟩ := at_T41 HR0.out x23_3 p260 q260
 cases e260
 replace hx260_0 := (HB.out.cell (World.block_lt_of_cell? w _ hx260_0)).trans hx260_0
 replace hx260_1 := (HB.out.cell (World.block_lt_of_cell? w _ hx260_1)).trans hx260_1
 replace p260 := eq_true p260
 replace q260 := eq_true q260
 go_wp2_with (first | ((with_reducible refine gate_dst (N := 8) rfl ?_); refine bEv (cs := #[.int .i64 0, .int .i64 0]) (t := 41) ?_; intro gb261 hg w17 hbox hb; replace HO_3 := aM (Kd.R_below (rX HO_3.out) hb); have BK261 := aM (hbox); have GW261 := aM ((szX (below_size (bX HB.out)) hg : w.heap.size ≤ gb261)); have GE261 := aM ((szX (below_size (bX HB.out)) hg : w.heap.size ≤ gb261)); replace HB := aM (below_step (bX HB.out) hb); clear hb hbox hg; have hcz18_0 : w17.cell? ⟨gb261, 0, none⟩ = some (.int .i64 0) := (blk_cell BK261.out 0).trans rfl; have hcz18_1 : w17.cell? ⟨gb261, 1, none⟩ = some (.int .i64 0) := (blk_cell BK261.out 1).trans rfl; have hfz18_0 := blk_frozen BK261.out 0; have hfz18_1 := blk_frozen BK261.out 1))
 go_roundg k3
 case measure => have := HK1.out; have := HK2.out; have := HK3.out; omega
 case rel => exact ⟨(wrap64 (x6_3 + 1)), (wrap64 (x23_3 + 1)), vX, vX, H', ⟨by have := HK1.out; have := HK2.out; have := HK3.out; omega⟩, ⟨by (with_reducible repeat (first|apply rA|apply rN|apply rD)); exact Kd.R_mono (Kd.R_far (p := ⟨gb261, 1, none⟩) (Kd.R_far (p := ⟨gb261, 0, none⟩) (Kd.R_types HO_3.out BK261.out (by decide)) (fun _ hk => hk.2) (.int .i64 ((rd_T41 l0 x23_3).f0))) (fun _ hk => hk.2) (.int .i64 ((rd_T41 l0 x23_3).f1))) (fun _ hk => trivial)⟩, ⟨bX1 HB.out GE261.out⟩⟩
 }
 {
 rw [if_neg c16] at H
 have c16b0 : ((wrap64 (((rd_T41 l0 x23_3).f1) + 1)) == x4_1) = false := beq_eq_false_iff_ne.mpr c16
 have c16b1 : ((wrap64 (((rd_T41 l0 x23_3).f1) + 1)) != x4_1) = true := bne_iff_ne.mpr c16
 have H' := aM H
 clear H
 have p260 : 0 ≤ (x23_3 : Int) := dX
 have q260 : x23_3 < (l0.length : Int) := dX
 obtain ⟨ad260, e260, hx260_0, hx260_1⟩ := at_T41 HR0.out x23_3 p260 q260
 cases e260
 replace hx260_0 := (HB.out.cell (World.block_lt_of_cell? w _ hx260_0)).trans hx260_0
 replace hx260_1 := (HB.out.cell (World.block_lt_of_cell? w _ hx260_1)).trans hx260_1
 replace p260 := eq_true p260
 replace q260 := eq_true q260
 go_wp2_with (first | ((with_reducible refine gate_dst (N := 8) rfl ?_); refine bEv (cs := #[.int .i64 0, .int .i64 0]) (t := 41) ?_; intro gb261 hg w19 hbox hb; replace HO_3 := aM (Kd.R_below (rX HO_3.out) hb); have BK261 := aM (hbox); have GW261 := aM ((szX (below_size (bX HB.out)) hg : w.heap.size ≤ gb261)); have GE261 := aM ((szX (below_size (bX HB.out)) hg : w.heap.size ≤ gb261)); replace HB := aM (below_step (bX HB.out) hb); clear hb hbox hg; have hcz20_0 : w19.cell? ⟨gb261, 0, none⟩ = some (.int .i64 0) := (blk_cell BK261.out 0).trans rfl; have hcz20_1 : w19.cell? ⟨gb261, 1, none⟩ = some (.int .i64 0) := (blk_cell BK261.out 1).trans rfl; have hfz20_0 := blk_frozen BK261.out 0; have hfz20_1 := blk_frozen BK261.out 1))
 go_roundg k3
 case measure => have := HK1.out; have := HK2.out; have := HK3.out; omega
 case rel => exact ⟨(x6_3), (wrap64 (x23_3 + 1)), vX, vX, H', ⟨by have := HK1.out; have := HK2.out; have := HK3.out; omega⟩, ⟨by (with_reducible repeat (first|apply rA|apply rN|apply rD)); exact Kd.R_mono (Kd.R_far (p := ⟨gb261, 1, none⟩) (Kd.R_far (p := ⟨gb261, 0, none⟩) (Kd.R_types HO_3.out BK261.out (by decide)) (fun _ hk => hk.2) (.int .i64 ((rd_T41 l0 x23_3).f0))) (fun _ hk => hk.2) (.int .i64 ((rd_T41 l0 x23_3).f1))) (fun _ hk => trivial)⟩, ⟨bX1 HB.out GE261.out⟩⟩
 }
 }
 }
 {
 rw [if_neg c12] at H
 have c12b0 : (((rd_T41 l0 x23_3).f0) == x5_2) = false := beq_eq_false_iff_ne.mpr c12
 have c12b1 : (((rd_T41 l0 x23_3).f0) != x5_2) = true := bne_iff_ne.mpr c12
 by_cases c21 : (wrap64 (((rd_T41 l0 x23_3).f0) + 1)) = x5_2
 {
 rw [if_pos c21] at H
 have c21b0 : ((wrap64 (((rd_T41 l0 x23_3).f0) + 1)) == x5_2) = true := beq_iff_eq.mpr c21
 have c21b1 : ((wrap64 (((rd_T41 l0 x23_3).f0) + 1)) != x5_2) = false := bne_eq_false_iff_eq.mpr c21
 clear c21
 by_cases c22 : ((rd_T41 l0 x23_3).f1) = x4_1
 {
 rw [if_pos c22] at H
 have c22b0 : (((rd_T41 l0 x23_3).f1) == x4_1) = true := beq_iff_eq.mpr c22
 have c22b1 : (((rd_T41 l0 x23_3).f1) != x4_1) = false := bne_eq_false_iff_eq.mpr c22
 clear c22
 have H' := aM H
 clear H
 have p260 : 0 ≤ (x23_3 : Int) := dX
 have q260 : x23_3 < (l0.length : Int) := dX
 obtain ⟨ad260, e260, hx260_0, hx260_1⟩ := at_T41 HR0.out x23_3 p260 q260
 cases e260
 replace hx260_0 := (HB.out.cell (World.block_lt_of_cell? w _ hx260_0)).trans hx260_0
 replace hx260_1 := (HB.out.cell (World.block_lt_of_cell? w _ hx260_1)).trans hx260_1
 replace p260 := eq_true p260
 replace q260 := eq_true q260
 go_wp2_with (first | ((with_reducible refine gate_dst (N := 8) rfl ?_); refine bEv (cs := #[.int .i64 0, .int .i64 0]) (t := 41) ?_; intro gb261 hg w23 hbox hb; replace HO_3 := aM (Kd.R_below (rX HO_3.out) hb); have BK261 := aM (hbox); have GW261 := aM ((szX (below_size (bX HB.out)) hg : w.heap.size ≤ gb261)); have GE261 := aM ((szX (below_size (bX HB.out)) hg : w.heap.size ≤ gb261)); replace HB := aM (below_step (bX HB.out) hb); clear hb hbox hg; have hcz24_0 : w23.cell? ⟨gb261, 0, none⟩ = some (.int .i64 0) := (blk_cell BK261.out 0).trans rfl; have hcz24_1 : w23.cell? ⟨gb261, 1, none⟩ = some (.int .i64 0) := (blk_cell BK261.out 1).trans rfl; have hfz24_0 := blk_frozen BK261.out 0; have hfz24_1 := blk_frozen BK261.out 1))
 go_roundg k3
 case measure => have := HK1.out; have := HK2.out; have := HK3.out; omega
 case rel => exact ⟨(wrap64 (x6_3 + 1)), (wrap64 (x23_3 + 1)), vX, vX, H', ⟨by have := HK1.out; have := HK2.out; have := HK3.out; omega⟩, ⟨by (with_reducible repeat (first|apply rA|apply rN|apply rD)); exact Kd.R_mono (Kd.R_far (p := ⟨gb261, 1, none⟩) (Kd.R_far (p := ⟨gb261, 0, none⟩) (Kd.R_types HO_3.out BK261.out (by decide)) (fun _ hk => hk.2) (.int .i64 ((rd_T41 l0 x23_3).f0))) (fun _ hk => hk.2) (.int .i64 ((rd_T41 l0 x23_3).f1))) (fun _ hk => trivial)⟩, ⟨bX1 HB.out GE261.out⟩⟩
 }
 {
 rw [if_neg c22] at H
 have c22b0 : (((rd_T41 l0 x23_3).f1) == x4_1) = false := beq_eq_false_iff_ne.mpr c22
 have c22b1 : (((rd_T41 l0 x23_3).f1) != x4_1) = true := bne_iff_ne.mpr c22
 by_cases c25 : (wrap64 (((rd_T41 l0 x23_3).f1) + 1)) = x4_1
 {
 rw [if_pos c25] at H
 have c25b0 : ((wrap64 (((rd_T41 l0 x23_3).f1) + 1)) == x4_1) = true := beq_iff_eq.mpr c25
 have c25b1 : ((wrap64 (((rd_T41 l0 x23_3).f1) + 1)) != x4_1) = false := bne_eq_false_iff_eq.mpr c25
 clear c25
 have H' := aM H
 clear H
 have p260 : 0 ≤ (x23_3 : Int) := dX
 have q260 : x23_3 < (l0.length : Int) := dX
 obtain ⟨ad260, e260, hx260_0, hx260_1⟩ := at_T41 HR0.out x23_3 p260 q260
 cases e260
 replace hx260_0 := (HB.out.cell (World.block_lt_of_cell? w _ hx260_0)).trans hx260_0
 replace hx260_1 := (HB.out.cell (World.block_lt_of_cell? w _ hx260_1)).trans hx260_1
 replace p260 := eq_true p260
 replace q260 := eq_true q260
 go_wp2_with (first | ((with_reducible refine gate_dst (N := 8) rfl ?_); refine bEv (cs := #[.int .i64 0, .int .i64 0]) (t := 41) ?_; intro gb261 hg w26 hbox hb; replace HO_3 := aM (Kd.R_below (rX HO_3.out) hb); have BK261 := aM (hbox); have GW261 := aM ((szX (below_size (bX HB.out)) hg : w.heap.size ≤ gb261)); have GE261 := aM ((szX (below_size (bX HB.out)) hg : w.heap.size ≤ gb261)); replace HB := aM (below_step (bX HB.out) hb); clear hb hbox hg; have hcz27_0 : w26.cell? ⟨gb261, 0, none⟩ = some (.int .i64 0) := (blk_cell BK261.out 0).trans rfl; have hcz27_1 : w26.cell? ⟨gb261, 1, none⟩ = some (.int .i64 0) := (blk_cell BK261.out 1).trans rfl; have hfz27_0 := blk_frozen BK261.out 0; have hfz27_1 := blk_frozen BK261.out 1))
 go_roundg k3
 case measure => have := HK1.out; have := HK2.out; have := HK3.out; omega
 case rel => exact ⟨(wrap64 (x6_3 + 1)), (wrap64 (x23_3 + 1)), vX, vX, H', ⟨by have := HK1.out; have := HK2.out; have := HK3.out; omega⟩, ⟨by (with_reducible repeat (first|apply rA|apply rN|apply rD)); exact Kd.R_mono (Kd.R_far (p := ⟨gb261, 1, none⟩) (Kd.R_far (p := ⟨gb261, 0, none⟩) (Kd.R_types HO_3.out BK261.out (by decide)) (fun _ hk => hk.2) (.int .i64 ((rd_T41 l0 x23_3).f0))) (fun _ hk => hk.2) (.int .i64 ((rd_T41 l0 x23_3).f1))) (fun _ hk => trivial)⟩, ⟨bX1 HB.out GE261.out⟩⟩
 }
 {
 rw [if_neg c25] at H
 have c25b0 : ((wrap64 (((rd_T41 l0 x23_3).f1) + 1)) == x4_1) = false := beq_eq_false_iff_ne.mpr c25
 have c25b1 : ((wrap64 (((rd_T41 l0 x23_3).f1) + 1)) != x4_1) = true := bne_iff_ne.mpr c25
 have H' := aM H
 clear H
 have p260 : 0 ≤ (x23_3 : Int) := dX
 have q260 : x23_3 < (l0.length : Int) := dX
 obtain ⟨ad260, e260, hx260_0, hx260_1⟩ := at_T41 HR0.out x23_3 p260 q260
 cases e260
 replace hx260_0 := (HB.out.cell (World.block_lt_of_cell? w _ hx260_0)).trans hx260_0
 replace hx260_1 := (HB.out.cell (World.block_lt_of_cell? w _ hx260_1)).trans hx260_1
 replace p260 := eq_true p260
 replace q260 := eq_true q260
 go_wp2_with (first | ((with_reducible refine gate_dst (N := 8) rfl ?_); refine bEv (cs := #[.int .i64 0, .int .i64 0]) (t := 41) ?_; intro gb261 hg w28 hbox hb; replace HO_3 := aM (Kd.R_below (rX HO_3.out) hb); have BK261 := aM (hbox); have GW261 := aM ((szX (below_size (bX HB.out)) hg : w.heap.size ≤ gb261)); have GE261 := aM ((szX (below_size (bX HB.out)) hg : w.heap.size ≤ gb261)); replace HB := aM (below_step (bX HB.out) hb); clear hb hbox hg; have hcz29_0 : w28.cell? ⟨gb261, 0, none⟩ = some (.int .i64 0) := (blk_cell BK261.out 0).trans rfl; have hcz29_1 : w28.cell? ⟨gb261, 1, none⟩ = some (.int .i64 0) := (blk_cell BK261.out 1).trans rfl; have hfz29_0 := blk_frozen BK261.out 0; have hfz29_1 := blk_frozen BK261.out 1))
 go_roundg k3
 case measure => have := HK1.out; have := HK2.out; have := HK3.out; omega
 case rel => exact ⟨(x6_3), (wrap64 (x23_3 + 1)), vX, vX, H', ⟨by have := HK1.out; have := HK2.out; have := HK3.out; omega⟩, ⟨by (with_reducible repeat (first|apply rA|apply rN|apply rD)); exact Kd.R_mono (Kd.R_far (p := ⟨gb261, 1, none⟩) (Kd.R_far (p := ⟨gb261, 0, none⟩) (Kd.R_types HO_3.out BK261.out (by decide)) (fun _ hk => hk.2) (.int .i64 ((rd_T41 l0 x23_3).f0))) (fun _ hk => hk.2) (.int .i64 ((rd_T41 l0 x23_3).f1))) (fun _ hk => trivial)⟩, ⟨bX1 HB.out GE261.out⟩⟩
 }
 }
 }
 {
 rw [if_neg c21] at H
 have c21b0 : ((wrap64 (((rd_T41 l0 x23_3).f0) + 1)) == x5_2) = false := beq_eq_false_iff_ne.mpr c21
 have c21b1 : ((wrap64 (((rd_T41 l0 x23_3).f0) + 1)) != x5_2) = true := bne_iff_ne.mpr c21
 have H' := aM H
 clear H
 have p260 : 0 ≤ (x23_3 : Int) := dX
 have q260 : x23_3 < (l0.length : Int) := dX
 obtain ⟨ad260, e260, hx260_0, hx260_1⟩ := at_T41 HR0.out x23_3 p260 q260
 cases e260
 replace hx260_0 := (HB.out.cell (World.block_lt_of_cell? w _ hx260_0)).trans hx260_0
 replace hx260_1 := (HB.out.cell (World.block_lt_of_cell? w _ hx260_1)).trans hx260_1
 replace p260 := eq_true p260
 replace q260 := eq_true q260
 go_wp2_with (first | ((with_reducible refine gate_dst (N := 8) rfl ?_); refine bEv (cs := #[.int .i64 0, .int .i64 0]) (t := 41) ?_; intro gb261 hg w30 hbox hb; replace HO_3 := aM (Kd.R_below (rX HO_3.out) hb); have BK261 := aM (hbox); have GW261 := aM ((szX (below_size (bX HB.out)) hg : w.heap.size ≤ gb261)); have GE261 := aM ((szX (below_size (bX HB.out)) hg : w.heap.size ≤ gb261)); replace HB := aM (below_step (bX HB.out) hb); clear hb hbox hg; have hcz31_0 : w30.cell? ⟨gb261, 0, none⟩ = some (.int .i64 0) := (blk_cell BK261.out 0).trans rfl; have hcz31_1 : w30.cell? ⟨gb261, 1, none⟩ = some (.int .i64 0) := (blk_cell BK261.out 1).trans rfl; have hfz31_0 := blk_frozen BK261.out 0; have hfz31_1 := blk_frozen BK261.out 1))
 go_roundg k3
 case measure => have := HK1.out; have := HK2.out; have := HK3.out; omega
 case rel => exact ⟨(x6_3), (wrap64 (x23_3 + 1)), vX, vX, H', ⟨by have := HK1.out; have := HK2.out; have := HK3.out; omega⟩, ⟨by (with_reducible repeat (first|apply rA|apply rN|apply rD)); exact Kd.R_mono (Kd.R_far (p := ⟨gb261, 1, none⟩) (Kd.R_far (p := ⟨gb261, 0, none⟩) (Kd.R_types HO_3.out BK261.out (by decide)) (fun _ hk => hk.2) (.int .i64 ((rd_T41 l0 x23_3).f0))) (fun _ hk => hk.2) (.int .i64 ((rd_T41 l0 x23_3).f1))) (fun _ hk => trivial)⟩, ⟨bX1 HB.out GE261.out⟩⟩
 }
 }
 }
 {
 rw [if_neg c11] at H
 exact absurd H (by simp)
 }
 }
 {
 rw [if_neg c10] at H
 exact absurd H (by simp)
 }
 }
 {
 rw [if_neg c9] at H
 have c9b0 : decide (x23_3 < (l0.length : Int)) = false := decide_eq_false c9
 clear c9
 by_cases c32 : x6_3 > 0
 {
 rw [if_pos c32] at H
 have c32b0 : decide (0 < x6_3) = true := decide_eq_true c32
 clear c32
 by_cases c33 : x3_2.length < 17592186044416
 {
 rw [if_pos c33] at H
 have LMc33 := aM c33
 clear c33
 obtain ⟨y262, hy262⟩ : ∃ y_ : List Int, y_ = (x3_2 ++ [x6_3]) := ⟨_, rfl⟩
 replace H : (i_AnglesAt.l1 k3 l0 y262 x4_1 (wrap64 (x5_2 + 1))) = some r := by first | (rw [hy262]; with_reducible exact H) | (have H2_ := (Option.bind_some _ _).symm.trans H; rw [hy262]; with_reducible exact H2_) | (have H2_ := (Option.bind_some _ _).symm.trans H; with_reducible exact H2_) | with_reducible exact H | (rw [hy262]; exact H) | exact H
 have Ny262 := aM hy262
 clear hy262
 have H' := aM H
 clear H
 go_wp2_with (first | ((with_reducible refine gate_builtin (b := .append) (xs := #[.tmp 56, .tmp 58]) rfl ?_); at_builtin; refine Kd.R_append (Kd.int .i64) (w0 := w) w.heap.size rfl (.tmp 56) (.tmp 58) 25 3 (.int .i64 0) 8 rfl Try.underlying25 info3 rfl (by decide) (by omega) u3 x3_2 x6_3 [.int .i64 x6_3] (fun _ => True) (fun _ => False) rfl rfl ?aP (fun _ hk => hk.elim) ?aF ?aO ?aB ?aS ?aL ?_; (case aP => exact rfl); (case aB => exact (bX HB.out)); (case aF => exact (fun _ _ => trivial)); (case aO => exact (rX HO_3.out)); (case aS => exact (below_size (bX HB.out))); (case aL => have := LMc33.out; omega); intro v263 w34 ho hb hg hat; rw [← Ny262.out] at ho; replace HB := aM (hb); have HO264 := aM (ho); clear HO_3 ho hb hg hat))
 go_roundg k3
 case measure => have := HK1.out; have := HK2.out; have := HK3.out; omega
 case rel => exact ⟨(y262), (wrap64 (x5_2 + 1)), vX, H', ⟨by have := HK1.out; have := HK2.out; have := HK3.out; omega⟩, ⟨rX HO264.out⟩, ⟨bX HB.out⟩⟩
 }
 {
 rw [if_neg c33] at H
 exact absurd H (by simp)
 }
 }
 {
 rw [if_neg c32] at H
 have c32b0 : decide (0 < x6_3) = false := decide_eq_false c32
 clear c32
 have H' := aM H
 clear H
 go_wp2
 go_roundg k3
 case measure => have := HK1.out; have := HK2.out; have := HK3.out; omega
 case rel => exact ⟨(x3_2), (wrap64 (x5_2 + 1)), vX, H', ⟨by have := HK1.out; have := HK2.out; have := HK3.out; omega⟩, ⟨rX HO_3.out⟩, ⟨bX HB.out⟩⟩
 }
 }
 }
 {
 rw [if_neg c8] at H
 have c8b0 : decide (x5_2 ≤ 10) = false := decide_eq_false c8
 clear c8
 have H' := aM H
 clear H
 go_wp2
 go_roundg k2
 case measure => have := HK1.out; have := HK2.out; omega
 case rel => exact ⟨(x3_2), (wrap64 (x4_1 + 1)), vX, H', ⟨by have := HK1.out; have := HK2.out; omega⟩, ⟨rX HO_3.out⟩, ⟨bX HB.out⟩⟩
 }
 }
 {
 rw [if_neg c7] at H
 have c7b0 : decide (x4_1 ≤ 10) = false := decide_eq_false c7
 clear c7
 obtain rfl := Option.some.inj H
 go_wp2
 go_ret
 exact ⟨_, eX, by (with_reducible repeat (first|apply rA|apply rN|apply rD)); exact HO_3.out, bX HB.out⟩
 }
 }
 {
 replace c3 := Bool.eq_false_iff.mpr c3
 subst c3
 have H1 : (some ([] : List Int)) = some r := by rw [if_neg (show ¬ (false = true) by decide)] at H; exact H
 clear H
 have H := H1
 clear H1
 obtain rfl := Option.some.inj H
 go_enter Try.func6, Try.ntmps6
 go_wp2_with (first | ((with_reducible refine gate_callee (f := 7) rfl ?_); refine goesL_ (some 10) rfl rfl Try.func7 (by kernel_rfl) rfl #[.slice A0 l0.length c0] rfl aX ?_; (with_reducible refine (i_TableOk.calls k _ _ l0 false _ ?side1 ?side2 A2.out).mono ?_); (case side1 => exact cX HR0.out); (case side2 => exact HC0.out); rintro e w35 ⟨rfl, hb⟩; refine ⟨_, rfl, ?_⟩; replace HB := aM (below_step (bX HB.out) hb); (try clear hb); (try clear hb2); (try clear hk); (try clear hi)))
 go_ret
 exact ⟨_, eX, by first | exact Kd.R_nil _ _ _ _ _ | exact Kd.N_nil _ _ _ _ _ | exact Kd.V_nil _ _ _ _ _ | exact Kd.Q_nil _ _ _ _ _ | exact Kd.S_nil _ _ _ _ _, bX HB.out⟩
 }

/-! ### i_PermOk: function 21 -/
/-! by hand -/
def permGo (n : Int) : List Int → List Bool → Bool
  | [], _ => true
  | x :: xs, seen => if x < 0 then false else if n ≤ x then false else if seen.getD x.toNat false = true then false else permGo n xs (seen.set x.toNat true)
def no24 : List Bool := List.replicate 24 false
theorem no24_len : no24.length = 24 := rfl
def permB (p : List Int) : Bool := if p.length ≤ 24 then permGo p.length p no24 else false
def i_PermOk.f (l0 : List Int) : Option Bool := some (permB l0)
def flags (l : List Bool) : Array Value := (bools l).toArray
theorem flags_size (l : List Bool) : (flags l).size = l.length := by simp [flags, bools]
theorem flags_one (l : List Bool) : (flags l).all (·.oneCell') = true := by
 simp [flags, bools, Value.oneCell']
theorem flags_get (l : List Bool) (i : Int) (h0 : 0 ≤ i) (h : i < l.length) : (flags l)[i.toNat]? = some (.bool (l.getD i.toNat false)) := by
 have : i.toNat < l.length := by omega
 simp [flags, bools, this]
theorem flags_set (l : List Bool) (i : Nat) (b : Bool) : (flags l).setIfInBounds i (.bool b) = flags (l.set i b) := by
 simp [flags, bools]
theorem i_PermOk.calls_le (A0 : Option Addr) (c0 : Nat) (l0 : List (Int)) (r : Bool) (w : World) (hr0 : Kd.C (Kd.int .i64) w A0 l0.length l0) (hc0 : l0.length ≤ c0) (hle : l0.length ≤ 24) (hres : permGo l0.length l0 no24 = r) :
    Calls Try.prog 21 #[.slice A0 l0.length c0] w fun e w' => e = .returned (.bool r) ∧ Below w.heap.size w w' := by
  have HR0 := aM hr0
  clear hr0
  have HRES := aM hres
  clear hres
  have hu := Try.underlying59
  have hb24 : decide (24 < (l0.length : Int)) = false := decide_eq_false (by omega)
  have HF : Aside0 (flags no24 = #[.bool false, .bool false, .bool false, .bool false, .bool false, .bool false, .bool false, .bool false, .bool false, .bool false, .bool false, .bool false, .bool false, .bool false, .bool false, .bool false, .bool false, .bool false, .bool false, .bool false, .bool false, .bool false, .bool false, .bool false]) := ⟨rfl⟩
  go_enter Try.func21, Try.ntmps21
  go_wp2_with (first
    | ((with_reducible refine gate_dst (N := 6) rfl ?_); refine wpList_build rfl 59 #[] rfl (by kernel_rfl) ?_; rw [show (Value.agg ((Try.prog.built 59 ((#[] : Array (Nat × Operand)).map fun (i, x) => (i, Act.eval _ x)).toList).getD #[])) = .agg (flags no24) from by kernel_rfl])
    | ((with_reducible refine gate_dst (N := 3) rfl ?_); refine box_event ?hg (N := 3) ?hd (cs := flags no24) (t := 59) ?hr ?_; (case hd => rfl); (case hg => rfl); (case hr => rw [HF.out]; first | (go_simp; done) | (go_simp; rfl)); intro gb hg w8 hbox hb; have BK := aM hbox; have HB := aM hb; have GB := aM hg; clear hbox hb hg)
    | (refine wpList_store_row rfl 59 (.tmp 3) (.tmp 6) rfl gb (flags no24) rfl rfl 59 (flags no24) BK.out (by kernel_rfl) rfl (flags_one _) ?_))
  have HC := aM (show (w8.setRow gb (flags no24)).heap[gb]? = some (.cells (flags no24) 59 (0, 0)) from setRow_heap w8 gb (flags no24) (flags no24) 59 _ BK.out)
  have HB2 := aM (show Below w.heap.size w (w8.setRow gb (flags no24)) from below_setRow HB.out (by rw [GB.out]; exact Nat.le_refl _) _)
  go_loopg [12] (l0.length + 1) (fun kq v12 w' => ∃ (i : Int) (seen : List Bool), v12 = .int .i64 i ∧ Aside0 (0 ≤ i ∧ i ≤ l0.length ∧ (kq : Int) + i = l0.length + 1 ∧ seen.length = 24 ∧ permGo l0.length (l0.drop i.toNat) seen = r) ∧ Aside0 (w'.heap[gb]? = some (.cells (flags seen) 59 (0, 0))) ∧ Aside0 (Below w.heap.size w w'))
  case atStart => exact ⟨0, no24, rfl, ⟨by omega, by omega, by simp, no24_len, HRES.out⟩, HC, HB2⟩
  case round =>
    clear HC HB2 BK HB
    obtain ⟨i, seen, rfl, HI, HC, HB⟩ := hrel
    obtain ⟨hi0, hi1, hik, hsl, hgo⟩ := HI.out
    clear HI
    obtain ⟨k1, rfl⟩ : ∃ m, gk = m + 1 := ⟨gk - 1, by omega⟩
    have HGO := aM hgo
    have HK := aM hik
    clear hgo hik
    by_cases hlt : i < (l0.length : Int)
    · have c1 : decide (i < (l0.length : Int)) = true := decide_eq_true hlt
      obtain ⟨ad, ead, hx⟩ := Kd.at_int (Kd.C_below HR0.out HB.out) i hi0 hlt
      cases ead
      have hdrop : l0.drop i.toNat = rd l0 i :: l0.drop (i + 1).toNat := by
        have h1 : i.toNat < l0.length := by omega
        rw [show (i + 1).toNat = i.toNat + 1 by omega, List.drop_eq_getElem_cons h1]
        simp [rd, List.getD, h1]
      have HD := aM hdrop
      clear hdrop
      generalize hX : rd l0 i = x at *
      have HX := aM hX
      clear hX
      have p0 : decide (0 ≤ i) = true := decide_eq_true hi0
      have HW := aM (show wrap64 (i + 1) = i + 1 from by unfold wrap64; omega)
      replace hi0 := eq_true hi0
      replace hlt := eq_true hlt
      by_cases h1 : x < 0
      · have c2 : decide (x < 0) = true := decide_eq_true h1
        have hr : r = false := by
          have := HGO.out
          rw [HD.out] at this
          simp only [permGo] at this
          rw [if_pos h1] at this
          exact this.symm
        subst hr
        clear h1
        go_wp2
        go_ret
        exact ⟨rfl, HB.out⟩
      · have c2 : decide (x < 0) = false := decide_eq_false h1
        have h1' : 0 ≤ x := by omega
        by_cases h2 : (l0.length : Int) ≤ x
        · have c3 : decide ((l0.length : Int) ≤ x) = true := decide_eq_true h2
          have hr : r = false := by
            have := HGO.out
            rw [HD.out] at this
            simp only [permGo] at this
            rw [if_neg h1, if_pos h2] at this
            exact this.symm
          subst hr
          clear h1 h2
          go_wp2
          go_ret
          exact ⟨rfl, HB.out⟩
        · have c3 : decide ((l0.length : Int) ≤ x) = false := decide_eq_false h2
          have hx24 : x < 24 := by omega
          have hcell : ∀ b, seen.getD x.toNat false = b → wr.cell? ⟨gb, x.toNat, none⟩ = some (.bool b) := by
            intro b hb
            rw [Go.Joins.cell_of_block HC.out, flags_get seen x h1' (by omega), hb]
          have hfro := Go.Joins.unfrozen_of_block HC.out x.toNat
          have hsx : decide (0 ≤ x) = true := decide_eq_true h1'
          have hsx2 : decide (x < 24) = true := decide_eq_true hx24
          by_cases h3 : seen.getD x.toNat false = true
          · have hr : r = false := by
              have := HGO.out
              rw [HD.out] at this
              simp only [permGo] at this
              rw [if_neg h1, if_neg h2, if_pos h3] at this
              exact this.symm
            subst hr
            have hc2 := hcell true h3
            clear h1 h2 h3 hcell
            go_wp2
            go_ret
            exact ⟨rfl, HB.out⟩
          · have h3' : seen.getD x.toNat false = false := by simpa using h3
            have hg2 : permGo l0.length (l0.drop (i + 1).toNat) (seen.set x.toNat true) = r := by
              have := HGO.out
              rw [HD.out] at this
              simp only [permGo] at this
              rw [if_neg h1, if_neg h2, if_neg h3] at this
              exact this
            have HG2 := aM hg2
            have hc2 := hcell false h3'
            have HC2 : Aside0 ((wr.setCell ⟨gb, x.toNat, none⟩ (.bool true)).heap[gb]? = some (.cells (flags (seen.set x.toNat true)) 59 (0, 0))) := ⟨by rw [Go.Joins.block_setCell HC.out, flags_set]⟩
            have HB2 : Aside0 (Below w.heap.size w (wr.setCell ⟨gb, x.toNat, none⟩ (.bool true))) := ⟨HB.out.setCell (by rw [GB.out]; exact Nat.le_refl _) _⟩
            clear h1 h2 h3 h3' hg2 hcell
            go_wp2
            go_roundg k1
            case measure => omega
            case rel => exact ⟨i + 1, _, by rw [HW.out], ⟨by simp at hi0; omega, by simp at hlt; omega, by have := HK.out; simp at this ⊢; omega, by simpa using hsl, HG2.out⟩, HC2, HB2⟩
    · have hie : i = l0.length := by omega
      have hr : r = true := by
        have := HGO.out
        rw [show l0.drop i.toNat = [] from by rw [hie]; simp] at this
        simp only [permGo] at this
        exact this.symm
      subst hr
      have c1 : decide (i < (l0.length : Int)) = false := decide_eq_false hlt
      clear hlt hie
      go_wp2
      go_ret
      exact ⟨rfl, HB.out⟩
theorem i_PermOk.calls (A0 : Option Addr) (c0 : Nat) (l0 : List Int) (r : Bool) (w : World) (hr0 : Kd.C (Kd.int .i64) w A0 l0.length l0) (hc0 : l0.length ≤ c0) (h : i_PermOk.f l0 = some r) :
    Calls Try.prog 21 #[.slice A0 l0.length c0] w fun e w' => e = .returned (.bool r) ∧ Below w.heap.size w w' := by
  unfold i_PermOk.f permB at h
  by_cases hle : l0.length ≤ 24
  · rw [if_pos hle] at h
    exact i_PermOk.calls_le A0 c0 l0 r w hr0 hc0 hle (Option.some.inj h)
  · rw [if_neg hle] at h
    obtain rfl := Option.some.inj h
    have HR0 := aM hr0
    clear hr0
    have hu := Try.underlying59
    have hb24 : decide (24 < (l0.length : Int)) = true := decide_eq_true (by omega)
    have HF : Aside0 (flags no24 = #[.bool false, .bool false, .bool false, .bool false, .bool false, .bool false, .bool false, .bool false, .bool false, .bool false, .bool false, .bool false, .bool false, .bool false, .bool false, .bool false, .bool false, .bool false, .bool false, .bool false, .bool false, .bool false, .bool false, .bool false]) := ⟨rfl⟩
    clear hle
    go_enter Try.func21, Try.ntmps21
    go_wp2_with (first
      | ((with_reducible refine gate_dst (N := 6) rfl ?_); refine wpList_build rfl 59 #[] rfl (by kernel_rfl) ?_; rw [show (Value.agg ((Try.prog.built 59 ((#[] : Array (Nat × Operand)).map fun (i, x) => (i, Act.eval _ x)).toList).getD #[])) = .agg (flags no24) from by kernel_rfl])
      | ((with_reducible refine gate_dst (N := 3) rfl ?_); refine box_event ?hg (N := 3) ?hd (cs := flags no24) (t := 59) ?hr ?_; (case hd => rfl); (case hg => rfl); (case hr => rw [HF.out]; first | (go_simp; done) | (go_simp; rfl)); intro gb hg w8 hbox hb; have BK := aM hbox; have HB := aM hb; have GB := aM hg; clear hbox hb hg)
      | (refine wpList_store_row rfl 59 (.tmp 3) (.tmp 6) rfl gb (flags no24) rfl rfl 59 (flags no24) BK.out (by kernel_rfl) rfl (flags_one _) ?_))
    have HB2 := aM (show Below w.heap.size w (w8.setRow gb (flags no24)) from below_setRow HB.out (by rw [GB.out]; exact Nat.le_refl _) _)
    go_ret
    exact ⟨rfl, HB2.out⟩

end Go.Proofs.Ytlbhjemkjkdndaa.S
