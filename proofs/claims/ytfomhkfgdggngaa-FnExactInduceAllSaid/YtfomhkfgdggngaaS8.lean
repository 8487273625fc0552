-- PRINTED by print.py (a twelfth state) out of the translation. Not trusted: Lean checks it.
import Derived.Test.YtfomhkfgdggngaaS0
import Derived.Test.YtfomhkfgdggngaaS1
import Derived.Test.YtfomhkfgdggngaaS2
namespace Go.Proofs.Ytfomhkfgdggngaa.S
open Go.RowKit Go.Proofs.YtfomhkfgdggngaaW.PrintWords Go.Proofs.YtfomhkfgdggngaaW.PrintLast Go.Proofs.YtfomhkfgdggngaaW.PrintMore
attribute [local go_sem] max2_int min2_int max_two min_two max_three min_three max_four min_four   -- for this text's walks alone
set_option linter.unusedVariables false
set_option linter.unusedSimpArgs false

/-! ### spec_InduceAll: function 13 -/
def spec_InduceAll.l0 : Nat → Int → List Int → List Int → List Int → Option (List Int × List Int × List Int × Int × Bool)
 | 0, _, _, _, _ => none
 | k + 1, x6, x386000, x386001, x386002 => (spec_l16Once.f k x386000 x386001 x386002).bind fun bt386 => (if bt386.2.2.2 = true then (spec_InduceAll.l0 k (wrap64 (x6 + 1)) bt386.1 bt386.2.1 bt386.2.2.1) else (some (x386000, x386001, x386002, x6, true)))
def spec_InduceAll.f (k : Nat) (l0_0 : List Int) (l0_1 : List Int) (l0_2 : List Int) : Option (List Int × List Int × List Int × Int × Bool) := (spec_ExchangeOk.f k l0_0 l0_1 l0_2).bind fun t366 => (if t366 = true then ((some (([] : List Int) : List Int)).bind fun y367 => (if y367.length + l0_0.length < 17592186044416 then ((some (([] : List Int) : List Int)).bind fun y373 => (if y373.length + l0_1.length < 17592186044416 then ((some (([] : List Int) : List Int)).bind fun y379 => (if y379.length + l0_2.length < 17592186044416 then (spec_InduceAll.l0 k 0 (y367 ++ l0_0) (y373 ++ l0_1) (y379 ++ l0_2)) else (none))) else (none))) else (none))) else (some (([] : List Int), ([] : List Int), ([] : List Int), 0, false)))
def spec_InduceAll.T3 : Bool × List (List Nat × List Nat) := (true, [([], []), ([], []), ([1], [1]), ([0, 2], [0, 2]), ([], []), ([], []), ([5], [5]), ([4, 6, 3], [4, 6]), ([], []), ([], []), ([9], [9]), ([8, 10, 7], [8, 10]), ([3, 7, 11], [3, 7, 11]), ([], []), ([13, 12, 11, 0, 1, 2, 3, 4, 5, 6, 7, 8, 9, 10, 11, 12, 13], [12, 13])])
def spec_InduceAll.B3 : List Nat := [0, 0, 2, 7, 0, 0, 32, 127, 0, 0, 512, 2047, 4095, 0, 16383]
theorem spec_InduceAll.tab3 : rtab .any (opsOf Try.f13 3) = spec_InduceAll.T3 := by kernel_rfl
theorem spec_InduceAll.bits3 : waitsOk spec_InduceAll.T3.2 spec_InduceAll.B3 = true := by kernel_rfl
set_option maxHeartbeats 8000000 in
set_option maxRecDepth 100000 in
theorem spec_InduceAll.calls (k : Nat) (A0_0 : Option Addr) (c0_0 : Nat) (l0_0 : List Int) (A0_1 : Option Addr) (c0_1 : Nat) (l0_1 : List Int) (A0_2 : Option Addr) (c0_2 : Nat) (l0_2 : List Int) (r1 : List Int) (r2 : List Int) (r3 : List Int) (r4 : Int) (r5 : Bool) (w : World) (hr0_0 : Kd.C (Kd.int .i64) w A0_0 l0_0.length l0_0) (hc0_0 : l0_0.length ≤ c0_0) (hr0_1 : Kd.C (Kd.int .i64) w A0_1 l0_1.length l0_1) (hc0_1 : l0_1.length ≤ c0_1) (hr0_2 : Kd.C (Kd.int .i64) w A0_2 l0_2.length l0_2) (hc0_2 : l0_2.length ≤ c0_2) (h : spec_InduceAll.f k l0_0 l0_1 l0_2 = some (r1, r2, r3, r4, r5)) :
  Calls Try.prog 13 #[.agg #[.slice A0_0 l0_0.length c0_0, .slice A0_1 l0_1.length c0_1, .slice A0_2 l0_2.length c0_2]] w fun e w' => ∃ v0_ v1_ v2_ : Value, e = .returned (.tuple #[.agg #[v0_, v1_, v2_], .int .i64 r4, .bool r5]) ∧ Kd.R (Kd.int .i64) 3 w' w.heap.size (fun k_ => some k_ ≠ (v1_ : Value).ownBlock ∧ some k_ ≠ (v2_ : Value).ownBlock) v0_ r1 ∧ Kd.R (Kd.int .i64) 3 w' w.heap.size (fun k_ => some k_ ≠ (v0_ : Value).ownBlock ∧ some k_ ≠ (v2_ : Value).ownBlock) v1_ r2 ∧ Kd.R (Kd.int .i64) 3 w' w.heap.size (fun k_ => some k_ ≠ (v0_ : Value).ownBlock ∧ some k_ ≠ (v1_ : Value).ownBlock) v2_ r3 ∧ Below w.heap.size w w' := by
 have hu26 := Try.underlying26
 have HR0_0 := Aside0.mk hr0_0
 have HC0_0 := Aside0.mk hc0_0
 clear hr0_0 hc0_0
 have HR0_1 := Aside0.mk hr0_1
 have HC0_1 := Aside0.mk hc0_1
 clear hr0_1 hc0_1
 have HR0_2 := Aside0.mk hr0_2
 have HC0_2 := Aside0.mk hc0_2
 clear hr0_2 hc0_2
 have HB := Aside0.mk (Below.refl w.heap.size w)
 have H : ((spec_ExchangeOk.f k l0_0 l0_1 l0_2).bind fun t366 => (if t366 = true then ((some (([] : List Int) : List Int)).bind fun y367 => (if y367.length + l0_0.length < 17592186044416 then ((some (([] : List Int) : List Int)).bind fun y373 => (if y373.length + l0_1.length < 17592186044416 then ((some (([] : List Int) : List Int)).bind fun y379 => (if y379.length + l0_2.length < 17592186044416 then (spec_InduceAll.l0 k 0 (y367 ++ l0_0) (y373 ++ l0_1) (y379 ++ l0_2)) else (none))) else (none))) else (none))) else (some (([] : List Int), ([] : List Int), ([] : List Int), 0, false)))) = some (r1, r2, r3, r4, r5) := h
 clear h
 replace H := Option.bind_eq_some_iff.mp H
 obtain ⟨t366, A20, H⟩ := H
 replace H : (if t366 = true then ((some (([] : List Int) : List Int)).bind fun y367 => (if y367.length + l0_0.length < 17592186044416 then ((some (([] : List Int) : List Int)).bind fun y373 => (if y373.length + l0_1.length < 17592186044416 then ((some (([] : List Int) : List Int)).bind fun y379 => (if y379.length + l0_2.length < 17592186044416 then (spec_InduceAll.l0 k 0 (y367 ++ l0_0) (y373 ++ l0_1) (y379 ++ l0_2)) else (none))) else (none))) else (none))) else (some (([] : List Int), ([] : List Int), ([] : List Int), 0, false))) = some (r1, r2, r3, r4, r5) := H
 have A2 := Aside0.mk A20
 clear A20
 by_cases c3 : t366 = true
 {
 subst c3
 have H1 : ((some (([] : List Int) : List Int)).bind fun y367 => (if y367.length + l0_0.length < 17592186044416 then ((some (([] : List Int) : List Int)).bind fun y373 => (if y373.length + l0_1.length < 17592186044416 then ((some (([] : List Int) : List Int)).bind fun y379 => (if y379.length + l0_2.length < 17592186044416 then (spec_InduceAll.l0 k 0 (y367 ++ l0_0) (y373 ++ l0_1) (y379 ++ l0_2)) else (none))) else (none))) else (none))) = some (r1, r2, r3, r4, r5) := by rw [if_pos rfl] at H; exact H
 clear H
 have H := H1
 clear H1
 obtain ⟨y367, hy367⟩ : ∃ y_ : List Int, y_ = (([] : List Int)) := ⟨_, rfl⟩
 replace H : (if y367.length + l0_0.length < 17592186044416 then ((some (([] : List Int) : List Int)).bind fun y373 => (if y373.length + l0_1.length < 17592186044416 then ((some (([] : List Int) : List Int)).bind fun y379 => (if y379.length + l0_2.length < 17592186044416 then (spec_InduceAll.l0 k 0 (y367 ++ l0_0) (y373 ++ l0_1) (y379 ++ l0_2)) else (none))) else (none))) else (none)) = some (r1, r2, r3, r4, r5) := by first | (rw [hy367]; with_reducible exact H) | (have H2_ := (Option.bind_some _ _).symm.trans H; rw [hy367]; with_reducible exact H2_) | (have H2_ := (Option.bind_some _ _).symm.trans H; with_reducible exact H2_) | with_reducible exact H | (rw [hy367]; exact H) | exact H
 have Ny367 := Aside0.mk hy367
 clear hy367
 by_cases c4 : y367.length + l0_0.length < 17592186044416
 {
 rw [if_pos c4] at H
 have LMc4 := Aside0.mk c4
 clear c4
 obtain ⟨y370, hy370⟩ : ∃ y_ : List Int, y_ = (y367 ++ l0_0) := ⟨_, rfl⟩
 replace H : ((some (([] : List Int) : List Int)).bind fun y373 => (if y373.length + l0_1.length < 17592186044416 then ((some (([] : List Int) : List Int)).bind fun y379 => (if y379.length + l0_2.length < 17592186044416 then (spec_InduceAll.l0 k 0 y370 (y373 ++ l0_1) (y379 ++ l0_2)) else (none))) else (none))) = some (r1, r2, r3, r4, r5) := by first | (rw [hy370]; with_reducible exact H) | (have H2_ := (Option.bind_some _ _).symm.trans H; rw [hy370]; with_reducible exact H2_) | (have H2_ := (Option.bind_some _ _).symm.trans H; with_reducible exact H2_) | with_reducible exact H | (rw [hy370]; exact H) | exact H
 have Ny370 := Aside0.mk hy370
 clear hy370
 obtain ⟨y373, hy373⟩ : ∃ y_ : List Int, y_ = (([] : List Int)) := ⟨_, rfl⟩
 replace H : (if y373.length + l0_1.length < 17592186044416 then ((some (([] : List Int) : List Int)).bind fun y379 => (if y379.length + l0_2.length < 17592186044416 then (spec_InduceAll.l0 k 0 y370 (y373 ++ l0_1) (y379 ++ l0_2)) else (none))) else (none)) = some (r1, r2, r3, r4, r5) := by first | (rw [hy373]; with_reducible exact H) | (have H2_ := (Option.bind_some _ _).symm.trans H; rw [hy373]; with_reducible exact H2_) | (have H2_ := (Option.bind_some _ _).symm.trans H; with_reducible exact H2_) | with_reducible exact H | (rw [hy373]; exact H) | exact H
 have Ny373 := Aside0.mk hy373
 clear hy373
 by_cases c5 : y373.length + l0_1.length < 17592186044416
 {
 rw [if_pos c5] at H
 have LMc5 := Aside0.mk c5
 clear c5
 obtain ⟨y376, hy376⟩ : ∃ y_ : List Int, y_ = (y373 ++ l0_1) := ⟨_, rfl⟩
 replace H : ((some (([] : List Int) : List Int)).bind fun y379 => (if y379.length + l0_2.length < 17592186044416 then (spec_InduceAll.l0 k 0 y370 y376 (y379 ++ l0_2)) else (none))) = some (r1, r2, r3, r4, r5) := by first | (rw [hy376]; with_reducible exact H) | (have H2_ := (Option.bind_some _ _).symm.trans H; rw [hy376]; with_reducible exact H2_) | (have H2_ := (Option.bind_some _ _).symm.trans H; with_reducible exact H2_) | with_reducible exact H | (rw [hy376]; exact H) | exact H
 have Ny376 := Aside0.mk hy376
 clear hy376
 obtain ⟨y379, hy379⟩ : ∃ y_ : List Int, y_ = (([] : List Int)) := ⟨_, rfl⟩
 replace H : (if y379.length + l0_2.length < 17592186044416 then (spec_InduceAll.l0 k 0 y370 y376 (y379 ++ l0_2)) else (none)) = some (r1, r2, r3, r4, r5) := by first | (rw [hy379]; with_reducible exact H) | (have H2_ := (Option.bind_some _ _).symm.trans H; rw [hy379]; with_reducible exact H2_) | (have H2_ := (Option.bind_some _ _).symm.trans H; with_reducible exact H2_) | with_reducible exact H | (rw [hy379]; exact H) | exact H
 have Ny379 := Aside0.mk hy379
 clear hy379
 by_cases c6 : y379.length + l0_2.length < 17592186044416
 {
 rw [if_pos c6] at H
 have LMc6 := Aside0.mk c6
 clear c6
 obtain ⟨y382, hy382⟩ : ∃ y_ : List Int, y_ = (y379 ++ l0_2) := ⟨_, rfl⟩
 replace H : (spec_InduceAll.l0 k 0 y370 y376 y382) = some (r1, r2, r3, r4, r5) := by first | (rw [hy382]; with_reducible exact H) | (have H2_ := (Option.bind_some _ _).symm.trans H; rw [hy382]; with_reducible exact H2_) | (have H2_ := (Option.bind_some _ _).symm.trans H; with_reducible exact H2_) | with_reducible exact H | (rw [hy382]; exact H) | exact H
 have Ny382 := Aside0.mk hy382
 clear hy382
 have H' := Aside0.mk H
 clear H
 go_enter Try.func13, Try.ntmps13
 try go_wp2_with (first | ((with_reducible refine gate_dst (N := 1) rfl ?_); refine box_event ?hg (N := 1) ?hd (cs := #[.slice A0_0 l0_0.length c0_0, .slice A0_1 l0_1.length c0_1, .slice A0_2 l0_2.length c0_2]) (t := 26) ?hr ?_; (case hd => rfl); (case hg => rfl); (case hr => first | (go_simp; done) | (go_simp; rfl)); intro gb364 hg w7 hbox hb; have n0_ := Aside0.mk (below_step (bX HB.out) hb); have n1_ := Aside0.mk (hbox); have n2_ := Aside0.mk ((szX (below_size (bX HB.out)) hg : w.heap.size ≤ gb364)); have n3_ := Aside0.mk ((szX (below_size (bX HB.out)) hg : w.heap.size ≤ gb364)); clear HB; have HB := n0_; have BK364 := n1_; have GW364 := n2_; have GE364 := n3_; clear n0_ n1_ n2_ n3_ hb hbox hg) | ((with_reducible refine gate_dst (N := 2) rfl ?_); refine box_event ?hg (N := 2) ?hd (cs := #[.slice none 0 0, .slice none 0 0, .slice none 0 0]) (t := 26) ?hr ?_; (case hd => rfl); (case hg => rfl); (case hr => first | (go_simp; done) | (go_simp; rfl)); intro gb365 hg w8 hbox hb; have n0_ := Aside0.mk (bbX BK364.out hb); have n1_ := Aside0.mk (below_step (bX1 HB.out GE364.out) hb); have n2_ := Aside0.mk (hbox); have n3_ := Aside0.mk ((szX (below_size (bX1 HB.out GE364.out)) hg : w.heap.size ≤ gb365)); have n4_ := Aside0.mk ((szX (below_size (bX1 HB.out GE364.out)) hg : w.heap.size ≤ gb365)); have n5_ := Aside0.mk (neX BK364.out hg); have n6_ := Aside0.mk (nfX BK364.out hg); clear BK364 HB; have BK364 := n0_; have HB := n1_; have BK365 := n2_; have GW365 := n3_; have GE365 := n4_; have NB364_365 := n5_; have NB365_364 := n6_; clear n0_ n1_ n2_ n3_ n4_ n5_ n6_ hb hbox hg; have hnb9 := NB364_365.out; have hnc9 := NB365_364.out; have hcz10_0 := cz30 BK364.out; have hcz10_1 := cz31 BK364.out; have hcz10_2 := cz32 BK364.out; have hfz10_0 := blk_frozen BK364.out 0; have hfz10_1 := blk_frozen BK364.out 1; have hfz10_2 := blk_frozen BK364.out 2) | ((with_reducible refine gate_callee (f := 28) rfl ?_); refine goesL_ (some 10) rfl rfl Try.func28 (by kernel_rfl) rfl #[.agg #[.slice A0_0 l0_0.length c0_0, .slice A0_1 l0_1.length c0_1, .slice A0_2 l0_2.length c0_2]] rfl aX ?_; (with_reducible refine (spec_ExchangeOk.calls k _ _ l0_0 _ _ l0_1 _ _ l0_2 true _ ?side1 ?side2 ?side3 ?side4 ?side5 ?side6 A2.out).mono ?_); (case side1 => exact cX (Kd.C_below HR0_0.out HB.out)); (case side2 => exact HC0_0.out); (case side3 => exact cX (Kd.C_below HR0_1.out HB.out)); (case side4 => exact HC0_1.out); (case side5 => exact cX (Kd.C_below HR0_2.out HB.out)); (case side6 => exact HC0_2.out); rintro e w11 ⟨rfl, hb⟩; refine ⟨_, rfl, ?_⟩; have n0_ := Aside0.mk (bbX BK364.out hb); have n1_ := Aside0.mk (bbX BK365.out hb); have n2_ := Aside0.mk (below_step (bX2 HB.out GE364.out GE365.out) hb); clear BK364 BK365 HB; have BK364 := n0_; have BK365 := n1_; have HB := n2_; clear n0_ n1_ n2_; (try clear hb); (try clear hb2); (try clear hk); (try clear hi)))
 have n0_ := Aside0.mk (blk_drew BK364.out)
 have n1_ := Aside0.mk (blk_drew BK365.out)
 have n2_ := Aside0.mk (below_drew1 HB.out)
 clear BK364 BK365 HB
 have BK364 := n0_
 have BK365 := n1_
 have HB := n2_
 clear n0_ n1_ n2_
 refine start_ (n := 15) (S := fun w' => w'.cell? ⟨gb364, 0, none⟩ = some (.slice A0_0 l0_0.length c0_0) ∧ w'.cell? ⟨gb364, 1, none⟩ = some (.slice A0_1 l0_1.length c0_1) ∧ w'.cell? ⟨gb364, 2, none⟩ = some (.slice A0_2 l0_2.length c0_2)) (ds := []) #[ff,ff,ff,ff,ff,ff,ff,ff,ff,ff,ff,ff,ff,ff,ff] (by kernel_rfl) rfl rfl ⟨cz30 BK364.out, cz31 BK364.out, cz32 BK364.out⟩ (fun hHeld => ?_); refine with_tabW spec_InduceAll.tab3 spec_InduceAll.bits3 (fun HT_ HW_ => ?_)
 generalize w11.drew = w12 at BK364 BK365 HB hHeld ⊢
 refine pX 1 14 (fl 15 2) rfl rfl HT_.out ?_
 refine pX 5 18 (fl 15 34) rfl rfl HT_.out ?_
 refine pX 9 22 (fl 15 546) rfl rfl HT_.out ?_
 refine tX3 2 15 (fl 15 550) rfl rfl HT_.out HW_.out hHeld ?_
 refine tX3 6 19 (fl 15 614) rfl rfl HT_.out HW_.out hHeld ?_
 refine tX3 10 23 (fl 15 1638) rfl rfl HT_.out HW_.out hHeld ?_
 refine join_ (σ := Value × Value × Value × Value × Value × Value × Nat) 1 #[tt,tt,tt,tt,tt,tt,tt,tt,tt,tt,tt,tt,tt,tt,ff] (fun s_ => [(13, s_.1), (16, s_.2.1), (17, s_.2.2.1), (20, s_.2.2.2.1), (21, s_.2.2.2.2.1), (24, s_.2.2.2.2.2.1), (5, .pointer (some ⟨s_.2.2.2.2.2.2, 0, none⟩)), (25, .agg #[s_.2.1, s_.2.2.2.1, s_.2.2.2.2.2.1])]) (fun s_ w' => (w'.cell? ⟨gb364, 0, none⟩ = some (.slice A0_0 l0_0.length c0_0) ∧ w'.cell? ⟨gb364, 1, none⟩ = some (.slice A0_1 l0_1.length c0_1) ∧ w'.cell? ⟨gb364, 2, none⟩ = some (.slice A0_2 l0_2.length c0_2)) ∧ (Kd.R (Kd.int .i64) 3 w' w.heap.size (fun k_ => some k_ ≠ (s_.2.2.2.1 : Value).ownBlock ∧ some k_ ≠ (s_.2.2.2.2.2.1 : Value).ownBlock) s_.2.1 y370) ∧ (Kd.R (Kd.int .i64) 3 w' w.heap.size (fun k_ => some k_ ≠ (s_.2.1 : Value).ownBlock ∧ some k_ ≠ (s_.2.2.2.2.2.1 : Value).ownBlock) s_.2.2.2.1 y376) ∧ (Kd.R (Kd.int .i64) 3 w' w.heap.size (fun k_ => some k_ ≠ (s_.2.1 : Value).ownBlock ∧ some k_ ≠ (s_.2.2.2.1 : Value).ownBlock) s_.2.2.2.2.2.1 y382) ∧ (w'.heap[gb364]? = some (.cells #[.slice A0_0 l0_0.length c0_0, .slice A0_1 l0_1.length c0_1, .slice A0_2 l0_2.length c0_2] 26 (0, 0))) ∧ (w'.heap[gb365]? = some (.cells #[.slice none 0 0, .slice none 0 0, .slice none 0 0] 26 (0, 0))) ∧ (w'.heap[s_.2.2.2.2.2.2]? = some (.cells #[.slice none 0 0, .slice none 0 0, .slice none 0 0] 26 (0, 0))) ∧ (w.heap.size ≤ s_.2.2.2.2.2.2) ∧ (w.heap.size ≤ s_.2.2.2.2.2.2) ∧ (gb364 ≠ s_.2.2.2.2.2.2) ∧ (s_.2.2.2.2.2.2 ≠ gb364) ∧ (gb365 ≠ s_.2.2.2.2.2.2) ∧ (s_.2.2.2.2.2.2 ≠ gb365) ∧ (Below w.heap.size w w')) ?_ ?_
 rotate_left
 {
 intro hJ0_3_4_7_8_11_13
 refine join_ (σ := Value × Value × Value × Value × Value × Value) 2 #[tt,tt,tt,tt,tt,tt,tt,tt,tt,tt,tt,tt,tt,ff,ff] (fun s_ => [(13, s_.1), (16, s_.2.1), (17, s_.2.2.1), (20, s_.2.2.2.1), (21, s_.2.2.2.2.1), (24, s_.2.2.2.2.2), (25, .agg #[s_.2.1, s_.2.2.2.1, s_.2.2.2.2.2])]) (fun s_ w' => (w'.cell? ⟨gb364, 0, none⟩ = some (.slice A0_0 l0_0.length c0_0) ∧ w'.cell? ⟨gb364, 1, none⟩ = some (.slice A0_1 l0_1.length c0_1) ∧ w'.cell? ⟨gb364, 2, none⟩ = some (.slice A0_2 l0_2.length c0_2)) ∧ (Kd.R (Kd.int .i64) 3 w' w.heap.size (fun k_ => some k_ ≠ (s_.2.2.2.1 : Value).ownBlock ∧ some k_ ≠ (s_.2.2.2.2.2 : Value).ownBlock) s_.2.1 y370) ∧ (Kd.R (Kd.int .i64) 3 w' w.heap.size (fun k_ => some k_ ≠ (s_.2.1 : Value).ownBlock ∧ some k_ ≠ (s_.2.2.2.2.2 : Value).ownBlock) s_.2.2.2.1 y376) ∧ (Kd.R (Kd.int .i64) 3 w' w.heap.size (fun k_ => some k_ ≠ (s_.2.1 : Value).ownBlock ∧ some k_ ≠ (s_.2.2.2.1 : Value).ownBlock) s_.2.2.2.2.2 y382) ∧ (w'.heap[gb364]? = some (.cells #[.slice A0_0 l0_0.length c0_0, .slice A0_1 l0_1.length c0_1, .slice A0_2 l0_2.length c0_2] 26 (0, 0))) ∧ (w'.heap[gb365]? = some (.cells #[.slice none 0 0, .slice none 0 0, .slice none 0 0] 26 (0, 0))) ∧ (Below w.heap.size w w')) ?_ ?_
 rotate_left
 {
 intro hJ0_3_4_7_8_11
 refine join_ (σ := Value × Value × Value × Value × Value × Nat) 3 #[tt,tt,tt,tt,tt,tt,tt,tt,tt,tt,tt,ff,ff,tt,ff] (fun s_ => [(13, s_.1), (16, s_.2.1), (17, s_.2.2.1), (20, s_.2.2.2.1), (21, s_.2.2.2.2.1), (5, .pointer (some ⟨s_.2.2.2.2.2, 0, none⟩))]) (fun s_ w' => (w'.cell? ⟨gb364, 0, none⟩ = some (.slice A0_0 l0_0.length c0_0) ∧ w'.cell? ⟨gb364, 1, none⟩ = some (.slice A0_1 l0_1.length c0_1) ∧ w'.cell? ⟨gb364, 2, none⟩ = some (.slice A0_2 l0_2.length c0_2)) ∧ (Kd.R (Kd.int .i64) 3 w' w.heap.size (fun k_ => some k_ ≠ (s_.2.2.2.1 : Value).ownBlock ∧ some k_ ≠ (s_.2.2.2.2.1 : Value).ownBlock) s_.2.1 y370) ∧ (Kd.R (Kd.int .i64) 3 w' w.heap.size (fun k_ => some k_ ≠ (s_.2.1 : Value).ownBlock ∧ some k_ ≠ (s_.2.2.2.2.1 : Value).ownBlock) s_.2.2.2.1 y376) ∧ (Kd.R (Kd.int .i64) 3 w' w.heap.size (fun k_ => some k_ ≠ (s_.2.1 : Value).ownBlock ∧ some k_ ≠ (s_.2.2.2.1 : Value).ownBlock) s_.2.2.2.2.1 y379) ∧ (w'.heap[gb364]? = some (.cells #[.slice A0_0 l0_0.length c0_0, .slice A0_1 l0_1.length c0_1, .slice A0_2 l0_2.length c0_2] 26 (0, 0))) ∧ (w'.heap[gb365]? = some (.cells #[.slice none 0 0, .slice none 0 0, .slice none 0 0] 26 (0, 0))) ∧ (w'.heap[s_.2.2.2.2.2]? = some (.cells #[.slice none 0 0, .slice none 0 0, .slice none 0 0] 26 (0, 0))) ∧ (w.heap.size ≤ s_.2.2.2.2.2) ∧ (w.heap.size ≤ s_.2.2.2.2.2) ∧ (gb364 ≠ s_.2.2.2.2.2) ∧ (s_.2.2.2.2.2 ≠ gb364) ∧ (gb365 ≠ s_.2.2.2.2.2) ∧ (s_.2.2.2.2.2 ≠ gb365) ∧ (Below w.heap.size w w')) ?_ ?_
 rotate_left
 {
 intro hJ0_3_4_7_8_13
 refine join_ (σ := Value × Value × Value × Value × Value) 4 #[tt,tt,tt,tt,tt,tt,tt,tt,tt,tt,tt,ff,ff,ff,ff] (fun s_ => [(13, s_.1), (16, s_.2.1), (17, s_.2.2.1), (20, s_.2.2.2.1), (21, s_.2.2.2.2)]) (fun s_ w' => (w'.cell? ⟨gb364, 0, none⟩ = some (.slice A0_0 l0_0.length c0_0) ∧ w'.cell? ⟨gb364, 1, none⟩ = some (.slice A0_1 l0_1.length c0_1) ∧ w'.cell? ⟨gb364, 2, none⟩ = some (.slice A0_2 l0_2.length c0_2)) ∧ (Kd.R (Kd.int .i64) 3 w' w.heap.size (fun k_ => some k_ ≠ (s_.2.2.2.1 : Value).ownBlock ∧ some k_ ≠ (s_.2.2.2.2 : Value).ownBlock) s_.2.1 y370) ∧ (Kd.R (Kd.int .i64) 3 w' w.heap.size (fun k_ => some k_ ≠ (s_.2.1 : Value).ownBlock ∧ some k_ ≠ (s_.2.2.2.2 : Value).ownBlock) s_.2.2.2.1 y376) ∧ (Kd.R (Kd.int .i64) 3 w' w.heap.size (fun k_ => some k_ ≠ (s_.2.1 : Value).ownBlock ∧ some k_ ≠ (s_.2.2.2.1 : Value).ownBlock) s_.2.2.2.2 y379) ∧ (w'.heap[gb364]? = some (.cells #[.slice A0_0 l0_0.length c0_0, .slice A0_1 l0_1.length c0_1, .slice A0_2 l0_2.length c0_2] 26 (0, 0))) ∧ (w'.heap[gb365]? = some (.cells #[.slice none 0 0, .slice none 0 0, .slice none 0 0] 26 (0, 0))) ∧ (Below w.heap.size w w')) ?_ ?_
 rotate_left
 {
 intro hJ0_3_4_7_8
 refine join_ (σ := Value × Value × Value × Value × Nat) 4 #[tt,tt,tt,tt,tt,tt,tt,tt,ff,tt,tt,ff,ff,tt,ff] (fun s_ => [(13, s_.1), (16, s_.2.1), (17, s_.2.2.1), (20, s_.2.2.2.1), (5, .pointer (some ⟨s_.2.2.2.2, 0, none⟩))]) (fun s_ w' => (w'.cell? ⟨gb364, 0, none⟩ = some (.slice A0_0 l0_0.length c0_0) ∧ w'.cell? ⟨gb364, 1, none⟩ = some (.slice A0_1 l0_1.length c0_1) ∧ w'.cell? ⟨gb364, 2, none⟩ = some (.slice A0_2 l0_2.length c0_2)) ∧ (Kd.R (Kd.int .i64) 3 w' w.heap.size (fun k_ => some k_ ≠ (s_.2.2.2.1 : Value).ownBlock) s_.2.1 y370) ∧ (Kd.R (Kd.int .i64) 3 w' w.heap.size (fun k_ => some k_ ≠ (s_.2.1 : Value).ownBlock) s_.2.2.2.1 y376) ∧ (w'.heap[gb364]? = some (.cells #[.slice A0_0 l0_0.length c0_0, .slice A0_1 l0_1.length c0_1, .slice A0_2 l0_2.length c0_2] 26 (0, 0))) ∧ (w'.heap[gb365]? = some (.cells #[.slice none 0 0, .slice none 0 0, .slice none 0 0] 26 (0, 0))) ∧ (w'.heap[s_.2.2.2.2]? = some (.cells #[.slice none 0 0, .slice none 0 0, .slice none 0 0] 26 (0, 0))) ∧ (w.heap.size ≤ s_.2.2.2.2) ∧ (w.heap.size ≤ s_.2.2.2.2) ∧ (gb364 ≠ s_.2.2.2.2) ∧ (s_.2.2.2.2 ≠ gb364) ∧ (gb365 ≠ s_.2.2.2.2) ∧ (s_.2.2.2.2 ≠ gb365) ∧ (Below w.heap.size w w')) ?_ ?_
 rotate_left
 {
 intro hJ0_3_4_7_13
 refine join_ (σ := Value × Value × Value × Value × Nat) 4 #[tt,tt,tt,tt,tt,tt,tt,ff,tt,tt,tt,ff,ff,tt,ff] (fun s_ => [(13, s_.1), (16, s_.2.1), (17, s_.2.2.1), (21, s_.2.2.2.1), (5, .pointer (some ⟨s_.2.2.2.2, 0, none⟩))]) (fun s_ w' => (w'.cell? ⟨gb364, 0, none⟩ = some (.slice A0_0 l0_0.length c0_0) ∧ w'.cell? ⟨gb364, 1, none⟩ = some (.slice A0_1 l0_1.length c0_1) ∧ w'.cell? ⟨gb364, 2, none⟩ = some (.slice A0_2 l0_2.length c0_2)) ∧ (Kd.R (Kd.int .i64) 3 w' w.heap.size (fun k_ => some k_ ≠ (s_.2.2.1 : Value).ownBlock ∧ some k_ ≠ (s_.2.2.2.1 : Value).ownBlock) s_.2.1 y370) ∧ (Kd.R (Kd.int .i64) 3 w' w.heap.size (fun k_ => some k_ ≠ (s_.2.1 : Value).ownBlock ∧ some k_ ≠ (s_.2.2.2.1 : Value).ownBlock) s_.2.2.1 y373) ∧ (Kd.R (Kd.int .i64) 3 w' w.heap.size (fun k_ => some k_ ≠ (s_.2.1 : Value).ownBlock ∧ some k_ ≠ (s_.2.2.1 : Value).ownBlock) s_.2.2.2.1 y379) ∧ (w'.heap[gb364]? = some (.cells #[.slice A0_0 l0_0.length c0_0, .slice A0_1 l0_1.length c0_1, .slice A0_2 l0_2.length c0_2] 26 (0, 0))) ∧ (w'.heap[gb365]? = some (.cells #[.slice none 0 0, .slice none 0 0, .slice none 0 0] 26 (0, 0))) ∧ (w'.heap[s_.2.2.2.2]? = some (.cells #[.slice none 0 0, .slice none 0 0, .slice none 0 0] 26 (0, 0))) ∧ (w.heap.size ≤ s_.2.2.2.2) ∧ (w.heap.size ≤ s_.2.2.2.2) ∧ (gb364 ≠ s_.2.2.2.2) ∧ (s_.2.2.2.2 ≠ gb364) ∧ (gb365 ≠ s_.2.2.2.2) ∧ (s_.2.2.2.2 ≠ gb365) ∧ (Below w.heap.size w w')) ?_ ?_
 rotate_left
 {
 intro hJ0_3_4_8_13
 refine join_ (σ := Value × Value × Value × Value) 5 #[tt,tt,tt,tt,tt,tt,tt,tt,ff,tt,tt,ff,ff,ff,ff] (fun s_ => [(13, s_.1), (16, s_.2.1), (17, s_.2.2.1), (20, s_.2.2.2)]) (fun s_ w' => (w'.cell? ⟨gb364, 0, none⟩ = some (.slice A0_0 l0_0.length c0_0) ∧ w'.cell? ⟨gb364, 1, none⟩ = some (.slice A0_1 l0_1.length c0_1) ∧ w'.cell? ⟨gb364, 2, none⟩ = some (.slice A0_2 l0_2.length c0_2)) ∧ (Kd.R (Kd.int .i64) 3 w' w.heap.size (fun k_ => some k_ ≠ (s_.2.2.2 : Value).ownBlock) s_.2.1 y370) ∧ (Kd.R (Kd.int .i64) 3 w' w.heap.size (fun k_ => some k_ ≠ (s_.2.1 : Value).ownBlock) s_.2.2.2 y376) ∧ (w'.heap[gb364]? = some (.cells #[.slice A0_0 l0_0.length c0_0, .slice A0_1 l0_1.length c0_1, .slice A0_2 l0_2.length c0_2] 26 (0, 0))) ∧ (w'.heap[gb365]? = some (.cells #[.slice none 0 0, .slice none 0 0, .slice none 0 0] 26 (0, 0))) ∧ (Below w.heap.size w w')) ?_ ?_
 rotate_left
 {
 intro hJ0_3_4_7
 refine join_ (σ := Value × Value × Value × Value) 5 #[tt,tt,tt,tt,tt,tt,tt,ff,tt,tt,tt,ff,ff,ff,ff] (fun s_ => [(13, s_.1), (16, s_.2.1), (17, s_.2.2.1), (21, s_.2.2.2)]) (fun s_ w' => (w'.cell? ⟨gb364, 0, none⟩ = some (.slice A0_0 l0_0.length c0_0) ∧ w'.cell? ⟨gb364, 1, none⟩ = some (.slice A0_1 l0_1.length c0_1) ∧ w'.cell? ⟨gb364, 2, none⟩ = some (.slice A0_2 l0_2.length c0_2)) ∧ (Kd.R (Kd.int .i64) 3 w' w.heap.size (fun k_ => some k_ ≠ (s_.2.2.1 : Value).ownBlock ∧ some k_ ≠ (s_.2.2.2 : Value).ownBlock) s_.2.1 y370) ∧ (Kd.R (Kd.int .i64) 3 w' w.heap.size (fun k_ => some k_ ≠ (s_.2.1 : Value).ownBlock ∧ some k_ ≠ (s_.2.2.2 : Value).ownBlock) s_.2.2.1 y373) ∧ (Kd.R (Kd.int .i64) 3 w' w.heap.size (fun k_ => some k_ ≠ (s_.2.1 : Value).ownBlock ∧ some k_ ≠ (s_.2.2.1 : Value).ownBlock) s_.2.2.2 y379) ∧ (w'.heap[gb364]? = some (.cells #[.slice A0_0 l0_0.length c0_0, .slice A0_1 l0_1.length c0_1, .slice A0_2 l0_2.length c0_2] 26 (0, 0))) ∧ (w'.heap[gb365]? = some (.cells #[.slice none 0 0, .slice none 0 0, .slice none 0 0] 26 (0, 0))) ∧ (Below w.heap.size w w')) ?_ ?_
 rotate_left
 {
 intro hJ0_3_4_8
 refine join_ (σ := Value × Value × Value × Nat) 5 #[tt,tt,tt,tt,tt,tt,tt,ff,ff,tt,tt,ff,ff,tt,ff] (fun s_ => [(13, s_.1), (16, s_.2.1), (17, s_.2.2.1), (5, .pointer (some ⟨s_.2.2.2, 0, none⟩))]) (fun s_ w' => (w'.cell? ⟨gb364, 0, none⟩ = some (.slice A0_0 l0_0.length c0_0) ∧ w'.cell? ⟨gb364, 1, none⟩ = some (.slice A0_1 l0_1.length c0_1) ∧ w'.cell? ⟨gb364, 2, none⟩ = some (.slice A0_2 l0_2.length c0_2)) ∧ (Kd.R (Kd.int .i64) 3 w' w.heap.size (fun k_ => some k_ ≠ (s_.2.2.1 : Value).ownBlock) s_.2.1 y370) ∧ (Kd.R (Kd.int .i64) 3 w' w.heap.size (fun k_ => some k_ ≠ (s_.2.1 : Value).ownBlock) s_.2.2.1 y373) ∧ (w'.heap[gb364]? = some (.cells #[.slice A0_0 l0_0.length c0_0, .slice A0_1 l0_1.length c0_1, .slice A0_2 l0_2.length c0_2] 26 (0, 0))) ∧ (w'.heap[gb365]? = some (.cells #[.slice none 0 0, .slice none 0 0, .slice none 0 0] 26 (0, 0))) ∧ (w'.heap[s_.2.2.2]? = some (.cells #[.slice none 0 0, .slice none 0 0, .slice none 0 0] 26 (0, 0))) ∧ (w.heap.size ≤ s_.2.2.2) ∧ (w.heap.size ≤ s_.2.2.2) ∧ (gb364 ≠ s_.2.2.2) ∧ (s_.2.2.2 ≠ gb364) ∧ (gb365 ≠ s_.2.2.2) ∧ (s_.2.2.2 ≠ gb365) ∧ (Below w.heap.size w w')) ?_ ?_
 rotate_left
 {
 intro hJ0_3_4_13
 refine join_ (σ := Value × Value × Value × Nat) 5 #[tt,tt,tt,tt,ff,tt,tt,ff,tt,tt,tt,ff,ff,tt,ff] (fun s_ => [(13, s_.1), (16, s_.2.1), (21, s_.2.2.1), (5, .pointer (some ⟨s_.2.2.2, 0, none⟩))]) (fun s_ w' => (w'.cell? ⟨gb364, 0, none⟩ = some (.slice A0_0 l0_0.length c0_0) ∧ w'.cell? ⟨gb364, 1, none⟩ = some (.slice A0_1 l0_1.length c0_1) ∧ w'.cell? ⟨gb364, 2, none⟩ = some (.slice A0_2 l0_2.length c0_2)) ∧ (Kd.R (Kd.int .i64) 3 w' w.heap.size (fun k_ => some k_ ≠ (s_.2.2.1 : Value).ownBlock) s_.2.1 y370) ∧ (Kd.R (Kd.int .i64) 3 w' w.heap.size (fun k_ => some k_ ≠ (s_.2.1 : Value).ownBlock) s_.2.2.1 y379) ∧ (w'.heap[gb364]? = some (.cells #[.slice A0_0 l0_0.length c0_0, .slice A0_1 l0_1.length c0_1, .slice A0_2 l0_2.length c0_2] 26 (0, 0))) ∧ (w'.heap[gb365]? = some (.cells #[.slice none 0 0, .slice none 0 0, .slice none 0 0] 26 (0, 0))) ∧ (w'.heap[s_.2.2.2]? = some (.cells #[.slice none 0 0, .slice none 0 0, .slice none 0 0] 26 (0, 0))) ∧ (w.heap.size ≤ s_.2.2.2) ∧ (w.heap.size ≤ s_.2.2.2) ∧ (gb364 ≠ s_.2.2.2) ∧ (s_.2.2.2 ≠ gb364) ∧ (gb365 ≠ s_.2.2.2) ∧ (s_.2.2.2 ≠ gb365) ∧ (Below w.heap.size w w')) ?_ ?_
 rotate_left
 {
 intro hJ0_3_8_13
 refine join_ (σ := Value × Value × Value × Nat) 5 #[tt,tt,tt,ff,tt,tt,tt,ff,tt,tt,tt,ff,ff,tt,ff] (fun s_ => [(13, s_.1), (17, s_.2.1), (21, s_.2.2.1), (5, .pointer (some ⟨s_.2.2.2, 0, none⟩))]) (fun s_ w' => (w'.cell? ⟨gb364, 0, none⟩ = some (.slice A0_0 l0_0.length c0_0) ∧ w'.cell? ⟨gb364, 1, none⟩ = some (.slice A0_1 l0_1.length c0_1) ∧ w'.cell? ⟨gb364, 2, none⟩ = some (.slice A0_2 l0_2.length c0_2)) ∧ (Kd.R (Kd.int .i64) 3 w' w.heap.size (fun k_ => some k_ ≠ (s_.2.1 : Value).ownBlock ∧ some k_ ≠ (s_.2.2.1 : Value).ownBlock) s_.1 y367) ∧ (Kd.R (Kd.int .i64) 3 w' w.heap.size (fun k_ => some k_ ≠ (s_.1 : Value).ownBlock ∧ some k_ ≠ (s_.2.2.1 : Value).ownBlock) s_.2.1 y373) ∧ (Kd.R (Kd.int .i64) 3 w' w.heap.size (fun k_ => some k_ ≠ (s_.1 : Value).ownBlock ∧ some k_ ≠ (s_.2.1 : Value).ownBlock) s_.2.2.1 y379) ∧ (w'.heap[gb364]? = some (.cells #[.slice A0_0 l0_0.length c0_0, .slice A0_1 l0_1.length c0_1, .slice A0_2 l0_2.length c0_2] 26 (0, 0))) ∧ (w'.heap[gb365]? = some (.cells #[.slice none 0 0, .slice none 0 0, .slice none 0 0] 26 (0, 0))) ∧ (w'.heap[s_.2.2.2]? = some (.cells #[.slice none 0 0, .slice none 0 0, .slice none 0 0] 26 (0, 0))) ∧ (w.heap.size ≤ s_.2.2.2) ∧ (w.heap.size ≤ s_.2.2.2) ∧ (gb364 ≠ s_.2.2.2) ∧ (s_.2.2.2 ≠ gb364) ∧ (gb365 ≠ s_.2.2.2) ∧ (s_.2.2.2 ≠ gb365) ∧ (Below w.heap.size w w')) ?_ ?_
 rotate_left
 {
 intro hJ0_4_8_13
 refine join_ (σ := Value × Value × Value) 6 #[tt,tt,tt,tt,tt,tt,tt,ff,ff,tt,tt,ff,ff,ff,ff] (fun s_ => [(13, s_.1), (16, s_.2.1), (17, s_.2.2)]) (fun s_ w' => (w'.cell? ⟨gb364, 0, none⟩ = some (.slice A0_0 l0_0.length c0_0) ∧ w'.cell? ⟨gb364, 1, none⟩ = some (.slice A0_1 l0_1.length c0_1) ∧ w'.cell? ⟨gb364, 2, none⟩ = some (.slice A0_2 l0_2.length c0_2)) ∧ (Kd.R (Kd.int .i64) 3 w' w.heap.size (fun k_ => some k_ ≠ (s_.2.2 : Value).ownBlock) s_.2.1 y370) ∧ (Kd.R (Kd.int .i64) 3 w' w.heap.size (fun k_ => some k_ ≠ (s_.2.1 : Value).ownBlock) s_.2.2 y373) ∧ (w'.heap[gb364]? = some (.cells #[.slice A0_0 l0_0.length c0_0, .slice A0_1 l0_1.length c0_1, .slice A0_2 l0_2.length c0_2] 26 (0, 0))) ∧ (w'.heap[gb365]? = some (.cells #[.slice none 0 0, .slice none 0 0, .slice none 0 0] 26 (0, 0))) ∧ (Below w.heap.size w w')) ?_ ?_
 rotate_left
 {
 intro hJ0_3_4
 refine join_ (σ := Value × Value × Value) 6 #[tt,tt,tt,tt,ff,tt,tt,ff,tt,tt,tt,ff,ff,ff,ff] (fun s_ => [(13, s_.1), (16, s_.2.1), (21, s_.2.2)]) (fun s_ w' => (w'.cell? ⟨gb364, 0, none⟩ = some (.slice A0_0 l0_0.length c0_0) ∧ w'.cell? ⟨gb364, 1, none⟩ = some (.slice A0_1 l0_1.length c0_1) ∧ w'.cell? ⟨gb364, 2, none⟩ = some (.slice A0_2 l0_2.length c0_2)) ∧ (Kd.R (Kd.int .i64) 3 w' w.heap.size (fun k_ => some k_ ≠ (s_.2.2 : Value).ownBlock) s_.2.1 y370) ∧ (Kd.R (Kd.int .i64) 3 w' w.heap.size (fun k_ => some k_ ≠ (s_.2.1 : Value).ownBlock) s_.2.2 y379) ∧ (w'.heap[gb364]? = some (.cells #[.slice A0_0 l0_0.length c0_0, .slice A0_1 l0_1.length c0_1, .slice A0_2 l0_2.length c0_2] 26 (0, 0))) ∧ (w'.heap[gb365]? = some (.cells #[.slice none 0 0, .slice none 0 0, .slice none 0 0] 26 (0, 0))) ∧ (Below w.heap.size w w')) ?_ ?_
 rotate_left
 {
 intro hJ0_3_8
 refine join_ (σ := Value × Value × Nat) 6 #[tt,tt,tt,tt,ff,tt,tt,ff,ff,tt,tt,ff,ff,tt,ff] (fun s_ => [(13, s_.1), (16, s_.2.1), (5, .pointer (some ⟨s_.2.2, 0, none⟩))]) (fun s_ w' => (w'.cell? ⟨gb364, 0, none⟩ = some (.slice A0_0 l0_0.length c0_0) ∧ w'.cell? ⟨gb364, 1, none⟩ = some (.slice A0_1 l0_1.length c0_1) ∧ w'.cell? ⟨gb364, 2, none⟩ = some (.slice A0_2 l0_2.length c0_2)) ∧ (Kd.R (Kd.int .i64) 3 w' w.heap.size (fun _ => True) s_.2.1 y370) ∧ (w'.heap[gb364]? = some (.cells #[.slice A0_0 l0_0.length c0_0, .slice A0_1 l0_1.length c0_1, .slice A0_2 l0_2.length c0_2] 26 (0, 0))) ∧ (w'.heap[gb365]? = some (.cells #[.slice none 0 0, .slice none 0 0, .slice none 0 0] 26 (0, 0))) ∧ (w'.heap[s_.2.2]? = some (.cells #[.slice none 0 0, .slice none 0 0, .slice none 0 0] 26 (0, 0))) ∧ (w.heap.size ≤ s_.2.2) ∧ (w.heap.size ≤ s_.2.2) ∧ (gb364 ≠ s_.2.2) ∧ (s_.2.2 ≠ gb364) ∧ (gb365 ≠ s_.2.2) ∧ (s_.2.2 ≠ gb365) ∧ (Below w.heap.size w w')) ?_ ?_
 rotate_left
 {
 intro hJ0_3_13
 refine join_ (σ := Value × Value × Value) 6 #[tt,tt,tt,ff,tt,tt,tt,ff,tt,tt,tt,ff,ff,ff,ff] (fun s_ => [(13, s_.1), (17, s_.2.1), (21, s_.2.2)]) (fun s_ w' => (w'.cell? ⟨gb364, 0, none⟩ = some (.slice A0_0 l0_0.length c0_0) ∧ w'.cell? ⟨gb364, 1, none⟩ = some (.slice A0_1 l0_1.length c0_1) ∧ w'.cell? ⟨gb364, 2, none⟩ = some (.slice A0_2 l0_2.length c0_2)) ∧ (Kd.R (Kd.int .i64) 3 w' w.heap.size (fun k_ => some k_ ≠ (s_.2.1 : Value).ownBlock ∧ some k_ ≠ (s_.2.2 : Value).ownBlock) s_.1 y367) ∧ (Kd.R (Kd.int .i64) 3 w' w.heap.size (fun k_ => some k_ ≠ (s_.1 : Value).ownBlock ∧ some k_ ≠ (s_.2.2 : Value).ownBlock) s_.2.1 y373) ∧ (Kd.R (Kd.int .i64) 3 w' w.heap.size (fun k_ => some k_ ≠ (s_.1 : Value).ownBlock ∧ some k_ ≠ (s_.2.1 : Value).ownBlock) s_.2.2 y379) ∧ (w'.heap[gb364]? = some (.cells #[.slice A0_0 l0_0.length c0_0, .slice A0_1 l0_1.length c0_1, .slice A0_2 l0_2.length c0_2] 26 (0, 0))) ∧ (w'.heap[gb365]? = some (.cells #[.slice none 0 0, .slice none 0 0, .slice none 0 0] 26 (0, 0))) ∧ (Below w.heap.size w w')) ?_ ?_
 rotate_left
 {
 intro hJ0_4_8
 refine join_ (σ := Value × Value × Nat) 6 #[tt,tt,tt,ff,tt,tt,tt,ff,ff,tt,tt,ff,ff,tt,ff] (fun s_ => [(13, s_.1), (17, s_.2.1), (5, .pointer (some ⟨s_.2.2, 0, none⟩))]) (fun s_ w' => (w'.cell? ⟨gb364, 0, none⟩ = some (.slice A0_0 l0_0.length c0_0) ∧ w'.cell? ⟨gb364, 1, none⟩ = some (.slice A0_1 l0_1.length c0_1) ∧ w'.cell? ⟨gb364, 2, none⟩ = some (.slice A0_2 l0_2.length c0_2)) ∧ (Kd.R (Kd.int .i64) 3 w' w.heap.size (fun k_ => some k_ ≠ (s_.2.1 : Value).ownBlock) s_.1 y367) ∧ (Kd.R (Kd.int .i64) 3 w' w.heap.size (fun k_ => some k_ ≠ (s_.1 : Value).ownBlock) s_.2.1 y373) ∧ (w'.heap[gb364]? = some (.cells #[.slice A0_0 l0_0.length c0_0, .slice A0_1 l0_1.length c0_1, .slice A0_2 l0_2.length c0_2] 26 (0, 0))) ∧ (w'.heap[gb365]? = some (.cells #[.slice none 0 0, .slice none 0 0, .slice none 0 0] 26 (0, 0))) ∧ (w'.heap[s_.2.2]? = some (.cells #[.slice none 0 0, .slice none 0 0, .slice none 0 0] 26 (0, 0))) ∧ (w.heap.size ≤ s_.2.2) ∧ (w.heap.size ≤ s_.2.2) ∧ (gb364 ≠ s_.2.2) ∧ (s_.2.2 ≠ gb364) ∧ (gb365 ≠ s_.2.2) ∧ (s_.2.2 ≠ gb365) ∧ (Below w.heap.size w w')) ?_ ?_
 rotate_left
 {
 intro hJ0_4_13
 refine join_ (σ := Value × Value × Nat) 6 #[tt,tt,tt,ff,ff,tt,tt,ff,tt,tt,tt,ff,ff,tt,ff] (fun s_ => [(13, s_.1), (21, s_.2.1), (5, .pointer (some ⟨s_.2.2, 0, none⟩))]) (fun s_ w' => (w'.cell? ⟨gb364, 0, none⟩ = some (.slice A0_0 l0_0.length c0_0) ∧ w'.cell? ⟨gb364, 1, none⟩ = some (.slice A0_1 l0_1.length c0_1) ∧ w'.cell? ⟨gb364, 2, none⟩ = some (.slice A0_2 l0_2.length c0_2)) ∧ (Kd.R (Kd.int .i64) 3 w' w.heap.size (fun k_ => some k_ ≠ (s_.2.1 : Value).ownBlock) s_.1 y367) ∧ (Kd.R (Kd.int .i64) 3 w' w.heap.size (fun k_ => some k_ ≠ (s_.1 : Value).ownBlock) s_.2.1 y379) ∧ (w'.heap[gb364]? = some (.cells #[.slice A0_0 l0_0.length c0_0, .slice A0_1 l0_1.length c0_1, .slice A0_2 l0_2.length c0_2] 26 (0, 0))) ∧ (w'.heap[gb365]? = some (.cells #[.slice none 0 0, .slice none 0 0, .slice none 0 0] 26 (0, 0))) ∧ (w'.heap[s_.2.2]? = some (.cells #[.slice none 0 0, .slice none 0 0, .slice none 0 0] 26 (0, 0))) ∧ (w.heap.size ≤ s_.2.2) ∧ (w.heap.size ≤ s_.2.2) ∧ (gb364 ≠ s_.2.2) ∧ (s_.2.2 ≠ gb364) ∧ (gb365 ≠ s_.2.2) ∧ (s_.2.2 ≠ gb365) ∧ (Below w.heap.size w w')) ?_ ?_
 rotate_left
 {
 intro hJ0_8_13
 refine join_ (σ := Value × Value × Nat) 6 #[ff,tt,tt,ff,tt,tt,tt,ff,tt,tt,tt,ff,ff,tt,ff] (fun s_ => [(17, s_.1), (21, s_.2.1), (5, .pointer (some ⟨s_.2.2, 0, none⟩))]) (fun s_ w' => (w'.cell? ⟨gb364, 0, none⟩ = some (.slice A0_0 l0_0.length c0_0) ∧ w'.cell? ⟨gb364, 1, none⟩ = some (.slice A0_1 l0_1.length c0_1) ∧ w'.cell? ⟨gb364, 2, none⟩ = some (.slice A0_2 l0_2.length c0_2)) ∧ (Kd.R (Kd.int .i64) 3 w' w.heap.size (fun k_ => some k_ ≠ (s_.2.1 : Value).ownBlock) s_.1 y373) ∧ (Kd.R (Kd.int .i64) 3 w' w.heap.size (fun k_ => some k_ ≠ (s_.1 : Value).ownBlock) s_.2.1 y379) ∧ (w'.heap[gb364]? = some (.cells #[.slice A0_0 l0_0.length c0_0, .slice A0_1 l0_1.length c0_1, .slice A0_2 l0_2.length c0_2] 26 (0, 0))) ∧ (w'.heap[gb365]? = some (.cells #[.slice none 0 0, .slice none 0 0, .slice none 0 0] 26 (0, 0))) ∧ (w'.heap[s_.2.2]? = some (.cells #[.slice none 0 0, .slice none 0 0, .slice none 0 0] 26 (0, 0))) ∧ (w.heap.size ≤ s_.2.2) ∧ (w.heap.size ≤ s_.2.2) ∧ (gb364 ≠ s_.2.2) ∧ (s_.2.2 ≠ gb364) ∧ (gb365 ≠ s_.2.2) ∧ (s_.2.2 ≠ gb365) ∧ (Below w.heap.size w w')) ?_ ?_
 rotate_left
 {
 intro hJ4_8_13
 refine join_ (σ := Value × Value) 7 #[tt,tt,tt,tt,ff,tt,tt,ff,ff,tt,tt,ff,ff,ff,ff] (fun s_ => [(13, s_.1), (16, s_.2)]) (fun s_ w' => (w'.cell? ⟨gb364, 0, none⟩ = some (.slice A0_0 l0_0.length c0_0) ∧ w'.cell? ⟨gb364, 1, none⟩ = some (.slice A0_1 l0_1.length c0_1) ∧ w'.cell? ⟨gb364, 2, none⟩ = some (.slice A0_2 l0_2.length c0_2)) ∧ (Kd.R (Kd.int .i64) 3 w' w.heap.size (fun _ => True) s_.2 y370) ∧ (w'.heap[gb364]? = some (.cells #[.slice A0_0 l0_0.length c0_0, .slice A0_1 l0_1.length c0_1, .slice A0_2 l0_2.length c0_2] 26 (0, 0))) ∧ (w'.heap[gb365]? = some (.cells #[.slice none 0 0, .slice none 0 0, .slice none 0 0] 26 (0, 0))) ∧ (Below w.heap.size w w')) ?_ ?_
 rotate_left
 {
 intro hJ0_3
 refine join_ (σ := Value × Value) 7 #[tt,tt,tt,ff,tt,tt,tt,ff,ff,tt,tt,ff,ff,ff,ff] (fun s_ => [(13, s_.1), (17, s_.2)]) (fun s_ w' => (w'.cell? ⟨gb364, 0, none⟩ = some (.slice A0_0 l0_0.length c0_0) ∧ w'.cell? ⟨gb364, 1, none⟩ = some (.slice A0_1 l0_1.length c0_1) ∧ w'.cell? ⟨gb364, 2, none⟩ = some (.slice A0_2 l0_2.length c0_2)) ∧ (Kd.R (Kd.int .i64) 3 w' w.heap.size (fun k_ => some k_ ≠ (s_.2 : Value).ownBlock) s_.1 y367) ∧ (Kd.R (Kd.int .i64) 3 w' w.heap.size (fun k_ => some k_ ≠ (s_.1 : Value).ownBlock) s_.2 y373) ∧ (w'.heap[gb364]? = some (.cells #[.slice A0_0 l0_0.length c0_0, .slice A0_1 l0_1.length c0_1, .slice A0_2 l0_2.length c0_2] 26 (0, 0))) ∧ (w'.heap[gb365]? = some (.cells #[.slice none 0 0, .slice none 0 0, .slice none 0 0] 26 (0, 0))) ∧ (Below w.heap.size w w')) ?_ ?_
 rotate_left
 {
 intro hJ0_4
 refine join_ (σ := Value × Value) 7 #[tt,tt,tt,ff,ff,tt,tt,ff,tt,tt,tt,ff,ff,ff,ff] (fun s_ => [(13, s_.1), (21, s_.2)]) (fun s_ w' => (w'.cell? ⟨gb364, 0, none⟩ = some (.slice A0_0 l0_0.length c0_0) ∧ w'.cell? ⟨gb364, 1, none⟩ = some (.slice A0_1 l0_1.length c0_1) ∧ w'.cell? ⟨gb364, 2, none⟩ = some (.slice A0_2 l0_2.length c0_2)) ∧ (Kd.R (Kd.int .i64) 3 w' w.heap.size (fun k_ => some k_ ≠ (s_.2 : Value).ownBlock) s_.1 y367) ∧ (Kd.R (Kd.int .i64) 3 w' w.heap.size (fun k_ => some k_ ≠ (s_.1 : Value).ownBlock) s_.2 y379) ∧ (w'.heap[gb364]? = some (.cells #[.slice A0_0 l0_0.length c0_0, .slice A0_1 l0_1.length c0_1, .slice A0_2 l0_2.length c0_2] 26 (0, 0))) ∧ (w'.heap[gb365]? = some (.cells #[.slice none 0 0, .slice none 0 0, .slice none 0 0] 26 (0, 0))) ∧ (Below w.heap.size w w')) ?_ ?_
 rotate_left
 {
 intro hJ0_8
 refine join_ (σ := Value × Nat) 7 #[tt,tt,tt,ff,ff,tt,tt,ff,ff,tt,tt,ff,ff,tt,ff] (fun s_ => [(13, s_.1), (5, .pointer (some ⟨s_.2, 0, none⟩))]) (fun s_ w' => (w'.cell? ⟨gb364, 0, none⟩ = some (.slice A0_0 l0_0.length c0_0) ∧ w'.cell? ⟨gb364, 1, none⟩ = some (.slice A0_1 l0_1.length c0_1) ∧ w'.cell? ⟨gb364, 2, none⟩ = some (.slice A0_2 l0_2.length c0_2)) ∧ (Kd.R (Kd.int .i64) 3 w' w.heap.size (fun _ => True) s_.1 y367) ∧ (w'.heap[gb364]? = some (.cells #[.slice A0_0 l0_0.length c0_0, .slice A0_1 l0_1.length c0_1, .slice A0_2 l0_2.length c0_2] 26 (0, 0))) ∧ (w'.heap[gb365]? = some (.cells #[.slice none 0 0, .slice none 0 0, .slice none 0 0] 26 (0, 0))) ∧ (w'.heap[s_.2]? = some (.cells #[.slice none 0 0, .slice none 0 0, .slice none 0 0] 26 (0, 0))) ∧ (w.heap.size ≤ s_.2) ∧ (w.heap.size ≤ s_.2) ∧ (gb364 ≠ s_.2) ∧ (s_.2 ≠ gb364) ∧ (gb365 ≠ s_.2) ∧ (s_.2 ≠ gb365) ∧ (Below w.heap.size w w')) ?_ ?_
 rotate_left
 {
 intro hJ0_13
 refine join_ (σ := Value × Value) 7 #[ff,tt,tt,ff,tt,tt,tt,ff,tt,tt,tt,ff,ff,ff,ff] (fun s_ => [(17, s_.1), (21, s_.2)]) (fun s_ w' => (w'.cell? ⟨gb364, 0, none⟩ = some (.slice A0_0 l0_0.length c0_0) ∧ w'.cell? ⟨gb364, 1, none⟩ = some (.slice A0_1 l0_1.length c0_1) ∧ w'.cell? ⟨gb364, 2, none⟩ = some (.slice A0_2 l0_2.length c0_2)) ∧ (Kd.R (Kd.int .i64) 3 w' w.heap.size (fun k_ => some k_ ≠ (s_.2 : Value).ownBlock) s_.1 y373) ∧ (Kd.R (Kd.int .i64) 3 w' w.heap.size (fun k_ => some k_ ≠ (s_.1 : Value).ownBlock) s_.2 y379) ∧ (w'.heap[gb364]? = some (.cells #[.slice A0_0 l0_0.length c0_0, .slice A0_1 l0_1.length c0_1, .slice A0_2 l0_2.length c0_2] 26 (0, 0))) ∧ (w'.heap[gb365]? = some (.cells #[.slice none 0 0, .slice none 0 0, .slice none 0 0] 26 (0, 0))) ∧ (Below w.heap.size w w')) ?_ ?_
 rotate_left
 {
 intro hJ4_8
 refine join_ (σ := Value × Nat) 7 #[ff,tt,tt,ff,tt,tt,tt,ff,ff,tt,tt,ff,ff,tt,ff] (fun s_ => [(17, s_.1), (5, .pointer (some ⟨s_.2, 0, none⟩))]) (fun s_ w' => (w'.cell? ⟨gb364, 0, none⟩ = some (.slice A0_0 l0_0.length c0_0) ∧ w'.cell? ⟨gb364, 1, none⟩ = some (.slice A0_1 l0_1.length c0_1) ∧ w'.cell? ⟨gb364, 2, none⟩ = some (.slice A0_2 l0_2.length c0_2)) ∧ (Kd.R (Kd.int .i64) 3 w' w.heap.size (fun _ => True) s_.1 y373) ∧ (w'.heap[gb364]? = some (.cells #[.slice A0_0 l0_0.length c0_0, .slice A0_1 l0_1.length c0_1, .slice A0_2 l0_2.length c0_2] 26 (0, 0))) ∧ (w'.heap[gb365]? = some (.cells #[.slice none 0 0, .slice none 0 0, .slice none 0 0] 26 (0, 0))) ∧ (w'.heap[s_.2]? = some (.cells #[.slice none 0 0, .slice none 0 0, .slice none 0 0] 26 (0, 0))) ∧ (w.heap.size ≤ s_.2) ∧ (w.heap.size ≤ s_.2) ∧ (gb364 ≠ s_.2) ∧ (s_.2 ≠ gb364) ∧ (gb365 ≠ s_.2) ∧ (s_.2 ≠ gb365) ∧ (Below w.heap.size w w')) ?_ ?_
 rotate_left
 {
 intro hJ4_13
 refine join_ (σ := Value × Nat) 7 #[ff,tt,tt,ff,ff,tt,tt,ff,tt,tt,tt,ff,ff,tt,ff] (fun s_ => [(21, s_.1), (5, .pointer (some ⟨s_.2, 0, none⟩))]) (fun s_ w' => (w'.cell? ⟨gb364, 0, none⟩ = some (.slice A0_0 l0_0.length c0_0) ∧ w'.cell? ⟨gb364, 1, none⟩ = some (.slice A0_1 l0_1.length c0_1) ∧ w'.cell? ⟨gb364, 2, none⟩ = some (.slice A0_2 l0_2.length c0_2)) ∧ (Kd.R (Kd.int .i64) 3 w' w.heap.size (fun _ => True) s_.1 y379) ∧ (w'.heap[gb364]? = some (.cells #[.slice A0_0 l0_0.length c0_0, .slice A0_1 l0_1.length c0_1, .slice A0_2 l0_2.length c0_2] 26 (0, 0))) ∧ (w'.heap[gb365]? = some (.cells #[.slice none 0 0, .slice none 0 0, .slice none 0 0] 26 (0, 0))) ∧ (w'.heap[s_.2]? = some (.cells #[.slice none 0 0, .slice none 0 0, .slice none 0 0] 26 (0, 0))) ∧ (w.heap.size ≤ s_.2) ∧ (w.heap.size ≤ s_.2) ∧ (gb364 ≠ s_.2) ∧ (s_.2 ≠ gb364) ∧ (gb365 ≠ s_.2) ∧ (s_.2 ≠ gb365) ∧ (Below w.heap.size w w')) ?_ ?_
 rotate_left
 {
 intro hJ8_13
 refine join_ (σ := Value) 8 #[tt,tt,tt,ff,ff,tt,tt,ff,ff,tt,tt,ff,ff,ff,ff] (fun s_ => [(13, s_)]) (fun s_ w' => (w'.cell? ⟨gb364, 0, none⟩ = some (.slice A0_0 l0_0.length c0_0) ∧ w'.cell? ⟨gb364, 1, none⟩ = some (.slice A0_1 l0_1.length c0_1) ∧ w'.cell? ⟨gb364, 2, none⟩ = some (.slice A0_2 l0_2.length c0_2)) ∧ (Kd.R (Kd.int .i64) 3 w' w.heap.size (fun _ => True) s_ y367) ∧ (w'.heap[gb364]? = some (.cells #[.slice A0_0 l0_0.length c0_0, .slice A0_1 l0_1.length c0_1, .slice A0_2 l0_2.length c0_2] 26 (0, 0))) ∧ (w'.heap[gb365]? = some (.cells #[.slice none 0 0, .slice none 0 0, .slice none 0 0] 26 (0, 0))) ∧ (Below w.heap.size w w')) ?_ ?_
 rotate_left
 {
 intro hJ0
 refine join_ (σ := Value) 8 #[ff,tt,tt,ff,tt,tt,tt,ff,ff,tt,tt,ff,ff,ff,ff] (fun s_ => [(17, s_)]) (fun s_ w' => (w'.cell? ⟨gb364, 0, none⟩ = some (.slice A0_0 l0_0.length c0_0) ∧ w'.cell? ⟨gb364, 1, none⟩ = some (.slice A0_1 l0_1.length c0_1) ∧ w'.cell? ⟨gb364, 2, none⟩ = some (.slice A0_2 l0_2.length c0_2)) ∧ (Kd.R (Kd.int .i64) 3 w' w.heap.size (fun _ => True) s_ y373) ∧ (w'.heap[gb364]? = some (.cells #[.slice A0_0 l0_0.length c0_0, .slice A0_1 l0_1.length c0_1, .slice A0_2 l0_2.length c0_2] 26 (0, 0))) ∧ (w'.heap[gb365]? = some (.cells #[.slice none 0 0, .slice none 0 0, .slice none 0 0] 26 (0, 0))) ∧ (Below w.heap.size w w')) ?_ ?_
 rotate_left
 {
 intro hJ4
 refine join_ (σ := Value) 8 #[ff,tt,tt,ff,ff,tt,tt,ff,tt,tt,tt,ff,ff,ff,ff] (fun s_ => [(21, s_)]) (fun s_ w' => (w'.cell? ⟨gb364, 0, none⟩ = some (.slice A0_0 l0_0.length c0_0) ∧ w'.cell? ⟨gb364, 1, none⟩ = some (.slice A0_1 l0_1.length c0_1) ∧ w'.cell? ⟨gb364, 2, none⟩ = some (.slice A0_2 l0_2.length c0_2)) ∧ (Kd.R (Kd.int .i64) 3 w' w.heap.size (fun _ => True) s_ y379) ∧ (w'.heap[gb364]? = some (.cells #[.slice A0_0 l0_0.length c0_0, .slice A0_1 l0_1.length c0_1, .slice A0_2 l0_2.length c0_2] 26 (0, 0))) ∧ (w'.heap[gb365]? = some (.cells #[.slice none 0 0, .slice none 0 0, .slice none 0 0] 26 (0, 0))) ∧ (Below w.heap.size w w')) ?_ ?_
 rotate_left
 {
 intro hJ8
 refine join_ (σ := Nat) 8 #[ff,tt,tt,ff,ff,tt,tt,ff,ff,tt,tt,ff,ff,tt,ff] (fun s_ => [(5, .pointer (some ⟨s_, 0, none⟩))]) (fun s_ w' => (w'.cell? ⟨gb364, 0, none⟩ = some (.slice A0_0 l0_0.length c0_0) ∧ w'.cell? ⟨gb364, 1, none⟩ = some (.slice A0_1 l0_1.length c0_1) ∧ w'.cell? ⟨gb364, 2, none⟩ = some (.slice A0_2 l0_2.length c0_2)) ∧ (w'.heap[gb364]? = some (.cells #[.slice A0_0 l0_0.length c0_0, .slice A0_1 l0_1.length c0_1, .slice A0_2 l0_2.length c0_2] 26 (0, 0))) ∧ (w'.heap[gb365]? = some (.cells #[.slice none 0 0, .slice none 0 0, .slice none 0 0] 26 (0, 0))) ∧ (w'.heap[s_]? = some (.cells #[.slice none 0 0, .slice none 0 0, .slice none 0 0] 26 (0, 0))) ∧ (w.heap.size ≤ s_) ∧ (w.heap.size ≤ s_) ∧ (gb364 ≠ s_) ∧ (s_ ≠ gb364) ∧ (gb365 ≠ s_) ∧ (s_ ≠ gb365) ∧ (Below w.heap.size w w')) ?_ ?_
 rotate_left
 {
 intro hJ13
 refine four_ (i := 0) (j := 4) (k := 8) (m := 13) (Ni := some 13) (Nj := some 17) (Nk := some 21) (Nm := some 5) #[tt,tt,tt,ff,ff,tt,tt,ff,ff,tt,tt,ff,ff,ff,ff] #[ff,tt,tt,ff,tt,tt,tt,ff,ff,tt,tt,ff,ff,ff,ff] #[ff,tt,tt,ff,ff,tt,tt,ff,tt,tt,tt,ff,ff,ff,ff] #[ff,tt,tt,ff,ff,tt,tt,ff,ff,tt,tt,ff,ff,tt,ff] rfl rfl rfl rfl rfl rfl rfl rfl (four_of HT_.out (by kernel_rfl)) (by decide) (by decide) (by decide) (by decide) (fun K hK => ?_) (fun K hK => ?_) (fun K hK => ?_) (fun K hK => ?_)
 {
 skip
 refine Kd.R_lit_step (Kd.int .i64) _ 3 ?hg (N := 13) ?hd (xs := ([] : List Int)) (inner := []) (ok := fun _ => True) (okp := fun _ => True) ?hr ?hp (fun _ hk => hk) trivial (Below.refl _ _) (Nat.le_refl _) (by simp) ?_; (case hd => rfl); (case hg => rfl); (case hr => first | (go_simp; done) | (go_simp; rfl)); (case hp => exact (Reps.none _ _))
 intro v368 w13 ho14 hb hg_ hnew_
 clear hg_ hnew_
 (first | rw [← Ny367.out] at ho14 | (simp only [Int.reduceToNat] at ho14; rw [← Ny367.out] at ho14))
 have n0_ := Aside0.mk (Kd.R_lower ho14 (below_size (bX2 HB.out GE364.out GE365.out)))
 have n1_ := Aside0.mk (bbX BK364.out hb)
 have n2_ := Aside0.mk (bbX BK365.out hb)
 have n3_ := Aside0.mk (below_step (bX2 HB.out GE364.out GE365.out) hb)
 clear BK364 BK365 HB
 have HO369 := n0_
 have BK364 := n1_
 have BK365 := n2_
 have HB := n3_
 clear n0_ n1_ n2_ n3_ hb ho14
 refine hK.out _ _ ⟨cz30 BK364.out, cz31 BK364.out, cz32 BK364.out⟩ (fun hHeld => ?_)
 clear hK K
 refine norm_ (a' := ?_) ?_ ?_
 rotate_left
 {
 show Act.put _ (some 13) _ = _
 simp only [Act.put, zA, zB, zC, i64_w, i32_w]
 rfl
 }
 exact nX (hJ0 (v368) _ ⟨hHeld, (rX HO369.out), (kX BK364.out), (kX BK365.out), (bX2 HB.out GE364.out GE365.out)⟩)
 }
 {
 skip
 refine Kd.R_lit_step (Kd.int .i64) _ 3 ?hg (N := 17) ?hd (xs := ([] : List Int)) (inner := []) (ok := fun _ => True) (okp := fun _ => True) ?hr ?hp (fun _ hk => hk) trivial (Below.refl _ _) (Nat.le_refl _) (by simp) ?_; (case hd => rfl); (case hg => rfl); (case hr => first | (go_simp; done) | (go_simp; rfl)); (case hp => exact (Reps.none _ _))
 intro v374 w13 ho14 hb hg_ hnew_
 clear hg_ hnew_
 (first | rw [← Ny373.out] at ho14 | (simp only [Int.reduceToNat] at ho14; rw [← Ny373.out] at ho14))
 have n0_ := Aside0.mk (Kd.R_lower ho14 (below_size (bX2 HB.out GE364.out GE365.out)))
 have n1_ := Aside0.mk (bbX BK364.out hb)
 have n2_ := Aside0.mk (bbX BK365.out hb)
 have n3_ := Aside0.mk (below_step (bX2 HB.out GE364.out GE365.out) hb)
 clear BK364 BK365 HB
 have HO375 := n0_
 have BK364 := n1_
 have BK365 := n2_
 have HB := n3_
 clear n0_ n1_ n2_ n3_ hb ho14
 refine hK.out _ _ ⟨cz30 BK364.out, cz31 BK364.out, cz32 BK364.out⟩ (fun hHeld => ?_)
 clear hK K
 refine norm_ (a' := ?_) ?_ ?_
 rotate_left
 {
 show Act.put _ (some 17) _ = _
 simp only [Act.put, zA, zB, zC, i64_w, i32_w]
 rfl
 }
 exact nX (hJ4 (v374) _ ⟨hHeld, (rX HO375.out), (kX BK364.out), (kX BK365.out), (bX2 HB.out GE364.out GE365.out)⟩)
 }
 {
 skip
 refine Kd.R_lit_step (Kd.int .i64) _ 3 ?hg (N := 21) ?hd (xs := ([] : List Int)) (inner := []) (ok := fun _ => True) (okp := fun _ => True) ?hr ?hp (fun _ hk => hk) trivial (Below.refl _ _) (Nat.le_refl _) (by simp) ?_; (case hd => rfl); (case hg => rfl); (case hr => first | (go_simp; done) | (go_simp; rfl)); (case hp => exact (Reps.none _ _))
 intro v380 w13 ho14 hb hg_ hnew_
 clear hg_ hnew_
 (first | rw [← Ny379.out] at ho14 | (simp only [Int.reduceToNat] at ho14; rw [← Ny379.out] at ho14))
 have n0_ := Aside0.mk (Kd.R_lower ho14 (below_size (bX2 HB.out GE364.out GE365.out)))
 have n1_ := Aside0.mk (bbX BK364.out hb)
 have n2_ := Aside0.mk (bbX BK365.out hb)
 have n3_ := Aside0.mk (below_step (bX2 HB.out GE364.out GE365.out) hb)
 clear BK364 BK365 HB
 have HO381 := n0_
 have BK364 := n1_
 have BK365 := n2_
 have HB := n3_
 clear n0_ n1_ n2_ n3_ hb ho14
 refine hK.out _ _ ⟨cz30 BK364.out, cz31 BK364.out, cz32 BK364.out⟩ (fun hHeld => ?_)
 clear hK K
 refine norm_ (a' := ?_) ?_ ?_
 rotate_left
 {
 show Act.put _ (some 21) _ = _
 simp only [Act.put, zA, zB, zC, i64_w, i32_w]
 rfl
 }
 exact nX (hJ8 (v380) _ ⟨hHeld, (rX HO381.out), (kX BK364.out), (kX BK365.out), (bX2 HB.out GE364.out GE365.out)⟩)
 }
 {
 skip
 refine box_step ?hg (N := 5) ?hd (cs := #[.slice none 0 0, .slice none 0 0, .slice none 0 0]) (t := 26) ?hr ?_; (case hd => rfl); (case hg => rfl); (case hr => first | (go_simp; done) | (go_simp; rfl))
 intro gb385 hg w13 hbox hb
 have n0_ := Aside0.mk (bbX BK364.out hb)
 have n1_ := Aside0.mk (bbX BK365.out hb)
 have n2_ := Aside0.mk (below_step (bX2 HB.out GE364.out GE365.out) hb)
 have n3_ := Aside0.mk (hbox)
 have n4_ := Aside0.mk ((szX (below_size (bX2 HB.out GE364.out GE365.out)) hg : w.heap.size ≤ gb385))
 have n5_ := Aside0.mk ((szX (below_size (bX2 HB.out GE364.out GE365.out)) hg : w.heap.size ≤ gb385))
 have n6_ := Aside0.mk (neX BK364.out hg)
 have n7_ := Aside0.mk (nfX BK364.out hg)
 have n8_ := Aside0.mk (neX BK365.out hg)
 have n9_ := Aside0.mk (nfX BK365.out hg)
 clear BK364 BK365 HB
 have BK364 := n0_
 have BK365 := n1_
 have HB := n2_
 have BK385 := n3_
 have GW385 := n4_
 have GE385 := n5_
 have NB364_385 := n6_
 have NB385_364 := n7_
 have NB365_385 := n8_
 have NB385_365 := n9_
 clear n0_ n1_ n2_ n3_ n4_ n5_ n6_ n7_ n8_ n9_ hb hbox hg
 refine hK.out _ _ ⟨cz30 BK364.out, cz31 BK364.out, cz32 BK364.out⟩ (fun hHeld => ?_)
 clear hK K
 refine norm_ (a' := ?_) ?_ ?_
 rotate_left
 {
 show Act.put _ (some 5) _ = _
 simp only [Act.put, zA, zB, zC, i64_w, i32_w]
 rfl
 }
 exact nX (hJ13 (gb385) _ ⟨hHeld, (kX BK364.out), (kX BK365.out), (kX BK385.out), GW385.out, GE385.out, NB364_385.out, NB385_364.out, NB365_385.out, NB385_365.out, (bX3 HB.out GE364.out GE365.out GE385.out)⟩)
 }
 }
 {
 skip
 rintro gb385 w14 ⟨hS_, h0_, h1_, h2_, h3_, h4_, h5_, h6_, h7_, h8_, h9_⟩
 have n0_ : Aside0 (w14.heap[gb364]? = some (.cells #[.slice A0_0 l0_0.length c0_0, .slice A0_1 l0_1.length c0_1, .slice A0_2 l0_2.length c0_2] 26 (0, 0))) := ⟨h0_⟩
 have n1_ : Aside0 (w14.heap[gb365]? = some (.cells #[.slice none 0 0, .slice none 0 0, .slice none 0 0] 26 (0, 0))) := ⟨h1_⟩
 have n2_ : Aside0 (w14.heap[gb385]? = some (.cells #[.slice none 0 0, .slice none 0 0, .slice none 0 0] 26 (0, 0))) := ⟨h2_⟩
 have n3_ : Aside0 (w.heap.size ≤ gb385) := ⟨h3_⟩
 have n4_ : Aside0 (w.heap.size ≤ gb385) := ⟨h4_⟩
 have n5_ : Aside0 (gb364 ≠ gb385) := ⟨h5_⟩
 have n6_ : Aside0 (gb385 ≠ gb364) := ⟨h6_⟩
 have n7_ : Aside0 (gb365 ≠ gb385) := ⟨h7_⟩
 have n8_ : Aside0 (gb385 ≠ gb365) := ⟨h8_⟩
 have n9_ : Aside0 (Below w.heap.size w w14) := ⟨h9_⟩
 clear BK364 BK365 HB h0_ h1_ h2_ h3_ h4_ h5_ h6_ h7_ h8_ h9_
 have BK364 := n0_
 have BK365 := n1_
 have BK385 := n2_
 have GW385 := n3_
 have GE385 := n4_
 have NB364_385 := n5_
 have NB385_364 := n6_
 have NB365_385 := n7_
 have NB385_365 := n8_
 have HB := n9_
 clear n0_ n1_ n2_ n3_ n4_ n5_ n6_ n7_ n8_ n9_
 have hHeld : w14.cell? ⟨gb364, 0, none⟩ = some (.slice A0_0 l0_0.length c0_0) ∧ w14.cell? ⟨gb364, 1, none⟩ = some (.slice A0_1 l0_1.length c0_1) ∧ w14.cell? ⟨gb364, 2, none⟩ = some (.slice A0_2 l0_2.length c0_2) := hS_
 refine norm_ (a' := ?_) ?_ ?_
 rotate_left
 {
 simp only [putAll, Act.put, List.setIfInBounds_toArray, List.set_cons_zero, List.set_cons_succ]
 rfl
 }
 refine three_ (i := 0) (j := 4) (k := 8) (Ni := some 13) (Nj := some 17) (Nk := some 21) #[tt,tt,tt,ff,ff,tt,tt,ff,ff,tt,tt,ff,ff,tt,ff] #[ff,tt,tt,ff,tt,tt,tt,ff,ff,tt,tt,ff,ff,tt,ff] #[ff,tt,tt,ff,ff,tt,tt,ff,tt,tt,tt,ff,ff,tt,ff] rfl rfl rfl rfl rfl rfl (three_of HT_.out (by kernel_rfl)) (by decide) (by decide) (by decide) (fun K hK => ?_) (fun K hK => ?_) (fun K hK => ?_)
 {
 skip
 refine Kd.R_lit_step (Kd.int .i64) _ 3 ?hg (N := 13) ?hd (xs := ([] : List Int)) (inner := []) (ok := fun _ => True) (okp := fun _ => True) ?hr ?hp (fun _ hk => hk) trivial (Below.refl _ _) (Nat.le_refl _) (by simp) ?_; (case hd => rfl); (case hg => rfl); (case hr => first | (go_simp; done) | (go_simp; rfl)); (case hp => exact (Reps.none _ _))
 intro v368 w15 ho16 hb hg_ hnew_
 clear hg_ hnew_
 (first | rw [← Ny367.out] at ho16 | (simp only [Int.reduceToNat] at ho16; rw [← Ny367.out] at ho16))
 have n0_ := Aside0.mk (Kd.R_lower ho16 (below_size (bX3 HB.out GE364.out GE365.out GE385.out)))
 have n1_ := Aside0.mk (bbX BK364.out hb)
 have n2_ := Aside0.mk (bbX BK365.out hb)
 have n3_ := Aside0.mk (bbX BK385.out hb)
 have n4_ := Aside0.mk (below_step (bX3 HB.out GE364.out GE365.out GE385.out) hb)
 clear BK364 BK365 BK385 HB
 have HO369 := n0_
 have BK364 := n1_
 have BK365 := n2_
 have BK385 := n3_
 have HB := n4_
 clear n0_ n1_ n2_ n3_ n4_ hb ho16
 refine hK.out _ _ ⟨cz30 BK364.out, cz31 BK364.out, cz32 BK364.out⟩ (fun hHeld => ?_)
 clear hK K
 refine norm_ (a' := ?_) ?_ ?_
 rotate_left
 {
 show Act.put _ (some 13) _ = _
 simp only [Act.put, zA, zB, zC, i64_w, i32_w]
 rfl
 }
 exact nX (hJ0_13 (v368, gb385) _ ⟨hHeld, (rX HO369.out), (kX BK364.out), (kX BK365.out), (kX BK385.out), GW385.out, GE385.out, NB364_385.out, NB385_364.out, NB365_385.out, NB385_365.out, (bX3 HB.out GE364.out GE365.out GE385.out)⟩)
 }
 {
 skip
 refine Kd.R_lit_step (Kd.int .i64) _ 3 ?hg (N := 17) ?hd (xs := ([] : List Int)) (inner := []) (ok := fun _ => True) (okp := fun _ => True) ?hr ?hp (fun _ hk => hk) trivial (Below.refl _ _) (Nat.le_refl _) (by simp) ?_; (case hd => rfl); (case hg => rfl); (case hr => first | (go_simp; done) | (go_simp; rfl)); (case hp => exact (Reps.none _ _))
 intro v374 w15 ho16 hb hg_ hnew_
 clear hg_ hnew_
 (first | rw [← Ny373.out] at ho16 | (simp only [Int.reduceToNat] at ho16; rw [← Ny373.out] at ho16))
 have n0_ := Aside0.mk (Kd.R_lower ho16 (below_size (bX3 HB.out GE364.out GE365.out GE385.out)))
 have n1_ := Aside0.mk (bbX BK364.out hb)
 have n2_ := Aside0.mk (bbX BK365.out hb)
 have n3_ := Aside0.mk (bbX BK385.out hb)
 have n4_ := Aside0.mk (below_step (bX3 HB.out GE364.out GE365.out GE385.out) hb)
 clear BK364 BK365 BK385 HB
 have HO375 := n0_
 have BK364 := n1_
 have BK365 := n2_
 have BK385 := n3_
 have HB := n4_
 clear n0_ n1_ n2_ n3_ n4_ hb ho16
 refine hK.out _ _ ⟨cz30 BK364.out, cz31 BK364.out, cz32 BK364.out⟩ (fun hHeld => ?_)
 clear hK K
 refine norm_ (a' := ?_) ?_ ?_
 rotate_left
 {
 show Act.put _ (some 17) _ = _
 simp only [Act.put, zA, zB, zC, i64_w, i32_w]
 rfl
 }
 exact nX (hJ4_13 (v374, gb385) _ ⟨hHeld, (rX HO375.out), (kX BK364.out), (kX BK365.out), (kX BK385.out), GW385.out, GE385.out, NB364_385.out, NB385_364.out, NB365_385.out, NB385_365.out, (bX3 HB.out GE364.out GE365.out GE385.out)⟩)
 }
 {
 skip
 refine Kd.R_lit_step (Kd.int .i64) _ 3 ?hg (N := 21) ?hd (xs := ([] : List Int)) (inner := []) (ok := fun _ => True) (okp := fun _ => True) ?hr ?hp (fun _ hk => hk) trivial (Below.refl _ _) (Nat.le_refl _) (by simp) ?_; (case hd => rfl); (case hg => rfl); (case hr => first | (go_simp; done) | (go_simp; rfl)); (case hp => exact (Reps.none _ _))
 intro v380 w15 ho16 hb hg_ hnew_
 clear hg_ hnew_
 (first | rw [← Ny379.out] at ho16 | (simp only [Int.reduceToNat] at ho16; rw [← Ny379.out] at ho16))
 have n0_ := Aside0.mk (Kd.R_lower ho16 (below_size (bX3 HB.out GE364.out GE365.out GE385.out)))
 have n1_ := Aside0.mk (bbX BK364.out hb)
 have n2_ := Aside0.mk (bbX BK365.out hb)
 have n3_ := Aside0.mk (bbX BK385.out hb)
 have n4_ := Aside0.mk (below_step (bX3 HB.out GE364.out GE365.out GE385.out) hb)
 clear BK364 BK365 BK385 HB
 have HO381 := n0_
 have BK364 := n1_
 have BK365 := n2_
 have BK385 := n3_
 have HB := n4_
 clear n0_ n1_ n2_ n3_ n4_ hb ho16
 refine hK.out _ _ ⟨cz30 BK364.out, cz31 BK364.out, cz32 BK364.out⟩ (fun hHeld => ?_)
 clear hK K
 refine norm_ (a' := ?_) ?_ ?_
 rotate_left
 {
 show Act.put _ (some 21) _ = _
 simp only [Act.put, zA, zB, zC, i64_w, i32_w]
 rfl
 }
 exact nX (hJ8_13 (v380, gb385) _ ⟨hHeld, (rX HO381.out), (kX BK364.out), (kX BK365.out), (kX BK385.out), GW385.out, GE385.out, NB364_385.out, NB385_364.out, NB365_385.out, NB385_365.out, (bX3 HB.out GE364.out GE365.out GE385.out)⟩)
 }
 }
 }
 {
 skip
 rintro v380 w15 ⟨hS_, h0_, h1_, h2_, h3_⟩
 have n0_ : Aside0 (Kd.R (Kd.int .i64) 3 w15 w.heap.size (fun _ => True) v380 y379) := ⟨h0_⟩
 have n1_ : Aside0 (w15.heap[gb364]? = some (.cells #[.slice A0_0 l0_0.length c0_0, .slice A0_1 l0_1.length c0_1, .slice A0_2 l0_2.length c0_2] 26 (0, 0))) := ⟨h1_⟩
 have n2_ : Aside0 (w15.heap[gb365]? = some (.cells #[.slice none 0 0, .slice none 0 0, .slice none 0 0] 26 (0, 0))) := ⟨h2_⟩
 have n3_ : Aside0 (Below w.heap.size w w15) := ⟨h3_⟩
 clear BK364 BK365 HB h0_ h1_ h2_ h3_
 have HO381 := n0_
 have BK364 := n1_
 have BK365 := n2_
 have HB := n3_
 clear n0_ n1_ n2_ n3_
 have hHeld : w15.cell? ⟨gb364, 0, none⟩ = some (.slice A0_0 l0_0.length c0_0) ∧ w15.cell? ⟨gb364, 1, none⟩ = some (.slice A0_1 l0_1.length c0_1) ∧ w15.cell? ⟨gb364, 2, none⟩ = some (.slice A0_2 l0_2.length c0_2) := hS_
 refine norm_ (a' := ?_) ?_ ?_
 rotate_left
 {
 simp only [putAll, Act.put, List.setIfInBounds_toArray, List.set_cons_zero, List.set_cons_succ]
 rfl
 }
 refine three_ (i := 0) (j := 4) (k := 13) (Ni := some 13) (Nj := some 17) (Nk := some 5) #[tt,tt,tt,ff,ff,tt,tt,ff,tt,tt,tt,ff,ff,ff,ff] #[ff,tt,tt,ff,tt,tt,tt,ff,tt,tt,tt,ff,ff,ff,ff] #[ff,tt,tt,ff,ff,tt,tt,ff,tt,tt,tt,ff,ff,tt,ff] rfl rfl rfl rfl rfl rfl (three_of HT_.out (by kernel_rfl)) (by decide) (by decide) (by decide) (fun K hK => ?_) (fun K hK => ?_) (fun K hK => ?_)
 {
 skip
 refine Kd.R_lit_step (Kd.int .i64) _ 3 ?hg (N := 13) ?hd (xs := ([] : List Int)) (inner := []) (ok := fun _ => True) (okp := fun _ => True) ?hr ?hp (fun _ hk => hk) trivial (Below.refl _ _) (Nat.le_refl _) (by simp) ?_; (case hd => rfl); (case hg => rfl); (case hr => first | (go_simp; done) | (go_simp; rfl)); (case hp => exact (Reps.none _ _))
 intro v368 w16 ho17 hb hg_ hnew_
 clear hg_ hnew_
 (first | rw [← Ny367.out] at ho17 | (simp only [Int.reduceToNat] at ho17; rw [← Ny367.out] at ho17))
 have n0_ := Aside0.mk (Kd.R_elder' (rX HO381.out) (Kd.R_base ho17) hb)
 have n1_ := Aside0.mk (Kd.R_lower (Kd.R_new' ho17 (Kd.R_lt (rX HO381.out))) (below_size (bX2 HB.out GE364.out GE365.out)))
 have n2_ := Aside0.mk (bbX BK364.out hb)
 have n3_ := Aside0.mk (bbX BK365.out hb)
 have n4_ := Aside0.mk (below_step (bX2 HB.out GE364.out GE365.out) hb)
 clear HO381 BK364 BK365 HB
 have HO381 := n0_
 have HO369 := n1_
 have BK364 := n2_
 have BK365 := n3_
 have HB := n4_
 clear n0_ n1_ n2_ n3_ n4_ hb ho17
 refine hK.out _ _ ⟨cz30 BK364.out, cz31 BK364.out, cz32 BK364.out⟩ (fun hHeld => ?_)
 clear hK K
 refine norm_ (a' := ?_) ?_ ?_
 rotate_left
 {
 show Act.put _ (some 13) _ = _
 simp only [Act.put, zA, zB, zC, i64_w, i32_w]
 rfl
 }
 exact nX (hJ0_8 (v368, v380) _ ⟨hHeld, (rM HO369.out (fun _ hk => hk.2)), (rM HO381.out (fun _ hk => hk.2)), (kX BK364.out), (kX BK365.out), (bX2 HB.out GE364.out GE365.out)⟩)
 }
 {
 skip
 refine Kd.R_lit_step (Kd.int .i64) _ 3 ?hg (N := 17) ?hd (xs := ([] : List Int)) (inner := []) (ok := fun _ => True) (okp := fun _ => True) ?hr ?hp (fun _ hk => hk) trivial (Below.refl _ _) (Nat.le_refl _) (by simp) ?_; (case hd => rfl); (case hg => rfl); (case hr => first | (go_simp; done) | (go_simp; rfl)); (case hp => exact (Reps.none _ _))
 intro v374 w16 ho17 hb hg_ hnew_
 clear hg_ hnew_
 (first | rw [← Ny373.out] at ho17 | (simp only [Int.reduceToNat] at ho17; rw [← Ny373.out] at ho17))
 have n0_ := Aside0.mk (Kd.R_elder' (rX HO381.out) (Kd.R_base ho17) hb)
 have n1_ := Aside0.mk (Kd.R_lower (Kd.R_new' ho17 (Kd.R_lt (rX HO381.out))) (below_size (bX2 HB.out GE364.out GE365.out)))
 have n2_ := Aside0.mk (bbX BK364.out hb)
 have n3_ := Aside0.mk (bbX BK365.out hb)
 have n4_ := Aside0.mk (below_step (bX2 HB.out GE364.out GE365.out) hb)
 clear HO381 BK364 BK365 HB
 have HO381 := n0_
 have HO375 := n1_
 have BK364 := n2_
 have BK365 := n3_
 have HB := n4_
 clear n0_ n1_ n2_ n3_ n4_ hb ho17
 refine hK.out _ _ ⟨cz30 BK364.out, cz31 BK364.out, cz32 BK364.out⟩ (fun hHeld => ?_)
 clear hK K
 refine norm_ (a' := ?_) ?_ ?_
 rotate_left
 {
 show Act.put _ (some 17) _ = _
 simp only [Act.put, zA, zB, zC, i64_w, i32_w]
 rfl
 }
 exact nX (hJ4_8 (v374, v380) _ ⟨hHeld, (rM HO375.out (fun _ hk => hk.2)), (rM HO381.out (fun _ hk => hk.2)), (kX BK364.out), (kX BK365.out), (bX2 HB.out GE364.out GE365.out)⟩)
 }
 {
 skip
 refine box_step ?hg (N := 5) ?hd (cs := #[.slice none 0 0, .slice none 0 0, .slice none 0 0]) (t := 26) ?hr ?_; (case hd => rfl); (case hg => rfl); (case hr => first | (go_simp; done) | (go_simp; rfl))
 intro gb385 hg w16 hbox hb
 have n0_ := Aside0.mk (Kd.R_below (rX HO381.out) hb)
 have n1_ := Aside0.mk (bbX BK364.out hb)
 have n2_ := Aside0.mk (bbX BK365.out hb)
 have n3_ := Aside0.mk (below_step (bX2 HB.out GE364.out GE365.out) hb)
 have n4_ := Aside0.mk (hbox)
 have n5_ := Aside0.mk ((szX (below_size (bX2 HB.out GE364.out GE365.out)) hg : w.heap.size ≤ gb385))
 have n6_ := Aside0.mk ((szX (below_size (bX2 HB.out GE364.out GE365.out)) hg : w.heap.size ≤ gb385))
 have n7_ := Aside0.mk (neX BK364.out hg)
 have n8_ := Aside0.mk (nfX BK364.out hg)
 have n9_ := Aside0.mk (neX BK365.out hg)
 have n10_ := Aside0.mk (nfX BK365.out hg)
 clear HO381 BK364 BK365 HB
 have HO381 := n0_
 have BK364 := n1_
 have BK365 := n2_
 have HB := n3_
 have BK385 := n4_
 have GW385 := n5_
 have GE385 := n6_
 have NB364_385 := n7_
 have NB385_364 := n8_
 have NB365_385 := n9_
 have NB385_365 := n10_
 clear n0_ n1_ n2_ n3_ n4_ n5_ n6_ n7_ n8_ n9_ n10_ hb hbox hg
 refine hK.out _ _ ⟨cz30 BK364.out, cz31 BK364.out, cz32 BK364.out⟩ (fun hHeld => ?_)
 clear hK K
 refine norm_ (a' := ?_) ?_ ?_
 rotate_left
 {
 show Act.put _ (some 5) _ = _
 simp only [Act.put, zA, zB, zC, i64_w, i32_w]
 rfl
 }
 exact nX (hJ8_13 (v380, gb385) _ ⟨hHeld, (rX HO381.out), (kX BK364.out), (kX BK365.out), (kX BK385.out), GW385.out, GE385.out, NB364_385.out, NB385_364.out, NB365_385.out, NB385_365.out, (bX3 HB.out GE364.out GE365.out GE385.out)⟩)
 }
 }
 }
 {
 skip
 rintro v374 w15 ⟨hS_, h0_, h1_, h2_, h3_⟩
 have n0_ : Aside0 (Kd.R (Kd.int .i64) 3 w15 w.heap.size (fun _ => True) v374 y373) := ⟨h0_⟩
 have n1_ : Aside0 (w15.heap[gb364]? = some (.cells #[.slice A0_0 l0_0.length c0_0, .slice A0_1 l0_1.length c0_1, .slice A0_2 l0_2.length c0_2] 26 (0, 0))) := ⟨h1_⟩
 have n2_ : Aside0 (w15.heap[gb365]? = some (.cells #[.slice none 0 0, .slice none 0 0, .slice none 0 0] 26 (0, 0))) := ⟨h2_⟩
 have n3_ : Aside0 (Below w.heap.size w w15) := ⟨h3_⟩
 clear BK364 BK365 HB h0_ h1_ h2_ h3_
 have HO375 := n0_
 have BK364 := n1_
 have BK365 := n2_
 have HB := n3_
 clear n0_ n1_ n2_ n3_
 have hHeld : w15.cell? ⟨gb364, 0, none⟩ = some (.slice A0_0 l0_0.length c0_0) ∧ w15.cell? ⟨gb364, 1, none⟩ = some (.slice A0_1 l0_1.length c0_1) ∧ w15.cell? ⟨gb364, 2, none⟩ = some (.slice A0_2 l0_2.length c0_2) := hS_
 refine norm_ (a' := ?_) ?_ ?_
 rotate_left
 {
 simp only [putAll, Act.put, List.setIfInBounds_toArray, List.set_cons_zero, List.set_cons_succ]
 rfl
 }
 refine three_ (i := 0) (j := 8) (k := 13) (Ni := some 13) (Nj := some 21) (Nk := some 5) #[tt,tt,tt,ff,tt,tt,tt,ff,ff,tt,tt,ff,ff,ff,ff] #[ff,tt,tt,ff,tt,tt,tt,ff,tt,tt,tt,ff,ff,ff,ff] #[ff,tt,tt,ff,tt,tt,tt,ff,ff,tt,tt,ff,ff,tt,ff] rfl rfl rfl rfl rfl rfl (three_of HT_.out (by kernel_rfl)) (by decide) (by decide) (by decide) (fun K hK => ?_) (fun K hK => ?_) (fun K hK => ?_)
 {
 skip
 refine Kd.R_lit_step (Kd.int .i64) _ 3 ?hg (N := 13) ?hd (xs := ([] : List Int)) (inner := []) (ok := fun _ => True) (okp := fun _ => True) ?hr ?hp (fun _ hk => hk) trivial (Below.refl _ _) (Nat.le_refl _) (by simp) ?_; (case hd => rfl); (case hg => rfl); (case hr => first | (go_simp; done) | (go_simp; rfl)); (case hp => exact (Reps.none _ _))
 intro v368 w16 ho17 hb hg_ hnew_
 clear hg_ hnew_
 (first | rw [← Ny367.out] at ho17 | (simp only [Int.reduceToNat] at ho17; rw [← Ny367.out] at ho17))
 have n0_ := Aside0.mk (Kd.R_elder' (rX HO375.out) (Kd.R_base ho17) hb)
 have n1_ := Aside0.mk (Kd.R_lower (Kd.R_new' ho17 (Kd.R_lt (rX HO375.out))) (below_size (bX2 HB.out GE364.out GE365.out)))
 have n2_ := Aside0.mk (bbX BK364.out hb)
 have n3_ := Aside0.mk (bbX BK365.out hb)
 have n4_ := Aside0.mk (below_step (bX2 HB.out GE364.out GE365.out) hb)
 clear HO375 BK364 BK365 HB
 have HO375 := n0_
 have HO369 := n1_
 have BK364 := n2_
 have BK365 := n3_
 have HB := n4_
 clear n0_ n1_ n2_ n3_ n4_ hb ho17
 refine hK.out _ _ ⟨cz30 BK364.out, cz31 BK364.out, cz32 BK364.out⟩ (fun hHeld => ?_)
 clear hK K
 refine norm_ (a' := ?_) ?_ ?_
 rotate_left
 {
 show Act.put _ (some 13) _ = _
 simp only [Act.put, zA, zB, zC, i64_w, i32_w]
 rfl
 }
 exact nX (hJ0_4 (v368, v374) _ ⟨hHeld, (rM HO369.out (fun _ hk => hk.2)), (rM HO375.out (fun _ hk => hk.2)), (kX BK364.out), (kX BK365.out), (bX2 HB.out GE364.out GE365.out)⟩)
 }
 {
 skip
 refine Kd.R_lit_step (Kd.int .i64) _ 3 ?hg (N := 21) ?hd (xs := ([] : List Int)) (inner := []) (ok := fun _ => True) (okp := fun _ => True) ?hr ?hp (fun _ hk => hk) trivial (Below.refl _ _) (Nat.le_refl _) (by simp) ?_; (case hd => rfl); (case hg => rfl); (case hr => first | (go_simp; done) | (go_simp; rfl)); (case hp => exact (Reps.none _ _))
 intro v380 w16 ho17 hb hg_ hnew_
 clear hg_ hnew_
 (first | rw [← Ny379.out] at ho17 | (simp only [Int.reduceToNat] at ho17; rw [← Ny379.out] at ho17))
 have n0_ := Aside0.mk (Kd.R_elder' (rX HO375.out) (Kd.R_base ho17) hb)
 have n1_ := Aside0.mk (Kd.R_lower (Kd.R_new' ho17 (Kd.R_lt (rX HO375.out))) (below_size (bX2 HB.out GE364.out GE365.out)))
 have n2_ := Aside0.mk (bbX BK364.out hb)
 have n3_ := Aside0.mk (bbX BK365.out hb)
 have n4_ := Aside0.mk (below_step (bX2 HB.out GE364.out GE365.out) hb)
 clear HO375 BK364 BK365 HB
 have HO375 := n0_
 have HO381 := n1_
 have BK364 := n2_
 have BK365 := n3_
 have HB := n4_
 clear n0_ n1_ n2_ n3_ n4_ hb ho17
 refine hK.out _ _ ⟨cz30 BK364.out, cz31 BK364.out, cz32 BK364.out⟩ (fun hHeld => ?_)
 clear hK K
 refine norm_ (a' := ?_) ?_ ?_
 rotate_left
 {
 show Act.put _ (some 21) _ = _
 simp only [Act.put, zA, zB, zC, i64_w, i32_w]
 rfl
 }
 exact nX (hJ4_8 (v374, v380) _ ⟨hHeld, (rM HO375.out (fun _ hk => hk.2)), (rM HO381.out (fun _ hk => hk.2)), (kX BK364.out), (kX BK365.out), (bX2 HB.out GE364.out GE365.out)⟩)
 }
 {
 skip
 refine box_step ?hg (N := 5) ?hd (cs := #[.slice none 0 0, .slice none 0 0, .slice none 0 0]) (t := 26) ?hr ?_; (case hd => rfl); (case hg => rfl); (case hr => first | (go_simp; done) | (go_simp; rfl))
 intro gb385 hg w16 hbox hb
 have n0_ := Aside0.mk (Kd.R_below (rX HO375.out) hb)
 have n1_ := Aside0.mk (bbX BK364.out hb)
 have n2_ := Aside0.mk (bbX BK365.out hb)
 have n3_ := Aside0.mk (below_step (bX2 HB.out GE364.out GE365.out) hb)
 have n4_ := Aside0.mk (hbox)
 have n5_ := Aside0.mk ((szX (below_size (bX2 HB.out GE364.out GE365.out)) hg : w.heap.size ≤ gb385))
 have n6_ := Aside0.mk ((szX (below_size (bX2 HB.out GE364.out GE365.out)) hg : w.heap.size ≤ gb385))
 have n7_ := Aside0.mk (neX BK364.out hg)
 have n8_ := Aside0.mk (nfX BK364.out hg)
 have n9_ := Aside0.mk (neX BK365.out hg)
 have n10_ := Aside0.mk (nfX BK365.out hg)
 clear HO375 BK364 BK365 HB
 have HO375 := n0_
 have BK364 := n1_
 have BK365 := n2_
 have HB := n3_
 have BK385 := n4_
 have GW385 := n5_
 have GE385 := n6_
 have NB364_385 := n7_
 have NB385_364 := n8_
 have NB365_385 := n9_
 have NB385_365 := n10_
 clear n0_ n1_ n2_ n3_ n4_ n5_ n6_ n7_ n8_ n9_ n10_ hb hbox hg
 refine hK.out _ _ ⟨cz30 BK364.out, cz31 BK364.out, cz32 BK364.out⟩ (fun hHeld => ?_)
 clear hK K
 refine norm_ (a' := ?_) ?_ ?_
 rotate_left
 {
 show Act.put _ (some 5) _ = _
 simp only [Act.put, zA, zB, zC, i64_w, i32_w]
 rfl
 }
 exact nX (hJ4_13 (v374, gb385) _ ⟨hHeld, (rX HO375.out), (kX BK364.out), (kX BK365.out), (kX BK385.out), GW385.out, GE385.out, NB364_385.out, NB385_364.out, NB365_385.out, NB385_365.out, (bX3 HB.out GE364.out GE365.out GE385.out)⟩)
 }
 }
 }
 {
 skip
 rintro v368 w15 ⟨hS_, h0_, h1_, h2_, h3_⟩
 have n0_ : Aside0 (Kd.R (Kd.int .i64) 3 w15 w.heap.size (fun _ => True) v368 y367) := ⟨h0_⟩
 have n1_ : Aside0 (w15.heap[gb364]? = some (.cells #[.slice A0_0 l0_0.length c0_0, .slice A0_1 l0_1.length c0_1, .slice A0_2 l0_2.length c0_2] 26 (0, 0))) := ⟨h1_⟩
 have n2_ : Aside0 (w15.heap[gb365]? = some (.cells #[.slice none 0 0, .slice none 0 0, .slice none 0 0] 26 (0, 0))) := ⟨h2_⟩
 have n3_ : Aside0 (Below w.heap.size w w15) := ⟨h3_⟩
 clear BK364 BK365 HB h0_ h1_ h2_ h3_
 have HO369 := n0_
 have BK364 := n1_
 have BK365 := n2_
 have HB := n3_
 clear n0_ n1_ n2_ n3_
 have hHeld : w15.cell? ⟨gb364, 0, none⟩ = some (.slice A0_0 l0_0.length c0_0) ∧ w15.cell? ⟨gb364, 1, none⟩ = some (.slice A0_1 l0_1.length c0_1) ∧ w15.cell? ⟨gb364, 2, none⟩ = some (.slice A0_2 l0_2.length c0_2) := hS_
 refine norm_ (a' := ?_) ?_ ?_
 rotate_left
 {
 simp only [putAll, Act.put, List.setIfInBounds_toArray, List.set_cons_zero, List.set_cons_succ]
 rfl
 }
 refine four_ (i := 3) (j := 4) (k := 8) (m := 13) (Ni := some 16) (Nj := some 17) (Nk := some 21) (Nm := some 5) #[tt,tt,tt,tt,ff,tt,tt,ff,ff,tt,tt,ff,ff,ff,ff] #[tt,tt,tt,ff,tt,tt,tt,ff,ff,tt,tt,ff,ff,ff,ff] #[tt,tt,tt,ff,ff,tt,tt,ff,tt,tt,tt,ff,ff,ff,ff] #[tt,tt,tt,ff,ff,tt,tt,ff,ff,tt,tt,ff,ff,tt,ff] rfl rfl rfl rfl rfl rfl rfl rfl (four_of HT_.out (by kernel_rfl)) (by decide) (by decide) (by decide) (by decide) (fun K hK => ?_) (fun K hK => ?_) (fun K hK => ?_) (fun K hK => ?_)
 {
 skip
 refine Kd.R_append_rows_step (Kd.int .i64) (w0 := w) w.heap.size (by rfl) (.tmp 13) (.tmp 15) 22 3 (.int .i64 0) 8 rfl Try.underlying22 info3 rfl (by decide) (by omega) v368 y367 l0_0 _ _ _ (fun _ => True) (fun _ => False) rfl rfl ?aO ?aR (fun _ _ h => h) (fun _ h => h.elim) ?aF ?aB ?aS ?aL ?_
 (case aR => exact cX (Kd.C_below HR0_0.out HB.out))
 (case aB => exact (bX2 HB.out GE364.out GE365.out))
 (case aF => exact (fun _ _ => trivial))
 (case aO => exact (rX HO369.out))
 (case aS => exact (below_size (bX2 HB.out GE364.out GE365.out)))
 (case aL => have := LMc4.out; omega)
 intro v371 w16 ho hb hg hat
 rw [← Ny370.out] at ho
 have n0_ := Aside0.mk (bgX BK364.out hg (Kd.R_ne HO369.out BK364.out (by decide)))
 have n1_ := Aside0.mk (bgX BK365.out hg (Kd.R_ne HO369.out BK365.out (by decide)))
 have n2_ := Aside0.mk (hb)
 have n3_ := Aside0.mk (ho)
 clear BK364 BK365 HB HO369
 have BK364 := n0_
 have BK365 := n1_
 have HB := n2_
 have HO372 := n3_
 clear n0_ n1_ n2_ n3_ ho hb hg hat
 refine hK.out _ _ ⟨cz30 BK364.out, cz31 BK364.out, cz32 BK364.out⟩ (fun hHeld => ?_)
 clear hK K
 refine norm_ (a' := ?_) ?_ ?_
 rotate_left
 {
 show Act.put _ (some 16) _ = _
 simp only [Act.put, zA, zB, zC, i64_w, i32_w]
 rfl
 }
 exact nX (hJ0_3 (v368, v371) _ ⟨hHeld, (rX HO372.out), (kX BK364.out), (kX BK365.out), (bX2 HB.out GE364.out GE365.out)⟩)
 }
 {
 skip
 refine Kd.R_lit_step (Kd.int .i64) _ 3 ?hg (N := 17) ?hd (xs := ([] : List Int)) (inner := []) (ok := fun _ => True) (okp := fun _ => True) ?hr ?hp (fun _ hk => hk) trivial (Below.refl _ _) (Nat.le_refl _) (by simp) ?_; (case hd => rfl); (case hg => rfl); (case hr => first | (go_simp; done) | (go_simp; rfl)); (case hp => exact (Reps.none _ _))
 intro v374 w16 ho17 hb hg_ hnew_
 clear hg_ hnew_
 (first | rw [← Ny373.out] at ho17 | (simp only [Int.reduceToNat] at ho17; rw [← Ny373.out] at ho17))
 have n0_ := Aside0.mk (Kd.R_elder' (rX HO369.out) (Kd.R_base ho17) hb)
 have n1_ := Aside0.mk (Kd.R_lower (Kd.R_new' ho17 (Kd.R_lt (rX HO369.out))) (below_size (bX2 HB.out GE364.out GE365.out)))
 have n2_ := Aside0.mk (bbX BK364.out hb)
 have n3_ := Aside0.mk (bbX BK365.out hb)
 have n4_ := Aside0.mk (below_step (bX2 HB.out GE364.out GE365.out) hb)
 clear HO369 BK364 BK365 HB
 have HO369 := n0_
 have HO375 := n1_
 have BK364 := n2_
 have BK365 := n3_
 have HB := n4_
 clear n0_ n1_ n2_ n3_ n4_ hb ho17
 refine hK.out _ _ ⟨cz30 BK364.out, cz31 BK364.out, cz32 BK364.out⟩ (fun hHeld => ?_)
 clear hK K
 refine norm_ (a' := ?_) ?_ ?_
 rotate_left
 {
 show Act.put _ (some 17) _ = _
 simp only [Act.put, zA, zB, zC, i64_w, i32_w]
 rfl
 }
 exact nX (hJ0_4 (v368, v374) _ ⟨hHeld, (rM HO369.out (fun _ hk => hk.2)), (rM HO375.out (fun _ hk => hk.2)), (kX BK364.out), (kX BK365.out), (bX2 HB.out GE364.out GE365.out)⟩)
 }
 {
 skip
 refine Kd.R_lit_step (Kd.int .i64) _ 3 ?hg (N := 21) ?hd (xs := ([] : List Int)) (inner := []) (ok := fun _ => True) (okp := fun _ => True) ?hr ?hp (fun _ hk => hk) trivial (Below.refl _ _) (Nat.le_refl _) (by simp) ?_; (case hd => rfl); (case hg => rfl); (case hr => first | (go_simp; done) | (go_simp; rfl)); (case hp => exact (Reps.none _ _))
 intro v380 w16 ho17 hb hg_ hnew_
 clear hg_ hnew_
 (first | rw [← Ny379.out] at ho17 | (simp only [Int.reduceToNat] at ho17; rw [← Ny379.out] at ho17))
 have n0_ := Aside0.mk (Kd.R_elder' (rX HO369.out) (Kd.R_base ho17) hb)
 have n1_ := Aside0.mk (Kd.R_lower (Kd.R_new' ho17 (Kd.R_lt (rX HO369.out))) (below_size (bX2 HB.out GE364.out GE365.out)))
 have n2_ := Aside0.mk (bbX BK364.out hb)
 have n3_ := Aside0.mk (bbX BK365.out hb)
 have n4_ := Aside0.mk (below_step (bX2 HB.out GE364.out GE365.out) hb)
 clear HO369 BK364 BK365 HB
 have HO369 := n0_
 have HO381 := n1_
 have BK364 := n2_
 have BK365 := n3_
 have HB := n4_
 clear n0_ n1_ n2_ n3_ n4_ hb ho17
 refine hK.out _ _ ⟨cz30 BK364.out, cz31 BK364.out, cz32 BK364.out⟩ (fun hHeld => ?_)
 clear hK K
 refine norm_ (a' := ?_) ?_ ?_
 rotate_left
 {
 show Act.put _ (some 21) _ = _
 simp only [Act.put, zA, zB, zC, i64_w, i32_w]
 rfl
 }
 exact nX (hJ0_8 (v368, v380) _ ⟨hHeld, (rM HO369.out (fun _ hk => hk.2)), (rM HO381.out (fun _ hk => hk.2)), (kX BK364.out), (kX BK365.out), (bX2 HB.out GE364.out GE365.out)⟩)
 }
 {
 skip
 refine box_step ?hg (N := 5) ?hd (cs := #[.slice none 0 0, .slice none 0 0, .slice none 0 0]) (t := 26) ?hr ?_; (case hd => rfl); (case hg => rfl); (case hr => first | (go_simp; done) | (go_simp; rfl))
 intro gb385 hg w16 hbox hb
 have n0_ := Aside0.mk (Kd.R_below (rX HO369.out) hb)
 have n1_ := Aside0.mk (bbX BK364.out hb)
 have n2_ := Aside0.mk (bbX BK365.out hb)
 have n3_ := Aside0.mk (below_step (bX2 HB.out GE364.out GE365.out) hb)
 have n4_ := Aside0.mk (hbox)
 have n5_ := Aside0.mk ((szX (below_size (bX2 HB.out GE364.out GE365.out)) hg : w.heap.size ≤ gb385))
 have n6_ := Aside0.mk ((szX (below_size (bX2 HB.out GE364.out GE365.out)) hg : w.heap.size ≤ gb385))
 have n7_ := Aside0.mk (neX BK364.out hg)
 have n8_ := Aside0.mk (nfX BK364.out hg)
 have n9_ := Aside0.mk (neX BK365.out hg)
 have n10_ := Aside0.mk (nfX BK365.out hg)
 clear HO369 BK364 BK365 HB
 have HO369 := n0_
 have BK364 := n1_
 have BK365 := n2_
 have HB := n3_
 have BK385 := n4_
 have GW385 := n5_
 have GE385 := n6_
 have NB364_385 := n7_
 have NB385_364 := n8_
 have NB365_385 := n9_
 have NB385_365 := n10_
 clear n0_ n1_ n2_ n3_ n4_ n5_ n6_ n7_ n8_ n9_ n10_ hb hbox hg
 refine hK.out _ _ ⟨cz30 BK364.out, cz31 BK364.out, cz32 BK364.out⟩ (fun hHeld => ?_)
 clear hK K
 refine norm_ (a' := ?_) ?_ ?_
 rotate_left
 {
 show Act.put _ (some 5) _ = _
 simp only [Act.put, zA, zB, zC, i64_w, i32_w]
 rfl
 }
 exact nX (hJ0_13 (v368, gb385) _ ⟨hHeld, (rX HO369.out), (kX BK364.out), (kX BK365.out), (kX BK385.out), GW385.out, GE385.out, NB364_385.out, NB385_364.out, NB365_385.out, NB385_365.out, (bX3 HB.out GE364.out GE365.out GE385.out)⟩)
 }
 }
 }
 {
 skip
 rintro ⟨v380, gb385⟩ w16 ⟨hS_, h0_, h1_, h2_, h3_, h4_, h5_, h6_, h7_, h8_, h9_, h10_⟩
 have n0_ : Aside0 (Kd.R (Kd.int .i64) 3 w16 w.heap.size (fun _ => True) v380 y379) := ⟨h0_⟩
 have n1_ : Aside0 (w16.heap[gb364]? = some (.cells #[.slice A0_0 l0_0.length c0_0, .slice A0_1 l0_1.length c0_1, .slice A0_2 l0_2.length c0_2] 26 (0, 0))) := ⟨h1_⟩
 have n2_ : Aside0 (w16.heap[gb365]? = some (.cells #[.slice none 0 0, .slice none 0 0, .slice none 0 0] 26 (0, 0))) := ⟨h2_⟩
 have n3_ : Aside0 (w16.heap[gb385]? = some (.cells #[.slice none 0 0, .slice none 0 0, .slice none 0 0] 26 (0, 0))) := ⟨h3_⟩
 have n4_ : Aside0 (w.heap.size ≤ gb385) := ⟨h4_⟩
 have n5_ : Aside0 (w.heap.size ≤ gb385) := ⟨h5_⟩
 have n6_ : Aside0 (gb364 ≠ gb385) := ⟨h6_⟩
 have n7_ : Aside0 (gb385 ≠ gb364) := ⟨h7_⟩
 have n8_ : Aside0 (gb365 ≠ gb385) := ⟨h8_⟩
 have n9_ : Aside0 (gb385 ≠ gb365) := ⟨h9_⟩
 have n10_ : Aside0 (Below w.heap.size w w16) := ⟨h10_⟩
 clear BK364 BK365 HB h0_ h1_ h2_ h3_ h4_ h5_ h6_ h7_ h8_ h9_ h10_
 have HO381 := n0_
 have BK364 := n1_
 have BK365 := n2_
 have BK385 := n3_
 have GW385 := n4_
 have GE385 := n5_
 have NB364_385 := n6_
 have NB385_364 := n7_
 have NB365_385 := n8_
 have NB385_365 := n9_
 have HB := n10_
 clear n0_ n1_ n2_ n3_ n4_ n5_ n6_ n7_ n8_ n9_ n10_
 have hHeld : w16.cell? ⟨gb364, 0, none⟩ = some (.slice A0_0 l0_0.length c0_0) ∧ w16.cell? ⟨gb364, 1, none⟩ = some (.slice A0_1 l0_1.length c0_1) ∧ w16.cell? ⟨gb364, 2, none⟩ = some (.slice A0_2 l0_2.length c0_2) := hS_
 refine norm_ (a' := ?_) ?_ ?_
 rotate_left
 {
 simp only [putAll, Act.put, List.setIfInBounds_toArray, List.set_cons_zero, List.set_cons_succ]
 rfl
 }
 refine two_ (i := 0) (j := 4) (Ni := some 13) (Nj := some 17) #[tt,tt,tt,ff,ff,tt,tt,ff,tt,tt,tt,ff,ff,tt,ff] #[ff,tt,tt,ff,tt,tt,tt,ff,tt,tt,tt,ff,ff,tt,ff] rfl rfl rfl rfl (two_of HT_.out (by kernel_rfl)) (by decide) (by decide) (fun K hK => ?_) (fun K hK => ?_)
 {
 skip
 refine Kd.R_lit_step (Kd.int .i64) _ 3 ?hg (N := 13) ?hd (xs := ([] : List Int)) (inner := []) (ok := fun _ => True) (okp := fun _ => True) ?hr ?hp (fun _ hk => hk) trivial (Below.refl _ _) (Nat.le_refl _) (by simp) ?_; (case hd => rfl); (case hg => rfl); (case hr => first | (go_simp; done) | (go_simp; rfl)); (case hp => exact (Reps.none _ _))
 intro v368 w17 ho18 hb hg_ hnew_
 clear hg_ hnew_
 (first | rw [← Ny367.out] at ho18 | (simp only [Int.reduceToNat] at ho18; rw [← Ny367.out] at ho18))
 have n0_ := Aside0.mk (Kd.R_elder' (rX HO381.out) (Kd.R_base ho18) hb)
 have n1_ := Aside0.mk (Kd.R_lower (Kd.R_new' ho18 (Kd.R_lt (rX HO381.out))) (below_size (bX3 HB.out GE364.out GE365.out GE385.out)))
 have n2_ := Aside0.mk (bbX BK364.out hb)
 have n3_ := Aside0.mk (bbX BK365.out hb)
 have n4_ := Aside0.mk (bbX BK385.out hb)
 have n5_ := Aside0.mk (below_step (bX3 HB.out GE364.out GE365.out GE385.out) hb)
 clear HO381 BK364 BK365 BK385 HB
 have HO381 := n0_
 have HO369 := n1_
 have BK364 := n2_
 have BK365 := n3_
 have BK385 := n4_
 have HB := n5_
 clear n0_ n1_ n2_ n3_ n4_ n5_ hb ho18
 refine hK.out _ _ ⟨cz30 BK364.out, cz31 BK364.out, cz32 BK364.out⟩ (fun hHeld => ?_)
 clear hK K
 refine norm_ (a' := ?_) ?_ ?_
 rotate_left
 {
 show Act.put _ (some 13) _ = _
 simp only [Act.put, zA, zB, zC, i64_w, i32_w]
 rfl
 }
 exact nX (hJ0_8_13 (v368, v380, gb385) _ ⟨hHeld, (rM HO369.out (fun _ hk => hk.2)), (rM HO381.out (fun _ hk => hk.2)), (kX BK364.out), (kX BK365.out), (kX BK385.out), GW385.out, GE385.out, NB364_385.out, NB385_364.out, NB365_385.out, NB385_365.out, (bX3 HB.out GE364.out GE365.out GE385.out)⟩)
 }
 {
 skip
 refine Kd.R_lit_step (Kd.int .i64) _ 3 ?hg (N := 17) ?hd (xs := ([] : List Int)) (inner := []) (ok := fun _ => True) (okp := fun _ => True) ?hr ?hp (fun _ hk => hk) trivial (Below.refl _ _) (Nat.le_refl _) (by simp) ?_; (case hd => rfl); (case hg => rfl); (case hr => first | (go_simp; done) | (go_simp; rfl)); (case hp => exact (Reps.none _ _))
 intro v374 w17 ho18 hb hg_ hnew_
 clear hg_ hnew_
 (first | rw [← Ny373.out] at ho18 | (simp only [Int.reduceToNat] at ho18; rw [← Ny373.out] at ho18))
 have n0_ := Aside0.mk (Kd.R_elder' (rX HO381.out) (Kd.R_base ho18) hb)
 have n1_ := Aside0.mk (Kd.R_lower (Kd.R_new' ho18 (Kd.R_lt (rX HO381.out))) (below_size (bX3 HB.out GE364.out GE365.out GE385.out)))
 have n2_ := Aside0.mk (bbX BK364.out hb)
 have n3_ := Aside0.mk (bbX BK365.out hb)
 have n4_ := Aside0.mk (bbX BK385.out hb)
 have n5_ := Aside0.mk (below_step (bX3 HB.out GE364.out GE365.out GE385.out) hb)
 clear HO381 BK364 BK365 BK385 HB
 have HO381 := n0_
 have HO375 := n1_
 have BK364 := n2_
 have BK365 := n3_
 have BK385 := n4_
 have HB := n5_
 clear n0_ n1_ n2_ n3_ n4_ n5_ hb ho18
 refine hK.out _ _ ⟨cz30 BK364.out, cz31 BK364.out, cz32 BK364.out⟩ (fun hHeld => ?_)
 clear hK K
 refine norm_ (a' := ?_) ?_ ?_
 rotate_left
 {
 show Act.put _ (some 17) _ = _
 simp only [Act.put, zA, zB, zC, i64_w, i32_w]
 rfl
 }
 exact nX (hJ4_8_13 (v374, v380, gb385) _ ⟨hHeld, (rM HO375.out (fun _ hk => hk.2)), (rM HO381.out (fun _ hk => hk.2)), (kX BK364.out), (kX BK365.out), (kX BK385.out), GW385.out, GE385.out, NB364_385.out, NB385_364.out, NB365_385.out, NB385_365.out, (bX3 HB.out GE364.out GE365.out GE385.out)⟩)
 }
 }
 }
 {
 skip
 rintro ⟨v374, gb385⟩ w16 ⟨hS_, h0_, h1_, h2_, h3_, h4_, h5_, h6_, h7_, h8_, h9_, h10_⟩
 have n0_ : Aside0 (Kd.R (Kd.int .i64) 3 w16 w.heap.size (fun _ => True) v374 y373) := ⟨h0_⟩
 have n1_ : Aside0 (w16.heap[gb364]? = some (.cells #[.slice A0_0 l0_0.length c0_0, .slice A0_1 l0_1.length c0_1, .slice A0_2 l0_2.length c0_2] 26 (0, 0))) := ⟨h1_⟩
 have n2_ : Aside0 (w16.heap[gb365]? = some (.cells #[.slice none 0 0, .slice none 0 0, .slice none 0 0] 26 (0, 0))) := ⟨h2_⟩
 have n3_ : Aside0 (w16.heap[gb385]? = some (.cells #[.slice none 0 0, .slice none 0 0, .slice none 0 0] 26 (0, 0))) := ⟨h3_⟩
 have n4_ : Aside0 (w.heap.size ≤ gb385) := ⟨h4_⟩
 have n5_ : Aside0 (w.heap.size ≤ gb385) := ⟨h5_⟩
 have n6_ : Aside0 (gb364 ≠ gb385) := ⟨h6_⟩
 have n7_ : Aside0 (gb385 ≠ gb364) := ⟨h7_⟩
 have n8_ : Aside0 (gb365 ≠ gb385) := ⟨h8_⟩
 have n9_ : Aside0 (gb385 ≠ gb365) := ⟨h9_⟩
 have n10_ : Aside0 (Below w.heap.size w w16) := ⟨h10_⟩
 clear BK364 BK365 HB h0_ h1_ h2_ h3_ h4_ h5_ h6_ h7_ h8_ h9_ h10_
 have HO375 := n0_
 have BK364 := n1_
 have BK365 := n2_
 have BK385 := n3_
 have GW385 := n4_
 have GE385 := n5_
 have NB364_385 := n6_
 have NB385_364 := n7_
 have NB365_385 := n8_
 have NB385_365 := n9_
 have HB := n10_
 clear n0_ n1_ n2_ n3_ n4_ n5_ n6_ n7_ n8_ n9_ n10_
 have hHeld : w16.cell? ⟨gb364, 0, none⟩ = some (.slice A0_0 l0_0.length c0_0) ∧ w16.cell? ⟨gb364, 1, none⟩ = some (.slice A0_1 l0_1.length c0_1) ∧ w16.cell? ⟨gb364, 2, none⟩ = some (.slice A0_2 l0_2.length c0_2) := hS_
 refine norm_ (a' := ?_) ?_ ?_
 rotate_left
 {
 simp only [putAll, Act.put, List.setIfInBounds_toArray, List.set_cons_zero, List.set_cons_succ]
 rfl
 }
 refine two_ (i := 0) (j := 8) (Ni := some 13) (Nj := some 21) #[tt,tt,tt,ff,tt,tt,tt,ff,ff,tt,tt,ff,ff,tt,ff] #[ff,tt,tt,ff,tt,tt,tt,ff,tt,tt,tt,ff,ff,tt,ff] rfl rfl rfl rfl (two_of HT_.out (by kernel_rfl)) (by decide) (by decide) (fun K hK => ?_) (fun K hK => ?_)
 {
 skip
 refine Kd.R_lit_step (Kd.int .i64) _ 3 ?hg (N := 13) ?hd (xs := ([] : List Int)) (inner := []) (ok := fun _ => True) (okp := fun _ => True) ?hr ?hp (fun _ hk => hk) trivial (Below.refl _ _) (Nat.le_refl _) (by simp) ?_; (case hd => rfl); (case hg => rfl); (case hr => first | (go_simp; done) | (go_simp; rfl)); (case hp => exact (Reps.none _ _))
 intro v368 w17 ho18 hb hg_ hnew_
 clear hg_ hnew_
 (first | rw [← Ny367.out] at ho18 | (simp only [Int.reduceToNat] at ho18; rw [← Ny367.out] at ho18))
 have n0_ := Aside0.mk (Kd.R_elder' (rX HO375.out) (Kd.R_base ho18) hb)
 have n1_ := Aside0.mk (Kd.R_lower (Kd.R_new' ho18 (Kd.R_lt (rX HO375.out))) (below_size (bX3 HB.out GE364.out GE365.out GE385.out)))
 have n2_ := Aside0.mk (bbX BK364.out hb)
 have n3_ := Aside0.mk (bbX BK365.out hb)
 have n4_ := Aside0.mk (bbX BK385.out hb)
 have n5_ := Aside0.mk (below_step (bX3 HB.out GE364.out GE365.out GE385.out) hb)
 clear HO375 BK364 BK365 BK385 HB
 have HO375 := n0_
 have HO369 := n1_
 have BK364 := n2_
 have BK365 := n3_
 have BK385 := n4_
 have HB := n5_
 clear n0_ n1_ n2_ n3_ n4_ n5_ hb ho18
 refine hK.out _ _ ⟨cz30 BK364.out, cz31 BK364.out, cz32 BK364.out⟩ (fun hHeld => ?_)
 clear hK K
 refine norm_ (a' := ?_) ?_ ?_
 rotate_left
 {
 show Act.put _ (some 13) _ = _
 simp only [Act.put, zA, zB, zC, i64_w, i32_w]
 rfl
 }
 exact nX (hJ0_4_13 (v368, v374, gb385) _ ⟨hHeld, (rM HO369.out (fun _ hk => hk.2)), (rM HO375.out (fun _ hk => hk.2)), (kX BK364.out), (kX BK365.out), (kX BK385.out), GW385.out, GE385.out, NB364_385.out, NB385_364.out, NB365_385.out, NB385_365.out, (bX3 HB.out GE364.out GE365.out GE385.out)⟩)
 }
 {
 skip
 refine Kd.R_lit_step (Kd.int .i64) _ 3 ?hg (N := 21) ?hd (xs := ([] : List Int)) (inner := []) (ok := fun _ => True) (okp := fun _ => True) ?hr ?hp (fun _ hk => hk) trivial (Below.refl _ _) (Nat.le_refl _) (by simp) ?_; (case hd => rfl); (case hg => rfl); (case hr => first | (go_simp; done) | (go_simp; rfl)); (case hp => exact (Reps.none _ _))
 intro v380 w17 ho18 hb hg_ hnew_
 clear hg_ hnew_
 (first | rw [← Ny379.out] at ho18 | (simp only [Int.reduceToNat] at ho18; rw [← Ny379.out] at ho18))
 have n0_ := Aside0.mk (Kd.R_elder' (rX HO375.out) (Kd.R_base ho18) hb)
 have n1_ := Aside0.mk (Kd.R_lower (Kd.R_new' ho18 (Kd.R_lt (rX HO375.out))) (below_size (bX3 HB.out GE364.out GE365.out GE385.out)))
 have n2_ := Aside0.mk (bbX BK364.out hb)
 have n3_ := Aside0.mk (bbX BK365.out hb)
 have n4_ := Aside0.mk (bbX BK385.out hb)
 have n5_ := Aside0.mk (below_step (bX3 HB.out GE364.out GE365.out GE385.out) hb)
 clear HO375 BK364 BK365 BK385 HB
 have HO375 := n0_
 have HO381 := n1_
 have BK364 := n2_
 have BK365 := n3_
 have BK385 := n4_
 have HB := n5_
 clear n0_ n1_ n2_ n3_ n4_ n5_ hb ho18
 refine hK.out _ _ ⟨cz30 BK364.out, cz31 BK364.out, cz32 BK364.out⟩ (fun hHeld => ?_)
 clear hK K
 refine norm_ (a' := ?_) ?_ ?_
 rotate_left
 {
 show Act.put _ (some 21) _ = _
 simp only [Act.put, zA, zB, zC, i64_w, i32_w]
 rfl
 }
 exact nX (hJ4_8_13 (v374, v380, gb385) _ ⟨hHeld, (rM HO375.out (fun _ hk => hk.2)), (rM HO381.out (fun _ hk => hk.2)), (kX BK364.out), (kX BK365.out), (kX BK385.out), GW385.out, GE385.out, NB364_385.out, NB385_364.out, NB365_385.out, NB385_365.out, (bX3 HB.out GE364.out GE365.out GE385.out)⟩)
 }
 }
 }
 {
 skip
 rintro ⟨v374, v380⟩ w17 ⟨hS_, h0_, h1_, h2_, h3_, h4_⟩
 have n0_ : Aside0 (Kd.R (Kd.int .i64) 3 w17 w.heap.size (fun k_ => some k_ ≠ (v380 : Value).ownBlock) v374 y373) := ⟨h0_⟩
 have n1_ : Aside0 (Kd.R (Kd.int .i64) 3 w17 w.heap.size (fun k_ => some k_ ≠ (v374 : Value).ownBlock) v380 y379) := ⟨h1_⟩
 have n2_ : Aside0 (w17.heap[gb364]? = some (.cells #[.slice A0_0 l0_0.length c0_0, .slice A0_1 l0_1.length c0_1, .slice A0_2 l0_2.length c0_2] 26 (0, 0))) := ⟨h2_⟩
 have n3_ : Aside0 (w17.heap[gb365]? = some (.cells #[.slice none 0 0, .slice none 0 0, .slice none 0 0] 26 (0, 0))) := ⟨h3_⟩
 have n4_ : Aside0 (Below w.heap.size w w17) := ⟨h4_⟩
 clear BK364 BK365 HB h0_ h1_ h2_ h3_ h4_
 have HO375 := n0_
 have HO381 := n1_
 have BK364 := n2_
 have BK365 := n3_
 have HB := n4_
 clear n0_ n1_ n2_ n3_ n4_
 have hHeld : w17.cell? ⟨gb364, 0, none⟩ = some (.slice A0_0 l0_0.length c0_0) ∧ w17.cell? ⟨gb364, 1, none⟩ = some (.slice A0_1 l0_1.length c0_1) ∧ w17.cell? ⟨gb364, 2, none⟩ = some (.slice A0_2 l0_2.length c0_2) := hS_
 refine norm_ (a' := ?_) ?_ ?_
 rotate_left
 {
 simp only [putAll, Act.put, List.setIfInBounds_toArray, List.set_cons_zero, List.set_cons_succ]
 rfl
 }
 refine two_ (i := 0) (j := 13) (Ni := some 13) (Nj := some 5) #[tt,tt,tt,ff,tt,tt,tt,ff,tt,tt,tt,ff,ff,ff,ff] #[ff,tt,tt,ff,tt,tt,tt,ff,tt,tt,tt,ff,ff,tt,ff] rfl rfl rfl rfl (two_of HT_.out (by kernel_rfl)) (by decide) (by decide) (fun K hK => ?_) (fun K hK => ?_)
 {
 skip
 refine Kd.R_lit_step (Kd.int .i64) _ 3 ?hg (N := 13) ?hd (xs := ([] : List Int)) (inner := []) (ok := fun _ => True) (okp := fun _ => True) ?hr ?hp (fun _ hk => hk) trivial (Below.refl _ _) (Nat.le_refl _) (by simp) ?_; (case hd => rfl); (case hg => rfl); (case hr => first | (go_simp; done) | (go_simp; rfl)); (case hp => exact (Reps.none _ _))
 intro v368 w18 ho19 hb hg_ hnew_
 clear hg_ hnew_
 (first | rw [← Ny367.out] at ho19 | (simp only [Int.reduceToNat] at ho19; rw [← Ny367.out] at ho19))
 have n0_ := Aside0.mk (Kd.R_elder' (rX HO375.out) (Kd.R_base ho19) hb)
 have n1_ := Aside0.mk (Kd.R_elder' (rX HO381.out) (Kd.R_base ho19) hb)
 have n2_ := Aside0.mk (Kd.R_lower (Kd.R_new' (Kd.R_new' ho19 (Kd.R_lt (rX HO375.out))) (Kd.R_lt (rX HO381.out))) (below_size (bX2 HB.out GE364.out GE365.out)))
 have n3_ := Aside0.mk (bbX BK364.out hb)
 have n4_ := Aside0.mk (bbX BK365.out hb)
 have n5_ := Aside0.mk (below_step (bX2 HB.out GE364.out GE365.out) hb)
 clear HO375 HO381 BK364 BK365 HB
 have HO375 := n0_
 have HO381 := n1_
 have HO369 := n2_
 have BK364 := n3_
 have BK365 := n4_
 have HB := n5_
 clear n0_ n1_ n2_ n3_ n4_ n5_ hb ho19
 refine hK.out _ _ ⟨cz30 BK364.out, cz31 BK364.out, cz32 BK364.out⟩ (fun hHeld => ?_)
 clear hK K
 refine norm_ (a' := ?_) ?_ ?_
 rotate_left
 {
 show Act.put _ (some 13) _ = _
 simp only [Act.put, zA, zB, zC, i64_w, i32_w]
 rfl
 }
 exact nX (hJ0_4_8 (v368, v374, v380) _ ⟨hHeld, (rM HO369.out (fun _ hk => ⟨hk.1.2, hk.2⟩)), (rM HO375.out (fun _ hk => ⟨hk.2, hk.1⟩)), (rM HO381.out (fun _ hk => ⟨hk.2, hk.1⟩)), (kX BK364.out), (kX BK365.out), (bX2 HB.out GE364.out GE365.out)⟩)
 }
 {
 skip
 refine box_step ?hg (N := 5) ?hd (cs := #[.slice none 0 0, .slice none 0 0, .slice none 0 0]) (t := 26) ?hr ?_; (case hd => rfl); (case hg => rfl); (case hr => first | (go_simp; done) | (go_simp; rfl))
 intro gb385 hg w18 hbox hb
 have n0_ := Aside0.mk (Kd.R_below (rX HO375.out) hb)
 have n1_ := Aside0.mk (Kd.R_below (rX HO381.out) hb)
 have n2_ := Aside0.mk (bbX BK364.out hb)
 have n3_ := Aside0.mk (bbX BK365.out hb)
 have n4_ := Aside0.mk (below_step (bX2 HB.out GE364.out GE365.out) hb)
 have n5_ := Aside0.mk (hbox)
 have n6_ := Aside0.mk ((szX (below_size (bX2 HB.out GE364.out GE365.out)) hg : w.heap.size ≤ gb385))
 have n7_ := Aside0.mk ((szX (below_size (bX2 HB.out GE364.out GE365.out)) hg : w.heap.size ≤ gb385))
 have n8_ := Aside0.mk (neX BK364.out hg)
 have n9_ := Aside0.mk (nfX BK364.out hg)
 have n10_ := Aside0.mk (neX BK365.out hg)
 have n11_ := Aside0.mk (nfX BK365.out hg)
 clear HO375 HO381 BK364 BK365 HB
 have HO375 := n0_
 have HO381 := n1_
 have BK364 := n2_
 have BK365 := n3_
 have HB := n4_
 have BK385 := n5_
 have GW385 := n6_
 have GE385 := n7_
 have NB364_385 := n8_
 have NB385_364 := n9_
 have NB365_385 := n10_
 have NB385_365 := n11_
 clear n0_ n1_ n2_ n3_ n4_ n5_ n6_ n7_ n8_ n9_ n10_ n11_ hb hbox hg
 refine hK.out _ _ ⟨cz30 BK364.out, cz31 BK364.out, cz32 BK364.out⟩ (fun hHeld => ?_)
 clear hK K
 refine norm_ (a' := ?_) ?_ ?_
 rotate_left
 {
 show Act.put _ (some 5) _ = _
 simp only [Act.put, zA, zB, zC, i64_w, i32_w]
 rfl
 }
 exact nX (hJ4_8_13 (v374, v380, gb385) _ ⟨hHeld, (rX HO375.out), (rX HO381.out), (kX BK364.out), (kX BK365.out), (kX BK385.out), GW385.out, GE385.out, NB364_385.out, NB385_364.out, NB365_385.out, NB385_365.out, (bX3 HB.out GE364.out GE365.out GE385.out)⟩)
 }
 }
 }
 {
 skip
 rintro ⟨v368, gb385⟩ w16 ⟨hS_, h0_, h1_, h2_, h3_, h4_, h5_, h6_, h7_, h8_, h9_, h10_⟩
 have n0_ : Aside0 (Kd.R (Kd.int .i64) 3 w16 w.heap.size (fun _ => True) v368 y367) := ⟨h0_⟩
 have n1_ : Aside0 (w16.heap[gb364]? = some (.cells #[.slice A0_0 l0_0.length c0_0, .slice A0_1 l0_1.length c0_1, .slice A0_2 l0_2.length c0_2] 26 (0, 0))) := ⟨h1_⟩
 have n2_ : Aside0 (w16.heap[gb365]? = some (.cells #[.slice none 0 0, .slice none 0 0, .slice none 0 0] 26 (0, 0))) := ⟨h2_⟩
 have n3_ : Aside0 (w16.heap[gb385]? = some (.cells #[.slice none 0 0, .slice none 0 0, .slice none 0 0] 26 (0, 0))) := ⟨h3_⟩
 have n4_ : Aside0 (w.heap.size ≤ gb385) := ⟨h4_⟩
 have n5_ : Aside0 (w.heap.size ≤ gb385) := ⟨h5_⟩
 have n6_ : Aside0 (gb364 ≠ gb385) := ⟨h6_⟩
 have n7_ : Aside0 (gb385 ≠ gb364) := ⟨h7_⟩
 have n8_ : Aside0 (gb365 ≠ gb385) := ⟨h8_⟩
 have n9_ : Aside0 (gb385 ≠ gb365) := ⟨h9_⟩
 have n10_ : Aside0 (Below w.heap.size w w16) := ⟨h10_⟩
 clear BK364 BK365 HB h0_ h1_ h2_ h3_ h4_ h5_ h6_ h7_ h8_ h9_ h10_
 have HO369 := n0_
 have BK364 := n1_
 have BK365 := n2_
 have BK385 := n3_
 have GW385 := n4_
 have GE385 := n5_
 have NB364_385 := n6_
 have NB385_364 := n7_
 have NB365_385 := n8_
 have NB385_365 := n9_
 have HB := n10_
 clear n0_ n1_ n2_ n3_ n4_ n5_ n6_ n7_ n8_ n9_ n10_
 have hHeld : w16.cell? ⟨gb364, 0, none⟩ = some (.slice A0_0 l0_0.length c0_0) ∧ w16.cell? ⟨gb364, 1, none⟩ = some (.slice A0_1 l0_1.length c0_1) ∧ w16.cell? ⟨gb364, 2, none⟩ = some (.slice A0_2 l0_2.length c0_2) := hS_
 refine norm_ (a' := ?_) ?_ ?_
 rotate_left
 {
 simp only [putAll, Act.put, List.setIfInBounds_toArray, List.set_cons_zero, List.set_cons_succ]
 rfl
 }
 refine three_ (i := 3) (j := 4) (k := 8) (Ni := some 16) (Nj := some 17) (Nk := some 21) #[tt,tt,tt,tt,ff,tt,tt,ff,ff,tt,tt,ff,ff,tt,ff] #[tt,tt,tt,ff,tt,tt,tt,ff,ff,tt,tt,ff,ff,tt,ff] #[tt,tt,tt,ff,ff,tt,tt,ff,tt,tt,tt,ff,ff,tt,ff] rfl rfl rfl rfl rfl rfl (three_of HT_.out (by kernel_rfl)) (by decide) (by decide) (by decide) (fun K hK => ?_) (fun K hK => ?_) (fun K hK => ?_)
 {
 skip
 refine Kd.R_append_rows_step (Kd.int .i64) (w0 := w) w.heap.size (by rfl) (.tmp 13) (.tmp 15) 22 3 (.int .i64 0) 8 rfl Try.underlying22 info3 rfl (by decide) (by omega) v368 y367 l0_0 _ _ _ (fun _ => True) (fun _ => False) rfl rfl ?aO ?aR (fun _ _ h => h) (fun _ h => h.elim) ?aF ?aB ?aS ?aL ?_
 (case aR => exact cX (Kd.C_below HR0_0.out HB.out))
 (case aB => exact (bX3 HB.out GE364.out GE365.out GE385.out))
 (case aF => exact (fun _ _ => trivial))
 (case aO => exact (rX HO369.out))
 (case aS => exact (below_size (bX3 HB.out GE364.out GE365.out GE385.out)))
 (case aL => have := LMc4.out; omega)
 intro v371 w17 ho hb hg hat
 rw [← Ny370.out] at ho
 have n0_ := Aside0.mk (bgX BK364.out hg (Kd.R_ne HO369.out BK364.out (by decide)))
 have n1_ := Aside0.mk (bgX BK365.out hg (Kd.R_ne HO369.out BK365.out (by decide)))
 have n2_ := Aside0.mk (bgX BK385.out hg (Kd.R_ne HO369.out BK385.out (by decide)))
 have n3_ := Aside0.mk (hb)
 have n4_ := Aside0.mk (ho)
 clear BK364 BK365 BK385 HB HO369
 have BK364 := n0_
 have BK365 := n1_
 have BK385 := n2_
 have HB := n3_
 have HO372 := n4_
 clear n0_ n1_ n2_ n3_ n4_ ho hb hg hat
 refine hK.out _ _ ⟨cz30 BK364.out, cz31 BK364.out, cz32 BK364.out⟩ (fun hHeld => ?_)
 clear hK K
 refine norm_ (a' := ?_) ?_ ?_
 rotate_left
 {
 show Act.put _ (some 16) _ = _
 simp only [Act.put, zA, zB, zC, i64_w, i32_w]
 rfl
 }
 exact nX (hJ0_3_13 (v368, v371, gb385) _ ⟨hHeld, (rX HO372.out), (kX BK364.out), (kX BK365.out), (kX BK385.out), GW385.out, GE385.out, NB364_385.out, NB385_364.out, NB365_385.out, NB385_365.out, (bX3 HB.out GE364.out GE365.out GE385.out)⟩)
 }
 {
 skip
 refine Kd.R_lit_step (Kd.int .i64) _ 3 ?hg (N := 17) ?hd (xs := ([] : List Int)) (inner := []) (ok := fun _ => True) (okp := fun _ => True) ?hr ?hp (fun _ hk => hk) trivial (Below.refl _ _) (Nat.le_refl _) (by simp) ?_; (case hd => rfl); (case hg => rfl); (case hr => first | (go_simp; done) | (go_simp; rfl)); (case hp => exact (Reps.none _ _))
 intro v374 w17 ho18 hb hg_ hnew_
 clear hg_ hnew_
 (first | rw [← Ny373.out] at ho18 | (simp only [Int.reduceToNat] at ho18; rw [← Ny373.out] at ho18))
 have n0_ := Aside0.mk (Kd.R_elder' (rX HO369.out) (Kd.R_base ho18) hb)
 have n1_ := Aside0.mk (Kd.R_lower (Kd.R_new' ho18 (Kd.R_lt (rX HO369.out))) (below_size (bX3 HB.out GE364.out GE365.out GE385.out)))
 have n2_ := Aside0.mk (bbX BK364.out hb)
 have n3_ := Aside0.mk (bbX BK365.out hb)
 have n4_ := Aside0.mk (bbX BK385.out hb)
 have n5_ := Aside0.mk (below_step (bX3 HB.out GE364.out GE365.out GE385.out) hb)
 clear HO369 BK364 BK365 BK385 HB
 have HO369 := n0_
 have HO375 := n1_
 have BK364 := n2_
 have BK365 := n3_
 have BK385 := n4_
 have HB := n5_
 clear n0_ n1_ n2_ n3_ n4_ n5_ hb ho18
 refine hK.out _ _ ⟨cz30 BK364.out, cz31 BK364.out, cz32 BK364.out⟩ (fun hHeld => ?_)
 clear hK K
 refine norm_ (a' := ?_) ?_ ?_
 rotate_left
 {
 show Act.put _ (some 17) _ = _
 simp only [Act.put, zA, zB, zC, i64_w, i32_w]
 rfl
 }
 exact nX (hJ0_4_13 (v368, v374, gb385) _ ⟨hHeld, (rM HO369.out (fun _ hk => hk.2)), (rM HO375.out (fun _ hk => hk.2)), (kX BK364.out), (kX BK365.out), (kX BK385.out), GW385.out, GE385.out, NB364_385.out, NB385_364.out, NB365_385.out, NB385_365.out, (bX3 HB.out GE364.out GE365.out GE385.out)⟩)
 }
 {
 skip
 refine Kd.R_lit_step (Kd.int .i64) _ 3 ?hg (N := 21) ?hd (xs := ([] : List Int)) (inner := []) (ok := fun _ => True) (okp := fun _ => True) ?hr ?hp (fun _ hk => hk) trivial (Below.refl _ _) (Nat.le_refl _) (by simp) ?_; (case hd => rfl); (case hg => rfl); (case hr => first | (go_simp; done) | (go_simp; rfl)); (case hp => exact (Reps.none _ _))
 intro v380 w17 ho18 hb hg_ hnew_
 clear hg_ hnew_
 (first | rw [← Ny379.out] at ho18 | (simp only [Int.reduceToNat] at ho18; rw [← Ny379.out] at ho18))
 have n0_ := Aside0.mk (Kd.R_elder' (rX HO369.out) (Kd.R_base ho18) hb)
 have n1_ := Aside0.mk (Kd.R_lower (Kd.R_new' ho18 (Kd.R_lt (rX HO369.out))) (below_size (bX3 HB.out GE364.out GE365.out GE385.out)))
 have n2_ := Aside0.mk (bbX BK364.out hb)
 have n3_ := Aside0.mk (bbX BK365.out hb)
 have n4_ := Aside0.mk (bbX BK385.out hb)
 have n5_ := Aside0.mk (below_step (bX3 HB.out GE364.out GE365.out GE385.out) hb)
 clear HO369 BK364 BK365 BK385 HB
 have HO369 := n0_
 have HO381 := n1_
 have BK364 := n2_
 have BK365 := n3_
 have BK385 := n4_
 have HB := n5_
 clear n0_ n1_ n2_ n3_ n4_ n5_ hb ho18
 refine hK.out _ _ ⟨cz30 BK364.out, cz31 BK364.out, cz32 BK364.out⟩ (fun hHeld => ?_)
 clear hK K
 refine norm_ (a' := ?_) ?_ ?_
 rotate_left
 {
 show Act.put _ (some 21) _ = _
 simp only [Act.put, zA, zB, zC, i64_w, i32_w]
 rfl
 }
 exact nX (hJ0_8_13 (v368, v380, gb385) _ ⟨hHeld, (rM HO369.out (fun _ hk => hk.2)), (rM HO381.out (fun _ hk => hk.2)), (kX BK364.out), (kX BK365.out), (kX BK385.out), GW385.out, GE385.out, NB364_385.out, NB385_364.out, NB365_385.out, NB385_365.out, (bX3 HB.out GE364.out GE365.out GE385.out)⟩)
 }
 }
 }
 {
 skip
 rintro ⟨v368, v380⟩ w17 ⟨hS_, h0_, h1_, h2_, h3_, h4_⟩
 have n0_ : Aside0 (Kd.R (Kd.int .i64) 3 w17 w.heap.size (fun k_ => some k_ ≠ (v380 : Value).ownBlock) v368 y367) := ⟨h0_⟩
 have n1_ : Aside0 (Kd.R (Kd.int .i64) 3 w17 w.heap.size (fun k_ => some k_ ≠ (v368 : Value).ownBlock) v380 y379) := ⟨h1_⟩
 have n2_ : Aside0 (w17.heap[gb364]? = some (.cells #[.slice A0_0 l0_0.length c0_0, .slice A0_1 l0_1.length c0_1, .slice A0_2 l0_2.length c0_2] 26 (0, 0))) := ⟨h2_⟩
 have n3_ : Aside0 (w17.heap[gb365]? = some (.cells #[.slice none 0 0, .slice none 0 0, .slice none 0 0] 26 (0, 0))) := ⟨h3_⟩
 have n4_ : Aside0 (Below w.heap.size w w17) := ⟨h4_⟩
 clear BK364 BK365 HB h0_ h1_ h2_ h3_ h4_
 have HO369 := n0_
 have HO381 := n1_
 have BK364 := n2_
 have BK365 := n3_
 have HB := n4_
 clear n0_ n1_ n2_ n3_ n4_
 have hHeld : w17.cell? ⟨gb364, 0, none⟩ = some (.slice A0_0 l0_0.length c0_0) ∧ w17.cell? ⟨gb364, 1, none⟩ = some (.slice A0_1 l0_1.length c0_1) ∧ w17.cell? ⟨gb364, 2, none⟩ = some (.slice A0_2 l0_2.length c0_2) := hS_
 refine norm_ (a' := ?_) ?_ ?_
 rotate_left
 {
 simp only [putAll, Act.put, List.setIfInBounds_toArray, List.set_cons_zero, List.set_cons_succ]
 rfl
 }
 refine three_ (i := 3) (j := 4) (k := 13) (Ni := some 16) (Nj := some 17) (Nk := some 5) #[tt,tt,tt,tt,ff,tt,tt,ff,tt,tt,tt,ff,ff,ff,ff] #[tt,tt,tt,ff,tt,tt,tt,ff,tt,tt,tt,ff,ff,ff,ff] #[tt,tt,tt,ff,ff,tt,tt,ff,tt,tt,tt,ff,ff,tt,ff] rfl rfl rfl rfl rfl rfl (three_of HT_.out (by kernel_rfl)) (by decide) (by decide) (by decide) (fun K hK => ?_) (fun K hK => ?_) (fun K hK => ?_)
 {
 skip
 refine Kd.R_append_rows_step (Kd.int .i64) (w0 := w) w.heap.size (by rfl) (.tmp 13) (.tmp 15) 22 3 (.int .i64 0) 8 rfl Try.underlying22 info3 rfl (by decide) (by omega) v368 y367 l0_0 _ _ _ (fun k_ => some k_ ≠ (v380 : Value).ownBlock) (fun _ => False) rfl rfl ?aO ?aR (fun _ _ h => h) (fun _ h => h.elim) ?aF ?aB ?aS ?aL ?_
 (case aR => exact cX (Kd.C_below HR0_0.out HB.out))
 (case aB => exact (bX2 HB.out GE364.out GE365.out))
 (case aF => exact (fun k_ hk => Kd.fresh' (Kd.R_lt (rX HO381.out)) k_ hk))
 (case aO => exact (rX HO369.out))
 (case aS => exact (below_size (bX2 HB.out GE364.out GE365.out)))
 (case aL => have := LMc4.out; omega)
 intro v371 w18 ho hb hg hat
 rw [← Ny370.out] at ho
 have n0_ := Aside0.mk (bgX BK364.out hg (Kd.R_ne HO369.out BK364.out (by decide)))
 have n1_ := Aside0.mk (bgX BK365.out hg (Kd.R_ne HO369.out BK365.out (by decide)))
 have n2_ := Aside0.mk (Kd.R_after (ok := (fun _ => True)) (rM HO381.out (fun _ hk => ⟨trivial, hk⟩)) hg hat)
 have n3_ := Aside0.mk (hb)
 have n4_ := Aside0.mk (ho)
 clear BK364 BK365 HO381 HB HO369
 have BK364 := n0_
 have BK365 := n1_
 have HO381 := n2_
 have HB := n3_
 have HO372 := n4_
 clear n0_ n1_ n2_ n3_ n4_ ho hb hg hat
 refine hK.out _ _ ⟨cz30 BK364.out, cz31 BK364.out, cz32 BK364.out⟩ (fun hHeld => ?_)
 clear hK K
 refine norm_ (a' := ?_) ?_ ?_
 rotate_left
 {
 show Act.put _ (some 16) _ = _
 simp only [Act.put, zA, zB, zC, i64_w, i32_w]
 rfl
 }
 exact nX (hJ0_3_8 (v368, v371, v380) _ ⟨hHeld, (rX HO372.out), (rM HO381.out (fun _ hk => hk.2)), (kX BK364.out), (kX BK365.out), (bX2 HB.out GE364.out GE365.out)⟩)
 }
 {
 skip
 refine Kd.R_lit_step (Kd.int .i64) _ 3 ?hg (N := 17) ?hd (xs := ([] : List Int)) (inner := []) (ok := fun _ => True) (okp := fun _ => True) ?hr ?hp (fun _ hk => hk) trivial (Below.refl _ _) (Nat.le_refl _) (by simp) ?_; (case hd => rfl); (case hg => rfl); (case hr => first | (go_simp; done) | (go_simp; rfl)); (case hp => exact (Reps.none _ _))
 intro v374 w18 ho19 hb hg_ hnew_
 clear hg_ hnew_
 (first | rw [← Ny373.out] at ho19 | (simp only [Int.reduceToNat] at ho19; rw [← Ny373.out] at ho19))
 have n0_ := Aside0.mk (Kd.R_elder' (rX HO369.out) (Kd.R_base ho19) hb)
 have n1_ := Aside0.mk (Kd.R_elder' (rX HO381.out) (Kd.R_base ho19) hb)
 have n2_ := Aside0.mk (Kd.R_lower (Kd.R_new' (Kd.R_new' ho19 (Kd.R_lt (rX HO369.out))) (Kd.R_lt (rX HO381.out))) (below_size (bX2 HB.out GE364.out GE365.out)))
 have n3_ := Aside0.mk (bbX BK364.out hb)
 have n4_ := Aside0.mk (bbX BK365.out hb)
 have n5_ := Aside0.mk (below_step (bX2 HB.out GE364.out GE365.out) hb)
 clear HO369 HO381 BK364 BK365 HB
 have HO369 := n0_
 have HO381 := n1_
 have HO375 := n2_
 have BK364 := n3_
 have BK365 := n4_
 have HB := n5_
 clear n0_ n1_ n2_ n3_ n4_ n5_ hb ho19
 refine hK.out _ _ ⟨cz30 BK364.out, cz31 BK364.out, cz32 BK364.out⟩ (fun hHeld => ?_)
 clear hK K
 refine norm_ (a' := ?_) ?_ ?_
 rotate_left
 {
 show Act.put _ (some 17) _ = _
 simp only [Act.put, zA, zB, zC, i64_w, i32_w]
 rfl
 }
 exact nX (hJ0_4_8 (v368, v374, v380) _ ⟨hHeld, (rM HO369.out (fun _ hk => ⟨hk.2, hk.1⟩)), (rM HO375.out (fun _ hk => ⟨hk.1.2, hk.2⟩)), (rX HO381.out), (kX BK364.out), (kX BK365.out), (bX2 HB.out GE364.out GE365.out)⟩)
 }
 {
 skip
 refine box_step ?hg (N := 5) ?hd (cs := #[.slice none 0 0, .slice none 0 0, .slice none 0 0]) (t := 26) ?hr ?_; (case hd => rfl); (case hg => rfl); (case hr => first | (go_simp; done) | (go_simp; rfl))
 intro gb385 hg w18 hbox hb
 have n0_ := Aside0.mk (Kd.R_below (rX HO369.out) hb)
 have n1_ := Aside0.mk (Kd.R_below (rX HO381.out) hb)
 have n2_ := Aside0.mk (bbX BK364.out hb)
 have n3_ := Aside0.mk (bbX BK365.out hb)
 have n4_ := Aside0.mk (below_step (bX2 HB.out GE364.out GE365.out) hb)
 have n5_ := Aside0.mk (hbox)
 have n6_ := Aside0.mk ((szX (below_size (bX2 HB.out GE364.out GE365.out)) hg : w.heap.size ≤ gb385))
 have n7_ := Aside0.mk ((szX (below_size (bX2 HB.out GE364.out GE365.out)) hg : w.heap.size ≤ gb385))
 have n8_ := Aside0.mk (neX BK364.out hg)
 have n9_ := Aside0.mk (nfX BK364.out hg)
 have n10_ := Aside0.mk (neX BK365.out hg)
 have n11_ := Aside0.mk (nfX BK365.out hg)
 clear HO369 HO381 BK364 BK365 HB
 have HO369 := n0_
 have HO381 := n1_
 have BK364 := n2_
 have BK365 := n3_
 have HB := n4_
 have BK385 := n5_
 have GW385 := n6_
 have GE385 := n7_
 have NB364_385 := n8_
 have NB385_364 := n9_
 have NB365_385 := n10_
 have NB385_365 := n11_
 clear n0_ n1_ n2_ n3_ n4_ n5_ n6_ n7_ n8_ n9_ n10_ n11_ hb hbox hg
 refine hK.out _ _ ⟨cz30 BK364.out, cz31 BK364.out, cz32 BK364.out⟩ (fun hHeld => ?_)
 clear hK K
 refine norm_ (a' := ?_) ?_ ?_
 rotate_left
 {
 show Act.put _ (some 5) _ = _
 simp only [Act.put, zA, zB, zC, i64_w, i32_w]
 rfl
 }
 exact nX (hJ0_8_13 (v368, v380, gb385) _ ⟨hHeld, (rX HO369.out), (rX HO381.out), (kX BK364.out), (kX BK365.out), (kX BK385.out), GW385.out, GE385.out, NB364_385.out, NB385_364.out, NB365_385.out, NB385_365.out, (bX3 HB.out GE364.out GE365.out GE385.out)⟩)
 }
 }
 }
 {
 skip
 rintro ⟨v368, v374⟩ w17 ⟨hS_, h0_, h1_, h2_, h3_, h4_⟩
 have n0_ : Aside0 (Kd.R (Kd.int .i64) 3 w17 w.heap.size (fun k_ => some k_ ≠ (v374 : Value).ownBlock) v368 y367) := ⟨h0_⟩
 have n1_ : Aside0 (Kd.R (Kd.int .i64) 3 w17 w.heap.size (fun k_ => some k_ ≠ (v368 : Value).ownBlock) v374 y373) := ⟨h1_⟩
 have n2_ : Aside0 (w17.heap[gb364]? = some (.cells #[.slice A0_0 l0_0.length c0_0, .slice A0_1 l0_1.length c0_1, .slice A0_2 l0_2.length c0_2] 26 (0, 0))) := ⟨h2_⟩
 have n3_ : Aside0 (w17.heap[gb365]? = some (.cells #[.slice none 0 0, .slice none 0 0, .slice none 0 0] 26 (0, 0))) := ⟨h3_⟩
 have n4_ : Aside0 (Below w.heap.size w w17) := ⟨h4_⟩
 clear BK364 BK365 HB h0_ h1_ h2_ h3_ h4_
 have HO369 := n0_
 have HO375 := n1_
 have BK364 := n2_
 have BK365 := n3_
 have HB := n4_
 clear n0_ n1_ n2_ n3_ n4_
 have hHeld : w17.cell? ⟨gb364, 0, none⟩ = some (.slice A0_0 l0_0.length c0_0) ∧ w17.cell? ⟨gb364, 1, none⟩ = some (.slice A0_1 l0_1.length c0_1) ∧ w17.cell? ⟨gb364, 2, none⟩ = some (.slice A0_2 l0_2.length c0_2) := hS_
 refine norm_ (a' := ?_) ?_ ?_
 rotate_left
 {
 simp only [putAll, Act.put, List.setIfInBounds_toArray, List.set_cons_zero, List.set_cons_succ]
 rfl
 }
 refine three_ (i := 3) (j := 8) (k := 13) (Ni := some 16) (Nj := some 21) (Nk := some 5) #[tt,tt,tt,tt,tt,tt,tt,ff,ff,tt,tt,ff,ff,ff,ff] #[tt,tt,tt,ff,tt,tt,tt,ff,tt,tt,tt,ff,ff,ff,ff] #[tt,tt,tt,ff,tt,tt,tt,ff,ff,tt,tt,ff,ff,tt,ff] rfl rfl rfl rfl rfl rfl (three_of HT_.out (by kernel_rfl)) (by decide) (by decide) (by decide) (fun K hK => ?_) (fun K hK => ?_) (fun K hK => ?_)
 {
 skip
 refine Kd.R_append_rows_step (Kd.int .i64) (w0 := w) w.heap.size (by rfl) (.tmp 13) (.tmp 15) 22 3 (.int .i64 0) 8 rfl Try.underlying22 info3 rfl (by decide) (by omega) v368 y367 l0_0 _ _ _ (fun k_ => some k_ ≠ (v374 : Value).ownBlock) (fun _ => False) rfl rfl ?aO ?aR (fun _ _ h => h) (fun _ h => h.elim) ?aF ?aB ?aS ?aL ?_
 (case aR => exact cX (Kd.C_below HR0_0.out HB.out))
 (case aB => exact (bX2 HB.out GE364.out GE365.out))
 (case aF => exact (fun k_ hk => Kd.fresh' (Kd.R_lt (rX HO375.out)) k_ hk))
 (case aO => exact (rX HO369.out))
 (case aS => exact (below_size (bX2 HB.out GE364.out GE365.out)))
 (case aL => have := LMc4.out; omega)
 intro v371 w18 ho hb hg hat
 rw [← Ny370.out] at ho
 have n0_ := Aside0.mk (bgX BK364.out hg (Kd.R_ne HO369.out BK364.out (by decide)))
 have n1_ := Aside0.mk (bgX BK365.out hg (Kd.R_ne HO369.out BK365.out (by decide)))
 have n2_ := Aside0.mk (Kd.R_after (ok := (fun _ => True)) (rM HO375.out (fun _ hk => ⟨trivial, hk⟩)) hg hat)
 have n3_ := Aside0.mk (hb)
 have n4_ := Aside0.mk (ho)
 clear BK364 BK365 HO375 HB HO369
 have BK364 := n0_
 have BK365 := n1_
 have HO375 := n2_
 have HB := n3_
 have HO372 := n4_
 clear n0_ n1_ n2_ n3_ n4_ ho hb hg hat
 refine hK.out _ _ ⟨cz30 BK364.out, cz31 BK364.out, cz32 BK364.out⟩ (fun hHeld => ?_)
 clear hK K
 refine norm_ (a' := ?_) ?_ ?_
 rotate_left
 {
 show Act.put _ (some 16) _ = _
 simp only [Act.put, zA, zB, zC, i64_w, i32_w]
 rfl
 }
 exact nX (hJ0_3_4 (v368, v371, v374) _ ⟨hHeld, (rX HO372.out), (rM HO375.out (fun _ hk => hk.2)), (kX BK364.out), (kX BK365.out), (bX2 HB.out GE364.out GE365.out)⟩)
 }
 {
 skip
 refine Kd.R_lit_step (Kd.int .i64) _ 3 ?hg (N := 21) ?hd (xs := ([] : List Int)) (inner := []) (ok := fun _ => True) (okp := fun _ => True) ?hr ?hp (fun _ hk => hk) trivial (Below.refl _ _) (Nat.le_refl _) (by simp) ?_; (case hd => rfl); (case hg => rfl); (case hr => first | (go_simp; done) | (go_simp; rfl)); (case hp => exact (Reps.none _ _))
 intro v380 w18 ho19 hb hg_ hnew_
 clear hg_ hnew_
 (first | rw [← Ny379.out] at ho19 | (simp only [Int.reduceToNat] at ho19; rw [← Ny379.out] at ho19))
 have n0_ := Aside0.mk (Kd.R_elder' (rX HO369.out) (Kd.R_base ho19) hb)
 have n1_ := Aside0.mk (Kd.R_elder' (rX HO375.out) (Kd.R_base ho19) hb)
 have n2_ := Aside0.mk (Kd.R_lower (Kd.R_new' (Kd.R_new' ho19 (Kd.R_lt (rX HO369.out))) (Kd.R_lt (rX HO375.out))) (below_size (bX2 HB.out GE364.out GE365.out)))
 have n3_ := Aside0.mk (bbX BK364.out hb)
 have n4_ := Aside0.mk (bbX BK365.out hb)
 have n5_ := Aside0.mk (below_step (bX2 HB.out GE364.out GE365.out) hb)
 clear HO369 HO375 BK364 BK365 HB
 have HO369 := n0_
 have HO375 := n1_
 have HO381 := n2_
 have BK364 := n3_
 have BK365 := n4_
 have HB := n5_
 clear n0_ n1_ n2_ n3_ n4_ n5_ hb ho19
 refine hK.out _ _ ⟨cz30 BK364.out, cz31 BK364.out, cz32 BK364.out⟩ (fun hHeld => ?_)
 clear hK K
 refine norm_ (a' := ?_) ?_ ?_
 rotate_left
 {
 show Act.put _ (some 21) _ = _
 simp only [Act.put, zA, zB, zC, i64_w, i32_w]
 rfl
 }
 exact nX (hJ0_4_8 (v368, v374, v380) _ ⟨hHeld, (rX HO369.out), (rX HO375.out), (rM HO381.out (fun _ hk => ⟨hk.1.2, hk.2⟩)), (kX BK364.out), (kX BK365.out), (bX2 HB.out GE364.out GE365.out)⟩)
 }
 {
 skip
 refine box_step ?hg (N := 5) ?hd (cs := #[.slice none 0 0, .slice none 0 0, .slice none 0 0]) (t := 26) ?hr ?_; (case hd => rfl); (case hg => rfl); (case hr => first | (go_simp; done) | (go_simp; rfl))
 intro gb385 hg w18 hbox hb
 have n0_ := Aside0.mk (Kd.R_below (rX HO369.out) hb)
 have n1_ := Aside0.mk (Kd.R_below (rX HO375.out) hb)
 have n2_ := Aside0.mk (bbX BK364.out hb)
 have n3_ := Aside0.mk (bbX BK365.out hb)
 have n4_ := Aside0.mk (below_step (bX2 HB.out GE364.out GE365.out) hb)
 have n5_ := Aside0.mk (hbox)
 have n6_ := Aside0.mk ((szX (below_size (bX2 HB.out GE364.out GE365.out)) hg : w.heap.size ≤ gb385))
 have n7_ := Aside0.mk ((szX (below_size (bX2 HB.out GE364.out GE365.out)) hg : w.heap.size ≤ gb385))
 have n8_ := Aside0.mk (neX BK364.out hg)
 have n9_ := Aside0.mk (nfX BK364.out hg)
 have n10_ := Aside0.mk (neX BK365.out hg)
 have n11_ := Aside0.mk (nfX BK365.out hg)
 clear HO369 HO375 BK364 BK365 HB
 have HO369 := n0_
 have HO375 := n1_
 have BK364 := n2_
 have BK365 := n3_
 have HB := n4_
 have BK385 := n5_
 have GW385 := n6_
 have GE385 := n7_
 have NB364_385 := n8_
 have NB385_364 := n9_
 have NB365_385 := n10_
 have NB385_365 := n11_
 clear n0_ n1_ n2_ n3_ n4_ n5_ n6_ n7_ n8_ n9_ n10_ n11_ hb hbox hg
 refine hK.out _ _ ⟨cz30 BK364.out, cz31 BK364.out, cz32 BK364.out⟩ (fun hHeld => ?_)
 clear hK K
 refine norm_ (a' := ?_) ?_ ?_
 rotate_left
 {
 show Act.put _ (some 5) _ = _
 simp only [Act.put, zA, zB, zC, i64_w, i32_w]
 rfl
 }
 exact nX (hJ0_4_13 (v368, v374, gb385) _ ⟨hHeld, (rX HO369.out), (rX HO375.out), (kX BK364.out), (kX BK365.out), (kX BK385.out), GW385.out, GE385.out, NB364_385.out, NB385_364.out, NB365_385.out, NB385_365.out, (bX3 HB.out GE364.out GE365.out GE385.out)⟩)
 }
 }
 }
 {
 skip
 rintro ⟨v368, v371⟩ w16 ⟨hS_, h0_, h1_, h2_, h3_⟩
 have n0_ : Aside0 (Kd.R (Kd.int .i64) 3 w16 w.heap.size (fun _ => True) v371 y370) := ⟨h0_⟩
 have n1_ : Aside0 (w16.heap[gb364]? = some (.cells #[.slice A0_0 l0_0.length c0_0, .slice A0_1 l0_1.length c0_1, .slice A0_2 l0_2.length c0_2] 26 (0, 0))) := ⟨h1_⟩
 have n2_ : Aside0 (w16.heap[gb365]? = some (.cells #[.slice none 0 0, .slice none 0 0, .slice none 0 0] 26 (0, 0))) := ⟨h2_⟩
 have n3_ : Aside0 (Below w.heap.size w w16) := ⟨h3_⟩
 clear BK364 BK365 HB h0_ h1_ h2_ h3_
 have HO372 := n0_
 have BK364 := n1_
 have BK365 := n2_
 have HB := n3_
 clear n0_ n1_ n2_ n3_
 have hHeld : w16.cell? ⟨gb364, 0, none⟩ = some (.slice A0_0 l0_0.length c0_0) ∧ w16.cell? ⟨gb364, 1, none⟩ = some (.slice A0_1 l0_1.length c0_1) ∧ w16.cell? ⟨gb364, 2, none⟩ = some (.slice A0_2 l0_2.length c0_2) := hS_
 refine norm_ (a' := ?_) ?_ ?_
 rotate_left
 {
 simp only [putAll, Act.put, List.setIfInBounds_toArray, List.set_cons_zero, List.set_cons_succ]
 rfl
 }
 refine three_ (i := 4) (j := 8) (k := 13) (Ni := some 17) (Nj := some 21) (Nk := some 5) #[tt,tt,tt,tt,tt,tt,tt,ff,ff,tt,tt,ff,ff,ff,ff] #[tt,tt,tt,tt,ff,tt,tt,ff,tt,tt,tt,ff,ff,ff,ff] #[tt,tt,tt,tt,ff,tt,tt,ff,ff,tt,tt,ff,ff,tt,ff] rfl rfl rfl rfl rfl rfl (three_of HT_.out (by kernel_rfl)) (by decide) (by decide) (by decide) (fun K hK => ?_) (fun K hK => ?_) (fun K hK => ?_)
 {
 skip
 refine Kd.R_lit_step (Kd.int .i64) _ 3 ?hg (N := 17) ?hd (xs := ([] : List Int)) (inner := []) (ok := fun _ => True) (okp := fun _ => True) ?hr ?hp (fun _ hk => hk) trivial (Below.refl _ _) (Nat.le_refl _) (by simp) ?_; (case hd => rfl); (case hg => rfl); (case hr => first | (go_simp; done) | (go_simp; rfl)); (case hp => exact (Reps.none _ _))
 intro v374 w17 ho18 hb hg_ hnew_
 clear hg_ hnew_
 (first | rw [← Ny373.out] at ho18 | (simp only [Int.reduceToNat] at ho18; rw [← Ny373.out] at ho18))
 have n0_ := Aside0.mk (Kd.R_elder' (rX HO372.out) (Kd.R_base ho18) hb)
 have n1_ := Aside0.mk (Kd.R_lower (Kd.R_new' ho18 (Kd.R_lt (rX HO372.out))) (below_size (bX2 HB.out GE364.out GE365.out)))
 have n2_ := Aside0.mk (bbX BK364.out hb)
 have n3_ := Aside0.mk (bbX BK365.out hb)
 have n4_ := Aside0.mk (below_step (bX2 HB.out GE364.out GE365.out) hb)
 clear HO372 BK364 BK365 HB
 have HO372 := n0_
 have HO375 := n1_
 have BK364 := n2_
 have BK365 := n3_
 have HB := n4_
 clear n0_ n1_ n2_ n3_ n4_ hb ho18
 refine hK.out _ _ ⟨cz30 BK364.out, cz31 BK364.out, cz32 BK364.out⟩ (fun hHeld => ?_)
 clear hK K
 refine norm_ (a' := ?_) ?_ ?_
 rotate_left
 {
 show Act.put _ (some 17) _ = _
 simp only [Act.put, zA, zB, zC, i64_w, i32_w]
 rfl
 }
 exact nX (hJ0_3_4 (v368, v371, v374) _ ⟨hHeld, (rM HO372.out (fun _ hk => hk.2)), (rM HO375.out (fun _ hk => hk.2)), (kX BK364.out), (kX BK365.out), (bX2 HB.out GE364.out GE365.out)⟩)
 }
 {
 skip
 refine Kd.R_lit_step (Kd.int .i64) _ 3 ?hg (N := 21) ?hd (xs := ([] : List Int)) (inner := []) (ok := fun _ => True) (okp := fun _ => True) ?hr ?hp (fun _ hk => hk) trivial (Below.refl _ _) (Nat.le_refl _) (by simp) ?_; (case hd => rfl); (case hg => rfl); (case hr => first | (go_simp; done) | (go_simp; rfl)); (case hp => exact (Reps.none _ _))
 intro v380 w17 ho18 hb hg_ hnew_
 clear hg_ hnew_
 (first | rw [← Ny379.out] at ho18 | (simp only [Int.reduceToNat] at ho18; rw [← Ny379.out] at ho18))
 have n0_ := Aside0.mk (Kd.R_elder' (rX HO372.out) (Kd.R_base ho18) hb)
 have n1_ := Aside0.mk (Kd.R_lower (Kd.R_new' ho18 (Kd.R_lt (rX HO372.out))) (below_size (bX2 HB.out GE364.out GE365.out)))
 have n2_ := Aside0.mk (bbX BK364.out hb)
 have n3_ := Aside0.mk (bbX BK365.out hb)
 have n4_ := Aside0.mk (below_step (bX2 HB.out GE364.out GE365.out) hb)
 clear HO372 BK364 BK365 HB
 have HO372 := n0_
 have HO381 := n1_
 have BK364 := n2_
 have BK365 := n3_
 have HB := n4_
 clear n0_ n1_ n2_ n3_ n4_ hb ho18
 refine hK.out _ _ ⟨cz30 BK364.out, cz31 BK364.out, cz32 BK364.out⟩ (fun hHeld => ?_)
 clear hK K
 refine norm_ (a' := ?_) ?_ ?_
 rotate_left
 {
 show Act.put _ (some 21) _ = _
 simp only [Act.put, zA, zB, zC, i64_w, i32_w]
 rfl
 }
 exact nX (hJ0_3_8 (v368, v371, v380) _ ⟨hHeld, (rM HO372.out (fun _ hk => hk.2)), (rM HO381.out (fun _ hk => hk.2)), (kX BK364.out), (kX BK365.out), (bX2 HB.out GE364.out GE365.out)⟩)
 }
 {
 skip
 refine box_step ?hg (N := 5) ?hd (cs := #[.slice none 0 0, .slice none 0 0, .slice none 0 0]) (t := 26) ?hr ?_; (case hd => rfl); (case hg => rfl); (case hr => first | (go_simp; done) | (go_simp; rfl))
 intro gb385 hg w17 hbox hb
 have n0_ := Aside0.mk (Kd.R_below (rX HO372.out) hb)
 have n1_ := Aside0.mk (bbX BK364.out hb)
 have n2_ := Aside0.mk (bbX BK365.out hb)
 have n3_ := Aside0.mk (below_step (bX2 HB.out GE364.out GE365.out) hb)
 have n4_ := Aside0.mk (hbox)
 have n5_ := Aside0.mk ((szX (below_size (bX2 HB.out GE364.out GE365.out)) hg : w.heap.size ≤ gb385))
 have n6_ := Aside0.mk ((szX (below_size (bX2 HB.out GE364.out GE365.out)) hg : w.heap.size ≤ gb385))
 have n7_ := Aside0.mk (neX BK364.out hg)
 have n8_ := Aside0.mk (nfX BK364.out hg)
 have n9_ := Aside0.mk (neX BK365.out hg)
 have n10_ := Aside0.mk (nfX BK365.out hg)
 clear HO372 BK364 BK365 HB
 have HO372 := n0_
 have BK364 := n1_
 have BK365 := n2_
 have HB := n3_
 have BK385 := n4_
 have GW385 := n5_
 have GE385 := n6_
 have NB364_385 := n7_
 have NB385_364 := n8_
 have NB365_385 := n9_
 have NB385_365 := n10_
 clear n0_ n1_ n2_ n3_ n4_ n5_ n6_ n7_ n8_ n9_ n10_ hb hbox hg
 refine hK.out _ _ ⟨cz30 BK364.out, cz31 BK364.out, cz32 BK364.out⟩ (fun hHeld => ?_)
 clear hK K
 refine norm_ (a' := ?_) ?_ ?_
 rotate_left
 {
 show Act.put _ (some 5) _ = _
 simp only [Act.put, zA, zB, zC, i64_w, i32_w]
 rfl
 }
 exact nX (hJ0_3_13 (v368, v371, gb385) _ ⟨hHeld, (rX HO372.out), (kX BK364.out), (kX BK365.out), (kX BK385.out), GW385.out, GE385.out, NB364_385.out, NB385_364.out, NB365_385.out, NB385_365.out, (bX3 HB.out GE364.out GE365.out GE385.out)⟩)
 }
 }
 }
 {
 skip
 rintro ⟨v374, v380, gb385⟩ w18 ⟨hS_, h0_, h1_, h2_, h3_, h4_, h5_, h6_, h7_, h8_, h9_, h10_, h11_⟩
 have n0_ : Aside0 (Kd.R (Kd.int .i64) 3 w18 w.heap.size (fun k_ => some k_ ≠ (v380 : Value).ownBlock) v374 y373) := ⟨h0_⟩
 have n1_ : Aside0 (Kd.R (Kd.int .i64) 3 w18 w.heap.size (fun k_ => some k_ ≠ (v374 : Value).ownBlock) v380 y379) := ⟨h1_⟩
 have n2_ : Aside0 (w18.heap[gb364]? = some (.cells #[.slice A0_0 l0_0.length c0_0, .slice A0_1 l0_1.length c0_1, .slice A0_2 l0_2.length c0_2] 26 (0, 0))) := ⟨h2_⟩
 have n3_ : Aside0 (w18.heap[gb365]? = some (.cells #[.slice none 0 0, .slice none 0 0, .slice none 0 0] 26 (0, 0))) := ⟨h3_⟩
 have n4_ : Aside0 (w18.heap[gb385]? = some (.cells #[.slice none 0 0, .slice none 0 0, .slice none 0 0] 26 (0, 0))) := ⟨h4_⟩
 have n5_ : Aside0 (w.heap.size ≤ gb385) := ⟨h5_⟩
 have n6_ : Aside0 (w.heap.size ≤ gb385) := ⟨h6_⟩
 have n7_ : Aside0 (gb364 ≠ gb385) := ⟨h7_⟩
 have n8_ : Aside0 (gb385 ≠ gb364) := ⟨h8_⟩
 have n9_ : Aside0 (gb365 ≠ gb385) := ⟨h9_⟩
 have n10_ : Aside0 (gb385 ≠ gb365) := ⟨h10_⟩
 have n11_ : Aside0 (Below w.heap.size w w18) := ⟨h11_⟩
 clear BK364 BK365 HB h0_ h1_ h2_ h3_ h4_ h5_ h6_ h7_ h8_ h9_ h10_ h11_
 have HO375 := n0_
 have HO381 := n1_
 have BK364 := n2_
 have BK365 := n3_
 have BK385 := n4_
 have GW385 := n5_
 have GE385 := n6_
 have NB364_385 := n7_
 have NB385_364 := n8_
 have NB365_385 := n9_
 have NB385_365 := n10_
 have HB := n11_
 clear n0_ n1_ n2_ n3_ n4_ n5_ n6_ n7_ n8_ n9_ n10_ n11_
 have hHeld : w18.cell? ⟨gb364, 0, none⟩ = some (.slice A0_0 l0_0.length c0_0) ∧ w18.cell? ⟨gb364, 1, none⟩ = some (.slice A0_1 l0_1.length c0_1) ∧ w18.cell? ⟨gb364, 2, none⟩ = some (.slice A0_2 l0_2.length c0_2) := hS_
 refine norm_ (a' := ?_) ?_ ?_
 rotate_left
 {
 simp only [putAll, Act.put, List.setIfInBounds_toArray, List.set_cons_zero, List.set_cons_succ]
 rfl
 }
 refine one_ (i := 0) (N := some 13) #[tt,tt,tt,ff,tt,tt,tt,ff,tt,tt,tt,ff,ff,tt,ff] rfl rfl (one_of HT_.out (by kernel_rfl)) (by decide) (fun K hK => ?_)
 refine Kd.R_lit_step (Kd.int .i64) _ 3 ?hg (N := 13) ?hd (xs := ([] : List Int)) (inner := []) (ok := fun _ => True) (okp := fun _ => True) ?hr ?hp (fun _ hk => hk) trivial (Below.refl _ _) (Nat.le_refl _) (by simp) ?_; (case hd => rfl); (case hg => rfl); (case hr => first | (go_simp; done) | (go_simp; rfl)); (case hp => exact (Reps.none _ _))
 intro v368 w19 ho20 hb hg_ hnew_
 clear hg_ hnew_
 (first | rw [← Ny367.out] at ho20 | (simp only [Int.reduceToNat] at ho20; rw [← Ny367.out] at ho20))
 have n0_ := Aside0.mk (Kd.R_elder' (rX HO375.out) (Kd.R_base ho20) hb)
 have n1_ := Aside0.mk (Kd.R_elder' (rX HO381.out) (Kd.R_base ho20) hb)
 have n2_ := Aside0.mk (Kd.R_lower (Kd.R_new' (Kd.R_new' ho20 (Kd.R_lt (rX HO375.out))) (Kd.R_lt (rX HO381.out))) (below_size (bX3 HB.out GE364.out GE365.out GE385.out)))
 have n3_ := Aside0.mk (bbX BK364.out hb)
 have n4_ := Aside0.mk (bbX BK365.out hb)
 have n5_ := Aside0.mk (bbX BK385.out hb)
 have n6_ := Aside0.mk (below_step (bX3 HB.out GE364.out GE365.out GE385.out) hb)
 clear HO375 HO381 BK364 BK365 BK385 HB
 have HO375 := n0_
 have HO381 := n1_
 have HO369 := n2_
 have BK364 := n3_
 have BK365 := n4_
 have BK385 := n5_
 have HB := n6_
 clear n0_ n1_ n2_ n3_ n4_ n5_ n6_ hb ho20
 refine hK.out _ _ ⟨cz30 BK364.out, cz31 BK364.out, cz32 BK364.out⟩ (fun hHeld => ?_)
 clear hK K
 refine norm_ (a' := ?_) ?_ ?_
 rotate_left
 {
 show Act.put _ (some 13) _ = _
 simp only [Act.put, zA, zB, zC, i64_w, i32_w]
 rfl
 }
 exact nX (hJ0_4_8_13 (v368, v374, v380, gb385) _ ⟨hHeld, (rM HO369.out (fun _ hk => ⟨hk.1.2, hk.2⟩)), (rM HO375.out (fun _ hk => ⟨hk.2, hk.1⟩)), (rM HO381.out (fun _ hk => ⟨hk.2, hk.1⟩)), (kX BK364.out), (kX BK365.out), (kX BK385.out), GW385.out, GE385.out, NB364_385.out, NB385_364.out, NB365_385.out, NB385_365.out, (bX3 HB.out GE364.out GE365.out GE385.out)⟩)
 }
 }
 {
 skip
 rintro ⟨v368, v380, gb385⟩ w18 ⟨hS_, h0_, h1_, h2_, h3_, h4_, h5_, h6_, h7_, h8_, h9_, h10_, h11_⟩
 have n0_ : Aside0 (Kd.R (Kd.int .i64) 3 w18 w.heap.size (fun k_ => some k_ ≠ (v380 : Value).ownBlock) v368 y367) := ⟨h0_⟩
 have n1_ : Aside0 (Kd.R (Kd.int .i64) 3 w18 w.heap.size (fun k_ => some k_ ≠ (v368 : Value).ownBlock) v380 y379) := ⟨h1_⟩
 have n2_ : Aside0 (w18.heap[gb364]? = some (.cells #[.slice A0_0 l0_0.length c0_0, .slice A0_1 l0_1.length c0_1, .slice A0_2 l0_2.length c0_2] 26 (0, 0))) := ⟨h2_⟩
 have n3_ : Aside0 (w18.heap[gb365]? = some (.cells #[.slice none 0 0, .slice none 0 0, .slice none 0 0] 26 (0, 0))) := ⟨h3_⟩
 have n4_ : Aside0 (w18.heap[gb385]? = some (.cells #[.slice none 0 0, .slice none 0 0, .slice none 0 0] 26 (0, 0))) := ⟨h4_⟩
 have n5_ : Aside0 (w.heap.size ≤ gb385) := ⟨h5_⟩
 have n6_ : Aside0 (w.heap.size ≤ gb385) := ⟨h6_⟩
 have n7_ : Aside0 (gb364 ≠ gb385) := ⟨h7_⟩
 have n8_ : Aside0 (gb385 ≠ gb364) := ⟨h8_⟩
 have n9_ : Aside0 (gb365 ≠ gb385) := ⟨h9_⟩
 have n10_ : Aside0 (gb385 ≠ gb365) := ⟨h10_⟩
 have n11_ : Aside0 (Below w.heap.size w w18) := ⟨h11_⟩
 clear BK364 BK365 HB h0_ h1_ h2_ h3_ h4_ h5_ h6_ h7_ h8_ h9_ h10_ h11_
 have HO369 := n0_
 have HO381 := n1_
 have BK364 := n2_
 have BK365 := n3_
 have BK385 := n4_
 have GW385 := n5_
 have GE385 := n6_
 have NB364_385 := n7_
 have NB385_364 := n8_
 have NB365_385 := n9_
 have NB385_365 := n10_
 have HB := n11_
 clear n0_ n1_ n2_ n3_ n4_ n5_ n6_ n7_ n8_ n9_ n10_ n11_
 have hHeld : w18.cell? ⟨gb364, 0, none⟩ = some (.slice A0_0 l0_0.length c0_0) ∧ w18.cell? ⟨gb364, 1, none⟩ = some (.slice A0_1 l0_1.length c0_1) ∧ w18.cell? ⟨gb364, 2, none⟩ = some (.slice A0_2 l0_2.length c0_2) := hS_
 refine norm_ (a' := ?_) ?_ ?_
 rotate_left
 {
 simp only [putAll, Act.put, List.setIfInBounds_toArray, List.set_cons_zero, List.set_cons_succ]
 rfl
 }
 refine two_ (i := 3) (j := 4) (Ni := some 16) (Nj := some 17) #[tt,tt,tt,tt,ff,tt,tt,ff,tt,tt,tt,ff,ff,tt,ff] #[tt,tt,tt,ff,tt,tt,tt,ff,tt,tt,tt,ff,ff,tt,ff] rfl rfl rfl rfl (two_of HT_.out (by kernel_rfl)) (by decide) (by decide) (fun K hK => ?_) (fun K hK => ?_)
 {
 skip
 refine Kd.R_append_rows_step (Kd.int .i64) (w0 := w) w.heap.size (by rfl) (.tmp 13) (.tmp 15) 22 3 (.int .i64 0) 8 rfl Try.underlying22 info3 rfl (by decide) (by omega) v368 y367 l0_0 _ _ _ (fun k_ => some k_ ≠ (v380 : Value).ownBlock) (fun _ => False) rfl rfl ?aO ?aR (fun _ _ h => h) (fun _ h => h.elim) ?aF ?aB ?aS ?aL ?_
 (case aR => exact cX (Kd.C_below HR0_0.out HB.out))
 (case aB => exact (bX3 HB.out GE364.out GE365.out GE385.out))
 (case aF => exact (fun k_ hk => Kd.fresh' (Kd.R_lt (rX HO381.out)) k_ hk))
 (case aO => exact (rX HO369.out))
 (case aS => exact (below_size (bX3 HB.out GE364.out GE365.out GE385.out)))
 (case aL => have := LMc4.out; omega)
 intro v371 w19 ho hb hg hat
 rw [← Ny370.out] at ho
 have n0_ := Aside0.mk (bgX BK364.out hg (Kd.R_ne HO369.out BK364.out (by decide)))
 have n1_ := Aside0.mk (bgX BK365.out hg (Kd.R_ne HO369.out BK365.out (by decide)))
 have n2_ := Aside0.mk (Kd.R_after (ok := (fun _ => True)) (rM HO381.out (fun _ hk => ⟨trivial, hk⟩)) hg hat)
 have n3_ := Aside0.mk (bgX BK385.out hg (Kd.R_ne HO369.out BK385.out (by decide)))
 have n4_ := Aside0.mk (hb)
 have n5_ := Aside0.mk (ho)
 clear BK364 BK365 HO381 BK385 HB HO369
 have BK364 := n0_
 have BK365 := n1_
 have HO381 := n2_
 have BK385 := n3_
 have HB := n4_
 have HO372 := n5_
 clear n0_ n1_ n2_ n3_ n4_ n5_ ho hb hg hat
 refine hK.out _ _ ⟨cz30 BK364.out, cz31 BK364.out, cz32 BK364.out⟩ (fun hHeld => ?_)
 clear hK K
 refine norm_ (a' := ?_) ?_ ?_
 rotate_left
 {
 show Act.put _ (some 16) _ = _
 simp only [Act.put, zA, zB, zC, i64_w, i32_w]
 rfl
 }
 exact nX (hJ0_3_8_13 (v368, v371, v380, gb385) _ ⟨hHeld, (rX HO372.out), (rM HO381.out (fun _ hk => hk.2)), (kX BK364.out), (kX BK365.out), (kX BK385.out), GW385.out, GE385.out, NB364_385.out, NB385_364.out, NB365_385.out, NB385_365.out, (bX3 HB.out GE364.out GE365.out GE385.out)⟩)
 }
 {
 skip
 refine Kd.R_lit_step (Kd.int .i64) _ 3 ?hg (N := 17) ?hd (xs := ([] : List Int)) (inner := []) (ok := fun _ => True) (okp := fun _ => True) ?hr ?hp (fun _ hk => hk) trivial (Below.refl _ _) (Nat.le_refl _) (by simp) ?_; (case hd => rfl); (case hg => rfl); (case hr => first | (go_simp; done) | (go_simp; rfl)); (case hp => exact (Reps.none _ _))
 intro v374 w19 ho20 hb hg_ hnew_
 clear hg_ hnew_
 (first | rw [← Ny373.out] at ho20 | (simp only [Int.reduceToNat] at ho20; rw [← Ny373.out] at ho20))
 have n0_ := Aside0.mk (Kd.R_elder' (rX HO369.out) (Kd.R_base ho20) hb)
 have n1_ := Aside0.mk (Kd.R_elder' (rX HO381.out) (Kd.R_base ho20) hb)
 have n2_ := Aside0.mk (Kd.R_lower (Kd.R_new' (Kd.R_new' ho20 (Kd.R_lt (rX HO369.out))) (Kd.R_lt (rX HO381.out))) (below_size (bX3 HB.out GE364.out GE365.out GE385.out)))
 have n3_ := Aside0.mk (bbX BK364.out hb)
 have n4_ := Aside0.mk (bbX BK365.out hb)
 have n5_ := Aside0.mk (bbX BK385.out hb)
 have n6_ := Aside0.mk (below_step (bX3 HB.out GE364.out GE365.out GE385.out) hb)
 clear HO369 HO381 BK364 BK365 BK385 HB
 have HO369 := n0_
 have HO381 := n1_
 have HO375 := n2_
 have BK364 := n3_
 have BK365 := n4_
 have BK385 := n5_
 have HB := n6_
 clear n0_ n1_ n2_ n3_ n4_ n5_ n6_ hb ho20
 refine hK.out _ _ ⟨cz30 BK364.out, cz31 BK364.out, cz32 BK364.out⟩ (fun hHeld => ?_)
 clear hK K
 refine norm_ (a' := ?_) ?_ ?_
 rotate_left
 {
 show Act.put _ (some 17) _ = _
 simp only [Act.put, zA, zB, zC, i64_w, i32_w]
 rfl
 }
 exact nX (hJ0_4_8_13 (v368, v374, v380, gb385) _ ⟨hHeld, (rM HO369.out (fun _ hk => ⟨hk.2, hk.1⟩)), (rM HO375.out (fun _ hk => ⟨hk.1.2, hk.2⟩)), (rX HO381.out), (kX BK364.out), (kX BK365.out), (kX BK385.out), GW385.out, GE385.out, NB364_385.out, NB385_364.out, NB365_385.out, NB385_365.out, (bX3 HB.out GE364.out GE365.out GE385.out)⟩)
 }
 }
 }
 {
 skip
 rintro ⟨v368, v374, gb385⟩ w18 ⟨hS_, h0_, h1_, h2_, h3_, h4_, h5_, h6_, h7_, h8_, h9_, h10_, h11_⟩
 have n0_ : Aside0 (Kd.R (Kd.int .i64) 3 w18 w.heap.size (fun k_ => some k_ ≠ (v374 : Value).ownBlock) v368 y367) := ⟨h0_⟩
 have n1_ : Aside0 (Kd.R (Kd.int .i64) 3 w18 w.heap.size (fun k_ => some k_ ≠ (v368 : Value).ownBlock) v374 y373) := ⟨h1_⟩
 have n2_ : Aside0 (w18.heap[gb364]? = some (.cells #[.slice A0_0 l0_0.length c0_0, .slice A0_1 l0_1.length c0_1, .slice A0_2 l0_2.length c0_2] 26 (0, 0))) := ⟨h2_⟩
 have n3_ : Aside0 (w18.heap[gb365]? = some (.cells #[.slice none 0 0, .slice none 0 0, .slice none 0 0] 26 (0, 0))) := ⟨h3_⟩
 have n4_ : Aside0 (w18.heap[gb385]? = some (.cells #[.slice none 0 0, .slice none 0 0, .slice none 0 0] 26 (0, 0))) := ⟨h4_⟩
 have n5_ : Aside0 (w.heap.size ≤ gb385) := ⟨h5_⟩
 have n6_ : Aside0 (w.heap.size ≤ gb385) := ⟨h6_⟩
 have n7_ : Aside0 (gb364 ≠ gb385) := ⟨h7_⟩
 have n8_ : Aside0 (gb385 ≠ gb364) := ⟨h8_⟩
 have n9_ : Aside0 (gb365 ≠ gb385) := ⟨h9_⟩
 have n10_ : Aside0 (gb385 ≠ gb365) := ⟨h10_⟩
 have n11_ : Aside0 (Below w.heap.size w w18) := ⟨h11_⟩
 clear BK364 BK365 HB h0_ h1_ h2_ h3_ h4_ h5_ h6_ h7_ h8_ h9_ h10_ h11_
 have HO369 := n0_
 have HO375 := n1_
 have BK364 := n2_
 have BK365 := n3_
 have BK385 := n4_
 have GW385 := n5_
 have GE385 := n6_
 have NB364_385 := n7_
 have NB385_364 := n8_
 have NB365_385 := n9_
 have NB385_365 := n10_
 have HB := n11_
 clear n0_ n1_ n2_ n3_ n4_ n5_ n6_ n7_ n8_ n9_ n10_ n11_
 have hHeld : w18.cell? ⟨gb364, 0, none⟩ = some (.slice A0_0 l0_0.length c0_0) ∧ w18.cell? ⟨gb364, 1, none⟩ = some (.slice A0_1 l0_1.length c0_1) ∧ w18.cell? ⟨gb364, 2, none⟩ = some (.slice A0_2 l0_2.length c0_2) := hS_
 refine norm_ (a' := ?_) ?_ ?_
 rotate_left
 {
 simp only [putAll, Act.put, List.setIfInBounds_toArray, List.set_cons_zero, List.set_cons_succ]
 rfl
 }
 refine two_ (i := 3) (j := 8) (Ni := some 16) (Nj := some 21) #[tt,tt,tt,tt,tt,tt,tt,ff,ff,tt,tt,ff,ff,tt,ff] #[tt,tt,tt,ff,tt,tt,tt,ff,tt,tt,tt,ff,ff,tt,ff] rfl rfl rfl rfl (two_of HT_.out (by kernel_rfl)) (by decide) (by decide) (fun K hK => ?_) (fun K hK => ?_)
 {
 skip
 refine Kd.R_append_rows_step (Kd.int .i64) (w0 := w) w.heap.size (by rfl) (.tmp 13) (.tmp 15) 22 3 (.int .i64 0) 8 rfl Try.underlying22 info3 rfl (by decide) (by omega) v368 y367 l0_0 _ _ _ (fun k_ => some k_ ≠ (v374 : Value).ownBlock) (fun _ => False) rfl rfl ?aO ?aR (fun _ _ h => h) (fun _ h => h.elim) ?aF ?aB ?aS ?aL ?_
 (case aR => exact cX (Kd.C_below HR0_0.out HB.out))
 (case aB => exact (bX3 HB.out GE364.out GE365.out GE385.out))
 (case aF => exact (fun k_ hk => Kd.fresh' (Kd.R_lt (rX HO375.out)) k_ hk))
 (case aO => exact (rX HO369.out))
 (case aS => exact (below_size (bX3 HB.out GE364.out GE365.out GE385.out)))
 (case aL => have := LMc4.out; omega)
 intro v371 w19 ho hb hg hat
 rw [← Ny370.out] at ho
 have n0_ := Aside0.mk (bgX BK364.out hg (Kd.R_ne HO369.out BK364.out (by decide)))
 have n1_ := Aside0.mk (bgX BK365.out hg (Kd.R_ne HO369.out BK365.out (by decide)))
 have n2_ := Aside0.mk (Kd.R_after (ok := (fun _ => True)) (rM HO375.out (fun _ hk => ⟨trivial, hk⟩)) hg hat)
 have n3_ := Aside0.mk (bgX BK385.out hg (Kd.R_ne HO369.out BK385.out (by decide)))
 have n4_ := Aside0.mk (hb)
 have n5_ := Aside0.mk (ho)
 clear BK364 BK365 HO375 BK385 HB HO369
 have BK364 := n0_
 have BK365 := n1_
 have HO375 := n2_
 have BK385 := n3_
 have HB := n4_
 have HO372 := n5_
 clear n0_ n1_ n2_ n3_ n4_ n5_ ho hb hg hat
 refine hK.out _ _ ⟨cz30 BK364.out, cz31 BK364.out, cz32 BK364.out⟩ (fun hHeld => ?_)
 clear hK K
 refine norm_ (a' := ?_) ?_ ?_
 rotate_left
 {
 show Act.put _ (some 16) _ = _
 simp only [Act.put, zA, zB, zC, i64_w, i32_w]
 rfl
 }
 exact nX (hJ0_3_4_13 (v368, v371, v374, gb385) _ ⟨hHeld, (rX HO372.out), (rM HO375.out (fun _ hk => hk.2)), (kX BK364.out), (kX BK365.out), (kX BK385.out), GW385.out, GE385.out, NB364_385.out, NB385_364.out, NB365_385.out, NB385_365.out, (bX3 HB.out GE364.out GE365.out GE385.out)⟩)
 }
 {
 skip
 refine Kd.R_lit_step (Kd.int .i64) _ 3 ?hg (N := 21) ?hd (xs := ([] : List Int)) (inner := []) (ok := fun _ => True) (okp := fun _ => True) ?hr ?hp (fun _ hk => hk) trivial (Below.refl _ _) (Nat.le_refl _) (by simp) ?_; (case hd => rfl); (case hg => rfl); (case hr => first | (go_simp; done) | (go_simp; rfl)); (case hp => exact (Reps.none _ _))
 intro v380 w19 ho20 hb hg_ hnew_
 clear hg_ hnew_
 (first | rw [← Ny379.out] at ho20 | (simp only [Int.reduceToNat] at ho20; rw [← Ny379.out] at ho20))
 have n0_ := Aside0.mk (Kd.R_elder' (rX HO369.out) (Kd.R_base ho20) hb)
 have n1_ := Aside0.mk (Kd.R_elder' (rX HO375.out) (Kd.R_base ho20) hb)
 have n2_ := Aside0.mk (Kd.R_lower (Kd.R_new' (Kd.R_new' ho20 (Kd.R_lt (rX HO369.out))) (Kd.R_lt (rX HO375.out))) (below_size (bX3 HB.out GE364.out GE365.out GE385.out)))
 have n3_ := Aside0.mk (bbX BK364.out hb)
 have n4_ := Aside0.mk (bbX BK365.out hb)
 have n5_ := Aside0.mk (bbX BK385.out hb)
 have n6_ := Aside0.mk (below_step (bX3 HB.out GE364.out GE365.out GE385.out) hb)
 clear HO369 HO375 BK364 BK365 BK385 HB
 have HO369 := n0_
 have HO375 := n1_
 have HO381 := n2_
 have BK364 := n3_
 have BK365 := n4_
 have BK385 := n5_
 have HB := n6_
 clear n0_ n1_ n2_ n3_ n4_ n5_ n6_ hb ho20
 refine hK.out _ _ ⟨cz30 BK364.out, cz31 BK364.out, cz32 BK364.out⟩ (fun hHeld => ?_)
 clear hK K
 refine norm_ (a' := ?_) ?_ ?_
 rotate_left
 {
 show Act.put _ (some 21) _ = _
 simp only [Act.put, zA, zB, zC, i64_w, i32_w]
 rfl
 }
 exact nX (hJ0_4_8_13 (v368, v374, v380, gb385) _ ⟨hHeld, (rX HO369.out), (rX HO375.out), (rM HO381.out (fun _ hk => ⟨hk.1.2, hk.2⟩)), (kX BK364.out), (kX BK365.out), (kX BK385.out), GW385.out, GE385.out, NB364_385.out, NB385_364.out, NB365_385.out, NB385_365.out, (bX3 HB.out GE364.out GE365.out GE385.out)⟩)
 }
 }
 }
 {
 skip
 rintro ⟨v368, v374, v380⟩ w19 ⟨hS_, h0_, h1_, h2_, h3_, h4_, h5_⟩
 have n0_ : Aside0 (Kd.R (Kd.int .i64) 3 w19 w.heap.size (fun k_ => some k_ ≠ (v374 : Value).ownBlock ∧ some k_ ≠ (v380 : Value).ownBlock) v368 y367) := ⟨h0_⟩
 have n1_ : Aside0 (Kd.R (Kd.int .i64) 3 w19 w.heap.size (fun k_ => some k_ ≠ (v368 : Value).ownBlock ∧ some k_ ≠ (v380 : Value).ownBlock) v374 y373) := ⟨h1_⟩
 have n2_ : Aside0 (Kd.R (Kd.int .i64) 3 w19 w.heap.size (fun k_ => some k_ ≠ (v368 : Value).ownBlock ∧ some k_ ≠ (v374 : Value).ownBlock) v380 y379) := ⟨h2_⟩
 have n3_ : Aside0 (w19.heap[gb364]? = some (.cells #[.slice A0_0 l0_0.length c0_0, .slice A0_1 l0_1.length c0_1, .slice A0_2 l0_2.length c0_2] 26 (0, 0))) := ⟨h3_⟩
 have n4_ : Aside0 (w19.heap[gb365]? = some (.cells #[.slice none 0 0, .slice none 0 0, .slice none 0 0] 26 (0, 0))) := ⟨h4_⟩
 have n5_ : Aside0 (Below w.heap.size w w19) := ⟨h5_⟩
 clear BK364 BK365 HB h0_ h1_ h2_ h3_ h4_ h5_
 have HO369 := n0_
 have HO375 := n1_
 have HO381 := n2_
 have BK364 := n3_
 have BK365 := n4_
 have HB := n5_
 clear n0_ n1_ n2_ n3_ n4_ n5_
 have hHeld : w19.cell? ⟨gb364, 0, none⟩ = some (.slice A0_0 l0_0.length c0_0) ∧ w19.cell? ⟨gb364, 1, none⟩ = some (.slice A0_1 l0_1.length c0_1) ∧ w19.cell? ⟨gb364, 2, none⟩ = some (.slice A0_2 l0_2.length c0_2) := hS_
 refine norm_ (a' := ?_) ?_ ?_
 rotate_left
 {
 simp only [putAll, Act.put, List.setIfInBounds_toArray, List.set_cons_zero, List.set_cons_succ]
 rfl
 }
 refine two_ (i := 3) (j := 13) (Ni := some 16) (Nj := some 5) #[tt,tt,tt,tt,tt,tt,tt,ff,tt,tt,tt,ff,ff,ff,ff] #[tt,tt,tt,ff,tt,tt,tt,ff,tt,tt,tt,ff,ff,tt,ff] rfl rfl rfl rfl (two_of HT_.out (by kernel_rfl)) (by decide) (by decide) (fun K hK => ?_) (fun K hK => ?_)
 {
 skip
 refine Kd.R_append_rows_step (Kd.int .i64) (w0 := w) w.heap.size (by rfl) (.tmp 13) (.tmp 15) 22 3 (.int .i64 0) 8 rfl Try.underlying22 info3 rfl (by decide) (by omega) v368 y367 l0_0 _ _ _ (fun k_ => some k_ ≠ (v374 : Value).ownBlock ∧ some k_ ≠ (v380 : Value).ownBlock) (fun _ => False) rfl rfl ?aO ?aR (fun _ _ h => h) (fun _ h => h.elim) ?aF ?aB ?aS ?aL ?_
 (case aR => exact cX (Kd.C_below HR0_0.out HB.out))
 (case aB => exact (bX2 HB.out GE364.out GE365.out))
 (case aF => exact (fun k_ hk => ⟨Kd.fresh' (Kd.R_lt (rX HO375.out)) k_ hk, Kd.fresh' (Kd.R_lt (rX HO381.out)) k_ hk⟩))
 (case aO => exact (rX HO369.out))
 (case aS => exact (below_size (bX2 HB.out GE364.out GE365.out)))
 (case aL => have := LMc4.out; omega)
 intro v371 w20 ho hb hg hat
 rw [← Ny370.out] at ho
 have n0_ := Aside0.mk (bgX BK364.out hg (Kd.R_ne HO369.out BK364.out (by decide)))
 have n1_ := Aside0.mk (bgX BK365.out hg (Kd.R_ne HO369.out BK365.out (by decide)))
 have n2_ := Aside0.mk (Kd.R_after (ok := (fun k_ => some k_ ≠ (v380 : Value).ownBlock)) (rM HO375.out (fun _ hk => ⟨hk.2, hk.1⟩)) hg hat)
 have n3_ := Aside0.mk (Kd.R_after (ok := (fun k_ => some k_ ≠ (v374 : Value).ownBlock)) (rM HO381.out (fun _ hk => ⟨hk.2, hk.1⟩)) hg hat)
 have n4_ := Aside0.mk (hb)
 have n5_ := Aside0.mk (ho)
 clear BK364 BK365 HO375 HO381 HB HO369
 have BK364 := n0_
 have BK365 := n1_
 have HO375 := n2_
 have HO381 := n3_
 have HB := n4_
 have HO372 := n5_
 clear n0_ n1_ n2_ n3_ n4_ n5_ ho hb hg hat
 refine hK.out _ _ ⟨cz30 BK364.out, cz31 BK364.out, cz32 BK364.out⟩ (fun hHeld => ?_)
 clear hK K
 refine norm_ (a' := ?_) ?_ ?_
 rotate_left
 {
 show Act.put _ (some 16) _ = _
 simp only [Act.put, zA, zB, zC, i64_w, i32_w]
 rfl
 }
 exact nX (hJ0_3_4_8 (v368, v371, v374, v380) _ ⟨hHeld, (rX HO372.out), (rM HO375.out (fun _ hk => ⟨hk.2, hk.1⟩)), (rM HO381.out (fun _ hk => ⟨hk.2, hk.1⟩)), (kX BK364.out), (kX BK365.out), (bX2 HB.out GE364.out GE365.out)⟩)
 }
 {
 skip
 refine box_step ?hg (N := 5) ?hd (cs := #[.slice none 0 0, .slice none 0 0, .slice none 0 0]) (t := 26) ?hr ?_; (case hd => rfl); (case hg => rfl); (case hr => first | (go_simp; done) | (go_simp; rfl))
 intro gb385 hg w20 hbox hb
 have n0_ := Aside0.mk (Kd.R_below (rX HO369.out) hb)
 have n1_ := Aside0.mk (Kd.R_below (rX HO375.out) hb)
 have n2_ := Aside0.mk (Kd.R_below (rX HO381.out) hb)
 have n3_ := Aside0.mk (bbX BK364.out hb)
 have n4_ := Aside0.mk (bbX BK365.out hb)
 have n5_ := Aside0.mk (below_step (bX2 HB.out GE364.out GE365.out) hb)
 have n6_ := Aside0.mk (hbox)
 have n7_ := Aside0.mk ((szX (below_size (bX2 HB.out GE364.out GE365.out)) hg : w.heap.size ≤ gb385))
 have n8_ := Aside0.mk ((szX (below_size (bX2 HB.out GE364.out GE365.out)) hg : w.heap.size ≤ gb385))
 have n9_ := Aside0.mk (neX BK364.out hg)
 have n10_ := Aside0.mk (nfX BK364.out hg)
 have n11_ := Aside0.mk (neX BK365.out hg)
 have n12_ := Aside0.mk (nfX BK365.out hg)
 clear HO369 HO375 HO381 BK364 BK365 HB
 have HO369 := n0_
 have HO375 := n1_
 have HO381 := n2_
 have BK364 := n3_
 have BK365 := n4_
 have HB := n5_
 have BK385 := n6_
 have GW385 := n7_
 have GE385 := n8_
 have NB364_385 := n9_
 have NB385_364 := n10_
 have NB365_385 := n11_
 have NB385_365 := n12_
 clear n0_ n1_ n2_ n3_ n4_ n5_ n6_ n7_ n8_ n9_ n10_ n11_ n12_ hb hbox hg
 refine hK.out _ _ ⟨cz30 BK364.out, cz31 BK364.out, cz32 BK364.out⟩ (fun hHeld => ?_)
 clear hK K
 refine norm_ (a' := ?_) ?_ ?_
 rotate_left
 {
 show Act.put _ (some 5) _ = _
 simp only [Act.put, zA, zB, zC, i64_w, i32_w]
 rfl
 }
 exact nX (hJ0_4_8_13 (v368, v374, v380, gb385) _ ⟨hHeld, (rX HO369.out), (rX HO375.out), (rX HO381.out), (kX BK364.out), (kX BK365.out), (kX BK385.out), GW385.out, GE385.out, NB364_385.out, NB385_364.out, NB365_385.out, NB385_365.out, (bX3 HB.out GE364.out GE365.out GE385.out)⟩)
 }
 }
 }
 {
 skip
 rintro ⟨v368, v371, gb385⟩ w17 ⟨hS_, h0_, h1_, h2_, h3_, h4_, h5_, h6_, h7_, h8_, h9_, h10_⟩
 have n0_ : Aside0 (Kd.R (Kd.int .i64) 3 w17 w.heap.size (fun _ => True) v371 y370) := ⟨h0_⟩
 have n1_ : Aside0 (w17.heap[gb364]? = some (.cells #[.slice A0_0 l0_0.length c0_0, .slice A0_1 l0_1.length c0_1, .slice A0_2 l0_2.length c0_2] 26 (0, 0))) := ⟨h1_⟩
 have n2_ : Aside0 (w17.heap[gb365]? = some (.cells #[.slice none 0 0, .slice none 0 0, .slice none 0 0] 26 (0, 0))) := ⟨h2_⟩
 have n3_ : Aside0 (w17.heap[gb385]? = some (.cells #[.slice none 0 0, .slice none 0 0, .slice none 0 0] 26 (0, 0))) := ⟨h3_⟩
 have n4_ : Aside0 (w.heap.size ≤ gb385) := ⟨h4_⟩
 have n5_ : Aside0 (w.heap.size ≤ gb385) := ⟨h5_⟩
 have n6_ : Aside0 (gb364 ≠ gb385) := ⟨h6_⟩
 have n7_ : Aside0 (gb385 ≠ gb364) := ⟨h7_⟩
 have n8_ : Aside0 (gb365 ≠ gb385) := ⟨h8_⟩
 have n9_ : Aside0 (gb385 ≠ gb365) := ⟨h9_⟩
 have n10_ : Aside0 (Below w.heap.size w w17) := ⟨h10_⟩
 clear BK364 BK365 HB h0_ h1_ h2_ h3_ h4_ h5_ h6_ h7_ h8_ h9_ h10_
 have HO372 := n0_
 have BK364 := n1_
 have BK365 := n2_
 have BK385 := n3_
 have GW385 := n4_
 have GE385 := n5_
 have NB364_385 := n6_
 have NB385_364 := n7_
 have NB365_385 := n8_
 have NB385_365 := n9_
 have HB := n10_
 clear n0_ n1_ n2_ n3_ n4_ n5_ n6_ n7_ n8_ n9_ n10_
 have hHeld : w17.cell? ⟨gb364, 0, none⟩ = some (.slice A0_0 l0_0.length c0_0) ∧ w17.cell? ⟨gb364, 1, none⟩ = some (.slice A0_1 l0_1.length c0_1) ∧ w17.cell? ⟨gb364, 2, none⟩ = some (.slice A0_2 l0_2.length c0_2) := hS_
 refine norm_ (a' := ?_) ?_ ?_
 rotate_left
 {
 simp only [putAll, Act.put, List.setIfInBounds_toArray, List.set_cons_zero, List.set_cons_succ]
 rfl
 }
 refine two_ (i := 4) (j := 8) (Ni := some 17) (Nj := some 21) #[tt,tt,tt,tt,tt,tt,tt,ff,ff,tt,tt,ff,ff,tt,ff] #[tt,tt,tt,tt,ff,tt,tt,ff,tt,tt,tt,ff,ff,tt,ff] rfl rfl rfl rfl (two_of HT_.out (by kernel_rfl)) (by decide) (by decide) (fun K hK => ?_) (fun K hK => ?_)
 {
 skip
 refine Kd.R_lit_step (Kd.int .i64) _ 3 ?hg (N := 17) ?hd (xs := ([] : List Int)) (inner := []) (ok := fun _ => True) (okp := fun _ => True) ?hr ?hp (fun _ hk => hk) trivial (Below.refl _ _) (Nat.le_refl _) (by simp) ?_; (case hd => rfl); (case hg => rfl); (case hr => first | (go_simp; done) | (go_simp; rfl)); (case hp => exact (Reps.none _ _))
 intro v374 w18 ho19 hb hg_ hnew_
 clear hg_ hnew_
 (first | rw [← Ny373.out] at ho19 | (simp only [Int.reduceToNat] at ho19; rw [← Ny373.out] at ho19))
 have n0_ := Aside0.mk (Kd.R_elder' (rX HO372.out) (Kd.R_base ho19) hb)
 have n1_ := Aside0.mk (Kd.R_lower (Kd.R_new' ho19 (Kd.R_lt (rX HO372.out))) (below_size (bX3 HB.out GE364.out GE365.out GE385.out)))
 have n2_ := Aside0.mk (bbX BK364.out hb)
 have n3_ := Aside0.mk (bbX BK365.out hb)
 have n4_ := Aside0.mk (bbX BK385.out hb)
 have n5_ := Aside0.mk (below_step (bX3 HB.out GE364.out GE365.out GE385.out) hb)
 clear HO372 BK364 BK365 BK385 HB
 have HO372 := n0_
 have HO375 := n1_
 have BK364 := n2_
 have BK365 := n3_
 have BK385 := n4_
 have HB := n5_
 clear n0_ n1_ n2_ n3_ n4_ n5_ hb ho19
 refine hK.out _ _ ⟨cz30 BK364.out, cz31 BK364.out, cz32 BK364.out⟩ (fun hHeld => ?_)
 clear hK K
 refine norm_ (a' := ?_) ?_ ?_
 rotate_left
 {
 show Act.put _ (some 17) _ = _
 simp only [Act.put, zA, zB, zC, i64_w, i32_w]
 rfl
 }
 exact nX (hJ0_3_4_13 (v368, v371, v374, gb385) _ ⟨hHeld, (rM HO372.out (fun _ hk => hk.2)), (rM HO375.out (fun _ hk => hk.2)), (kX BK364.out), (kX BK365.out), (kX BK385.out), GW385.out, GE385.out, NB364_385.out, NB385_364.out, NB365_385.out, NB385_365.out, (bX3 HB.out GE364.out GE365.out GE385.out)⟩)
 }
 {
 skip
 refine Kd.R_lit_step (Kd.int .i64) _ 3 ?hg (N := 21) ?hd (xs := ([] : List Int)) (inner := []) (ok := fun _ => True) (okp := fun _ => True) ?hr ?hp (fun _ hk => hk) trivial (Below.refl _ _) (Nat.le_refl _) (by simp) ?_; (case hd => rfl); (case hg => rfl); (case hr => first | (go_simp; done) | (go_simp; rfl)); (case hp => exact (Reps.none _ _))
 intro v380 w18 ho19 hb hg_ hnew_
 clear hg_ hnew_
 (first | rw [← Ny379.out] at ho19 | (simp only [Int.reduceToNat] at ho19; rw [← Ny379.out] at ho19))
 have n0_ := Aside0.mk (Kd.R_elder' (rX HO372.out) (Kd.R_base ho19) hb)
 have n1_ := Aside0.mk (Kd.R_lower (Kd.R_new' ho19 (Kd.R_lt (rX HO372.out))) (below_size (bX3 HB.out GE364.out GE365.out GE385.out)))
 have n2_ := Aside0.mk (bbX BK364.out hb)
 have n3_ := Aside0.mk (bbX BK365.out hb)
 have n4_ := Aside0.mk (bbX BK385.out hb)
 have n5_ := Aside0.mk (below_step (bX3 HB.out GE364.out GE365.out GE385.out) hb)
 clear HO372 BK364 BK365 BK385 HB
 have HO372 := n0_
 have HO381 := n1_
 have BK364 := n2_
 have BK365 := n3_
 have BK385 := n4_
 have HB := n5_
 clear n0_ n1_ n2_ n3_ n4_ n5_ hb ho19
 refine hK.out _ _ ⟨cz30 BK364.out, cz31 BK364.out, cz32 BK364.out⟩ (fun hHeld => ?_)
 clear hK K
 refine norm_ (a' := ?_) ?_ ?_
 rotate_left
 {
 show Act.put _ (some 21) _ = _
 simp only [Act.put, zA, zB, zC, i64_w, i32_w]
 rfl
 }
 exact nX (hJ0_3_8_13 (v368, v371, v380, gb385) _ ⟨hHeld, (rM HO372.out (fun _ hk => hk.2)), (rM HO381.out (fun _ hk => hk.2)), (kX BK364.out), (kX BK365.out), (kX BK385.out), GW385.out, GE385.out, NB364_385.out, NB385_364.out, NB365_385.out, NB385_365.out, (bX3 HB.out GE364.out GE365.out GE385.out)⟩)
 }
 }
 }
 {
 skip
 rintro ⟨v368, v371, v380⟩ w18 ⟨hS_, h0_, h1_, h2_, h3_, h4_⟩
 have n0_ : Aside0 (Kd.R (Kd.int .i64) 3 w18 w.heap.size (fun k_ => some k_ ≠ (v380 : Value).ownBlock) v371 y370) := ⟨h0_⟩
 have n1_ : Aside0 (Kd.R (Kd.int .i64) 3 w18 w.heap.size (fun k_ => some k_ ≠ (v371 : Value).ownBlock) v380 y379) := ⟨h1_⟩
 have n2_ : Aside0 (w18.heap[gb364]? = some (.cells #[.slice A0_0 l0_0.length c0_0, .slice A0_1 l0_1.length c0_1, .slice A0_2 l0_2.length c0_2] 26 (0, 0))) := ⟨h2_⟩
 have n3_ : Aside0 (w18.heap[gb365]? = some (.cells #[.slice none 0 0, .slice none 0 0, .slice none 0 0] 26 (0, 0))) := ⟨h3_⟩
 have n4_ : Aside0 (Below w.heap.size w w18) := ⟨h4_⟩
 clear BK364 BK365 HB h0_ h1_ h2_ h3_ h4_
 have HO372 := n0_
 have HO381 := n1_
 have BK364 := n2_
 have BK365 := n3_
 have HB := n4_
 clear n0_ n1_ n2_ n3_ n4_
 have hHeld : w18.cell? ⟨gb364, 0, none⟩ = some (.slice A0_0 l0_0.length c0_0) ∧ w18.cell? ⟨gb364, 1, none⟩ = some (.slice A0_1 l0_1.length c0_1) ∧ w18.cell? ⟨gb364, 2, none⟩ = some (.slice A0_2 l0_2.length c0_2) := hS_
 refine norm_ (a' := ?_) ?_ ?_
 rotate_left
 {
 simp only [putAll, Act.put, List.setIfInBounds_toArray, List.set_cons_zero, List.set_cons_succ]
 rfl
 }
 refine two_ (i := 4) (j := 13) (Ni := some 17) (Nj := some 5) #[tt,tt,tt,tt,tt,tt,tt,ff,tt,tt,tt,ff,ff,ff,ff] #[tt,tt,tt,tt,ff,tt,tt,ff,tt,tt,tt,ff,ff,tt,ff] rfl rfl rfl rfl (two_of HT_.out (by kernel_rfl)) (by decide) (by decide) (fun K hK => ?_) (fun K hK => ?_)
 {
 skip
 refine Kd.R_lit_step (Kd.int .i64) _ 3 ?hg (N := 17) ?hd (xs := ([] : List Int)) (inner := []) (ok := fun _ => True) (okp := fun _ => True) ?hr ?hp (fun _ hk => hk) trivial (Below.refl _ _) (Nat.le_refl _) (by simp) ?_; (case hd => rfl); (case hg => rfl); (case hr => first | (go_simp; done) | (go_simp; rfl)); (case hp => exact (Reps.none _ _))
 intro v374 w19 ho20 hb hg_ hnew_
 clear hg_ hnew_
 (first | rw [← Ny373.out] at ho20 | (simp only [Int.reduceToNat] at ho20; rw [← Ny373.out] at ho20))
 have n0_ := Aside0.mk (Kd.R_elder' (rX HO372.out) (Kd.R_base ho20) hb)
 have n1_ := Aside0.mk (Kd.R_elder' (rX HO381.out) (Kd.R_base ho20) hb)
 have n2_ := Aside0.mk (Kd.R_lower (Kd.R_new' (Kd.R_new' ho20 (Kd.R_lt (rX HO372.out))) (Kd.R_lt (rX HO381.out))) (below_size (bX2 HB.out GE364.out GE365.out)))
 have n3_ := Aside0.mk (bbX BK364.out hb)
 have n4_ := Aside0.mk (bbX BK365.out hb)
 have n5_ := Aside0.mk (below_step (bX2 HB.out GE364.out GE365.out) hb)
 clear HO372 HO381 BK364 BK365 HB
 have HO372 := n0_
 have HO381 := n1_
 have HO375 := n2_
 have BK364 := n3_
 have BK365 := n4_
 have HB := n5_
 clear n0_ n1_ n2_ n3_ n4_ n5_ hb ho20
 refine hK.out _ _ ⟨cz30 BK364.out, cz31 BK364.out, cz32 BK364.out⟩ (fun hHeld => ?_)
 clear hK K
 refine norm_ (a' := ?_) ?_ ?_
 rotate_left
 {
 show Act.put _ (some 17) _ = _
 simp only [Act.put, zA, zB, zC, i64_w, i32_w]
 rfl
 }
 exact nX (hJ0_3_4_8 (v368, v371, v374, v380) _ ⟨hHeld, (rM HO372.out (fun _ hk => ⟨hk.2, hk.1⟩)), (rM HO375.out (fun _ hk => ⟨hk.1.2, hk.2⟩)), (rX HO381.out), (kX BK364.out), (kX BK365.out), (bX2 HB.out GE364.out GE365.out)⟩)
 }
 {
 skip
 refine box_step ?hg (N := 5) ?hd (cs := #[.slice none 0 0, .slice none 0 0, .slice none 0 0]) (t := 26) ?hr ?_; (case hd => rfl); (case hg => rfl); (case hr => first | (go_simp; done) | (go_simp; rfl))
 intro gb385 hg w19 hbox hb
 have n0_ := Aside0.mk (Kd.R_below (rX HO372.out) hb)
 have n1_ := Aside0.mk (Kd.R_below (rX HO381.out) hb)
 have n2_ := Aside0.mk (bbX BK364.out hb)
 have n3_ := Aside0.mk (bbX BK365.out hb)
 have n4_ := Aside0.mk (below_step (bX2 HB.out GE364.out GE365.out) hb)
 have n5_ := Aside0.mk (hbox)
 have n6_ := Aside0.mk ((szX (below_size (bX2 HB.out GE364.out GE365.out)) hg : w.heap.size ≤ gb385))
 have n7_ := Aside0.mk ((szX (below_size (bX2 HB.out GE364.out GE365.out)) hg : w.heap.size ≤ gb385))
 have n8_ := Aside0.mk (neX BK364.out hg)
 have n9_ := Aside0.mk (nfX BK364.out hg)
 have n10_ := Aside0.mk (neX BK365.out hg)
 have n11_ := Aside0.mk (nfX BK365.out hg)
 clear HO372 HO381 BK364 BK365 HB
 have HO372 := n0_
 have HO381 := n1_
 have BK364 := n2_
 have BK365 := n3_
 have HB := n4_
 have BK385 := n5_
 have GW385 := n6_
 have GE385 := n7_
 have NB364_385 := n8_
 have NB385_364 := n9_
 have NB365_385 := n10_
 have NB385_365 := n11_
 clear n0_ n1_ n2_ n3_ n4_ n5_ n6_ n7_ n8_ n9_ n10_ n11_ hb hbox hg
 refine hK.out _ _ ⟨cz30 BK364.out, cz31 BK364.out, cz32 BK364.out⟩ (fun hHeld => ?_)
 clear hK K
 refine norm_ (a' := ?_) ?_ ?_
 rotate_left
 {
 show Act.put _ (some 5) _ = _
 simp only [Act.put, zA, zB, zC, i64_w, i32_w]
 rfl
 }
 exact nX (hJ0_3_8_13 (v368, v371, v380, gb385) _ ⟨hHeld, (rX HO372.out), (rX HO381.out), (kX BK364.out), (kX BK365.out), (kX BK385.out), GW385.out, GE385.out, NB364_385.out, NB385_364.out, NB365_385.out, NB385_365.out, (bX3 HB.out GE364.out GE365.out GE385.out)⟩)
 }
 }
 }
 {
 skip
 rintro ⟨v368, v371, v374⟩ w18 ⟨hS_, h0_, h1_, h2_, h3_, h4_⟩
 have n0_ : Aside0 (Kd.R (Kd.int .i64) 3 w18 w.heap.size (fun k_ => some k_ ≠ (v374 : Value).ownBlock) v371 y370) := ⟨h0_⟩
 have n1_ : Aside0 (Kd.R (Kd.int .i64) 3 w18 w.heap.size (fun k_ => some k_ ≠ (v371 : Value).ownBlock) v374 y373) := ⟨h1_⟩
 have n2_ : Aside0 (w18.heap[gb364]? = some (.cells #[.slice A0_0 l0_0.length c0_0, .slice A0_1 l0_1.length c0_1, .slice A0_2 l0_2.length c0_2] 26 (0, 0))) := ⟨h2_⟩
 have n3_ : Aside0 (w18.heap[gb365]? = some (.cells #[.slice none 0 0, .slice none 0 0, .slice none 0 0] 26 (0, 0))) := ⟨h3_⟩
 have n4_ : Aside0 (Below w.heap.size w w18) := ⟨h4_⟩
 clear BK364 BK365 HB h0_ h1_ h2_ h3_ h4_
 have HO372 := n0_
 have HO375 := n1_
 have BK364 := n2_
 have BK365 := n3_
 have HB := n4_
 clear n0_ n1_ n2_ n3_ n4_
 have hHeld : w18.cell? ⟨gb364, 0, none⟩ = some (.slice A0_0 l0_0.length c0_0) ∧ w18.cell? ⟨gb364, 1, none⟩ = some (.slice A0_1 l0_1.length c0_1) ∧ w18.cell? ⟨gb364, 2, none⟩ = some (.slice A0_2 l0_2.length c0_2) := hS_
 refine norm_ (a' := ?_) ?_ ?_
 rotate_left
 {
 simp only [putAll, Act.put, List.setIfInBounds_toArray, List.set_cons_zero, List.set_cons_succ]
 rfl
 }
 refine three_ (i := 7) (j := 8) (k := 13) (Ni := some 20) (Nj := some 21) (Nk := some 5) #[tt,tt,tt,tt,tt,tt,tt,tt,ff,tt,tt,ff,ff,ff,ff] #[tt,tt,tt,tt,tt,tt,tt,ff,tt,tt,tt,ff,ff,ff,ff] #[tt,tt,tt,tt,tt,tt,tt,ff,ff,tt,tt,ff,ff,tt,ff] rfl rfl rfl rfl rfl rfl (three_of HT_.out (by kernel_rfl)) (by decide) (by decide) (by decide) (fun K hK => ?_) (fun K hK => ?_) (fun K hK => ?_)
 {
 skip
 refine Kd.R_append_rows_step (Kd.int .i64) (w0 := w) w.heap.size (by rfl) (.tmp 17) (.tmp 19) 22 3 (.int .i64 0) 8 rfl Try.underlying22 info3 rfl (by decide) (by omega) v374 y373 l0_1 _ _ _ (fun k_ => some k_ ≠ (v371 : Value).ownBlock) (fun _ => False) rfl rfl ?aO ?aR (fun _ _ h => h) (fun _ h => h.elim) ?aF ?aB ?aS ?aL ?_
 (case aR => exact cX (Kd.C_below HR0_1.out HB.out))
 (case aB => exact (bX2 HB.out GE364.out GE365.out))
 (case aF => exact (fun k_ hk => Kd.fresh' (Kd.R_lt (rX HO372.out)) k_ hk))
 (case aO => exact (rX HO375.out))
 (case aS => exact (below_size (bX2 HB.out GE364.out GE365.out)))
 (case aL => have := LMc5.out; omega)
 intro v377 w19 ho hb hg hat
 rw [← Ny376.out] at ho
 have n0_ := Aside0.mk (bgX BK364.out hg (Kd.R_ne HO375.out BK364.out (by decide)))
 have n1_ := Aside0.mk (bgX BK365.out hg (Kd.R_ne HO375.out BK365.out (by decide)))
 have n2_ := Aside0.mk (Kd.R_after (ok := (fun _ => True)) (rM HO372.out (fun _ hk => ⟨trivial, hk⟩)) hg hat)
 have n3_ := Aside0.mk (hb)
 have n4_ := Aside0.mk (ho)
 clear BK364 BK365 HO372 HB HO375
 have BK364 := n0_
 have BK365 := n1_
 have HO372 := n2_
 have HB := n3_
 have HO378 := n4_
 clear n0_ n1_ n2_ n3_ n4_ ho hb hg hat
 refine hK.out _ _ ⟨cz30 BK364.out, cz31 BK364.out, cz32 BK364.out⟩ (fun hHeld => ?_)
 clear hK K
 refine norm_ (a' := ?_) ?_ ?_
 rotate_left
 {
 show Act.put _ (some 20) _ = _
 simp only [Act.put, zA, zB, zC, i64_w, i32_w]
 rfl
 }
 exact nX (hJ0_3_4_7 (v368, v371, v374, v377) _ ⟨hHeld, (rM HO372.out (fun _ hk => hk.2)), (rX HO378.out), (kX BK364.out), (kX BK365.out), (bX2 HB.out GE364.out GE365.out)⟩)
 }
 {
 skip
 refine Kd.R_lit_step (Kd.int .i64) _ 3 ?hg (N := 21) ?hd (xs := ([] : List Int)) (inner := []) (ok := fun _ => True) (okp := fun _ => True) ?hr ?hp (fun _ hk => hk) trivial (Below.refl _ _) (Nat.le_refl _) (by simp) ?_; (case hd => rfl); (case hg => rfl); (case hr => first | (go_simp; done) | (go_simp; rfl)); (case hp => exact (Reps.none _ _))
 intro v380 w19 ho20 hb hg_ hnew_
 clear hg_ hnew_
 (first | rw [← Ny379.out] at ho20 | (simp only [Int.reduceToNat] at ho20; rw [← Ny379.out] at ho20))
 have n0_ := Aside0.mk (Kd.R_elder' (rX HO372.out) (Kd.R_base ho20) hb)
 have n1_ := Aside0.mk (Kd.R_elder' (rX HO375.out) (Kd.R_base ho20) hb)
 have n2_ := Aside0.mk (Kd.R_lower (Kd.R_new' (Kd.R_new' ho20 (Kd.R_lt (rX HO372.out))) (Kd.R_lt (rX HO375.out))) (below_size (bX2 HB.out GE364.out GE365.out)))
 have n3_ := Aside0.mk (bbX BK364.out hb)
 have n4_ := Aside0.mk (bbX BK365.out hb)
 have n5_ := Aside0.mk (below_step (bX2 HB.out GE364.out GE365.out) hb)
 clear HO372 HO375 BK364 BK365 HB
 have HO372 := n0_
 have HO375 := n1_
 have HO381 := n2_
 have BK364 := n3_
 have BK365 := n4_
 have HB := n5_
 clear n0_ n1_ n2_ n3_ n4_ n5_ hb ho20
 refine hK.out _ _ ⟨cz30 BK364.out, cz31 BK364.out, cz32 BK364.out⟩ (fun hHeld => ?_)
 clear hK K
 refine norm_ (a' := ?_) ?_ ?_
 rotate_left
 {
 show Act.put _ (some 21) _ = _
 simp only [Act.put, zA, zB, zC, i64_w, i32_w]
 rfl
 }
 exact nX (hJ0_3_4_8 (v368, v371, v374, v380) _ ⟨hHeld, (rX HO372.out), (rX HO375.out), (rM HO381.out (fun _ hk => ⟨hk.1.2, hk.2⟩)), (kX BK364.out), (kX BK365.out), (bX2 HB.out GE364.out GE365.out)⟩)
 }
 {
 skip
 refine box_step ?hg (N := 5) ?hd (cs := #[.slice none 0 0, .slice none 0 0, .slice none 0 0]) (t := 26) ?hr ?_; (case hd => rfl); (case hg => rfl); (case hr => first | (go_simp; done) | (go_simp; rfl))
 intro gb385 hg w19 hbox hb
 have n0_ := Aside0.mk (Kd.R_below (rX HO372.out) hb)
 have n1_ := Aside0.mk (Kd.R_below (rX HO375.out) hb)
 have n2_ := Aside0.mk (bbX BK364.out hb)
 have n3_ := Aside0.mk (bbX BK365.out hb)
 have n4_ := Aside0.mk (below_step (bX2 HB.out GE364.out GE365.out) hb)
 have n5_ := Aside0.mk (hbox)
 have n6_ := Aside0.mk ((szX (below_size (bX2 HB.out GE364.out GE365.out)) hg : w.heap.size ≤ gb385))
 have n7_ := Aside0.mk ((szX (below_size (bX2 HB.out GE364.out GE365.out)) hg : w.heap.size ≤ gb385))
 have n8_ := Aside0.mk (neX BK364.out hg)
 have n9_ := Aside0.mk (nfX BK364.out hg)
 have n10_ := Aside0.mk (neX BK365.out hg)
 have n11_ := Aside0.mk (nfX BK365.out hg)
 clear HO372 HO375 BK364 BK365 HB
 have HO372 := n0_
 have HO375 := n1_
 have BK364 := n2_
 have BK365 := n3_
 have HB := n4_
 have BK385 := n5_
 have GW385 := n6_
 have GE385 := n7_
 have NB364_385 := n8_
 have NB385_364 := n9_
 have NB365_385 := n10_
 have NB385_365 := n11_
 clear n0_ n1_ n2_ n3_ n4_ n5_ n6_ n7_ n8_ n9_ n10_ n11_ hb hbox hg
 refine hK.out _ _ ⟨cz30 BK364.out, cz31 BK364.out, cz32 BK364.out⟩ (fun hHeld => ?_)
 clear hK K
 refine norm_ (a' := ?_) ?_ ?_
 rotate_left
 {
 show Act.put _ (some 5) _ = _
 simp only [Act.put, zA, zB, zC, i64_w, i32_w]
 rfl
 }
 exact nX (hJ0_3_4_13 (v368, v371, v374, gb385) _ ⟨hHeld, (rX HO372.out), (rX HO375.out), (kX BK364.out), (kX BK365.out), (kX BK385.out), GW385.out, GE385.out, NB364_385.out, NB385_364.out, NB365_385.out, NB385_365.out, (bX3 HB.out GE364.out GE365.out GE385.out)⟩)
 }
 }
 }
 {
 skip
 rintro ⟨v368, v374, v380, gb385⟩ w20 ⟨hS_, h0_, h1_, h2_, h3_, h4_, h5_, h6_, h7_, h8_, h9_, h10_, h11_, h12_⟩
 have n0_ : Aside0 (Kd.R (Kd.int .i64) 3 w20 w.heap.size (fun k_ => some k_ ≠ (v374 : Value).ownBlock ∧ some k_ ≠ (v380 : Value).ownBlock) v368 y367) := ⟨h0_⟩
 have n1_ : Aside0 (Kd.R (Kd.int .i64) 3 w20 w.heap.size (fun k_ => some k_ ≠ (v368 : Value).ownBlock ∧ some k_ ≠ (v380 : Value).ownBlock) v374 y373) := ⟨h1_⟩
 have n2_ : Aside0 (Kd.R (Kd.int .i64) 3 w20 w.heap.size (fun k_ => some k_ ≠ (v368 : Value).ownBlock ∧ some k_ ≠ (v374 : Value).ownBlock) v380 y379) := ⟨h2_⟩
 have n3_ : Aside0 (w20.heap[gb364]? = some (.cells #[.slice A0_0 l0_0.length c0_0, .slice A0_1 l0_1.length c0_1, .slice A0_2 l0_2.length c0_2] 26 (0, 0))) := ⟨h3_⟩
 have n4_ : Aside0 (w20.heap[gb365]? = some (.cells #[.slice none 0 0, .slice none 0 0, .slice none 0 0] 26 (0, 0))) := ⟨h4_⟩
 have n5_ : Aside0 (w20.heap[gb385]? = some (.cells #[.slice none 0 0, .slice none 0 0, .slice none 0 0] 26 (0, 0))) := ⟨h5_⟩
 have n6_ : Aside0 (w.heap.size ≤ gb385) := ⟨h6_⟩
 have n7_ : Aside0 (w.heap.size ≤ gb385) := ⟨h7_⟩
 have n8_ : Aside0 (gb364 ≠ gb385) := ⟨h8_⟩
 have n9_ : Aside0 (gb385 ≠ gb364) := ⟨h9_⟩
 have n10_ : Aside0 (gb365 ≠ gb385) := ⟨h10_⟩
 have n11_ : Aside0 (gb385 ≠ gb365) := ⟨h11_⟩
 have n12_ : Aside0 (Below w.heap.size w w20) := ⟨h12_⟩
 clear BK364 BK365 HB h0_ h1_ h2_ h3_ h4_ h5_ h6_ h7_ h8_ h9_ h10_ h11_ h12_
 have HO369 := n0_
 have HO375 := n1_
 have HO381 := n2_
 have BK364 := n3_
 have BK365 := n4_
 have BK385 := n5_
 have GW385 := n6_
 have GE385 := n7_
 have NB364_385 := n8_
 have NB385_364 := n9_
 have NB365_385 := n10_
 have NB385_365 := n11_
 have HB := n12_
 clear n0_ n1_ n2_ n3_ n4_ n5_ n6_ n7_ n8_ n9_ n10_ n11_ n12_
 have hHeld : w20.cell? ⟨gb364, 0, none⟩ = some (.slice A0_0 l0_0.length c0_0) ∧ w20.cell? ⟨gb364, 1, none⟩ = some (.slice A0_1 l0_1.length c0_1) ∧ w20.cell? ⟨gb364, 2, none⟩ = some (.slice A0_2 l0_2.length c0_2) := hS_
 refine norm_ (a' := ?_) ?_ ?_
 rotate_left
 {
 simp only [putAll, Act.put, List.setIfInBounds_toArray, List.set_cons_zero, List.set_cons_succ]
 rfl
 }
 refine one_ (i := 3) (N := some 16) #[tt,tt,tt,tt,tt,tt,tt,ff,tt,tt,tt,ff,ff,tt,ff] rfl rfl (one_of HT_.out (by kernel_rfl)) (by decide) (fun K hK => ?_)
 refine Kd.R_append_rows_step (Kd.int .i64) (w0 := w) w.heap.size (by rfl) (.tmp 13) (.tmp 15) 22 3 (.int .i64 0) 8 rfl Try.underlying22 info3 rfl (by decide) (by omega) v368 y367 l0_0 _ _ _ (fun k_ => some k_ ≠ (v374 : Value).ownBlock ∧ some k_ ≠ (v380 : Value).ownBlock) (fun _ => False) rfl rfl ?aO ?aR (fun _ _ h => h) (fun _ h => h.elim) ?aF ?aB ?aS ?aL ?_
 (case aR => exact cX (Kd.C_below HR0_0.out HB.out))
 (case aB => exact (bX3 HB.out GE364.out GE365.out GE385.out))
 (case aF => exact (fun k_ hk => ⟨Kd.fresh' (Kd.R_lt (rX HO375.out)) k_ hk, Kd.fresh' (Kd.R_lt (rX HO381.out)) k_ hk⟩))
 (case aO => exact (rX HO369.out))
 (case aS => exact (below_size (bX3 HB.out GE364.out GE365.out GE385.out)))
 (case aL => have := LMc4.out; omega)
 intro v371 w21 ho hb hg hat
 rw [← Ny370.out] at ho
 have n0_ := Aside0.mk (bgX BK364.out hg (Kd.R_ne HO369.out BK364.out (by decide)))
 have n1_ := Aside0.mk (bgX BK365.out hg (Kd.R_ne HO369.out BK365.out (by decide)))
 have n2_ := Aside0.mk (Kd.R_after (ok := (fun k_ => some k_ ≠ (v380 : Value).ownBlock)) (rM HO375.out (fun _ hk => ⟨hk.2, hk.1⟩)) hg hat)
 have n3_ := Aside0.mk (Kd.R_after (ok := (fun k_ => some k_ ≠ (v374 : Value).ownBlock)) (rM HO381.out (fun _ hk => ⟨hk.2, hk.1⟩)) hg hat)
 have n4_ := Aside0.mk (bgX BK385.out hg (Kd.R_ne HO369.out BK385.out (by decide)))
 have n5_ := Aside0.mk (hb)
 have n6_ := Aside0.mk (ho)
 clear BK364 BK365 HO375 HO381 BK385 HB HO369
 have BK364 := n0_
 have BK365 := n1_
 have HO375 := n2_
 have HO381 := n3_
 have BK385 := n4_
 have HB := n5_
 have HO372 := n6_
 clear n0_ n1_ n2_ n3_ n4_ n5_ n6_ ho hb hg hat
 refine hK.out _ _ ⟨cz30 BK364.out, cz31 BK364.out, cz32 BK364.out⟩ (fun hHeld => ?_)
 clear hK K
 refine norm_ (a' := ?_) ?_ ?_
 rotate_left
 {
 show Act.put _ (some 16) _ = _
 simp only [Act.put, zA, zB, zC, i64_w, i32_w]
 rfl
 }
 exact nX (hJ0_3_4_8_13 (v368, v371, v374, v380, gb385) _ ⟨hHeld, (rX HO372.out), (rM HO375.out (fun _ hk => ⟨hk.2, hk.1⟩)), (rM HO381.out (fun _ hk => ⟨hk.2, hk.1⟩)), (kX BK364.out), (kX BK365.out), (kX BK385.out), GW385.out, GE385.out, NB364_385.out, NB385_364.out, NB365_385.out, NB385_365.out, (bX3 HB.out GE364.out GE365.out GE385.out)⟩)
 }
 }
 {
 skip
 rintro ⟨v368, v371, v380, gb385⟩ w19 ⟨hS_, h0_, h1_, h2_, h3_, h4_, h5_, h6_, h7_, h8_, h9_, h10_, h11_⟩
 have n0_ : Aside0 (Kd.R (Kd.int .i64) 3 w19 w.heap.size (fun k_ => some k_ ≠ (v380 : Value).ownBlock) v371 y370) := ⟨h0_⟩
 have n1_ : Aside0 (Kd.R (Kd.int .i64) 3 w19 w.heap.size (fun k_ => some k_ ≠ (v371 : Value).ownBlock) v380 y379) := ⟨h1_⟩
 have n2_ : Aside0 (w19.heap[gb364]? = some (.cells #[.slice A0_0 l0_0.length c0_0, .slice A0_1 l0_1.length c0_1, .slice A0_2 l0_2.length c0_2] 26 (0, 0))) := ⟨h2_⟩
 have n3_ : Aside0 (w19.heap[gb365]? = some (.cells #[.slice none 0 0, .slice none 0 0, .slice none 0 0] 26 (0, 0))) := ⟨h3_⟩
 have n4_ : Aside0 (w19.heap[gb385]? = some (.cells #[.slice none 0 0, .slice none 0 0, .slice none 0 0] 26 (0, 0))) := ⟨h4_⟩
 have n5_ : Aside0 (w.heap.size ≤ gb385) := ⟨h5_⟩
 have n6_ : Aside0 (w.heap.size ≤ gb385) := ⟨h6_⟩
 have n7_ : Aside0 (gb364 ≠ gb385) := ⟨h7_⟩
 have n8_ : Aside0 (gb385 ≠ gb364) := ⟨h8_⟩
 have n9_ : Aside0 (gb365 ≠ gb385) := ⟨h9_⟩
 have n10_ : Aside0 (gb385 ≠ gb365) := ⟨h10_⟩
 have n11_ : Aside0 (Below w.heap.size w w19) := ⟨h11_⟩
 clear BK364 BK365 HB h0_ h1_ h2_ h3_ h4_ h5_ h6_ h7_ h8_ h9_ h10_ h11_
 have HO372 := n0_
 have HO381 := n1_
 have BK364 := n2_
 have BK365 := n3_
 have BK385 := n4_
 have GW385 := n5_
 have GE385 := n6_
 have NB364_385 := n7_
 have NB385_364 := n8_
 have NB365_385 := n9_
 have NB385_365 := n10_
 have HB := n11_
 clear n0_ n1_ n2_ n3_ n4_ n5_ n6_ n7_ n8_ n9_ n10_ n11_
 have hHeld : w19.cell? ⟨gb364, 0, none⟩ = some (.slice A0_0 l0_0.length c0_0) ∧ w19.cell? ⟨gb364, 1, none⟩ = some (.slice A0_1 l0_1.length c0_1) ∧ w19.cell? ⟨gb364, 2, none⟩ = some (.slice A0_2 l0_2.length c0_2) := hS_
 refine norm_ (a' := ?_) ?_ ?_
 rotate_left
 {
 simp only [putAll, Act.put, List.setIfInBounds_toArray, List.set_cons_zero, List.set_cons_succ]
 rfl
 }
 refine one_ (i := 4) (N := some 17) #[tt,tt,tt,tt,tt,tt,tt,ff,tt,tt,tt,ff,ff,tt,ff] rfl rfl (one_of HT_.out (by kernel_rfl)) (by decide) (fun K hK => ?_)
 refine Kd.R_lit_step (Kd.int .i64) _ 3 ?hg (N := 17) ?hd (xs := ([] : List Int)) (inner := []) (ok := fun _ => True) (okp := fun _ => True) ?hr ?hp (fun _ hk => hk) trivial (Below.refl _ _) (Nat.le_refl _) (by simp) ?_; (case hd => rfl); (case hg => rfl); (case hr => first | (go_simp; done) | (go_simp; rfl)); (case hp => exact (Reps.none _ _))
 intro v374 w20 ho21 hb hg_ hnew_
 clear hg_ hnew_
 (first | rw [← Ny373.out] at ho21 | (simp only [Int.reduceToNat] at ho21; rw [← Ny373.out] at ho21))
 have n0_ := Aside0.mk (Kd.R_elder' (rX HO372.out) (Kd.R_base ho21) hb)
 have n1_ := Aside0.mk (Kd.R_elder' (rX HO381.out) (Kd.R_base ho21) hb)
 have n2_ := Aside0.mk (Kd.R_lower (Kd.R_new' (Kd.R_new' ho21 (Kd.R_lt (rX HO372.out))) (Kd.R_lt (rX HO381.out))) (below_size (bX3 HB.out GE364.out GE365.out GE385.out)))
 have n3_ := Aside0.mk (bbX BK364.out hb)
 have n4_ := Aside0.mk (bbX BK365.out hb)
 have n5_ := Aside0.mk (bbX BK385.out hb)
 have n6_ := Aside0.mk (below_step (bX3 HB.out GE364.out GE365.out GE385.out) hb)
 clear HO372 HO381 BK364 BK365 BK385 HB
 have HO372 := n0_
 have HO381 := n1_
 have HO375 := n2_
 have BK364 := n3_
 have BK365 := n4_
 have BK385 := n5_
 have HB := n6_
 clear n0_ n1_ n2_ n3_ n4_ n5_ n6_ hb ho21
 refine hK.out _ _ ⟨cz30 BK364.out, cz31 BK364.out, cz32 BK364.out⟩ (fun hHeld => ?_)
 clear hK K
 refine norm_ (a' := ?_) ?_ ?_
 rotate_left
 {
 show Act.put _ (some 17) _ = _
 simp only [Act.put, zA, zB, zC, i64_w, i32_w]
 rfl
 }
 exact nX (hJ0_3_4_8_13 (v368, v371, v374, v380, gb385) _ ⟨hHeld, (rM HO372.out (fun _ hk => ⟨hk.2, hk.1⟩)), (rM HO375.out (fun _ hk => ⟨hk.1.2, hk.2⟩)), (rX HO381.out), (kX BK364.out), (kX BK365.out), (kX BK385.out), GW385.out, GE385.out, NB364_385.out, NB385_364.out, NB365_385.out, NB385_365.out, (bX3 HB.out GE364.out GE365.out GE385.out)⟩)
 }
 }
 {
 skip
 rintro ⟨v368, v371, v374, gb385⟩ w19 ⟨hS_, h0_, h1_, h2_, h3_, h4_, h5_, h6_, h7_, h8_, h9_, h10_, h11_⟩
 have n0_ : Aside0 (Kd.R (Kd.int .i64) 3 w19 w.heap.size (fun k_ => some k_ ≠ (v374 : Value).ownBlock) v371 y370) := ⟨h0_⟩
 have n1_ : Aside0 (Kd.R (Kd.int .i64) 3 w19 w.heap.size (fun k_ => some k_ ≠ (v371 : Value).ownBlock) v374 y373) := ⟨h1_⟩
 have n2_ : Aside0 (w19.heap[gb364]? = some (.cells #[.slice A0_0 l0_0.length c0_0, .slice A0_1 l0_1.length c0_1, .slice A0_2 l0_2.length c0_2] 26 (0, 0))) := ⟨h2_⟩
 have n3_ : Aside0 (w19.heap[gb365]? = some (.cells #[.slice none 0 0, .slice none 0 0, .slice none 0 0] 26 (0, 0))) := ⟨h3_⟩
 have n4_ : Aside0 (w19.heap[gb385]? = some (.cells #[.slice none 0 0, .slice none 0 0, .slice none 0 0] 26 (0, 0))) := ⟨h4_⟩
 have n5_ : Aside0 (w.heap.size ≤ gb385) := ⟨h5_⟩
 have n6_ : Aside0 (w.heap.size ≤ gb385) := ⟨h6_⟩
 have n7_ : Aside0 (gb364 ≠ gb385) := ⟨h7_⟩
 have n8_ : Aside0 (gb385 ≠ gb364) := ⟨h8_⟩
 have n9_ : Aside0 (gb365 ≠ gb385) := ⟨h9_⟩
 have n10_ : Aside0 (gb385 ≠ gb365) := ⟨h10_⟩
 have n11_ : Aside0 (Below w.heap.size w w19) := ⟨h11_⟩
 clear BK364 BK365 HB h0_ h1_ h2_ h3_ h4_ h5_ h6_ h7_ h8_ h9_ h10_ h11_
 have HO372 := n0_
 have HO375 := n1_
 have BK364 := n2_
 have BK365 := n3_
 have BK385 := n4_
 have GW385 := n5_
 have GE385 := n6_
 have NB364_385 := n7_
 have NB385_364 := n8_
 have NB365_385 := n9_
 have NB385_365 := n10_
 have HB := n11_
 clear n0_ n1_ n2_ n3_ n4_ n5_ n6_ n7_ n8_ n9_ n10_ n11_
 have hHeld : w19.cell? ⟨gb364, 0, none⟩ = some (.slice A0_0 l0_0.length c0_0) ∧ w19.cell? ⟨gb364, 1, none⟩ = some (.slice A0_1 l0_1.length c0_1) ∧ w19.cell? ⟨gb364, 2, none⟩ = some (.slice A0_2 l0_2.length c0_2) := hS_
 refine norm_ (a' := ?_) ?_ ?_
 rotate_left
 {
 simp only [putAll, Act.put, List.setIfInBounds_toArray, List.set_cons_zero, List.set_cons_succ]
 rfl
 }
 refine two_ (i := 7) (j := 8) (Ni := some 20) (Nj := some 21) #[tt,tt,tt,tt,tt,tt,tt,tt,ff,tt,tt,ff,ff,tt,ff] #[tt,tt,tt,tt,tt,tt,tt,ff,tt,tt,tt,ff,ff,tt,ff] rfl rfl rfl rfl (two_of HT_.out (by kernel_rfl)) (by decide) (by decide) (fun K hK => ?_) (fun K hK => ?_)
 {
 skip
 refine Kd.R_append_rows_step (Kd.int .i64) (w0 := w) w.heap.size (by rfl) (.tmp 17) (.tmp 19) 22 3 (.int .i64 0) 8 rfl Try.underlying22 info3 rfl (by decide) (by omega) v374 y373 l0_1 _ _ _ (fun k_ => some k_ ≠ (v371 : Value).ownBlock) (fun _ => False) rfl rfl ?aO ?aR (fun _ _ h => h) (fun _ h => h.elim) ?aF ?aB ?aS ?aL ?_
 (case aR => exact cX (Kd.C_below HR0_1.out HB.out))
 (case aB => exact (bX3 HB.out GE364.out GE365.out GE385.out))
 (case aF => exact (fun k_ hk => Kd.fresh' (Kd.R_lt (rX HO372.out)) k_ hk))
 (case aO => exact (rX HO375.out))
 (case aS => exact (below_size (bX3 HB.out GE364.out GE365.out GE385.out)))
 (case aL => have := LMc5.out; omega)
 intro v377 w20 ho hb hg hat
 rw [← Ny376.out] at ho
 have n0_ := Aside0.mk (bgX BK364.out hg (Kd.R_ne HO375.out BK364.out (by decide)))
 have n1_ := Aside0.mk (bgX BK365.out hg (Kd.R_ne HO375.out BK365.out (by decide)))
 have n2_ := Aside0.mk (Kd.R_after (ok := (fun _ => True)) (rM HO372.out (fun _ hk => ⟨trivial, hk⟩)) hg hat)
 have n3_ := Aside0.mk (bgX BK385.out hg (Kd.R_ne HO375.out BK385.out (by decide)))
 have n4_ := Aside0.mk (hb)
 have n5_ := Aside0.mk (ho)
 clear BK364 BK365 HO372 BK385 HB HO375
 have BK364 := n0_
 have BK365 := n1_
 have HO372 := n2_
 have BK385 := n3_
 have HB := n4_
 have HO378 := n5_
 clear n0_ n1_ n2_ n3_ n4_ n5_ ho hb hg hat
 refine hK.out _ _ ⟨cz30 BK364.out, cz31 BK364.out, cz32 BK364.out⟩ (fun hHeld => ?_)
 clear hK K
 refine norm_ (a' := ?_) ?_ ?_
 rotate_left
 {
 show Act.put _ (some 20) _ = _
 simp only [Act.put, zA, zB, zC, i64_w, i32_w]
 rfl
 }
 exact nX (hJ0_3_4_7_13 (v368, v371, v374, v377, gb385) _ ⟨hHeld, (rM HO372.out (fun _ hk => hk.2)), (rX HO378.out), (kX BK364.out), (kX BK365.out), (kX BK385.out), GW385.out, GE385.out, NB364_385.out, NB385_364.out, NB365_385.out, NB385_365.out, (bX3 HB.out GE364.out GE365.out GE385.out)⟩)
 }
 {
 skip
 refine Kd.R_lit_step (Kd.int .i64) _ 3 ?hg (N := 21) ?hd (xs := ([] : List Int)) (inner := []) (ok := fun _ => True) (okp := fun _ => True) ?hr ?hp (fun _ hk => hk) trivial (Below.refl _ _) (Nat.le_refl _) (by simp) ?_; (case hd => rfl); (case hg => rfl); (case hr => first | (go_simp; done) | (go_simp; rfl)); (case hp => exact (Reps.none _ _))
 intro v380 w20 ho21 hb hg_ hnew_
 clear hg_ hnew_
 (first | rw [← Ny379.out] at ho21 | (simp only [Int.reduceToNat] at ho21; rw [← Ny379.out] at ho21))
 have n0_ := Aside0.mk (Kd.R_elder' (rX HO372.out) (Kd.R_base ho21) hb)
 have n1_ := Aside0.mk (Kd.R_elder' (rX HO375.out) (Kd.R_base ho21) hb)
 have n2_ := Aside0.mk (Kd.R_lower (Kd.R_new' (Kd.R_new' ho21 (Kd.R_lt (rX HO372.out))) (Kd.R_lt (rX HO375.out))) (below_size (bX3 HB.out GE364.out GE365.out GE385.out)))
 have n3_ := Aside0.mk (bbX BK364.out hb)
 have n4_ := Aside0.mk (bbX BK365.out hb)
 have n5_ := Aside0.mk (bbX BK385.out hb)
 have n6_ := Aside0.mk (below_step (bX3 HB.out GE364.out GE365.out GE385.out) hb)
 clear HO372 HO375 BK364 BK365 BK385 HB
 have HO372 := n0_
 have HO375 := n1_
 have HO381 := n2_
 have BK364 := n3_
 have BK365 := n4_
 have BK385 := n5_
 have HB := n6_
 clear n0_ n1_ n2_ n3_ n4_ n5_ n6_ hb ho21
 refine hK.out _ _ ⟨cz30 BK364.out, cz31 BK364.out, cz32 BK364.out⟩ (fun hHeld => ?_)
 clear hK K
 refine norm_ (a' := ?_) ?_ ?_
 rotate_left
 {
 show Act.put _ (some 21) _ = _
 simp only [Act.put, zA, zB, zC, i64_w, i32_w]
 rfl
 }
 exact nX (hJ0_3_4_8_13 (v368, v371, v374, v380, gb385) _ ⟨hHeld, (rX HO372.out), (rX HO375.out), (rM HO381.out (fun _ hk => ⟨hk.1.2, hk.2⟩)), (kX BK364.out), (kX BK365.out), (kX BK385.out), GW385.out, GE385.out, NB364_385.out, NB385_364.out, NB365_385.out, NB385_365.out, (bX3 HB.out GE364.out GE365.out GE385.out)⟩)
 }
 }
 }
 {
 skip
 rintro ⟨v368, v371, v374, v380⟩ w20 ⟨hS_, h0_, h1_, h2_, h3_, h4_, h5_⟩
 have n0_ : Aside0 (Kd.R (Kd.int .i64) 3 w20 w.heap.size (fun k_ => some k_ ≠ (v374 : Value).ownBlock ∧ some k_ ≠ (v380 : Value).ownBlock) v371 y370) := ⟨h0_⟩
 have n1_ : Aside0 (Kd.R (Kd.int .i64) 3 w20 w.heap.size (fun k_ => some k_ ≠ (v371 : Value).ownBlock ∧ some k_ ≠ (v380 : Value).ownBlock) v374 y373) := ⟨h1_⟩
 have n2_ : Aside0 (Kd.R (Kd.int .i64) 3 w20 w.heap.size (fun k_ => some k_ ≠ (v371 : Value).ownBlock ∧ some k_ ≠ (v374 : Value).ownBlock) v380 y379) := ⟨h2_⟩
 have n3_ : Aside0 (w20.heap[gb364]? = some (.cells #[.slice A0_0 l0_0.length c0_0, .slice A0_1 l0_1.length c0_1, .slice A0_2 l0_2.length c0_2] 26 (0, 0))) := ⟨h3_⟩
 have n4_ : Aside0 (w20.heap[gb365]? = some (.cells #[.slice none 0 0, .slice none 0 0, .slice none 0 0] 26 (0, 0))) := ⟨h4_⟩
 have n5_ : Aside0 (Below w.heap.size w w20) := ⟨h5_⟩
 clear BK364 BK365 HB h0_ h1_ h2_ h3_ h4_ h5_
 have HO372 := n0_
 have HO375 := n1_
 have HO381 := n2_
 have BK364 := n3_
 have BK365 := n4_
 have HB := n5_
 clear n0_ n1_ n2_ n3_ n4_ n5_
 have hHeld : w20.cell? ⟨gb364, 0, none⟩ = some (.slice A0_0 l0_0.length c0_0) ∧ w20.cell? ⟨gb364, 1, none⟩ = some (.slice A0_1 l0_1.length c0_1) ∧ w20.cell? ⟨gb364, 2, none⟩ = some (.slice A0_2 l0_2.length c0_2) := hS_
 refine norm_ (a' := ?_) ?_ ?_
 rotate_left
 {
 simp only [putAll, Act.put, List.setIfInBounds_toArray, List.set_cons_zero, List.set_cons_succ]
 rfl
 }
 refine two_ (i := 7) (j := 13) (Ni := some 20) (Nj := some 5) #[tt,tt,tt,tt,tt,tt,tt,tt,tt,tt,tt,ff,ff,ff,ff] #[tt,tt,tt,tt,tt,tt,tt,ff,tt,tt,tt,ff,ff,tt,ff] rfl rfl rfl rfl (two_of HT_.out (by kernel_rfl)) (by decide) (by decide) (fun K hK => ?_) (fun K hK => ?_)
 {
 skip
 refine Kd.R_append_rows_step (Kd.int .i64) (w0 := w) w.heap.size (by rfl) (.tmp 17) (.tmp 19) 22 3 (.int .i64 0) 8 rfl Try.underlying22 info3 rfl (by decide) (by omega) v374 y373 l0_1 _ _ _ (fun k_ => some k_ ≠ (v371 : Value).ownBlock ∧ some k_ ≠ (v380 : Value).ownBlock) (fun _ => False) rfl rfl ?aO ?aR (fun _ _ h => h) (fun _ h => h.elim) ?aF ?aB ?aS ?aL ?_
 (case aR => exact cX (Kd.C_below HR0_1.out HB.out))
 (case aB => exact (bX2 HB.out GE364.out GE365.out))
 (case aF => exact (fun k_ hk => ⟨Kd.fresh' (Kd.R_lt (rX HO372.out)) k_ hk, Kd.fresh' (Kd.R_lt (rX HO381.out)) k_ hk⟩))
 (case aO => exact (rX HO375.out))
 (case aS => exact (below_size (bX2 HB.out GE364.out GE365.out)))
 (case aL => have := LMc5.out; omega)
 intro v377 w21 ho hb hg hat
 rw [← Ny376.out] at ho
 have n0_ := Aside0.mk (bgX BK364.out hg (Kd.R_ne HO375.out BK364.out (by decide)))
 have n1_ := Aside0.mk (bgX BK365.out hg (Kd.R_ne HO375.out BK365.out (by decide)))
 have n2_ := Aside0.mk (Kd.R_after (ok := (fun k_ => some k_ ≠ (v380 : Value).ownBlock)) (rM HO372.out (fun _ hk => ⟨hk.2, hk.1⟩)) hg hat)
 have n3_ := Aside0.mk (Kd.R_after (ok := (fun k_ => some k_ ≠ (v371 : Value).ownBlock)) (rX HO381.out) hg hat)
 have n4_ := Aside0.mk (hb)
 have n5_ := Aside0.mk (ho)
 clear BK364 BK365 HO372 HO381 HB HO375
 have BK364 := n0_
 have BK365 := n1_
 have HO372 := n2_
 have HO381 := n3_
 have HB := n4_
 have HO378 := n5_
 clear n0_ n1_ n2_ n3_ n4_ n5_ ho hb hg hat
 refine hK.out _ _ ⟨cz30 BK364.out, cz31 BK364.out, cz32 BK364.out⟩ (fun hHeld => ?_)
 clear hK K
 refine norm_ (a' := ?_) ?_ ?_
 rotate_left
 {
 show Act.put _ (some 20) _ = _
 simp only [Act.put, zA, zB, zC, i64_w, i32_w]
 rfl
 }
 exact nX (hJ0_3_4_7_8 (v368, v371, v374, v377, v380) _ ⟨hHeld, (rM HO372.out (fun _ hk => ⟨hk.2, hk.1⟩)), (rX HO378.out), (rX HO381.out), (kX BK364.out), (kX BK365.out), (bX2 HB.out GE364.out GE365.out)⟩)
 }
 {
 skip
 refine box_step ?hg (N := 5) ?hd (cs := #[.slice none 0 0, .slice none 0 0, .slice none 0 0]) (t := 26) ?hr ?_; (case hd => rfl); (case hg => rfl); (case hr => first | (go_simp; done) | (go_simp; rfl))
 intro gb385 hg w21 hbox hb
 have n0_ := Aside0.mk (Kd.R_below (rX HO372.out) hb)
 have n1_ := Aside0.mk (Kd.R_below (rX HO375.out) hb)
 have n2_ := Aside0.mk (Kd.R_below (rX HO381.out) hb)
 have n3_ := Aside0.mk (bbX BK364.out hb)
 have n4_ := Aside0.mk (bbX BK365.out hb)
 have n5_ := Aside0.mk (below_step (bX2 HB.out GE364.out GE365.out) hb)
 have n6_ := Aside0.mk (hbox)
 have n7_ := Aside0.mk ((szX (below_size (bX2 HB.out GE364.out GE365.out)) hg : w.heap.size ≤ gb385))
 have n8_ := Aside0.mk ((szX (below_size (bX2 HB.out GE364.out GE365.out)) hg : w.heap.size ≤ gb385))
 have n9_ := Aside0.mk (neX BK364.out hg)
 have n10_ := Aside0.mk (nfX BK364.out hg)
 have n11_ := Aside0.mk (neX BK365.out hg)
 have n12_ := Aside0.mk (nfX BK365.out hg)
 clear HO372 HO375 HO381 BK364 BK365 HB
 have HO372 := n0_
 have HO375 := n1_
 have HO381 := n2_
 have BK364 := n3_
 have BK365 := n4_
 have HB := n5_
 have BK385 := n6_
 have GW385 := n7_
 have GE385 := n8_
 have NB364_385 := n9_
 have NB385_364 := n10_
 have NB365_385 := n11_
 have NB385_365 := n12_
 clear n0_ n1_ n2_ n3_ n4_ n5_ n6_ n7_ n8_ n9_ n10_ n11_ n12_ hb hbox hg
 refine hK.out _ _ ⟨cz30 BK364.out, cz31 BK364.out, cz32 BK364.out⟩ (fun hHeld => ?_)
 clear hK K
 refine norm_ (a' := ?_) ?_ ?_
 rotate_left
 {
 show Act.put _ (some 5) _ = _
 simp only [Act.put, zA, zB, zC, i64_w, i32_w]
 rfl
 }
 exact nX (hJ0_3_4_8_13 (v368, v371, v374, v380, gb385) _ ⟨hHeld, (rX HO372.out), (rX HO375.out), (rX HO381.out), (kX BK364.out), (kX BK365.out), (kX BK385.out), GW385.out, GE385.out, NB364_385.out, NB385_364.out, NB365_385.out, NB385_365.out, (bX3 HB.out GE364.out GE365.out GE385.out)⟩)
 }
 }
 }
 {
 skip
 rintro ⟨v368, v371, v374, v377⟩ w19 ⟨hS_, h0_, h1_, h2_, h3_, h4_⟩
 have n0_ : Aside0 (Kd.R (Kd.int .i64) 3 w19 w.heap.size (fun k_ => some k_ ≠ (v377 : Value).ownBlock) v371 y370) := ⟨h0_⟩
 have n1_ : Aside0 (Kd.R (Kd.int .i64) 3 w19 w.heap.size (fun k_ => some k_ ≠ (v371 : Value).ownBlock) v377 y376) := ⟨h1_⟩
 have n2_ : Aside0 (w19.heap[gb364]? = some (.cells #[.slice A0_0 l0_0.length c0_0, .slice A0_1 l0_1.length c0_1, .slice A0_2 l0_2.length c0_2] 26 (0, 0))) := ⟨h2_⟩
 have n3_ : Aside0 (w19.heap[gb365]? = some (.cells #[.slice none 0 0, .slice none 0 0, .slice none 0 0] 26 (0, 0))) := ⟨h3_⟩
 have n4_ : Aside0 (Below w.heap.size w w19) := ⟨h4_⟩
 clear BK364 BK365 HB h0_ h1_ h2_ h3_ h4_
 have HO372 := n0_
 have HO378 := n1_
 have BK364 := n2_
 have BK365 := n3_
 have HB := n4_
 clear n0_ n1_ n2_ n3_ n4_
 have hHeld : w19.cell? ⟨gb364, 0, none⟩ = some (.slice A0_0 l0_0.length c0_0) ∧ w19.cell? ⟨gb364, 1, none⟩ = some (.slice A0_1 l0_1.length c0_1) ∧ w19.cell? ⟨gb364, 2, none⟩ = some (.slice A0_2 l0_2.length c0_2) := hS_
 refine norm_ (a' := ?_) ?_ ?_
 rotate_left
 {
 simp only [putAll, Act.put, List.setIfInBounds_toArray, List.set_cons_zero, List.set_cons_succ]
 rfl
 }
 refine two_ (i := 8) (j := 13) (Ni := some 21) (Nj := some 5) #[tt,tt,tt,tt,tt,tt,tt,tt,tt,tt,tt,ff,ff,ff,ff] #[tt,tt,tt,tt,tt,tt,tt,tt,ff,tt,tt,ff,ff,tt,ff] rfl rfl rfl rfl (two_of HT_.out (by kernel_rfl)) (by decide) (by decide) (fun K hK => ?_) (fun K hK => ?_)
 {
 skip
 refine Kd.R_lit_step (Kd.int .i64) _ 3 ?hg (N := 21) ?hd (xs := ([] : List Int)) (inner := []) (ok := fun _ => True) (okp := fun _ => True) ?hr ?hp (fun _ hk => hk) trivial (Below.refl _ _) (Nat.le_refl _) (by simp) ?_; (case hd => rfl); (case hg => rfl); (case hr => first | (go_simp; done) | (go_simp; rfl)); (case hp => exact (Reps.none _ _))
 intro v380 w20 ho21 hb hg_ hnew_
 clear hg_ hnew_
 (first | rw [← Ny379.out] at ho21 | (simp only [Int.reduceToNat] at ho21; rw [← Ny379.out] at ho21))
 have n0_ := Aside0.mk (Kd.R_elder' (rX HO372.out) (Kd.R_base ho21) hb)
 have n1_ := Aside0.mk (Kd.R_elder' (rX HO378.out) (Kd.R_base ho21) hb)
 have n2_ := Aside0.mk (Kd.R_lower (Kd.R_new' (Kd.R_new' ho21 (Kd.R_lt (rX HO372.out))) (Kd.R_lt (rX HO378.out))) (below_size (bX2 HB.out GE364.out GE365.out)))
 have n3_ := Aside0.mk (bbX BK364.out hb)
 have n4_ := Aside0.mk (bbX BK365.out hb)
 have n5_ := Aside0.mk (below_step (bX2 HB.out GE364.out GE365.out) hb)
 clear HO372 HO378 BK364 BK365 HB
 have HO372 := n0_
 have HO378 := n1_
 have HO381 := n2_
 have BK364 := n3_
 have BK365 := n4_
 have HB := n5_
 clear n0_ n1_ n2_ n3_ n4_ n5_ hb ho21
 refine hK.out _ _ ⟨cz30 BK364.out, cz31 BK364.out, cz32 BK364.out⟩ (fun hHeld => ?_)
 clear hK K
 refine norm_ (a' := ?_) ?_ ?_
 rotate_left
 {
 show Act.put _ (some 21) _ = _
 simp only [Act.put, zA, zB, zC, i64_w, i32_w]
 rfl
 }
 exact nX (hJ0_3_4_7_8 (v368, v371, v374, v377, v380) _ ⟨hHeld, (rX HO372.out), (rX HO378.out), (rM HO381.out (fun _ hk => ⟨hk.1.2, hk.2⟩)), (kX BK364.out), (kX BK365.out), (bX2 HB.out GE364.out GE365.out)⟩)
 }
 {
 skip
 refine box_step ?hg (N := 5) ?hd (cs := #[.slice none 0 0, .slice none 0 0, .slice none 0 0]) (t := 26) ?hr ?_; (case hd => rfl); (case hg => rfl); (case hr => first | (go_simp; done) | (go_simp; rfl))
 intro gb385 hg w20 hbox hb
 have n0_ := Aside0.mk (Kd.R_below (rX HO372.out) hb)
 have n1_ := Aside0.mk (Kd.R_below (rX HO378.out) hb)
 have n2_ := Aside0.mk (bbX BK364.out hb)
 have n3_ := Aside0.mk (bbX BK365.out hb)
 have n4_ := Aside0.mk (below_step (bX2 HB.out GE364.out GE365.out) hb)
 have n5_ := Aside0.mk (hbox)
 have n6_ := Aside0.mk ((szX (below_size (bX2 HB.out GE364.out GE365.out)) hg : w.heap.size ≤ gb385))
 have n7_ := Aside0.mk ((szX (below_size (bX2 HB.out GE364.out GE365.out)) hg : w.heap.size ≤ gb385))
 have n8_ := Aside0.mk (neX BK364.out hg)
 have n9_ := Aside0.mk (nfX BK364.out hg)
 have n10_ := Aside0.mk (neX BK365.out hg)
 have n11_ := Aside0.mk (nfX BK365.out hg)
 clear HO372 HO378 BK364 BK365 HB
 have HO372 := n0_
 have HO378 := n1_
 have BK364 := n2_
 have BK365 := n3_
 have HB := n4_
 have BK385 := n5_
 have GW385 := n6_
 have GE385 := n7_
 have NB364_385 := n8_
 have NB385_364 := n9_
 have NB365_385 := n10_
 have NB385_365 := n11_
 clear n0_ n1_ n2_ n3_ n4_ n5_ n6_ n7_ n8_ n9_ n10_ n11_ hb hbox hg
 refine hK.out _ _ ⟨cz30 BK364.out, cz31 BK364.out, cz32 BK364.out⟩ (fun hHeld => ?_)
 clear hK K
 refine norm_ (a' := ?_) ?_ ?_
 rotate_left
 {
 show Act.put _ (some 5) _ = _
 simp only [Act.put, zA, zB, zC, i64_w, i32_w]
 rfl
 }
 exact nX (hJ0_3_4_7_13 (v368, v371, v374, v377, gb385) _ ⟨hHeld, (rX HO372.out), (rX HO378.out), (kX BK364.out), (kX BK365.out), (kX BK385.out), GW385.out, GE385.out, NB364_385.out, NB385_364.out, NB365_385.out, NB385_365.out, (bX3 HB.out GE364.out GE365.out GE385.out)⟩)
 }
 }
 }
 {
 skip
 rintro ⟨v368, v371, v374, v380, gb385⟩ w21 ⟨hS_, h0_, h1_, h2_, h3_, h4_, h5_, h6_, h7_, h8_, h9_, h10_, h11_, h12_⟩
 have n0_ : Aside0 (Kd.R (Kd.int .i64) 3 w21 w.heap.size (fun k_ => some k_ ≠ (v374 : Value).ownBlock ∧ some k_ ≠ (v380 : Value).ownBlock) v371 y370) := ⟨h0_⟩
 have n1_ : Aside0 (Kd.R (Kd.int .i64) 3 w21 w.heap.size (fun k_ => some k_ ≠ (v371 : Value).ownBlock ∧ some k_ ≠ (v380 : Value).ownBlock) v374 y373) := ⟨h1_⟩
 have n2_ : Aside0 (Kd.R (Kd.int .i64) 3 w21 w.heap.size (fun k_ => some k_ ≠ (v371 : Value).ownBlock ∧ some k_ ≠ (v374 : Value).ownBlock) v380 y379) := ⟨h2_⟩
 have n3_ : Aside0 (w21.heap[gb364]? = some (.cells #[.slice A0_0 l0_0.length c0_0, .slice A0_1 l0_1.length c0_1, .slice A0_2 l0_2.length c0_2] 26 (0, 0))) := ⟨h3_⟩
 have n4_ : Aside0 (w21.heap[gb365]? = some (.cells #[.slice none 0 0, .slice none 0 0, .slice none 0 0] 26 (0, 0))) := ⟨h4_⟩
 have n5_ : Aside0 (w21.heap[gb385]? = some (.cells #[.slice none 0 0, .slice none 0 0, .slice none 0 0] 26 (0, 0))) := ⟨h5_⟩
 have n6_ : Aside0 (w.heap.size ≤ gb385) := ⟨h6_⟩
 have n7_ : Aside0 (w.heap.size ≤ gb385) := ⟨h7_⟩
 have n8_ : Aside0 (gb364 ≠ gb385) := ⟨h8_⟩
 have n9_ : Aside0 (gb385 ≠ gb364) := ⟨h9_⟩
 have n10_ : Aside0 (gb365 ≠ gb385) := ⟨h10_⟩
 have n11_ : Aside0 (gb385 ≠ gb365) := ⟨h11_⟩
 have n12_ : Aside0 (Below w.heap.size w w21) := ⟨h12_⟩
 clear BK364 BK365 HB h0_ h1_ h2_ h3_ h4_ h5_ h6_ h7_ h8_ h9_ h10_ h11_ h12_
 have HO372 := n0_
 have HO375 := n1_
 have HO381 := n2_
 have BK364 := n3_
 have BK365 := n4_
 have BK385 := n5_
 have GW385 := n6_
 have GE385 := n7_
 have NB364_385 := n8_
 have NB385_364 := n9_
 have NB365_385 := n10_
 have NB385_365 := n11_
 have HB := n12_
 clear n0_ n1_ n2_ n3_ n4_ n5_ n6_ n7_ n8_ n9_ n10_ n11_ n12_
 have hHeld : w21.cell? ⟨gb364, 0, none⟩ = some (.slice A0_0 l0_0.length c0_0) ∧ w21.cell? ⟨gb364, 1, none⟩ = some (.slice A0_1 l0_1.length c0_1) ∧ w21.cell? ⟨gb364, 2, none⟩ = some (.slice A0_2 l0_2.length c0_2) := hS_
 refine norm_ (a' := ?_) ?_ ?_
 rotate_left
 {
 simp only [putAll, Act.put, List.setIfInBounds_toArray, List.set_cons_zero, List.set_cons_succ]
 rfl
 }
 refine one_ (i := 7) (N := some 20) #[tt,tt,tt,tt,tt,tt,tt,tt,tt,tt,tt,ff,ff,tt,ff] rfl rfl (one_of HT_.out (by kernel_rfl)) (by decide) (fun K hK => ?_)
 refine Kd.R_append_rows_step (Kd.int .i64) (w0 := w) w.heap.size (by rfl) (.tmp 17) (.tmp 19) 22 3 (.int .i64 0) 8 rfl Try.underlying22 info3 rfl (by decide) (by omega) v374 y373 l0_1 _ _ _ (fun k_ => some k_ ≠ (v371 : Value).ownBlock ∧ some k_ ≠ (v380 : Value).ownBlock) (fun _ => False) rfl rfl ?aO ?aR (fun _ _ h => h) (fun _ h => h.elim) ?aF ?aB ?aS ?aL ?_
 (case aR => exact cX (Kd.C_below HR0_1.out HB.out))
 (case aB => exact (bX3 HB.out GE364.out GE365.out GE385.out))
 (case aF => exact (fun k_ hk => ⟨Kd.fresh' (Kd.R_lt (rX HO372.out)) k_ hk, Kd.fresh' (Kd.R_lt (rX HO381.out)) k_ hk⟩))
 (case aO => exact (rX HO375.out))
 (case aS => exact (below_size (bX3 HB.out GE364.out GE365.out GE385.out)))
 (case aL => have := LMc5.out; omega)
 intro v377 w22 ho hb hg hat
 rw [← Ny376.out] at ho
 have n0_ := Aside0.mk (bgX BK364.out hg (Kd.R_ne HO375.out BK364.out (by decide)))
 have n1_ := Aside0.mk (bgX BK365.out hg (Kd.R_ne HO375.out BK365.out (by decide)))
 have n2_ := Aside0.mk (Kd.R_after (ok := (fun k_ => some k_ ≠ (v380 : Value).ownBlock)) (rM HO372.out (fun _ hk => ⟨hk.2, hk.1⟩)) hg hat)
 have n3_ := Aside0.mk (Kd.R_after (ok := (fun k_ => some k_ ≠ (v371 : Value).ownBlock)) (rX HO381.out) hg hat)
 have n4_ := Aside0.mk (bgX BK385.out hg (Kd.R_ne HO375.out BK385.out (by decide)))
 have n5_ := Aside0.mk (hb)
 have n6_ := Aside0.mk (ho)
 clear BK364 BK365 HO372 HO381 BK385 HB HO375
 have BK364 := n0_
 have BK365 := n1_
 have HO372 := n2_
 have HO381 := n3_
 have BK385 := n4_
 have HB := n5_
 have HO378 := n6_
 clear n0_ n1_ n2_ n3_ n4_ n5_ n6_ ho hb hg hat
 refine hK.out _ _ ⟨cz30 BK364.out, cz31 BK364.out, cz32 BK364.out⟩ (fun hHeld => ?_)
 clear hK K
 refine norm_ (a' := ?_) ?_ ?_
 rotate_left
 {
 show Act.put _ (some 20) _ = _
 simp only [Act.put, zA, zB, zC, i64_w, i32_w]
 rfl
 }
 exact nX (hJ0_3_4_7_8_13 (v368, v371, v374, v377, v380, gb385) _ ⟨hHeld, (rM HO372.out (fun _ hk => ⟨hk.2, hk.1⟩)), (rX HO378.out), (rX HO381.out), (kX BK364.out), (kX BK365.out), (kX BK385.out), GW385.out, GE385.out, NB364_385.out, NB385_364.out, NB365_385.out, NB385_365.out, (bX3 HB.out GE364.out GE365.out GE385.out)⟩)
 }
 }
 {
 skip
 rintro ⟨v368, v371, v374, v377, gb385⟩ w20 ⟨hS_, h0_, h1_, h2_, h3_, h4_, h5_, h6_, h7_, h8_, h9_, h10_, h11_⟩
 have n0_ : Aside0 (Kd.R (Kd.int .i64) 3 w20 w.heap.size (fun k_ => some k_ ≠ (v377 : Value).ownBlock) v371 y370) := ⟨h0_⟩
 have n1_ : Aside0 (Kd.R (Kd.int .i64) 3 w20 w.heap.size (fun k_ => some k_ ≠ (v371 : Value).ownBlock) v377 y376) := ⟨h1_⟩
 have n2_ : Aside0 (w20.heap[gb364]? = some (.cells #[.slice A0_0 l0_0.length c0_0, .slice A0_1 l0_1.length c0_1, .slice A0_2 l0_2.length c0_2] 26 (0, 0))) := ⟨h2_⟩
 have n3_ : Aside0 (w20.heap[gb365]? = some (.cells #[.slice none 0 0, .slice none 0 0, .slice none 0 0] 26 (0, 0))) := ⟨h3_⟩
 have n4_ : Aside0 (w20.heap[gb385]? = some (.cells #[.slice none 0 0, .slice none 0 0, .slice none 0 0] 26 (0, 0))) := ⟨h4_⟩
 have n5_ : Aside0 (w.heap.size ≤ gb385) := ⟨h5_⟩
 have n6_ : Aside0 (w.heap.size ≤ gb385) := ⟨h6_⟩
 have n7_ : Aside0 (gb364 ≠ gb385) := ⟨h7_⟩
 have n8_ : Aside0 (gb385 ≠ gb364) := ⟨h8_⟩
 have n9_ : Aside0 (gb365 ≠ gb385) := ⟨h9_⟩
 have n10_ : Aside0 (gb385 ≠ gb365) := ⟨h10_⟩
 have n11_ : Aside0 (Below w.heap.size w w20) := ⟨h11_⟩
 clear BK364 BK365 HB h0_ h1_ h2_ h3_ h4_ h5_ h6_ h7_ h8_ h9_ h10_ h11_
 have HO372 := n0_
 have HO378 := n1_
 have BK364 := n2_
 have BK365 := n3_
 have BK385 := n4_
 have GW385 := n5_
 have GE385 := n6_
 have NB364_385 := n7_
 have NB385_364 := n8_
 have NB365_385 := n9_
 have NB385_365 := n10_
 have HB := n11_
 clear n0_ n1_ n2_ n3_ n4_ n5_ n6_ n7_ n8_ n9_ n10_ n11_
 have hHeld : w20.cell? ⟨gb364, 0, none⟩ = some (.slice A0_0 l0_0.length c0_0) ∧ w20.cell? ⟨gb364, 1, none⟩ = some (.slice A0_1 l0_1.length c0_1) ∧ w20.cell? ⟨gb364, 2, none⟩ = some (.slice A0_2 l0_2.length c0_2) := hS_
 refine norm_ (a' := ?_) ?_ ?_
 rotate_left
 {
 simp only [putAll, Act.put, List.setIfInBounds_toArray, List.set_cons_zero, List.set_cons_succ]
 rfl
 }
 refine one_ (i := 8) (N := some 21) #[tt,tt,tt,tt,tt,tt,tt,tt,tt,tt,tt,ff,ff,tt,ff] rfl rfl (one_of HT_.out (by kernel_rfl)) (by decide) (fun K hK => ?_)
 refine Kd.R_lit_step (Kd.int .i64) _ 3 ?hg (N := 21) ?hd (xs := ([] : List Int)) (inner := []) (ok := fun _ => True) (okp := fun _ => True) ?hr ?hp (fun _ hk => hk) trivial (Below.refl _ _) (Nat.le_refl _) (by simp) ?_; (case hd => rfl); (case hg => rfl); (case hr => first | (go_simp; done) | (go_simp; rfl)); (case hp => exact (Reps.none _ _))
 intro v380 w21 ho22 hb hg_ hnew_
 clear hg_ hnew_
 (first | rw [← Ny379.out] at ho22 | (simp only [Int.reduceToNat] at ho22; rw [← Ny379.out] at ho22))
 have n0_ := Aside0.mk (Kd.R_elder' (rX HO372.out) (Kd.R_base ho22) hb)
 have n1_ := Aside0.mk (Kd.R_elder' (rX HO378.out) (Kd.R_base ho22) hb)
 have n2_ := Aside0.mk (Kd.R_lower (Kd.R_new' (Kd.R_new' ho22 (Kd.R_lt (rX HO372.out))) (Kd.R_lt (rX HO378.out))) (below_size (bX3 HB.out GE364.out GE365.out GE385.out)))
 have n3_ := Aside0.mk (bbX BK364.out hb)
 have n4_ := Aside0.mk (bbX BK365.out hb)
 have n5_ := Aside0.mk (bbX BK385.out hb)
 have n6_ := Aside0.mk (below_step (bX3 HB.out GE364.out GE365.out GE385.out) hb)
 clear HO372 HO378 BK364 BK365 BK385 HB
 have HO372 := n0_
 have HO378 := n1_
 have HO381 := n2_
 have BK364 := n3_
 have BK365 := n4_
 have BK385 := n5_
 have HB := n6_
 clear n0_ n1_ n2_ n3_ n4_ n5_ n6_ hb ho22
 refine hK.out _ _ ⟨cz30 BK364.out, cz31 BK364.out, cz32 BK364.out⟩ (fun hHeld => ?_)
 clear hK K
 refine norm_ (a' := ?_) ?_ ?_
 rotate_left
 {
 show Act.put _ (some 21) _ = _
 simp only [Act.put, zA, zB, zC, i64_w, i32_w]
 rfl
 }
 exact nX (hJ0_3_4_7_8_13 (v368, v371, v374, v377, v380, gb385) _ ⟨hHeld, (rX HO372.out), (rX HO378.out), (rM HO381.out (fun _ hk => ⟨hk.1.2, hk.2⟩)), (kX BK364.out), (kX BK365.out), (kX BK385.out), GW385.out, GE385.out, NB364_385.out, NB385_364.out, NB365_385.out, NB385_365.out, (bX3 HB.out GE364.out GE365.out GE385.out)⟩)
 }
 }
 {
 skip
 rintro ⟨v368, v371, v374, v377, v380⟩ w21 ⟨hS_, h0_, h1_, h2_, h3_, h4_, h5_⟩
 have n0_ : Aside0 (Kd.R (Kd.int .i64) 3 w21 w.heap.size (fun k_ => some k_ ≠ (v377 : Value).ownBlock ∧ some k_ ≠ (v380 : Value).ownBlock) v371 y370) := ⟨h0_⟩
 have n1_ : Aside0 (Kd.R (Kd.int .i64) 3 w21 w.heap.size (fun k_ => some k_ ≠ (v371 : Value).ownBlock ∧ some k_ ≠ (v380 : Value).ownBlock) v377 y376) := ⟨h1_⟩
 have n2_ : Aside0 (Kd.R (Kd.int .i64) 3 w21 w.heap.size (fun k_ => some k_ ≠ (v371 : Value).ownBlock ∧ some k_ ≠ (v377 : Value).ownBlock) v380 y379) := ⟨h2_⟩
 have n3_ : Aside0 (w21.heap[gb364]? = some (.cells #[.slice A0_0 l0_0.length c0_0, .slice A0_1 l0_1.length c0_1, .slice A0_2 l0_2.length c0_2] 26 (0, 0))) := ⟨h3_⟩
 have n4_ : Aside0 (w21.heap[gb365]? = some (.cells #[.slice none 0 0, .slice none 0 0, .slice none 0 0] 26 (0, 0))) := ⟨h4_⟩
 have n5_ : Aside0 (Below w.heap.size w w21) := ⟨h5_⟩
 clear BK364 BK365 HB h0_ h1_ h2_ h3_ h4_ h5_
 have HO372 := n0_
 have HO378 := n1_
 have HO381 := n2_
 have BK364 := n3_
 have BK365 := n4_
 have HB := n5_
 clear n0_ n1_ n2_ n3_ n4_ n5_
 have hHeld : w21.cell? ⟨gb364, 0, none⟩ = some (.slice A0_0 l0_0.length c0_0) ∧ w21.cell? ⟨gb364, 1, none⟩ = some (.slice A0_1 l0_1.length c0_1) ∧ w21.cell? ⟨gb364, 2, none⟩ = some (.slice A0_2 l0_2.length c0_2) := hS_
 refine norm_ (a' := ?_) ?_ ?_
 rotate_left
 {
 simp only [putAll, Act.put, List.setIfInBounds_toArray, List.set_cons_zero, List.set_cons_succ]
 rfl
 }
 refine two_ (i := 11) (j := 13) (Ni := some 24) (Nj := some 5) #[tt,tt,tt,tt,tt,tt,tt,tt,tt,tt,tt,tt,ff,ff,ff] #[tt,tt,tt,tt,tt,tt,tt,tt,tt,tt,tt,ff,ff,tt,ff] rfl rfl rfl rfl (two_of HT_.out (by kernel_rfl)) (by decide) (by decide) (fun K hK => ?_) (fun K hK => ?_)
 {
 skip
 refine Kd.R_append_rows_step (Kd.int .i64) (w0 := w) w.heap.size (by rfl) (.tmp 21) (.tmp 23) 22 3 (.int .i64 0) 8 rfl Try.underlying22 info3 rfl (by decide) (by omega) v380 y379 l0_2 _ _ _ (fun k_ => some k_ ≠ (v371 : Value).ownBlock ∧ some k_ ≠ (v377 : Value).ownBlock) (fun _ => False) rfl rfl ?aO ?aR (fun _ _ h => h) (fun _ h => h.elim) ?aF ?aB ?aS ?aL ?_
 (case aR => exact cX (Kd.C_below HR0_2.out HB.out))
 (case aB => exact (bX2 HB.out GE364.out GE365.out))
 (case aF => exact (fun k_ hk => ⟨Kd.fresh' (Kd.R_lt (rX HO372.out)) k_ hk, Kd.fresh' (Kd.R_lt (rX HO378.out)) k_ hk⟩))
 (case aO => exact (rX HO381.out))
 (case aS => exact (below_size (bX2 HB.out GE364.out GE365.out)))
 (case aL => have := LMc6.out; omega)
 intro v383 w22 ho hb hg hat
 rw [← Ny382.out] at ho
 have n0_ := Aside0.mk (bgX BK364.out hg (Kd.R_ne HO381.out BK364.out (by decide)))
 have n1_ := Aside0.mk (bgX BK365.out hg (Kd.R_ne HO381.out BK365.out (by decide)))
 have n2_ := Aside0.mk (Kd.R_after (ok := (fun k_ => some k_ ≠ (v377 : Value).ownBlock)) (rX HO372.out) hg hat)
 have n3_ := Aside0.mk (Kd.R_after (ok := (fun k_ => some k_ ≠ (v371 : Value).ownBlock)) (rX HO378.out) hg hat)
 have n4_ := Aside0.mk (hb)
 have n5_ := Aside0.mk (ho)
 clear BK364 BK365 HO372 HO378 HB HO381
 have BK364 := n0_
 have BK365 := n1_
 have HO372 := n2_
 have HO378 := n3_
 have HB := n4_
 have HO384 := n5_
 clear n0_ n1_ n2_ n3_ n4_ n5_ ho hb hg hat
 obtain ⟨Ao23, co23, eo23⟩ := Kd.R_slice HO384.out
 (first | subst eo23 | (injection eo23 with f1_ f2_ f3_; have f4_ := f1_.symm; have f5_ := f3_.symm; clear f1_ f2_ f3_; subst f4_; subst f5_))
 obtain ⟨Ao24, co24, eo24⟩ := Kd.R_slice HO378.out
 (first | subst eo24 | (injection eo24 with f1_ f2_ f3_; have f4_ := f1_.symm; have f5_ := f3_.symm; clear f1_ f2_ f3_; subst f4_; subst f5_))
 obtain ⟨Ao25, co25, eo25⟩ := Kd.R_slice HO372.out
 (first | subst eo25 | (injection eo25 with f1_ f2_ f3_; have f4_ := f1_.symm; have f5_ := f3_.symm; clear f1_ f2_ f3_; subst f4_; subst f5_))
 refine hK.out _ _ ⟨cz30 BK364.out, cz31 BK364.out, cz32 BK364.out⟩ (fun hHeld => ?_)
 clear hK K
 refine norm_ (a' := ?_) ?_ ?_
 rotate_left
 {
 show Act.put _ (some 24) _ = _
 simp only [Act.put, zA, zB, zC, i64_w, i32_w]
 rfl
 }
 refine pX 12 25 (fl 15 8191) rfl rfl HT_.out ?_
 exact nX (hJ0_3_4_7_8_11 (v368, .slice Ao25 y370.length co25, v374, .slice Ao24 y376.length co24, v380, .slice Ao23 y382.length co23) _ ⟨hHeld, (rX HO372.out), (rX HO378.out), (rX HO384.out), (kX BK364.out), (kX BK365.out), (bX2 HB.out GE364.out GE365.out)⟩)
 }
 {
 skip
 refine box_step ?hg (N := 5) ?hd (cs := #[.slice none 0 0, .slice none 0 0, .slice none 0 0]) (t := 26) ?hr ?_; (case hd => rfl); (case hg => rfl); (case hr => first | (go_simp; done) | (go_simp; rfl))
 intro gb385 hg w22 hbox hb
 have n0_ := Aside0.mk (Kd.R_below (rX HO372.out) hb)
 have n1_ := Aside0.mk (Kd.R_below (rX HO378.out) hb)
 have n2_ := Aside0.mk (Kd.R_below (rX HO381.out) hb)
 have n3_ := Aside0.mk (bbX BK364.out hb)
 have n4_ := Aside0.mk (bbX BK365.out hb)
 have n5_ := Aside0.mk (below_step (bX2 HB.out GE364.out GE365.out) hb)
 have n6_ := Aside0.mk (hbox)
 have n7_ := Aside0.mk ((szX (below_size (bX2 HB.out GE364.out GE365.out)) hg : w.heap.size ≤ gb385))
 have n8_ := Aside0.mk ((szX (below_size (bX2 HB.out GE364.out GE365.out)) hg : w.heap.size ≤ gb385))
 have n9_ := Aside0.mk (neX BK364.out hg)
 have n10_ := Aside0.mk (nfX BK364.out hg)
 have n11_ := Aside0.mk (neX BK365.out hg)
 have n12_ := Aside0.mk (nfX BK365.out hg)
 clear HO372 HO378 HO381 BK364 BK365 HB
 have HO372 := n0_
 have HO378 := n1_
 have HO381 := n2_
 have BK364 := n3_
 have BK365 := n4_
 have HB := n5_
 have BK385 := n6_
 have GW385 := n7_
 have GE385 := n8_
 have NB364_385 := n9_
 have NB385_364 := n10_
 have NB365_385 := n11_
 have NB385_365 := n12_
 clear n0_ n1_ n2_ n3_ n4_ n5_ n6_ n7_ n8_ n9_ n10_ n11_ n12_ hb hbox hg
 refine hK.out _ _ ⟨cz30 BK364.out, cz31 BK364.out, cz32 BK364.out⟩ (fun hHeld => ?_)
 clear hK K
 refine norm_ (a' := ?_) ?_ ?_
 rotate_left
 {
 show Act.put _ (some 5) _ = _
 simp only [Act.put, zA, zB, zC, i64_w, i32_w]
 rfl
 }
 exact nX (hJ0_3_4_7_8_13 (v368, v371, v374, v377, v380, gb385) _ ⟨hHeld, (rX HO372.out), (rX HO378.out), (rX HO381.out), (kX BK364.out), (kX BK365.out), (kX BK385.out), GW385.out, GE385.out, NB364_385.out, NB385_364.out, NB365_385.out, NB385_365.out, (bX3 HB.out GE364.out GE365.out GE385.out)⟩)
 }
 }
 }
 {
 skip
 rintro ⟨v368, v371, v374, v377, v380, gb385⟩ w22 ⟨hS_, h0_, h1_, h2_, h3_, h4_, h5_, h6_, h7_, h8_, h9_, h10_, h11_, h12_⟩
 have n0_ : Aside0 (Kd.R (Kd.int .i64) 3 w22 w.heap.size (fun k_ => some k_ ≠ (v377 : Value).ownBlock ∧ some k_ ≠ (v380 : Value).ownBlock) v371 y370) := ⟨h0_⟩
 have n1_ : Aside0 (Kd.R (Kd.int .i64) 3 w22 w.heap.size (fun k_ => some k_ ≠ (v371 : Value).ownBlock ∧ some k_ ≠ (v380 : Value).ownBlock) v377 y376) := ⟨h1_⟩
 have n2_ : Aside0 (Kd.R (Kd.int .i64) 3 w22 w.heap.size (fun k_ => some k_ ≠ (v371 : Value).ownBlock ∧ some k_ ≠ (v377 : Value).ownBlock) v380 y379) := ⟨h2_⟩
 have n3_ : Aside0 (w22.heap[gb364]? = some (.cells #[.slice A0_0 l0_0.length c0_0, .slice A0_1 l0_1.length c0_1, .slice A0_2 l0_2.length c0_2] 26 (0, 0))) := ⟨h3_⟩
 have n4_ : Aside0 (w22.heap[gb365]? = some (.cells #[.slice none 0 0, .slice none 0 0, .slice none 0 0] 26 (0, 0))) := ⟨h4_⟩
 have n5_ : Aside0 (w22.heap[gb385]? = some (.cells #[.slice none 0 0, .slice none 0 0, .slice none 0 0] 26 (0, 0))) := ⟨h5_⟩
 have n6_ : Aside0 (w.heap.size ≤ gb385) := ⟨h6_⟩
 have n7_ : Aside0 (w.heap.size ≤ gb385) := ⟨h7_⟩
 have n8_ : Aside0 (gb364 ≠ gb385) := ⟨h8_⟩
 have n9_ : Aside0 (gb385 ≠ gb364) := ⟨h9_⟩
 have n10_ : Aside0 (gb365 ≠ gb385) := ⟨h10_⟩
 have n11_ : Aside0 (gb385 ≠ gb365) := ⟨h11_⟩
 have n12_ : Aside0 (Below w.heap.size w w22) := ⟨h12_⟩
 clear BK364 BK365 HB h0_ h1_ h2_ h3_ h4_ h5_ h6_ h7_ h8_ h9_ h10_ h11_ h12_
 have HO372 := n0_
 have HO378 := n1_
 have HO381 := n2_
 have BK364 := n3_
 have BK365 := n4_
 have BK385 := n5_
 have GW385 := n6_
 have GE385 := n7_
 have NB364_385 := n8_
 have NB385_364 := n9_
 have NB365_385 := n10_
 have NB385_365 := n11_
 have HB := n12_
 clear n0_ n1_ n2_ n3_ n4_ n5_ n6_ n7_ n8_ n9_ n10_ n11_ n12_
 have hHeld : w22.cell? ⟨gb364, 0, none⟩ = some (.slice A0_0 l0_0.length c0_0) ∧ w22.cell? ⟨gb364, 1, none⟩ = some (.slice A0_1 l0_1.length c0_1) ∧ w22.cell? ⟨gb364, 2, none⟩ = some (.slice A0_2 l0_2.length c0_2) := hS_
 refine norm_ (a' := ?_) ?_ ?_
 rotate_left
 {
 simp only [putAll, Act.put, List.setIfInBounds_toArray, List.set_cons_zero, List.set_cons_succ]
 rfl
 }
 refine one_ (i := 11) (N := some 24) #[tt,tt,tt,tt,tt,tt,tt,tt,tt,tt,tt,tt,ff,tt,ff] rfl rfl (one_of HT_.out (by kernel_rfl)) (by decide) (fun K hK => ?_)
 refine Kd.R_append_rows_step (Kd.int .i64) (w0 := w) w.heap.size (by rfl) (.tmp 21) (.tmp 23) 22 3 (.int .i64 0) 8 rfl Try.underlying22 info3 rfl (by decide) (by omega) v380 y379 l0_2 _ _ _ (fun k_ => some k_ ≠ (v371 : Value).ownBlock ∧ some k_ ≠ (v377 : Value).ownBlock) (fun _ => False) rfl rfl ?aO ?aR (fun _ _ h => h) (fun _ h => h.elim) ?aF ?aB ?aS ?aL ?_
 (case aR => exact cX (Kd.C_below HR0_2.out HB.out))
 (case aB => exact (bX3 HB.out GE364.out GE365.out GE385.out))
 (case aF => exact (fun k_ hk => ⟨Kd.fresh' (Kd.R_lt (rX HO372.out)) k_ hk, Kd.fresh' (Kd.R_lt (rX HO378.out)) k_ hk⟩))
 (case aO => exact (rX HO381.out))
 (case aS => exact (below_size (bX3 HB.out GE364.out GE365.out GE385.out)))
 (case aL => have := LMc6.out; omega)
 intro v383 w23 ho hb hg hat
 rw [← Ny382.out] at ho
 have n0_ := Aside0.mk (bgX BK364.out hg (Kd.R_ne HO381.out BK364.out (by decide)))
 have n1_ := Aside0.mk (bgX BK365.out hg (Kd.R_ne HO381.out BK365.out (by decide)))
 have n2_ := Aside0.mk (Kd.R_after (ok := (fun k_ => some k_ ≠ (v377 : Value).ownBlock)) (rX HO372.out) hg hat)
 have n3_ := Aside0.mk (Kd.R_after (ok := (fun k_ => some k_ ≠ (v371 : Value).ownBlock)) (rX HO378.out) hg hat)
 have n4_ := Aside0.mk (bgX BK385.out hg (Kd.R_ne HO381.out BK385.out (by decide)))
 have n5_ := Aside0.mk (hb)
 have n6_ := Aside0.mk (ho)
 clear BK364 BK365 HO372 HO378 BK385 HB HO381
 have BK364 := n0_
 have BK365 := n1_
 have HO372 := n2_
 have HO378 := n3_
 have BK385 := n4_
 have HB := n5_
 have HO384 := n6_
 clear n0_ n1_ n2_ n3_ n4_ n5_ n6_ ho hb hg hat
 obtain ⟨Ao24, co24, eo24⟩ := Kd.R_slice HO384.out
 (first | subst eo24 | (injection eo24 with f1_ f2_ f3_; have f4_ := f1_.symm; have f5_ := f3_.symm; clear f1_ f2_ f3_; subst f4_; subst f5_))
 obtain ⟨Ao25, co25, eo25⟩ := Kd.R_slice HO378.out
 (first | subst eo25 | (injection eo25 with f1_ f2_ f3_; have f4_ := f1_.symm; have f5_ := f3_.symm; clear f1_ f2_ f3_; subst f4_; subst f5_))
 obtain ⟨Ao26, co26, eo26⟩ := Kd.R_slice HO372.out
 (first | subst eo26 | (injection eo26 with f1_ f2_ f3_; have f4_ := f1_.symm; have f5_ := f3_.symm; clear f1_ f2_ f3_; subst f4_; subst f5_))
 refine hK.out _ _ ⟨cz30 BK364.out, cz31 BK364.out, cz32 BK364.out⟩ (fun hHeld => ?_)
 clear hK K
 refine norm_ (a' := ?_) ?_ ?_
 rotate_left
 {
 show Act.put _ (some 24) _ = _
 simp only [Act.put, zA, zB, zC, i64_w, i32_w]
 rfl
 }
 refine pX 12 25 (fl 15 16383) rfl rfl HT_.out ?_
 exact nX (hJ0_3_4_7_8_11_13 (v368, .slice Ao26 y370.length co26, v374, .slice Ao25 y376.length co25, v380, .slice Ao24 y382.length co24, gb385) _ ⟨hHeld, (rX HO372.out), (rX HO378.out), (rX HO384.out), (kX BK364.out), (kX BK365.out), (kX BK385.out), GW385.out, GE385.out, NB364_385.out, NB385_364.out, NB365_385.out, NB385_365.out, (bX3 HB.out GE364.out GE365.out GE385.out)⟩)
 }
 }
 {
 skip
 rintro ⟨v368, v371, v374, v377, v380, v383⟩ w25 ⟨hS_, h0_, h1_, h2_, h3_, h4_, h5_⟩
 have n0_ : Aside0 (Kd.R (Kd.int .i64) 3 w25 w.heap.size (fun k_ => some k_ ≠ (v377 : Value).ownBlock ∧ some k_ ≠ (v383 : Value).ownBlock) v371 y370) := ⟨h0_⟩
 have n1_ : Aside0 (Kd.R (Kd.int .i64) 3 w25 w.heap.size (fun k_ => some k_ ≠ (v371 : Value).ownBlock ∧ some k_ ≠ (v383 : Value).ownBlock) v377 y376) := ⟨h1_⟩
 have n2_ : Aside0 (Kd.R (Kd.int .i64) 3 w25 w.heap.size (fun k_ => some k_ ≠ (v371 : Value).ownBlock ∧ some k_ ≠ (v377 : Value).ownBlock) v383 y382) := ⟨h2_⟩
 have n3_ : Aside0 (w25.heap[gb364]? = some (.cells #[.slice A0_0 l0_0.length c0_0, .slice A0_1 l0_1.length c0_1, .slice A0_2 l0_2.length c0_2] 26 (0, 0))) := ⟨h3_⟩
 have n4_ : Aside0 (w25.heap[gb365]? = some (.cells #[.slice none 0 0, .slice none 0 0, .slice none 0 0] 26 (0, 0))) := ⟨h4_⟩
 have n5_ : Aside0 (Below w.heap.size w w25) := ⟨h5_⟩
 clear BK364 BK365 HB h0_ h1_ h2_ h3_ h4_ h5_
 have HO372 := n0_
 have HO378 := n1_
 have HO384 := n2_
 have BK364 := n3_
 have BK365 := n4_
 have HB := n5_
 clear n0_ n1_ n2_ n3_ n4_ n5_
 have hHeld : w25.cell? ⟨gb364, 0, none⟩ = some (.slice A0_0 l0_0.length c0_0) ∧ w25.cell? ⟨gb364, 1, none⟩ = some (.slice A0_1 l0_1.length c0_1) ∧ w25.cell? ⟨gb364, 2, none⟩ = some (.slice A0_2 l0_2.length c0_2) := hS_
 obtain ⟨Ao26, co26, eo26⟩ := Kd.R_slice HO384.out
 (first | subst eo26 | (injection eo26 with f1_ f2_ f3_; have f4_ := f1_.symm; have f5_ := f3_.symm; clear f1_ f2_ f3_; subst f4_; subst f5_))
 obtain ⟨Ao27, co27, eo27⟩ := Kd.R_slice HO378.out
 (first | subst eo27 | (injection eo27 with f1_ f2_ f3_; have f4_ := f1_.symm; have f5_ := f3_.symm; clear f1_ f2_ f3_; subst f4_; subst f5_))
 obtain ⟨Ao28, co28, eo28⟩ := Kd.R_slice HO372.out
 (first | subst eo28 | (injection eo28 with f1_ f2_ f3_; have f4_ := f1_.symm; have f5_ := f3_.symm; clear f1_ f2_ f3_; subst f4_; subst f5_))
 refine norm_ (a' := ?_) ?_ ?_
 rotate_left
 {
 simp only [putAll, Act.put, List.setIfInBounds_toArray, List.set_cons_zero, List.set_cons_succ]
 rfl
 }
 refine one_ (i := 13) (N := some 5) #[tt,tt,tt,tt,tt,tt,tt,tt,tt,tt,tt,tt,tt,tt,ff] rfl rfl (one_of HT_.out (by kernel_rfl)) (by decide) (fun K hK => ?_)
 refine box_step ?hg (N := 5) ?hd (cs := #[.slice none 0 0, .slice none 0 0, .slice none 0 0]) (t := 26) ?hr ?_; (case hd => rfl); (case hg => rfl); (case hr => first | (go_simp; done) | (go_simp; rfl))
 intro gb385 hg w29 hbox hb
 have n0_ := Aside0.mk (Kd.R_below (rX HO372.out) hb)
 have n1_ := Aside0.mk (Kd.R_below (rX HO378.out) hb)
 have n2_ := Aside0.mk (Kd.R_below (rX HO384.out) hb)
 have n3_ := Aside0.mk (bbX BK364.out hb)
 have n4_ := Aside0.mk (bbX BK365.out hb)
 have n5_ := Aside0.mk (below_step (bX2 HB.out GE364.out GE365.out) hb)
 have n6_ := Aside0.mk (hbox)
 have n7_ := Aside0.mk ((szX (below_size (bX2 HB.out GE364.out GE365.out)) hg : w.heap.size ≤ gb385))
 have n8_ := Aside0.mk ((szX (below_size (bX2 HB.out GE364.out GE365.out)) hg : w.heap.size ≤ gb385))
 have n9_ := Aside0.mk (neX BK364.out hg)
 have n10_ := Aside0.mk (nfX BK364.out hg)
 have n11_ := Aside0.mk (neX BK365.out hg)
 have n12_ := Aside0.mk (nfX BK365.out hg)
 clear HO372 HO378 HO384 BK364 BK365 HB
 have HO372 := n0_
 have HO378 := n1_
 have HO384 := n2_
 have BK364 := n3_
 have BK365 := n4_
 have HB := n5_
 have BK385 := n6_
 have GW385 := n7_
 have GE385 := n8_
 have NB364_385 := n9_
 have NB385_364 := n10_
 have NB365_385 := n11_
 have NB385_365 := n12_
 clear n0_ n1_ n2_ n3_ n4_ n5_ n6_ n7_ n8_ n9_ n10_ n11_ n12_ hb hbox hg
 refine hK.out _ _ ⟨cz30 BK364.out, cz31 BK364.out, cz32 BK364.out⟩ (fun hHeld => ?_)
 clear hK K
 refine norm_ (a' := ?_) ?_ ?_
 rotate_left
 {
 show Act.put _ (some 5) _ = _
 simp only [Act.put, zA, zB, zC, i64_w, i32_w]
 rfl
 }
 exact nX (hJ0_3_4_7_8_11_13 (v368, .slice Ao28 y370.length co28, v374, .slice Ao27 y376.length co27, v380, .slice Ao26 y382.length co26, gb385) _ ⟨hHeld, (rX HO372.out), (rX HO378.out), (rX HO384.out), (kX BK364.out), (kX BK365.out), (kX BK385.out), GW385.out, GE385.out, NB364_385.out, NB385_364.out, NB365_385.out, NB385_365.out, (bX3 HB.out GE364.out GE365.out GE385.out)⟩)
 }
 }
 rintro ⟨v368, v371, v374, v377, v380, v383, gb385⟩ w26 ⟨hS_, h0_, h1_, h2_, h3_, h4_, h5_, h6_, h7_, h8_, h9_, h10_, h11_, h12_⟩
 have n0_ : Aside0 (Kd.R (Kd.int .i64) 3 w26 w.heap.size (fun k_ => some k_ ≠ (v377 : Value).ownBlock ∧ some k_ ≠ (v383 : Value).ownBlock) v371 y370) := ⟨h0_⟩
 have n1_ : Aside0 (Kd.R (Kd.int .i64) 3 w26 w.heap.size (fun k_ => some k_ ≠ (v371 : Value).ownBlock ∧ some k_ ≠ (v383 : Value).ownBlock) v377 y376) := ⟨h1_⟩
 have n2_ : Aside0 (Kd.R (Kd.int .i64) 3 w26 w.heap.size (fun k_ => some k_ ≠ (v371 : Value).ownBlock ∧ some k_ ≠ (v377 : Value).ownBlock) v383 y382) := ⟨h2_⟩
 have n3_ : Aside0 (w26.heap[gb364]? = some (.cells #[.slice A0_0 l0_0.length c0_0, .slice A0_1 l0_1.length c0_1, .slice A0_2 l0_2.length c0_2] 26 (0, 0))) := ⟨h3_⟩
 have n4_ : Aside0 (w26.heap[gb365]? = some (.cells #[.slice none 0 0, .slice none 0 0, .slice none 0 0] 26 (0, 0))) := ⟨h4_⟩
 have n5_ : Aside0 (w26.heap[gb385]? = some (.cells #[.slice none 0 0, .slice none 0 0, .slice none 0 0] 26 (0, 0))) := ⟨h5_⟩
 have n6_ : Aside0 (w.heap.size ≤ gb385) := ⟨h6_⟩
 have n7_ : Aside0 (w.heap.size ≤ gb385) := ⟨h7_⟩
 have n8_ : Aside0 (gb364 ≠ gb385) := ⟨h8_⟩
 have n9_ : Aside0 (gb385 ≠ gb364) := ⟨h9_⟩
 have n10_ : Aside0 (gb365 ≠ gb385) := ⟨h10_⟩
 have n11_ : Aside0 (gb385 ≠ gb365) := ⟨h11_⟩
 have n12_ : Aside0 (Below w.heap.size w w26) := ⟨h12_⟩
 clear BK364 BK365 HB h0_ h1_ h2_ h3_ h4_ h5_ h6_ h7_ h8_ h9_ h10_ h11_ h12_
 have HO372 := n0_
 have HO378 := n1_
 have HO384 := n2_
 have BK364 := n3_
 have BK365 := n4_
 have BK385 := n5_
 have GW385 := n6_
 have GE385 := n7_
 have NB364_385 := n8_
 have NB385_364 := n9_
 have NB365_385 := n10_
 have NB385_365 := n11_
 have HB := n12_
 clear n0_ n1_ n2_ n3_ n4_ n5_ n6_ n7_ n8_ n9_ n10_ n11_ n12_
 have hHeld : w26.cell? ⟨gb364, 0, none⟩ = some (.slice A0_0 l0_0.length c0_0) ∧ w26.cell? ⟨gb364, 1, none⟩ = some (.slice A0_1 l0_1.length c0_1) ∧ w26.cell? ⟨gb364, 2, none⟩ = some (.slice A0_2 l0_2.length c0_2) := hS_
 obtain ⟨Ao27, co27, eo27⟩ := Kd.R_slice HO384.out
 (first | subst eo27 | (injection eo27 with f1_ f2_ f3_; have f4_ := f1_.symm; have f5_ := f3_.symm; clear f1_ f2_ f3_; subst f4_; subst f5_))
 obtain ⟨Ao28, co28, eo28⟩ := Kd.R_slice HO378.out
 (first | subst eo28 | (injection eo28 with f1_ f2_ f3_; have f4_ := f1_.symm; have f5_ := f3_.symm; clear f1_ f2_ f3_; subst f4_; subst f5_))
 obtain ⟨Ao29, co29, eo29⟩ := Kd.R_slice HO372.out
 (first | subst eo29 | (injection eo29 with f1_ f2_ f3_; have f4_ := f1_.symm; have f5_ := f3_.symm; clear f1_ f2_ f3_; subst f4_; subst f5_))
 refine norm_ (a' := ?_) ?_ ?_
 rotate_left
 {
 simp only [putAll, Act.put, List.setIfInBounds_toArray, List.set_cons_zero, List.set_cons_succ]
 rfl
 }
 refine one_ (i := 14) (N := none) #[tt,tt,tt,tt,tt,tt,tt,tt,tt,tt,tt,tt,tt,tt,tt] rfl rfl (one_of HT_.out (by kernel_rfl)) (by decide) (fun K hK => ?_)
 have hs30 : w26.cell? ⟨gb385, 0, none⟩ = some (.slice none 0 0) := cz30 BK385.out
 have hfs30 := blk_frozen BK385.out 0
 have hns30_0 := NB364_385.out
 have hns30_1 := NB365_385.out
 have hms30_0 := NB385_364.out
 have hms30_1 := NB385_365.out
 have hs31 : w26.cell? ⟨gb385, 1, none⟩ = some (.slice none 0 0) := cz31 BK385.out
 have hfs31 := blk_frozen BK385.out 1
 have hns31_0 := NB364_385.out
 have hns31_1 := NB365_385.out
 have hms31_0 := NB385_364.out
 have hms31_1 := NB385_365.out
 have hs32 : w26.cell? ⟨gb385, 2, none⟩ = some (.slice none 0 0) := cz32 BK385.out
 have hfs32 := blk_frozen BK385.out 2
 have hns32_0 := NB364_385.out
 have hns32_1 := NB365_385.out
 have hms32_0 := NB385_364.out
 have hms32_1 := NB385_365.out
 refine skip_ (w1 := ?_) (by rfl) rfl ?_ ?_
 rotate_left
 {
 go_simp
 rfl
 }
 refine hK.out _ _ ⟨((cell_far (p := ⟨gb385, _, none⟩) NB364_385.out _).trans (((cell_far (p := ⟨gb385, _, none⟩) NB364_385.out _).trans (((cell_far (p := ⟨gb385, _, none⟩) NB364_385.out _).trans (hHeld.1)))))), ((cell_far (p := ⟨gb385, _, none⟩) NB364_385.out _).trans (((cell_far (p := ⟨gb385, _, none⟩) NB364_385.out _).trans (((cell_far (p := ⟨gb385, _, none⟩) NB364_385.out _).trans (hHeld.2.1)))))), ((cell_far (p := ⟨gb385, _, none⟩) NB364_385.out _).trans (((cell_far (p := ⟨gb385, _, none⟩) NB364_385.out _).trans (((cell_far (p := ⟨gb385, _, none⟩) NB364_385.out _).trans (hHeld.2.2))))))⟩ (fun hHeld => ?_)
 clear hK K
 refine done_ (done_of HT_.out (by kernel_rfl)) ?_
 try go_wp2
 go_loopg [6] k (fun kq v6 w' => ∃ (x6_1 : Int) (x386000_1 : List Int) (x386001_1 : List Int) (x386002_1 : List Int) (u386000 : Value) (u386001 : Value) (u386002 : Value), v6 = .int .i64 x6_1 ∧ Aside0 (spec_InduceAll.l0 kq x6_1 x386000_1 x386001_1 x386002_1 = some (r1, r2, r3, r4, r5)) ∧ Aside0 (kq ≤ k) ∧ Aside0 (Kd.R (Kd.int .i64) 3 w' w.heap.size (fun k_ => some k_ ≠ (u386001 : Value).ownBlock ∧ some k_ ≠ (u386002 : Value).ownBlock) u386000 x386000_1) ∧ Aside0 (Kd.R (Kd.int .i64) 3 w' w.heap.size (fun k_ => some k_ ≠ (u386000 : Value).ownBlock ∧ some k_ ≠ (u386002 : Value).ownBlock) u386001 x386001_1) ∧ Aside0 (Kd.R (Kd.int .i64) 3 w' w.heap.size (fun k_ => some k_ ≠ (u386000 : Value).ownBlock ∧ some k_ ≠ (u386001 : Value).ownBlock) u386002 x386002_1) ∧ Aside0 (w'.heap[gb364]? = some (.cells #[(.slice A0_0 l0_0.length c0_0), (.slice A0_1 l0_1.length c0_1), (.slice A0_2 l0_2.length c0_2)] 26 (0, 0))) ∧ Aside0 (w'.heap[gb365]? = some (.cells #[(.slice none 0 0), (.slice none 0 0), (.slice none 0 0)] 26 (0, 0))) ∧ Aside0 (w'.heap[gb385]? = some (.cells #[u386000, u386001, u386002] 26 (0, 0))) ∧ Aside0 (Below w.heap.size w w'))
 case atStart => exact ⟨(0), (y370), (y376), (y382), (.slice Ao29 y370.length co29), (.slice Ao28 y376.length co28), (.slice Ao27 y382.length co27), vX, H', ⟨Nat.le_refl _⟩, ⟨by (with_reducible repeat (first|apply rA|apply rN|apply rD)); exact Kd.R_mono (Kd.R_far (p := ⟨gb385, 2, none⟩) (Kd.R_far (p := ⟨gb385, 1, none⟩) (Kd.R_far (p := ⟨gb385, 0, none⟩) (Kd.R_types HO372.out BK385.out (by decide)) (fun _ hk => hk.2) (.slice Ao29 y370.length co29)) (fun _ hk => hk.2) (.slice Ao28 y376.length co28)) (fun _ hk => hk.2) (.slice Ao27 y382.length co27)) (fun _ hk => ⟨hk.1.1, hk.1.2⟩)⟩, ⟨by (with_reducible repeat (first|apply rA|apply rN|apply rD)); exact Kd.R_mono (Kd.R_far (p := ⟨gb385, 2, none⟩) (Kd.R_far (p := ⟨gb385, 1, none⟩) (Kd.R_far (p := ⟨gb385, 0, none⟩) (Kd.R_types HO378.out BK385.out (by decide)) (fun _ hk => hk.2) (.slice Ao29 y370.length co29)) (fun _ hk => hk.2) (.slice Ao28 y376.length co28)) (fun _ hk => hk.2) (.slice Ao27 y382.length co27)) (fun _ hk => ⟨hk.1.1, hk.1.2⟩)⟩, ⟨by (with_reducible repeat (first|apply rA|apply rN|apply rD)); exact Kd.R_mono (Kd.R_far (p := ⟨gb385, 2, none⟩) (Kd.R_far (p := ⟨gb385, 1, none⟩) (Kd.R_far (p := ⟨gb385, 0, none⟩) (Kd.R_types HO384.out BK385.out (by decide)) (fun _ hk => hk.2) (.slice Ao29 y370.length co29)) (fun _ hk => hk.2) (.slice Ao28 y376.length co28)) (fun _ hk => hk.2) (.slice Ao27 y382.length co27)) (fun _ hk => ⟨hk.1.1, hk.1.2⟩)⟩, ⟨by (with_reducible repeat (first|refine kN ?_ _|refine kD ?_|refine kA ?_ _)); refine blk_far ?_ NB364_385.out _; (with_reducible repeat (first|refine kN ?_ _|refine kD ?_|refine kA ?_ _)); refine blk_far ?_ NB364_385.out _; (with_reducible repeat (first|refine kN ?_ _|refine kD ?_|refine kA ?_ _)); refine blk_far ?_ NB364_385.out _; (with_reducible repeat (first|refine kN ?_ _|refine kD ?_|refine kA ?_ _)); exact BK364.out⟩, ⟨by (with_reducible repeat (first|refine kN ?_ _|refine kD ?_|refine kA ?_ _)); refine blk_far ?_ NB365_385.out _; (with_reducible repeat (first|refine kN ?_ _|refine kD ?_|refine kA ?_ _)); refine blk_far ?_ NB365_385.out _; (with_reducible repeat (first|refine kN ?_ _|refine kD ?_|refine kA ?_ _)); refine blk_far ?_ NB365_385.out _; (with_reducible repeat (first|refine kN ?_ _|refine kD ?_|refine kA ?_ _)); exact BK365.out⟩, ⟨by (with_reducible repeat (first|refine kN ?_ _|refine kD ?_|refine kA ?_ _)); refine blk_put (cs := #[.slice Ao29 y370.length co29, .slice Ao28 y376.length co28, .slice none 0 0]) ?_ 2 _ rfl; (with_reducible repeat (first|refine kN ?_ _|refine kD ?_|refine kA ?_ _)); refine blk_put (cs := #[.slice Ao29 y370.length co29, .slice none 0 0, .slice none 0 0]) ?_ 1 _ rfl; (with_reducible repeat (first|refine kN ?_ _|refine kD ?_|refine kA ?_ _)); refine blk_put (cs := #[.slice none 0 0, .slice none 0 0, .slice none 0 0]) ?_ 0 _ rfl; (with_reducible repeat (first|refine kN ?_ _|refine kD ?_|refine kA ?_ _)); exact BK385.out⟩, ⟨bX3 HB.out GE364.out GE365.out GE385.out⟩⟩
 case round =>
 clear H'
 try clear p2
 try clear c5
 try clear c6
 obtain ⟨x6_1, x386000_1, x386001_1, x386002_1, u386000, u386001, u386002, rfl, HA, HK1, HO_386000, HO_386001, HO_386002, BK364, BK365, BK385, HB⟩ := hrel
 cases gk with
 | zero => exact absurd HA.out (by simp [spec_InduceAll.l0])
 | succ k1 =>
 have H := HA.out
 clear HA
 simp only [spec_InduceAll.l0] at H
 replace H := Option.bind_eq_some_iff.mp H
 obtain ⟨⟨t386, t389, t392, t395⟩, A330, H⟩ := H
 replace H : (if t395 = true then (spec_InduceAll.l0 k1 (wrap64 (x6_1 + 1)) t386 t389 t392) else (some (x386000_1, x386001_1, x386002_1, x6_1, true))) = some (r1, r2, r3, r4, r5) := H
 have A33 := Aside0.mk A330
 clear A330
 by_cases c34 : t395 = true
 {
 subst c34
 have H1 : (spec_InduceAll.l0 k1 (wrap64 (x6_1 + 1)) t386 t389 t392) = some (r1, r2, r3, r4, r5) := by rw [if_pos rfl] at H; exact H
 clear H
 have H := H1
 clear H1
 have H' := Aside0.mk H
 clear H
 have hnb35 := NB385_364.out
 have hnc35 := NB364_385.out
 have hnb36 := NB385_365.out
 have hnc36 := NB365_385.out
 have hcz37_0 := cz30 BK385.out
 have hcz37_1 := cz31 BK385.out
 have hcz37_2 := cz32 BK385.out
 have hfz37_0 := blk_frozen BK385.out 0
 have hfz37_1 := blk_frozen BK385.out 1
 have hfz37_2 := blk_frozen BK385.out 2
 obtain ⟨Ao38, co38, eo38⟩ := Kd.R_slice HO_386000.out
 subst eo38
 obtain ⟨Ao39, co39, eo39⟩ := Kd.R_slice HO_386001.out
 subst eo39
 obtain ⟨Ao40, co40, eo40⟩ := Kd.R_slice HO_386002.out
 subst eo40
 go_wp2_with (first | ((with_reducible refine gate_callee (f := 29) rfl ?_); refine goesL_ (some 28) rfl rfl Try.func29 (by kernel_rfl) rfl #[.agg #[.slice Ao38 x386000_1.length co38, .slice Ao39 x386001_1.length co39, .slice Ao40 x386002_1.length co40]] rfl aX ?_; (with_reducible refine (spec_l16Once.calls k1 _ _ x386000_1 _ _ x386001_1 _ _ x386002_1 t386 t389 t392 true _ ?side1 ?side2 ?side3 ?side4 ?side5 ?side6 A33.out).mono ?_); (case side1 => exact cX (Kd.R_reads' HO_386000.out).2.2); (case side2 => exact (Kd.R_reads' HO_386000.out).2.1); (case side3 => exact cX (Kd.R_reads' HO_386001.out).2.2); (case side4 => exact (Kd.R_reads' HO_386001.out).2.1); (case side5 => exact cX (Kd.R_reads' HO_386002.out).2.2); (case side6 => exact (Kd.R_reads' HO_386002.out).2.1); rintro e w41 ⟨v387, v390, v393, rfl, ho0, ho1, ho2, hb⟩; refine ⟨_, rfl, ?_⟩; have n0_ := Aside0.mk (Kd.R_mono (Kd.R_told (Kd.R_told (Kd.R_told (Kd.R_old (rX HO_386000.out) hb) (Kd.R_base ho0)) (Kd.R_base ho1)) (Kd.R_base ho2)) (fun _ h_ => h_.1)); have n1_ := Aside0.mk (Kd.R_mono (Kd.R_told (Kd.R_told (Kd.R_told (Kd.R_old (rX HO_386001.out) hb) (Kd.R_base ho0)) (Kd.R_base ho1)) (Kd.R_base ho2)) (fun _ h_ => h_.1)); have n2_ := Aside0.mk (Kd.R_mono (Kd.R_told (Kd.R_told (Kd.R_told (Kd.R_old (rX HO_386002.out) hb) (Kd.R_base ho0)) (Kd.R_base ho1)) (Kd.R_base ho2)) (fun _ h_ => h_.1)); have n3_ := Aside0.mk (Kd.R_lower (Kd.R_new' (Kd.R_new' (Kd.R_new' ho0 (Kd.R_lt (rX HO_386000.out))) (Kd.R_lt (rX HO_386001.out))) (Kd.R_lt (rX HO_386002.out))) (below_size (bX3 HB.out GE364.out GE365.out GE385.out))); have n4_ := Aside0.mk (Kd.R_lower (Kd.R_new' (Kd.R_new' (Kd.R_new' ho1 (Kd.R_lt (rX HO_386000.out))) (Kd.R_lt (rX HO_386001.out))) (Kd.R_lt (rX HO_386002.out))) (below_size (bX3 HB.out GE364.out GE365.out GE385.out))); have n5_ := Aside0.mk (Kd.R_lower (Kd.R_new' (Kd.R_new' (Kd.R_new' ho2 (Kd.R_lt (rX HO_386000.out))) (Kd.R_lt (rX HO_386001.out))) (Kd.R_lt (rX HO_386002.out))) (below_size (bX3 HB.out GE364.out GE365.out GE385.out))); have n6_ := Aside0.mk (bbX BK364.out hb); have n7_ := Aside0.mk (bbX BK365.out hb); have n8_ := Aside0.mk (bbX BK385.out hb); have n9_ := Aside0.mk (below_step (bX3 HB.out GE364.out GE365.out GE385.out) hb); clear HO_386000 HO_386001 HO_386002 BK364 BK365 BK385 HB; have HO_386000 := n0_; have HO_386001 := n1_; have HO_386002 := n2_; have HO388 := n3_; have HO391 := n4_; have HO394 := n5_; have BK364 := n6_; have BK365 := n7_; have BK385 := n8_; have HB := n9_; clear n0_ n1_ n2_ n3_ n4_ n5_ n6_ n7_ n8_ n9_; (try clear hb); (try clear hb2); (try clear hk); (try clear hi); (try clear ho0); (try clear ho1); (try clear ho2)) | ((with_reducible refine gate_dst (N := 7) rfl ?_); refine box_event ?hg (N := 7) ?hd (cs := #[.slice none 0 0, .slice none 0 0, .slice none 0 0]) (t := 26) ?hr ?_; (case hd => rfl); (case hg => rfl); (case hr => first | (go_simp; done) | (go_simp; rfl)); intro gb396 hg w42 hbox hb; have n0_ := Aside0.mk (Kd.R_below (rX HO_386000.out) hb); have n1_ := Aside0.mk (Kd.R_below (rX HO_386001.out) hb); have n2_ := Aside0.mk (Kd.R_below (rX HO_386002.out) hb); have n3_ := Aside0.mk (Kd.R_below (rX HO388.out) hb); have n4_ := Aside0.mk (Kd.R_below (rX HO391.out) hb); have n5_ := Aside0.mk (Kd.R_below (rX HO394.out) hb); have n6_ := Aside0.mk (bbX BK364.out hb); have n7_ := Aside0.mk (bbX BK365.out hb); have n8_ := Aside0.mk (bbX BK385.out hb); have n9_ := Aside0.mk (below_step (bX3 HB.out GE364.out GE365.out GE385.out) hb); have n10_ := Aside0.mk (hbox); have n11_ := Aside0.mk ((szX (below_size (bX3 HB.out GE364.out GE365.out GE385.out)) hg : w.heap.size ≤ gb396)); have n12_ := Aside0.mk ((szX (below_size (bX3 HB.out GE364.out GE365.out GE385.out)) hg : w.heap.size ≤ gb396)); have n13_ := Aside0.mk (neX BK364.out hg); have n14_ := Aside0.mk (nfX BK364.out hg); have n15_ := Aside0.mk (neX BK365.out hg); have n16_ := Aside0.mk (nfX BK365.out hg); have n17_ := Aside0.mk (neX BK385.out hg); have n18_ := Aside0.mk (nfX BK385.out hg); clear HO_386000 HO_386001 HO_386002 HO388 HO391 HO394 BK364 BK365 BK385 HB; have HO_386000 := n0_; have HO_386001 := n1_; have HO_386002 := n2_; have HO388 := n3_; have HO391 := n4_; have HO394 := n5_; have BK364 := n6_; have BK365 := n7_; have BK385 := n8_; have HB := n9_; have BK396 := n10_; have GW396 := n11_; have GE396 := n12_; have NB364_396 := n13_; have NB396_364 := n14_; have NB365_396 := n15_; have NB396_365 := n16_; have NB385_396 := n17_; have NB396_385 := n18_; clear n0_ n1_ n2_ n3_ n4_ n5_ n6_ n7_ n8_ n9_ n10_ n11_ n12_ n13_ n14_ n15_ n16_ n17_ n18_ hb hbox hg; obtain ⟨Ao43, co43, eo43⟩ := Kd.R_slice HO388.out; subst eo43; have hnb44 := NB396_364.out; have hnc44 := NB364_396.out; have hnb45 := NB396_365.out; have hnc45 := NB365_396.out; have hnb46 := NB396_385.out; have hnc46 := NB385_396.out; have hcz47_0 : w42.cell? ⟨gb396, 0, none⟩ = some (.slice none 0 0) := (blk_cell BK396.out 0).trans rfl; have hcz47_1 : w42.cell? ⟨gb396, 1, none⟩ = some (.slice none 0 0) := (blk_cell BK396.out 1).trans rfl; have hcz47_2 : w42.cell? ⟨gb396, 2, none⟩ = some (.slice none 0 0) := (blk_cell BK396.out 2).trans rfl; have hfz47_0 := blk_frozen BK396.out 0; have hfz47_1 := blk_frozen BK396.out 1; have hfz47_2 := blk_frozen BK396.out 2; obtain ⟨Ao48, co48, eo48⟩ := Kd.R_slice HO391.out; subst eo48; obtain ⟨Ao49, co49, eo49⟩ := Kd.R_slice HO394.out; subst eo49; have hcz50_0 := cz30 BK385.out; have hcz50_1 := cz31 BK385.out; have hcz50_2 := cz32 BK385.out; have hfz50_0 := blk_frozen BK385.out 0; have hfz50_1 := blk_frozen BK385.out 1; have hfz50_2 := blk_frozen BK385.out 2))
 go_roundg k1
 case measure => have := HK1.out; omega
 case rel => exact ⟨(wrap64 (x6_1 + 1)), (t386), (t389), (t392), (.slice Ao43 t386.length co43), (.slice Ao48 t389.length co48), (.slice Ao49 t392.length co49), vX, H', ⟨by have := HK1.out; omega⟩, ⟨by (with_reducible repeat (first|apply rA|apply rN|apply rD)); exact Kd.R_mono (Kd.R_far (p := ⟨gb385, 2, none⟩) (Kd.R_far (p := ⟨gb385, 1, none⟩) (Kd.R_far (p := ⟨gb385, 0, none⟩) (Kd.R_far (p := ⟨gb396, 2, none⟩) (Kd.R_far (p := ⟨gb396, 1, none⟩) (Kd.R_far (p := ⟨gb396, 0, none⟩) (Kd.R_types (Kd.R_types HO388.out BK396.out (by decide)) BK385.out (by decide)) (fun _ hk => hk.1.2) (.slice Ao43 t386.length co43)) (fun _ hk => hk.1.2) (.slice Ao48 t389.length co48)) (fun _ hk => hk.1.2) (.slice Ao49 t392.length co49)) (fun _ hk => hk.2) (.slice Ao43 t386.length co43)) (fun _ hk => hk.2) (.slice Ao48 t389.length co48)) (fun _ hk => hk.2) (.slice Ao49 t392.length co49)) (fun _ hk => ⟨hk.1.1.1.1.1.1, hk.1.1.1.1.1.2⟩)⟩, ⟨by (with_reducible repeat (first|apply rA|apply rN|apply rD)); exact Kd.R_mono (Kd.R_far (p := ⟨gb385, 2, none⟩) (Kd.R_far (p := ⟨gb385, 1, none⟩) (Kd.R_far (p := ⟨gb385, 0, none⟩) (Kd.R_far (p := ⟨gb396, 2, none⟩) (Kd.R_far (p := ⟨gb396, 1, none⟩) (Kd.R_far (p := ⟨gb396, 0, none⟩) (Kd.R_types (Kd.R_types HO391.out BK396.out (by decide)) BK385.out (by decide)) (fun _ hk => hk.1.2) (.slice Ao43 t386.length co43)) (fun _ hk => hk.1.2) (.slice Ao48 t389.length co48)) (fun _ hk => hk.1.2) (.slice Ao49 t392.length co49)) (fun _ hk => hk.2) (.slice Ao43 t386.length co43)) (fun _ hk => hk.2) (.slice Ao48 t389.length co48)) (fun _ hk => hk.2) (.slice Ao49 t392.length co49)) (fun _ hk => ⟨hk.1.1.1.1.1.1, hk.1.1.1.1.1.2⟩)⟩, ⟨by (with_reducible repeat (first|apply rA|apply rN|apply rD)); exact Kd.R_mono (Kd.R_far (p := ⟨gb385, 2, none⟩) (Kd.R_far (p := ⟨gb385, 1, none⟩) (Kd.R_far (p := ⟨gb385, 0, none⟩) (Kd.R_far (p := ⟨gb396, 2, none⟩) (Kd.R_far (p := ⟨gb396, 1, none⟩) (Kd.R_far (p := ⟨gb396, 0, none⟩) (Kd.R_types (Kd.R_types HO394.out BK396.out (by decide)) BK385.out (by decide)) (fun _ hk => hk.1.2) (.slice Ao43 t386.length co43)) (fun _ hk => hk.1.2) (.slice Ao48 t389.length co48)) (fun _ hk => hk.1.2) (.slice Ao49 t392.length co49)) (fun _ hk => hk.2) (.slice Ao43 t386.length co43)) (fun _ hk => hk.2) (.slice Ao48 t389.length co48)) (fun _ hk => hk.2) (.slice Ao49 t392.length co49)) (fun _ hk => ⟨hk.1.1.1.1.1.1, hk.1.1.1.1.1.2⟩)⟩, ⟨by (with_reducible repeat (first|refine kN ?_ _|refine kD ?_|refine kA ?_ _)); refine blk_far ?_ NB364_385.out _; (with_reducible repeat (first|refine kN ?_ _|refine kD ?_|refine kA ?_ _)); refine blk_far ?_ NB364_385.out _; (with_reducible repeat (first|refine kN ?_ _|refine kD ?_|refine kA ?_ _)); refine blk_far ?_ NB364_385.out _; (with_reducible repeat (first|refine kN ?_ _|refine kD ?_|refine kA ?_ _)); refine blk_far ?_ NB364_396.out _; (with_reducible repeat (first|refine kN ?_ _|refine kD ?_|refine kA ?_ _)); refine blk_far ?_ NB364_396.out _; (with_reducible repeat (first|refine kN ?_ _|refine kD ?_|refine kA ?_ _)); refine blk_far ?_ NB364_396.out _; (with_reducible repeat (first|refine kN ?_ _|refine kD ?_|refine kA ?_ _)); exact BK364.out⟩, ⟨by (with_reducible repeat (first|refine kN ?_ _|refine kD ?_|refine kA ?_ _)); refine blk_far ?_ NB365_385.out _; (with_reducible repeat (first|refine kN ?_ _|refine kD ?_|refine kA ?_ _)); refine blk_far ?_ NB365_385.out _; (with_reducible repeat (first|refine kN ?_ _|refine kD ?_|refine kA ?_ _)); refine blk_far ?_ NB365_385.out _; (with_reducible repeat (first|refine kN ?_ _|refine kD ?_|refine kA ?_ _)); refine blk_far ?_ NB365_396.out _; (with_reducible repeat (first|refine kN ?_ _|refine kD ?_|refine kA ?_ _)); refine blk_far ?_ NB365_396.out _; (with_reducible repeat (first|refine kN ?_ _|refine kD ?_|refine kA ?_ _)); refine blk_far ?_ NB365_396.out _; (with_reducible repeat (first|refine kN ?_ _|refine kD ?_|refine kA ?_ _)); exact BK365.out⟩, ⟨by (with_reducible repeat (first|refine kN ?_ _|refine kD ?_|refine kA ?_ _)); refine blk_put (cs := #[.slice Ao43 t386.length co43, .slice Ao48 t389.length co48, .slice Ao40 x386002_1.length co40]) ?_ 2 _ rfl; (with_reducible repeat (first|refine kN ?_ _|refine kD ?_|refine kA ?_ _)); refine blk_put (cs := #[.slice Ao43 t386.length co43, .slice Ao39 x386001_1.length co39, .slice Ao40 x386002_1.length co40]) ?_ 1 _ rfl; (with_reducible repeat (first|refine kN ?_ _|refine kD ?_|refine kA ?_ _)); refine blk_put (cs := #[.slice Ao38 x386000_1.length co38, .slice Ao39 x386001_1.length co39, .slice Ao40 x386002_1.length co40]) ?_ 0 _ rfl; (with_reducible repeat (first|refine kN ?_ _|refine kD ?_|refine kA ?_ _)); refine blk_far ?_ NB385_396.out _; (with_reducible repeat (first|refine kN ?_ _|refine kD ?_|refine kA ?_ _)); refine blk_far ?_ NB385_396.out _; (with_reducible repeat (first|refine kN ?_ _|refine kD ?_|refine kA ?_ _)); refine blk_far ?_ NB385_396.out _; (with_reducible repeat (first|refine kN ?_ _|refine kD ?_|refine kA ?_ _)); exact BK385.out⟩, ⟨by repeat (first | (with_reducible first | exact HB.out|apply bA|apply bN|apply bD | refine below_set ?_ GE364.out | refine below_set ?_ GE365.out | refine below_set ?_ GE385.out | refine below_set ?_ GE396.out) | exact HB.out)⟩⟩
 }
 {
 replace c34 := Bool.eq_false_iff.mpr c34
 subst c34
 have H1 : (some (x386000_1, x386001_1, x386002_1, x6_1, true)) = some (r1, r2, r3, r4, r5) := by rw [if_neg (show ¬ (false = true) by decide)] at H; exact H
 clear H
 have H := H1
 clear H1
 simp only [Option.some.injEq, Prod.mk.injEq] at H
 obtain ⟨rfl, rfl, rfl, rfl, rfl⟩ := H
 have hnb51 := NB385_364.out
 have hnc51 := NB364_385.out
 have hnb52 := NB385_365.out
 have hnc52 := NB365_385.out
 have hcz53_0 := cz30 BK385.out
 have hcz53_1 := cz31 BK385.out
 have hcz53_2 := cz32 BK385.out
 have hfz53_0 := blk_frozen BK385.out 0
 have hfz53_1 := blk_frozen BK385.out 1
 have hfz53_2 := blk_frozen BK385.out 2
 obtain ⟨Ao54, co54, eo54⟩ := Kd.R_slice HO_386000.out
 subst eo54
 obtain ⟨Ao55, co55, eo55⟩ := Kd.R_slice HO_386001.out
 subst eo55
 obtain ⟨Ao56, co56, eo56⟩ := Kd.R_slice HO_386002.out
 subst eo56
 go_wp2_with (first | ((with_reducible refine gate_callee (f := 29) rfl ?_); refine goesL_ (some 28) rfl rfl Try.func29 (by kernel_rfl) rfl #[.agg #[.slice Ao54 x386000_1.length co54, .slice Ao55 x386001_1.length co55, .slice Ao56 x386002_1.length co56]] rfl aX ?_; (with_reducible refine (spec_l16Once.calls k1 _ _ x386000_1 _ _ x386001_1 _ _ x386002_1 t386 t389 t392 false _ ?side1 ?side2 ?side3 ?side4 ?side5 ?side6 A33.out).mono ?_); (case side1 => exact cX (Kd.R_reads' HO_386000.out).2.2); (case side2 => exact (Kd.R_reads' HO_386000.out).2.1); (case side3 => exact cX (Kd.R_reads' HO_386001.out).2.2); (case side4 => exact (Kd.R_reads' HO_386001.out).2.1); (case side5 => exact cX (Kd.R_reads' HO_386002.out).2.2); (case side6 => exact (Kd.R_reads' HO_386002.out).2.1); rintro e w57 ⟨v387, v390, v393, rfl, ho0, ho1, ho2, hb⟩; refine ⟨_, rfl, ?_⟩; have n0_ := Aside0.mk (Kd.R_mono (Kd.R_told (Kd.R_told (Kd.R_told (Kd.R_old (rX HO_386000.out) hb) (Kd.R_base ho0)) (Kd.R_base ho1)) (Kd.R_base ho2)) (fun _ h_ => h_.1)); have n1_ := Aside0.mk (Kd.R_mono (Kd.R_told (Kd.R_told (Kd.R_told (Kd.R_old (rX HO_386001.out) hb) (Kd.R_base ho0)) (Kd.R_base ho1)) (Kd.R_base ho2)) (fun _ h_ => h_.1)); have n2_ := Aside0.mk (Kd.R_mono (Kd.R_told (Kd.R_told (Kd.R_told (Kd.R_old (rX HO_386002.out) hb) (Kd.R_base ho0)) (Kd.R_base ho1)) (Kd.R_base ho2)) (fun _ h_ => h_.1)); have n3_ := Aside0.mk (Kd.R_lower (Kd.R_new' (Kd.R_new' (Kd.R_new' ho0 (Kd.R_lt (rX HO_386000.out))) (Kd.R_lt (rX HO_386001.out))) (Kd.R_lt (rX HO_386002.out))) (below_size (bX3 HB.out GE364.out GE365.out GE385.out))); have n4_ := Aside0.mk (Kd.R_lower (Kd.R_new' (Kd.R_new' (Kd.R_new' ho1 (Kd.R_lt (rX HO_386000.out))) (Kd.R_lt (rX HO_386001.out))) (Kd.R_lt (rX HO_386002.out))) (below_size (bX3 HB.out GE364.out GE365.out GE385.out))); have n5_ := Aside0.mk (Kd.R_lower (Kd.R_new' (Kd.R_new' (Kd.R_new' ho2 (Kd.R_lt (rX HO_386000.out))) (Kd.R_lt (rX HO_386001.out))) (Kd.R_lt (rX HO_386002.out))) (below_size (bX3 HB.out GE364.out GE365.out GE385.out))); have n6_ := Aside0.mk (bbX BK364.out hb); have n7_ := Aside0.mk (bbX BK365.out hb); have n8_ := Aside0.mk (bbX BK385.out hb); have n9_ := Aside0.mk (below_step (bX3 HB.out GE364.out GE365.out GE385.out) hb); clear HO_386000 HO_386001 HO_386002 BK364 BK365 BK385 HB; have HO_386000 := n0_; have HO_386001 := n1_; have HO_386002 := n2_; have HO388 := n3_; have HO391 := n4_; have HO394 := n5_; have BK364 := n6_; have BK365 := n7_; have BK385 := n8_; have HB := n9_; clear n0_ n1_ n2_ n3_ n4_ n5_ n6_ n7_ n8_ n9_; (try clear hb); (try clear hb2); (try clear hk); (try clear hi); (try clear ho0); (try clear ho1); (try clear ho2)) | ((with_reducible refine gate_dst (N := 7) rfl ?_); refine box_event ?hg (N := 7) ?hd (cs := #[.slice none 0 0, .slice none 0 0, .slice none 0 0]) (t := 26) ?hr ?_; (case hd => rfl); (case hg => rfl); (case hr => first | (go_simp; done) | (go_simp; rfl)); intro gb396 hg w58 hbox hb; have n0_ := Aside0.mk (Kd.R_below (rX HO_386000.out) hb); have n1_ := Aside0.mk (Kd.R_below (rX HO_386001.out) hb); have n2_ := Aside0.mk (Kd.R_below (rX HO_386002.out) hb); have n3_ := Aside0.mk (Kd.R_below (rX HO388.out) hb); have n4_ := Aside0.mk (Kd.R_below (rX HO391.out) hb); have n5_ := Aside0.mk (Kd.R_below (rX HO394.out) hb); have n6_ := Aside0.mk (bbX BK364.out hb); have n7_ := Aside0.mk (bbX BK365.out hb); have n8_ := Aside0.mk (bbX BK385.out hb); have n9_ := Aside0.mk (below_step (bX3 HB.out GE364.out GE365.out GE385.out) hb); have n10_ := Aside0.mk (hbox); have n11_ := Aside0.mk ((szX (below_size (bX3 HB.out GE364.out GE365.out GE385.out)) hg : w.heap.size ≤ gb396)); have n12_ := Aside0.mk ((szX (below_size (bX3 HB.out GE364.out GE365.out GE385.out)) hg : w.heap.size ≤ gb396)); have n13_ := Aside0.mk (neX BK364.out hg); have n14_ := Aside0.mk (nfX BK364.out hg); have n15_ := Aside0.mk (neX BK365.out hg); have n16_ := Aside0.mk (nfX BK365.out hg); have n17_ := Aside0.mk (neX BK385.out hg); have n18_ := Aside0.mk (nfX BK385.out hg); clear HO_386000 HO_386001 HO_386002 HO388 HO391 HO394 BK364 BK365 BK385 HB; have HO_386000 := n0_; have HO_386001 := n1_; have HO_386002 := n2_; have HO388 := n3_; have HO391 := n4_; have HO394 := n5_; have BK364 := n6_; have BK365 := n7_; have BK385 := n8_; have HB := n9_; have BK396 := n10_; have GW396 := n11_; have GE396 := n12_; have NB364_396 := n13_; have NB396_364 := n14_; have NB365_396 := n15_; have NB396_365 := n16_; have NB385_396 := n17_; have NB396_385 := n18_; clear n0_ n1_ n2_ n3_ n4_ n5_ n6_ n7_ n8_ n9_ n10_ n11_ n12_ n13_ n14_ n15_ n16_ n17_ n18_ hb hbox hg; obtain ⟨Ao59, co59, eo59⟩ := Kd.R_slice HO388.out; subst eo59; have hnb60 := NB396_364.out; have hnc60 := NB364_396.out; have hnb61 := NB396_365.out; have hnc61 := NB365_396.out; have hnb62 := NB396_385.out; have hnc62 := NB385_396.out; have hcz63_0 : w58.cell? ⟨gb396, 0, none⟩ = some (.slice none 0 0) := (blk_cell BK396.out 0).trans rfl; have hcz63_1 : w58.cell? ⟨gb396, 1, none⟩ = some (.slice none 0 0) := (blk_cell BK396.out 1).trans rfl; have hcz63_2 : w58.cell? ⟨gb396, 2, none⟩ = some (.slice none 0 0) := (blk_cell BK396.out 2).trans rfl; have hfz63_0 := blk_frozen BK396.out 0; have hfz63_1 := blk_frozen BK396.out 1; have hfz63_2 := blk_frozen BK396.out 2; obtain ⟨Ao64, co64, eo64⟩ := Kd.R_slice HO391.out; subst eo64; obtain ⟨Ao65, co65, eo65⟩ := Kd.R_slice HO394.out; subst eo65; have hcz66_0 := cz30 BK385.out; have hcz66_1 := cz31 BK385.out; have hcz66_2 := cz32 BK385.out; have hfz66_0 := blk_frozen BK385.out 0; have hfz66_1 := blk_frozen BK385.out 1; have hfz66_2 := blk_frozen BK385.out 2; have hnb67 := NB365_364.out; have hnc67 := NB364_365.out; have hcz68_0 := cz30 BK365.out; have hcz68_1 := cz31 BK365.out; have hcz68_2 := cz32 BK365.out; have hfz68_0 := blk_frozen BK365.out 0; have hfz68_1 := blk_frozen BK365.out 1; have hfz68_2 := blk_frozen BK365.out 2))
 refine bodyPost_ret (results_ctt rfl _ _ gb365 26 #[.slice Ao54 x386000_1.length co54, .slice Ao55 x386001_1.length co55, .slice Ao56 x386002_1.length co56] (0, 0) _ rfl (by (with_reducible repeat (first|refine kN ?_ _|refine kD ?_|refine kA ?_ _)); refine blk_put (cs := #[.slice Ao54 x386000_1.length co54, .slice Ao55 x386001_1.length co55, .slice none 0 0]) ?_ 2 _ rfl; (with_reducible repeat (first|refine kN ?_ _|refine kD ?_|refine kA ?_ _)); refine blk_put (cs := #[.slice Ao54 x386000_1.length co54, .slice none 0 0, .slice none 0 0]) ?_ 1 _ rfl; (with_reducible repeat (first|refine kN ?_ _|refine kD ?_|refine kA ?_ _)); refine blk_put (cs := #[.slice none 0 0, .slice none 0 0, .slice none 0 0]) ?_ 0 _ rfl; (with_reducible repeat (first|refine kN ?_ _|refine kD ?_|refine kA ?_ _)); refine blk_far ?_ NB365_396.out _; (with_reducible repeat (first|refine kN ?_ _|refine kD ?_|refine kA ?_ _)); refine blk_far ?_ NB365_396.out _; (with_reducible repeat (first|refine kN ?_ _|refine kD ?_|refine kA ?_ _)); refine blk_far ?_ NB365_396.out _; (with_reducible repeat (first|refine kN ?_ _|refine kD ?_|refine kA ?_ _)); exact BK365.out) Try.underlying26 rfl (by kernel_rfl)) rfl ?_
 exact ⟨_, _, _, eX, by (with_reducible repeat (first|apply rA|apply rN|apply rD)); exact Kd.R_mono (Kd.R_far (p := ⟨gb365, 2, none⟩) (Kd.R_far (p := ⟨gb365, 1, none⟩) (Kd.R_far (p := ⟨gb365, 0, none⟩) (Kd.R_far (p := ⟨gb396, 2, none⟩) (Kd.R_far (p := ⟨gb396, 1, none⟩) (Kd.R_far (p := ⟨gb396, 0, none⟩) (Kd.R_types (Kd.R_types HO_386000.out BK396.out (by decide)) BK365.out (by decide)) (fun _ hk => hk.1.2) (.slice Ao59 t386.length co59)) (fun _ hk => hk.1.2) (.slice Ao64 t389.length co64)) (fun _ hk => hk.1.2) (.slice Ao65 t392.length co65)) (fun _ hk => hk.2) (.slice Ao54 x386000_1.length co54)) (fun _ hk => hk.2) (.slice Ao55 x386001_1.length co55)) (fun _ hk => hk.2) (.slice Ao56 x386002_1.length co56)) (fun _ hk => ⟨hk.1.1.1.1.1.1, hk.1.1.1.1.1.2⟩), by (with_reducible repeat (first|apply rA|apply rN|apply rD)); exact Kd.R_mono (Kd.R_far (p := ⟨gb365, 2, none⟩) (Kd.R_far (p := ⟨gb365, 1, none⟩) (Kd.R_far (p := ⟨gb365, 0, none⟩) (Kd.R_far (p := ⟨gb396, 2, none⟩) (Kd.R_far (p := ⟨gb396, 1, none⟩) (Kd.R_far (p := ⟨gb396, 0, none⟩) (Kd.R_types (Kd.R_types HO_386001.out BK396.out (by decide)) BK365.out (by decide)) (fun _ hk => hk.1.2) (.slice Ao59 t386.length co59)) (fun _ hk => hk.1.2) (.slice Ao64 t389.length co64)) (fun _ hk => hk.1.2) (.slice Ao65 t392.length co65)) (fun _ hk => hk.2) (.slice Ao54 x386000_1.length co54)) (fun _ hk => hk.2) (.slice Ao55 x386001_1.length co55)) (fun _ hk => hk.2) (.slice Ao56 x386002_1.length co56)) (fun _ hk => ⟨hk.1.1.1.1.1.1, hk.1.1.1.1.1.2⟩), by (with_reducible repeat (first|apply rA|apply rN|apply rD)); exact Kd.R_mono (Kd.R_far (p := ⟨gb365, 2, none⟩) (Kd.R_far (p := ⟨gb365, 1, none⟩) (Kd.R_far (p := ⟨gb365, 0, none⟩) (Kd.R_far (p := ⟨gb396, 2, none⟩) (Kd.R_far (p := ⟨gb396, 1, none⟩) (Kd.R_far (p := ⟨gb396, 0, none⟩) (Kd.R_types (Kd.R_types HO_386002.out BK396.out (by decide)) BK365.out (by decide)) (fun _ hk => hk.1.2) (.slice Ao59 t386.length co59)) (fun _ hk => hk.1.2) (.slice Ao64 t389.length co64)) (fun _ hk => hk.1.2) (.slice Ao65 t392.length co65)) (fun _ hk => hk.2) (.slice Ao54 x386000_1.length co54)) (fun _ hk => hk.2) (.slice Ao55 x386001_1.length co55)) (fun _ hk => hk.2) (.slice Ao56 x386002_1.length co56)) (fun _ hk => ⟨hk.1.1.1.1.1.1, hk.1.1.1.1.1.2⟩), by repeat (first | (with_reducible first | exact HB.out|apply bA|apply bN|apply bD | refine below_set ?_ GE364.out | refine below_set ?_ GE365.out | refine below_set ?_ GE385.out | refine below_set ?_ GE396.out) | exact HB.out)⟩
 }
 }
 {
 rw [if_neg c6] at H
 exact absurd H (by simp)
 }
 }
 {
 rw [if_neg c5] at H
 exact absurd H (by simp)
 }
 }
 {
 rw [if_neg c4] at H
 exact absurd H (by simp)
 }
 }
 {
 replace c3 := Bool.eq_false_iff.mpr c3
 subst c3
 have H1 : (some (([] : List Int), ([] : List Int), ([] : List Int), 0, false)) = some (r1, r2, r3, r4, r5) := by rw [if_neg (show ¬ (false = true) by decide)] at H; exact H
 clear H
 have H := H1
 clear H1
 simp only [Option.some.injEq, Prod.mk.injEq] at H
 obtain ⟨rfl, rfl, rfl, rfl, rfl⟩ := H
 go_enter Try.func13, Try.ntmps13
 go_wp2_with (first | ((with_reducible refine gate_dst (N := 1) rfl ?_); refine box_event ?hg (N := 1) ?hd (cs := #[.slice A0_0 l0_0.length c0_0, .slice A0_1 l0_1.length c0_1, .slice A0_2 l0_2.length c0_2]) (t := 26) ?hr ?_; (case hd => rfl); (case hg => rfl); (case hr => first | (go_simp; done) | (go_simp; rfl)); intro gb364 hg w69 hbox hb; have n0_ := Aside0.mk (below_step (bX HB.out) hb); have n1_ := Aside0.mk (hbox); have n2_ := Aside0.mk ((szX (below_size (bX HB.out)) hg : w.heap.size ≤ gb364)); have n3_ := Aside0.mk ((szX (below_size (bX HB.out)) hg : w.heap.size ≤ gb364)); clear HB; have HB := n0_; have BK364 := n1_; have GW364 := n2_; have GE364 := n3_; clear n0_ n1_ n2_ n3_ hb hbox hg) | ((with_reducible refine gate_dst (N := 2) rfl ?_); refine box_event ?hg (N := 2) ?hd (cs := #[.slice none 0 0, .slice none 0 0, .slice none 0 0]) (t := 26) ?hr ?_; (case hd => rfl); (case hg => rfl); (case hr => first | (go_simp; done) | (go_simp; rfl)); intro gb365 hg w70 hbox hb; have n0_ := Aside0.mk (bbX BK364.out hb); have n1_ := Aside0.mk (below_step (bX1 HB.out GE364.out) hb); have n2_ := Aside0.mk (hbox); have n3_ := Aside0.mk ((szX (below_size (bX1 HB.out GE364.out)) hg : w.heap.size ≤ gb365)); have n4_ := Aside0.mk ((szX (below_size (bX1 HB.out GE364.out)) hg : w.heap.size ≤ gb365)); have n5_ := Aside0.mk (neX BK364.out hg); have n6_ := Aside0.mk (nfX BK364.out hg); clear BK364 HB; have BK364 := n0_; have HB := n1_; have BK365 := n2_; have GW365 := n3_; have GE365 := n4_; have NB364_365 := n5_; have NB365_364 := n6_; clear n0_ n1_ n2_ n3_ n4_ n5_ n6_ hb hbox hg; have hnb71 := NB364_365.out; have hnc71 := NB365_364.out; have hcz72_0 := cz30 BK364.out; have hcz72_1 := cz31 BK364.out; have hcz72_2 := cz32 BK364.out; have hfz72_0 := blk_frozen BK364.out 0; have hfz72_1 := blk_frozen BK364.out 1; have hfz72_2 := blk_frozen BK364.out 2) | ((with_reducible refine gate_callee (f := 28) rfl ?_); refine goesL_ (some 10) rfl rfl Try.func28 (by kernel_rfl) rfl #[.agg #[.slice A0_0 l0_0.length c0_0, .slice A0_1 l0_1.length c0_1, .slice A0_2 l0_2.length c0_2]] rfl aX ?_; (with_reducible refine (spec_ExchangeOk.calls k _ _ l0_0 _ _ l0_1 _ _ l0_2 false _ ?side1 ?side2 ?side3 ?side4 ?side5 ?side6 A2.out).mono ?_); (case side1 => exact cX (Kd.C_below HR0_0.out HB.out)); (case side2 => exact HC0_0.out); (case side3 => exact cX (Kd.C_below HR0_1.out HB.out)); (case side4 => exact HC0_1.out); (case side5 => exact cX (Kd.C_below HR0_2.out HB.out)); (case side6 => exact HC0_2.out); rintro e w73 ⟨rfl, hb⟩; refine ⟨_, rfl, ?_⟩; have n0_ := Aside0.mk (bbX BK364.out hb); have n1_ := Aside0.mk (bbX BK365.out hb); have n2_ := Aside0.mk (below_step (bX2 HB.out GE364.out GE365.out) hb); clear BK364 BK365 HB; have BK364 := n0_; have BK365 := n1_; have HB := n2_; clear n0_ n1_ n2_; (try clear hb); (try clear hb2); (try clear hk); (try clear hi); have hcz74_0 := cz30 BK365.out; have hcz74_1 := cz31 BK365.out; have hcz74_2 := cz32 BK365.out; have hfz74_0 := blk_frozen BK365.out 0; have hfz74_1 := blk_frozen BK365.out 1; have hfz74_2 := blk_frozen BK365.out 2))
 refine bodyPost_ret (results_ctt rfl _ _ gb365 26 #[.slice none 0 0, .slice none 0 0, .slice none 0 0] (0, 0) _ rfl (by (with_reducible repeat (first|refine kN ?_ _|refine kD ?_|refine kA ?_ _)); refine blk_put (cs := #[.slice none 0 0, .slice none 0 0, .slice none 0 0]) ?_ 2 _ rfl; (with_reducible repeat (first|refine kN ?_ _|refine kD ?_|refine kA ?_ _)); refine blk_put (cs := #[.slice none 0 0, .slice none 0 0, .slice none 0 0]) ?_ 1 _ rfl; (with_reducible repeat (first|refine kN ?_ _|refine kD ?_|refine kA ?_ _)); refine blk_put (cs := #[.slice none 0 0, .slice none 0 0, .slice none 0 0]) ?_ 0 _ rfl; (with_reducible repeat (first|refine kN ?_ _|refine kD ?_|refine kA ?_ _)); exact BK365.out) Try.underlying26 rfl (by kernel_rfl)) rfl ?_
 exact ⟨_, _, _, eX, by first | exact Kd.R_nil _ _ _ _ _ | exact Kd.N_nil _ _ _ _ _ | exact Kd.V_nil _ _ _ _ _ | exact Kd.Q_nil _ _ _ _ _ | exact Kd.S_nil _ _ _ _ _, by first | exact Kd.R_nil _ _ _ _ _ | exact Kd.N_nil _ _ _ _ _ | exact Kd.V_nil _ _ _ _ _ | exact Kd.Q_nil _ _ _ _ _ | exact Kd.S_nil _ _ _ _ _, by first | exact Kd.R_nil _ _ _ _ _ | exact Kd.N_nil _ _ _ _ _ | exact Kd.V_nil _ _ _ _ _ | exact Kd.Q_nil _ _ _ _ _ | exact Kd.S_nil _ _ _ _ _, bX2 HB.out GE364.out GE365.out⟩
 }

end Go.Proofs.Ytfomhkfgdggngaa.S
