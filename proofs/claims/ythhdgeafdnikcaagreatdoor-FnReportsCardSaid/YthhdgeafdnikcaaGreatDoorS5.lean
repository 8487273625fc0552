-- PRINTED by print.py (a twelfth state) out of the translation. Not trusted: Lean checks it.
import Derived.Test.YthhdgeafdnikcaaGreatDoorS0
import Derived.Test.YthhdgeafdnikcaaGreatDoorS3
import Derived.Test.YthhdgeafdnikcaaGreatDoorS4
namespace Go.Proofs.YthhdgeafdnikcaaGreatDoor.S
open Go.RowKit Go.Proofs.YthhdgeafdnikcaaGreatDoorW.PrintWords Go.Proofs.YthhdgeafdnikcaaGreatDoorW.PrintLast Go.Proofs.YthhdgeafdnikcaaGreatDoorW.PrintMore
attribute [local go_sem] max2_int min2_int max_two min_two max_three min_three max_four min_four   -- for this text's walks alone
set_option linter.unusedVariables false
set_option linter.unusedSimpArgs false

/-! ### impl_namedFrom: function 45 -/
def impl_namedFrom.l0 : Nat → List (S25) → Int → List Int → List Int → Option ((List (S25)))
 | 0, _, _, _, _ => none
 | k + 1, x3, x4, x444000, x444001 => (impl_CountSquares.f k x444000 x444001).bind fun t447 => (if x4 < t447 then ((impl_NamesFrom.f k x444000 x444001 x4).bind fun t448 => ((impl_RenameSurface.f k x444000 x444001 t448).bind fun bt451 => (if x3.length < 2932031007402 then (impl_namedFrom.l0 k (x3 ++ [(⟨bt451.1, bt451.2.1⟩ : S25)]) (wrap64 (x4 + 1)) x444000 x444001) else (none)))) else (some x3))
def impl_namedFrom.f (k : Nat) (l0_0 : List Int) (l0_1 : List Int) : Option ((List (S25))) := impl_namedFrom.l0 k (([] : List (S25))) 0 l0_0 l0_1
def impl_namedFrom.T5 : Bool × List (List Nat × List Nat) := (true, [([], []), ([], []), ([], []), ([1, 2], [1, 2]), ([0, 3, 3], [0, 3]), ([4], [4]), ([5], [5]), ([5], [5]), ([], []), ([8, 6, 4, 0, 1, 2, 3, 4, 5, 6, 8], [6, 8]), ([7, 9, 0, 1, 2, 3, 4, 5, 6, 7, 8, 9], [7])])
def impl_namedFrom.B5 : List Nat := [0, 0, 0, 6, 15, 31, 63, 63, 0, 383, 1023]
theorem impl_namedFrom.tab5 : rtab .any (opsOf Tryz.f45 5) = impl_namedFrom.T5 := by kernel_rfl
theorem impl_namedFrom.bits5 : waitsOk impl_namedFrom.T5.2 impl_namedFrom.B5 = true := by kernel_rfl
set_option maxHeartbeats 8000000 in
set_option maxRecDepth 100000 in
theorem impl_namedFrom.calls (k : Nat) (A0_0 : Option Addr) (c0_0 : Nat) (l0_0 : List Int) (A0_1 : Option Addr) (c0_1 : Nat) (l0_1 : List Int) (r : List (S25)) (w : World) (hr0_0 : Kd.C (Kd.int .i64) w A0_0 l0_0.length l0_0) (hc0_0 : l0_0.length ≤ c0_0) (hr0_1 : Kd.C (Kd.int .i64) w A0_1 l0_1.length l0_1) (hc0_1 : l0_1.length ≤ c0_1) (h : impl_namedFrom.f k l0_0 l0_1 = some r) :
  Calls Tryz.prog 45 #[.agg #[.slice A0_0 l0_0.length c0_0, .slice A0_1 l0_1.length c0_1]] w fun e w' => ∃ v0_ : Value, e = .returned (v0_) ∧ Kd.S k25 25 w' w.heap.size (fun _ => True) v0_ r ∧ Below w.heap.size w w' := by
 have hu25 := Tryz.underlying25
 have HR0_0 := Aside0.mk hr0_0
 have HC0_0 := Aside0.mk hc0_0
 clear hr0_0 hc0_0
 have HR0_1 := Aside0.mk hr0_1
 have HC0_1 := Aside0.mk hc0_1
 clear hr0_1 hc0_1
 have HB := Aside0.mk (Below.refl w.heap.size w)
 have H : (impl_namedFrom.l0 k (([] : List (S25))) 0 l0_0 l0_1) = some r := h
 clear h
 obtain ⟨y444, hy444⟩ : ∃ y_ : List (S25), y_ = (([] : List (S25))) := ⟨_, rfl⟩
 replace H : (impl_namedFrom.l0 k y444 0 l0_0 l0_1) = some r := by first | (rw [hy444]; with_reducible exact H) | (have H2_ := (Option.bind_some _ _).symm.trans H; rw [hy444]; with_reducible exact H2_) | (have H2_ := (Option.bind_some _ _).symm.trans H; with_reducible exact H2_) | with_reducible exact H | (rw [hy444]; exact H) | exact H
 have Ny444 := Aside0.mk hy444
 clear hy444
 have H' := Aside0.mk H
 clear H
 go_enter Tryz.func45, Tryz.ntmps45
 go_wp2_with (first | ((with_reducible refine gate_dst (N := 1) rfl ?_); refine box_event ?hg (N := 1) ?hd (cs := #[.slice A0_0 l0_0.length c0_0, .slice A0_1 l0_1.length c0_1]) (t := 25) ?hr ?_; (case hd => rfl); (case hg => rfl); (case hr => first | (go_simp; done) | (go_simp; rfl)); intro gb443 hg w2 hbox hb; have n0_ := Aside0.mk (below_step (bX HB.out) hb); have n1_ := Aside0.mk (hbox); have n2_ := Aside0.mk ((szX (below_size (bX HB.out)) hg : w.heap.size ≤ gb443)); have n3_ := Aside0.mk ((szX (below_size (bX HB.out)) hg : w.heap.size ≤ gb443)); clear HB; have HB := n0_; have BK443 := n1_; have GW443 := n2_; have GE443 := n3_; clear n0_ n1_ n2_ n3_ hb hbox hg) | ((with_reducible refine gate_dst (N := 7) rfl ?_); refine Kd.S_lit k25 _ 25 ?hg (N := 7) ?hd (xs := ([] : List (S25))) (inner := []) (ok := fun _ => True) (okp := fun _ => True) ?hr ?hp (fun _ hk => hk) trivial (Below.refl _ _) (Nat.le_refl _) (by simp) ?_; (case hd => rfl); (case hg => rfl); (case hr => first | (go_simp; done) | (go_simp; rfl)); (case hp => exact (Reps.none _ _)); intro v445 w3 ho4 hb hg_ hnew_; clear hg_ hnew_; (first | rw [← Ny444.out] at ho4 | (simp only [Int.reduceToNat] at ho4; rw [← Ny444.out] at ho4)); have n0_ := Aside0.mk (Kd.S_lower (Kd.S_newB ho4 (g := gb443) (o := .cells #[.slice A0_0 l0_0.length c0_0, .slice A0_1 l0_1.length c0_1] 25 (0, 0)) (kX BK443.out)) (below_size (bX1 HB.out GE443.out))); have n1_ := Aside0.mk (bbX BK443.out hb); have n2_ := Aside0.mk (below_step (bX1 HB.out GE443.out) hb); clear BK443 HB; have HO446 := n0_; have BK443 := n1_; have HB := n2_; clear n0_ n1_ n2_ hb ho4))
 go_loopg [3, 4] k (fun kq v3 v4 w' => ∃ (x3_1 : List (S25)) (x4_1 : Int), v4 = .int .i64 x4_1 ∧ Aside0 (impl_namedFrom.l0 kq x3_1 x4_1 l0_0 l0_1 = some r) ∧ Aside0 (kq ≤ k) ∧ Aside0 (Kd.S k25 25 w' w.heap.size (fun k_ => k_ ≠ gb443) v3 x3_1) ∧ Aside0 (w'.heap[gb443]? = some (.cells #[(.slice A0_0 l0_0.length c0_0), (.slice A0_1 l0_1.length c0_1)] 25 (0, 0))) ∧ Aside0 (Below w.heap.size w w'))
 case atStart => exact ⟨(y444), (0), vX, H', ⟨Nat.le_refl _⟩, ⟨by (with_reducible repeat (first | apply Kd.S_alloc | apply Kd.S_drewN | apply Kd.S_drew)); exact Kd.S_mono HO446.out (fun _ hk => hk.2)⟩, ⟨kX BK443.out⟩, ⟨bX1 HB.out GE443.out⟩⟩
 case round =>
 clear H'
 try clear p2
 try clear c4
 obtain ⟨x3_1, x4_1, rfl, HA, HK1, HO_3, BK443, HB⟩ := hrel
 cases gk with
 | zero => exact absurd HA.out (by simp [impl_namedFrom.l0])
 | succ k1 =>
 have H := HA.out
 clear HA
 simp only [impl_namedFrom.l0] at H
 replace H := Option.bind_eq_some_iff.mp H
 obtain ⟨t447, A50, H⟩ := H
 replace H : (if x4_1 < t447 then ((impl_NamesFrom.f k1 l0_0 l0_1 x4_1).bind fun t448 => ((impl_RenameSurface.f k1 l0_0 l0_1 t448).bind fun bt451 => (if x3_1.length < 2932031007402 then (impl_namedFrom.l0 k1 (x3_1 ++ [(⟨bt451.1, bt451.2.1⟩ : S25)]) (wrap64 (x4_1 + 1)) l0_0 l0_1) else (none)))) else (some x3_1)) = some r := H
 have A5 := Aside0.mk A50
 clear A50
 by_cases c6 : x4_1 < t447
 {
 rw [if_pos c6] at H
 have c6b0 : decide (x4_1 < t447) = true := decide_eq_true c6
 clear c6
 replace H := Option.bind_eq_some_iff.mp H
 obtain ⟨t448, A70, H⟩ := H
 replace H : ((impl_RenameSurface.f k1 l0_0 l0_1 t448).bind fun bt451 => (if x3_1.length < 2932031007402 then (impl_namedFrom.l0 k1 (x3_1 ++ [(⟨bt451.1, bt451.2.1⟩ : S25)]) (wrap64 (x4_1 + 1)) l0_0 l0_1) else (none))) = some r := H
 have A7 := Aside0.mk A70
 clear A70
 replace H := Option.bind_eq_some_iff.mp H
 obtain ⟨⟨t451, t454, t457⟩, A80, H⟩ := H
 replace H : (if x3_1.length < 2932031007402 then (impl_namedFrom.l0 k1 (x3_1 ++ [(⟨t451, t454⟩ : S25)]) (wrap64 (x4_1 + 1)) l0_0 l0_1) else (none)) = some r := H
 have A8 := Aside0.mk A80
 clear A80
 by_cases c9 : x3_1.length < 2932031007402
 {
 rw [if_pos c9] at H
 have LMc9 := Aside0.mk c9
 clear c9
 obtain ⟨y459, hy459⟩ : ∃ y_ : List (S25), y_ = (x3_1 ++ [(⟨t451, t454⟩ : S25)]) := ⟨_, rfl⟩
 replace H : (impl_namedFrom.l0 k1 y459 (wrap64 (x4_1 + 1)) l0_0 l0_1) = some r := by first | (rw [hy459]; with_reducible exact H) | (have H2_ := (Option.bind_some _ _).symm.trans H; rw [hy459]; with_reducible exact H2_) | (have H2_ := (Option.bind_some _ _).symm.trans H; with_reducible exact H2_) | with_reducible exact H | (rw [hy459]; exact H) | exact H
 have Ny459 := Aside0.mk hy459
 clear hy459
 have H' := Aside0.mk H
 clear H
 have hcz10_0 := cz20 BK443.out
 have hcz10_1 := cz21 BK443.out
 have hfz10_0 := blk_frozen BK443.out 0
 have hfz10_1 := blk_frozen BK443.out 1
 try go_wp2_with (first | ((with_reducible refine gate_callee (f := 32) rfl ?_); refine goesL_ (some 10) rfl rfl Tryz.func32 (by kernel_rfl) rfl #[.agg #[.slice A0_0 l0_0.length c0_0, .slice A0_1 l0_1.length c0_1]] rfl aX ?_; (with_reducible refine (impl_CountSquares.calls k1 _ _ l0_0 _ _ l0_1 t447 _ ?side1 ?side2 ?side3 ?side4 A5.out).mono ?_); (case side1 => exact cX (Kd.C_below HR0_0.out HB.out)); (case side2 => exact HC0_0.out); (case side3 => exact cX (Kd.C_below HR0_1.out HB.out)); (case side4 => exact HC0_1.out); rintro e w11 ⟨rfl, hb⟩; refine ⟨_, rfl, ?_⟩; have n0_ := Aside0.mk (Kd.S_below (by (with_reducible repeat (first | apply Kd.S_alloc | apply Kd.S_drewN | apply Kd.S_drew)); exact HO_3.out) hb); have n1_ := Aside0.mk (bbX BK443.out hb); have n2_ := Aside0.mk (below_step (bX1 HB.out GE443.out) hb); clear HO_3 BK443 HB; have HO_3 := n0_; have BK443 := n1_; have HB := n2_; clear n0_ n1_ n2_; (try clear hb); (try clear hb2); (try clear hk); (try clear hi)))
 have n0_ := Aside0.mk (Kd.S_drew HO_3.out)
 have n1_ := Aside0.mk (blk_drew BK443.out)
 have n2_ := Aside0.mk (below_drew1 HB.out)
 clear HO_3 BK443 HB
 have HO_3 := n0_
 have BK443 := n1_
 have HB := n2_
 clear n0_ n1_ n2_
 refine start_ (n := 11) (S := fun w' => w'.cell? ⟨gb443, 0, none⟩ = some (.slice A0_0 l0_0.length c0_0) ∧ w'.cell? ⟨gb443, 1, none⟩ = some (.slice A0_1 l0_1.length c0_1)) (ds := []) #[ff,ff,ff,ff,ff,ff,ff,ff,ff,ff,ff] (by kernel_rfl) rfl rfl ⟨cz20 BK443.out, cz21 BK443.out⟩ (fun hHeld => ?_); refine with_tabW impl_namedFrom.tab5 impl_namedFrom.bits5 (fun HT_ HW_ => ?_)
 generalize w11.drew = w12 at HO_3 BK443 HB hHeld ⊢
 refine pX 2 17 (fl 11 4) rfl rfl HT_.out ?_
 refine tX2 0 15 (fl 11 5) rfl rfl HT_.out HW_.out hHeld ?_
 refine tX2 1 16 (fl 11 7) rfl rfl HT_.out HW_.out hHeld ?_
 refine join_ (σ := Value × Value × Value × Nat) 2 #[tt,tt,tt,tt,tt,tt,tt,tt,tt,ff,ff] (fun s_ => [(18, s_.1), (19, .tuple #[.agg #[s_.2.1, s_.2.2.1], .bool t457]), (5, .pointer (some ⟨s_.2.2.2, 0, none⟩)), (14, .tuple #[.agg #[s_.2.1, s_.2.2.1], .bool t457]), (20, .agg #[s_.2.1, s_.2.2.1]), (21, .bool t457)]) (fun s_ w' => (w'.cell? ⟨gb443, 0, none⟩ = some (.slice A0_0 l0_0.length c0_0) ∧ w'.cell? ⟨gb443, 1, none⟩ = some (.slice A0_1 l0_1.length c0_1)) ∧ (Kd.R (Kd.int .i64) 3 w' w.heap.size (fun k_ => some k_ ≠ (s_.2.1 : Value).ownBlock ∧ some k_ ≠ (s_.2.2.1 : Value).ownBlock) s_.1 t448) ∧ (Kd.R (Kd.int .i64) 3 w' w.heap.size (fun k_ => some k_ ≠ (s_.1 : Value).ownBlock ∧ some k_ ≠ (s_.2.2.1 : Value).ownBlock) s_.2.1 t451) ∧ (Kd.R (Kd.int .i64) 3 w' w.heap.size (fun k_ => some k_ ≠ (s_.1 : Value).ownBlock ∧ some k_ ≠ (s_.2.1 : Value).ownBlock) s_.2.2.1 t454) ∧ (Kd.S k25 25 w' w.heap.size (fun k_ => some k_ ≠ (s_.1 : Value).ownBlock ∧ some k_ ≠ (s_.2.1 : Value).ownBlock ∧ some k_ ≠ (s_.2.2.1 : Value).ownBlock ∧ k_ ≠ gb443 ∧ k_ ≠ s_.2.2.2) u3 x3_1) ∧ (w'.heap[gb443]? = some (.cells #[.slice A0_0 l0_0.length c0_0, .slice A0_1 l0_1.length c0_1] 25 (0, 0))) ∧ (w'.heap[s_.2.2.2]? = some (.cells #[.slice none 0 0, .slice none 0 0] 25 (0, 0))) ∧ (w.heap.size ≤ s_.2.2.2) ∧ (w.heap.size ≤ s_.2.2.2) ∧ (gb443 ≠ s_.2.2.2) ∧ (s_.2.2.2 ≠ gb443) ∧ (Below w.heap.size w w')) ?_ ?_
 rotate_left
 {
 intro hCont
 refine two_ (i := 3) (j := 8) (Ni := some 18) (Nj := some 5) #[tt,tt,tt,tt,ff,ff,ff,ff,ff,ff,ff] #[tt,tt,tt,ff,ff,ff,ff,ff,tt,ff,ff] rfl rfl rfl rfl (two_of HT_.out (by kernel_rfl)) (by decide) (by decide) (fun K hK => ?_) (fun K hK => ?_)
 {
 skip
 refine goes_ Tryz.func84 (by kernel_rfl) rfl #[.agg #[.slice A0_0 l0_0.length c0_0, .slice A0_1 l0_1.length c0_1], .int .i64 x4_1] (by rfl) rfl rfl aX ?_
 with_reducible refine (impl_NamesFrom.calls k1 _ _ l0_0 _ _ l0_1 x4_1 t448 _ ?side1 ?side2 ?side3 ?side4 A7.out).mono ?_
 (case side1 => exact cX (Kd.C_below HR0_0.out HB.out))
 (case side2 => exact HC0_0.out)
 (case side3 => exact cX (Kd.C_below HR0_1.out HB.out))
 (case side4 => exact HC0_1.out)
 rintro e w13 ⟨v449, rfl, ho0, hb⟩
 refine ⟨_, rfl, ?_⟩
 have n0_ := Aside0.mk (Kd.S_elder' (by (with_reducible repeat (first | apply Kd.S_alloc | apply Kd.S_drewN | apply Kd.S_drew)); exact HO_3.out) (Kd.R_base ho0) hb)
 have n1_ := Aside0.mk (Kd.R_lower ho0 (below_size (bX1 HB.out GE443.out)))
 have n2_ := Aside0.mk (bbX BK443.out hb)
 have n3_ := Aside0.mk (below_step (bX1 HB.out GE443.out) hb)
 clear HO_3 BK443 HB
 have HO_3 := n0_
 have HO450 := n1_
 have BK443 := n2_
 have HB := n3_
 clear n0_ n1_ n2_ n3_
 (try clear hb)
 (try clear hb2)
 (try clear hk)
 (try clear hi)
 (try clear ho0)
 obtain ⟨Ao14, co14, eo14⟩ := Kd.R_slice HO450.out
 (first | subst eo14 | (injection eo14 with f1_ f2_ f3_; have f4_ := f1_.symm; have f5_ := f3_.symm; clear f1_ f2_ f3_; subst f4_; subst f5_))
 refine hK.out _ _ ⟨cz20 BK443.out, cz21 BK443.out⟩ (fun hHeld => ?_)
 clear hK K
 refine norm_ (a' := ?_) ?_ ?_
 rotate_left
 {
 show Act.put _ (some 18) _ = _
 simp only [Act.put, zA, zB, zC, i64_w, i32_w]
 rfl
 }
 refine two_ (i := 4) (j := 8) (Ni := some 19) (Nj := some 5) #[tt,tt,tt,tt,tt,ff,ff,ff,ff,ff,ff] #[tt,tt,tt,tt,ff,ff,ff,ff,tt,ff,ff] rfl rfl rfl rfl (two_of HT_.out (by kernel_rfl)) (by decide) (by decide) (fun K hK => ?_) (fun K hK => ?_)
 {
 skip
 refine goes_ Tryz.func83 (by kernel_rfl) rfl #[.agg #[.slice A0_0 l0_0.length c0_0, .slice A0_1 l0_1.length c0_1], .slice Ao14 t448.length co14] (by rfl) rfl rfl aX ?_
 with_reducible refine (impl_RenameSurface.calls k1 _ _ l0_0 _ _ l0_1 _ _ t448 t451 t454 t457 _ ?side1 ?side2 ?side3 ?side4 ?side5 ?side6 A8.out).mono ?_
 (case side1 => exact cX (Kd.C_below HR0_0.out HB.out))
 (case side2 => exact HC0_0.out)
 (case side3 => exact cX (Kd.C_below HR0_1.out HB.out))
 (case side4 => exact HC0_1.out)
 (case side5 => exact cX (Kd.R_reads' HO450.out).2.2)
 (case side6 => exact (Kd.R_reads' HO450.out).2.1)
 rintro e w15 ⟨v452, v455, rfl, ho0, ho1, hb⟩
 refine ⟨_, rfl, ?_⟩
 have n0_ := Aside0.mk (Kd.S_mono (Kd.S_told (Kd.S_told (Kd.S_old (by (with_reducible repeat (first | apply Kd.S_alloc | apply Kd.S_drewN | apply Kd.S_drew)); exact HO_3.out) hb) (Kd.R_base ho0)) (Kd.R_base ho1)) (fun _ h_ => h_.1))
 have n1_ := Aside0.mk (Kd.R_mono (Kd.R_told (Kd.R_told (Kd.R_old (rX HO450.out) hb) (Kd.R_base ho0)) (Kd.R_base ho1)) (fun _ h_ => h_.1))
 have n2_ := Aside0.mk (Kd.R_lower (Kd.R_new' ho0 (Kd.R_lt (rX HO450.out))) (below_size (bX1 HB.out GE443.out)))
 have n3_ := Aside0.mk (Kd.R_lower (Kd.R_new' ho1 (Kd.R_lt (rX HO450.out))) (below_size (bX1 HB.out GE443.out)))
 have n4_ := Aside0.mk (bbX BK443.out hb)
 have n5_ := Aside0.mk (below_step (bX1 HB.out GE443.out) hb)
 clear HO_3 HO450 BK443 HB
 have HO_3 := n0_
 have HO450 := n1_
 have HO453 := n2_
 have HO456 := n3_
 have BK443 := n4_
 have HB := n5_
 clear n0_ n1_ n2_ n3_ n4_ n5_
 (try clear hb)
 (try clear hb2)
 (try clear hk)
 (try clear hi)
 (try clear ho0)
 (try clear ho1)
 refine hK.out _ _ ⟨cz20 BK443.out, cz21 BK443.out⟩ (fun hHeld => ?_)
 clear hK K
 refine norm_ (a' := ?_) ?_ ?_
 rotate_left
 {
 show Act.put _ (some 19) _ = _
 simp only [Act.put, zA, zB, zC, i64_w, i32_w]
 rfl
 }
 refine pX 5 14 (fl 11 63) rfl rfl HT_.out ?_
 refine pX 6 20 (fl 11 127) rfl rfl HT_.out ?_
 refine pX 7 21 (fl 11 255) rfl rfl HT_.out ?_
 refine one_ (i := 8) (N := some 5) #[tt,tt,tt,tt,tt,tt,tt,tt,tt,ff,ff] rfl rfl (one_of HT_.out (by kernel_rfl)) (by decide) (fun K hK => ?_)
 refine box_step ?hg (N := 5) ?hd (cs := #[.slice none 0 0, .slice none 0 0]) (t := 25) ?hr ?_; (case hd => rfl); (case hg => rfl); (case hr => first | (go_simp; done) | (go_simp; rfl))
 intro gb458 hg w16 hbox hb
 have n0_ := Aside0.mk (Kd.S_below (Kd.S_elderB (by (with_reducible repeat (first | apply Kd.S_alloc | apply Kd.S_drewN | apply Kd.S_drew)); exact HO_3.out) gb458 (Nat.le_of_eq hg.symm)) hb)
 have n1_ := Aside0.mk (Kd.R_below (rX HO450.out) hb)
 have n2_ := Aside0.mk (Kd.R_below (rX HO453.out) hb)
 have n3_ := Aside0.mk (Kd.R_below (rX HO456.out) hb)
 have n4_ := Aside0.mk (bbX BK443.out hb)
 have n5_ := Aside0.mk (below_step (bX1 HB.out GE443.out) hb)
 have n6_ := Aside0.mk (hbox)
 have n7_ := Aside0.mk ((szX (below_size (bX1 HB.out GE443.out)) hg : w.heap.size ≤ gb458))
 have n8_ := Aside0.mk ((szX (below_size (bX1 HB.out GE443.out)) hg : w.heap.size ≤ gb458))
 have n9_ := Aside0.mk (neX BK443.out hg)
 have n10_ := Aside0.mk (nfX BK443.out hg)
 clear HO_3 HO450 HO453 HO456 BK443 HB
 have HO_3 := n0_
 have HO450 := n1_
 have HO453 := n2_
 have HO456 := n3_
 have BK443 := n4_
 have HB := n5_
 have BK458 := n6_
 have GW458 := n7_
 have GE458 := n8_
 have NB443_458 := n9_
 have NB458_443 := n10_
 clear n0_ n1_ n2_ n3_ n4_ n5_ n6_ n7_ n8_ n9_ n10_ hb hbox hg
 refine hK.out _ _ ⟨cz20 BK443.out, cz21 BK443.out⟩ (fun hHeld => ?_)
 clear hK K
 refine norm_ (a' := ?_) ?_ ?_
 rotate_left
 {
 show Act.put _ (some 5) _ = _
 simp only [Act.put, zA, zB, zC, i64_w, i32_w]
 rfl
 }
 exact norm_ (by simp only [putAll, Act.put, List.setIfInBounds_toArray, List.set_cons_zero, List.set_cons_succ]) (hCont (.slice Ao14 t448.length co14, v452, v455, gb458) _ ⟨hHeld, (rM HO450.out (fun _ hk => ⟨hk.1.2, hk.2⟩)), (rM HO453.out (fun _ hk => ⟨hk.2, hk.1⟩)), (rM HO456.out (fun _ hk => ⟨hk.2, hk.1⟩)), (by (with_reducible repeat (first | apply Kd.S_alloc | apply Kd.S_drewN | apply Kd.S_drew)); exact Kd.S_mono HO_3.out (fun _ hk => ⟨hk.1.1.1.2, ⟨hk.1.1.2, ⟨hk.1.2, ⟨hk.1.1.1.1, hk.2⟩⟩⟩⟩)), (kX BK443.out), (kX BK458.out), GW458.out, GE458.out, NB443_458.out, NB458_443.out, (bX2 HB.out GE443.out GE458.out)⟩)
 }
 {
 skip
 refine box_step ?hg (N := 5) ?hd (cs := #[.slice none 0 0, .slice none 0 0]) (t := 25) ?hr ?_; (case hd => rfl); (case hg => rfl); (case hr => first | (go_simp; done) | (go_simp; rfl))
 intro gb458 hg w14 hbox hb
 have n0_ := Aside0.mk (Kd.S_below (Kd.S_elderB (by (with_reducible repeat (first | apply Kd.S_alloc | apply Kd.S_drewN | apply Kd.S_drew)); exact HO_3.out) gb458 (Nat.le_of_eq hg.symm)) hb)
 have n1_ := Aside0.mk (Kd.R_below (rX HO450.out) hb)
 have n2_ := Aside0.mk (bbX BK443.out hb)
 have n3_ := Aside0.mk (below_step (bX1 HB.out GE443.out) hb)
 have n4_ := Aside0.mk (hbox)
 have n5_ := Aside0.mk ((szX (below_size (bX1 HB.out GE443.out)) hg : w.heap.size ≤ gb458))
 have n6_ := Aside0.mk ((szX (below_size (bX1 HB.out GE443.out)) hg : w.heap.size ≤ gb458))
 have n7_ := Aside0.mk (neX BK443.out hg)
 have n8_ := Aside0.mk (nfX BK443.out hg)
 clear HO_3 HO450 BK443 HB
 have HO_3 := n0_
 have HO450 := n1_
 have BK443 := n2_
 have HB := n3_
 have BK458 := n4_
 have GW458 := n5_
 have GE458 := n6_
 have NB443_458 := n7_
 have NB458_443 := n8_
 clear n0_ n1_ n2_ n3_ n4_ n5_ n6_ n7_ n8_ hb hbox hg
 obtain ⟨Ao15, co15, eo15⟩ := Kd.R_slice HO450.out
 (first | subst eo15 | (injection eo15 with f1_ f2_ f3_; have f4_ := f1_.symm; have f5_ := f3_.symm; clear f1_ f2_ f3_; subst f4_; subst f5_))
 refine hK.out _ _ ⟨cz20 BK443.out, cz21 BK443.out⟩ (fun hHeld => ?_)
 clear hK K
 refine norm_ (a' := ?_) ?_ ?_
 rotate_left
 {
 show Act.put _ (some 5) _ = _
 simp only [Act.put, zA, zB, zC, i64_w, i32_w]
 rfl
 }
 refine one_ (i := 4) (N := some 19) #[tt,tt,tt,tt,tt,ff,ff,ff,tt,ff,ff] rfl rfl (one_of HT_.out (by kernel_rfl)) (by decide) (fun K hK => ?_)
 refine goes_ Tryz.func83 (by kernel_rfl) rfl #[.agg #[.slice A0_0 l0_0.length c0_0, .slice A0_1 l0_1.length c0_1], .slice Ao15 t448.length co15] (by rfl) rfl rfl aX ?_
 with_reducible refine (impl_RenameSurface.calls k1 _ _ l0_0 _ _ l0_1 _ _ t448 t451 t454 t457 _ ?side1 ?side2 ?side3 ?side4 ?side5 ?side6 A8.out).mono ?_
 (case side1 => exact cX (Kd.C_below HR0_0.out HB.out))
 (case side2 => exact HC0_0.out)
 (case side3 => exact cX (Kd.C_below HR0_1.out HB.out))
 (case side4 => exact HC0_1.out)
 (case side5 => exact cX (Kd.R_reads' HO450.out).2.2)
 (case side6 => exact (Kd.R_reads' HO450.out).2.1)
 rintro e w16 ⟨v452, v455, rfl, ho0, ho1, hb⟩
 refine ⟨_, rfl, ?_⟩
 have n0_ := Aside0.mk (Kd.S_mono (Kd.S_told (Kd.S_told (Kd.S_old (by (with_reducible repeat (first | apply Kd.S_alloc | apply Kd.S_drewN | apply Kd.S_drew)); exact HO_3.out) hb) (Kd.R_base ho0)) (Kd.R_base ho1)) (fun _ h_ => h_.1))
 have n1_ := Aside0.mk (Kd.R_mono (Kd.R_told (Kd.R_told (Kd.R_old (rX HO450.out) hb) (Kd.R_base ho0)) (Kd.R_base ho1)) (fun _ h_ => h_.1))
 have n2_ := Aside0.mk (Kd.R_lower (Kd.R_new' ho0 (Kd.R_lt (rX HO450.out))) (below_size (bX2 HB.out GE443.out GE458.out)))
 have n3_ := Aside0.mk (Kd.R_lower (Kd.R_new' ho1 (Kd.R_lt (rX HO450.out))) (below_size (bX2 HB.out GE443.out GE458.out)))
 have n4_ := Aside0.mk (bbX BK443.out hb)
 have n5_ := Aside0.mk (bbX BK458.out hb)
 have n6_ := Aside0.mk (below_step (bX2 HB.out GE443.out GE458.out) hb)
 clear HO_3 HO450 BK443 BK458 HB
 have HO_3 := n0_
 have HO450 := n1_
 have HO453 := n2_
 have HO456 := n3_
 have BK443 := n4_
 have BK458 := n5_
 have HB := n6_
 clear n0_ n1_ n2_ n3_ n4_ n5_ n6_
 (try clear hb)
 (try clear hb2)
 (try clear hk)
 (try clear hi)
 (try clear ho0)
 (try clear ho1)
 refine hK.out _ _ ⟨cz20 BK443.out, cz21 BK443.out⟩ (fun hHeld => ?_)
 clear hK K
 refine norm_ (a' := ?_) ?_ ?_
 rotate_left
 {
 show Act.put _ (some 19) _ = _
 simp only [Act.put, zA, zB, zC, i64_w, i32_w]
 rfl
 }
 refine pX 5 14 (fl 11 319) rfl rfl HT_.out ?_
 refine pX 6 20 (fl 11 383) rfl rfl HT_.out ?_
 refine pX 7 21 (fl 11 511) rfl rfl HT_.out ?_
 exact norm_ (by simp only [putAll, Act.put, List.setIfInBounds_toArray, List.set_cons_zero, List.set_cons_succ]) (hCont (.slice Ao15 t448.length co15, v452, v455, gb458) _ ⟨hHeld, (rM HO450.out (fun _ hk => ⟨hk.1.2, hk.2⟩)), (rM HO453.out (fun _ hk => ⟨hk.2, hk.1⟩)), (rM HO456.out (fun _ hk => ⟨hk.2, hk.1⟩)), (by (with_reducible repeat (first | apply Kd.S_alloc | apply Kd.S_drewN | apply Kd.S_drew)); exact Kd.S_mono HO_3.out (fun _ hk => ⟨hk.1.1.1.2, ⟨hk.1.2, ⟨hk.2, ⟨hk.1.1.1.1, hk.1.1.2⟩⟩⟩⟩)), (kX BK443.out), (kX BK458.out), GW458.out, GE458.out, NB443_458.out, NB458_443.out, (bX2 HB.out GE443.out GE458.out)⟩)
 }
 }
 {
 skip
 refine box_step ?hg (N := 5) ?hd (cs := #[.slice none 0 0, .slice none 0 0]) (t := 25) ?hr ?_; (case hd => rfl); (case hg => rfl); (case hr => first | (go_simp; done) | (go_simp; rfl))
 intro gb458 hg w13 hbox hb
 have n0_ := Aside0.mk (Kd.S_below (Kd.S_elderB (by (with_reducible repeat (first | apply Kd.S_alloc | apply Kd.S_drewN | apply Kd.S_drew)); exact HO_3.out) gb458 (Nat.le_of_eq hg.symm)) hb)
 have n1_ := Aside0.mk (bbX BK443.out hb)
 have n2_ := Aside0.mk (below_step (bX1 HB.out GE443.out) hb)
 have n3_ := Aside0.mk (hbox)
 have n4_ := Aside0.mk ((szX (below_size (bX1 HB.out GE443.out)) hg : w.heap.size ≤ gb458))
 have n5_ := Aside0.mk ((szX (below_size (bX1 HB.out GE443.out)) hg : w.heap.size ≤ gb458))
 have n6_ := Aside0.mk (neX BK443.out hg)
 have n7_ := Aside0.mk (nfX BK443.out hg)
 clear HO_3 BK443 HB
 have HO_3 := n0_
 have BK443 := n1_
 have HB := n2_
 have BK458 := n3_
 have GW458 := n4_
 have GE458 := n5_
 have NB443_458 := n6_
 have NB458_443 := n7_
 clear n0_ n1_ n2_ n3_ n4_ n5_ n6_ n7_ hb hbox hg
 refine hK.out _ _ ⟨cz20 BK443.out, cz21 BK443.out⟩ (fun hHeld => ?_)
 clear hK K
 refine norm_ (a' := ?_) ?_ ?_
 rotate_left
 {
 show Act.put _ (some 5) _ = _
 simp only [Act.put, zA, zB, zC, i64_w, i32_w]
 rfl
 }
 refine one_ (i := 3) (N := some 18) #[tt,tt,tt,tt,ff,ff,ff,ff,tt,ff,ff] rfl rfl (one_of HT_.out (by kernel_rfl)) (by decide) (fun K hK => ?_)
 refine goes_ Tryz.func84 (by kernel_rfl) rfl #[.agg #[.slice A0_0 l0_0.length c0_0, .slice A0_1 l0_1.length c0_1], .int .i64 x4_1] (by rfl) rfl rfl aX ?_
 with_reducible refine (impl_NamesFrom.calls k1 _ _ l0_0 _ _ l0_1 x4_1 t448 _ ?side1 ?side2 ?side3 ?side4 A7.out).mono ?_
 (case side1 => exact cX (Kd.C_below HR0_0.out HB.out))
 (case side2 => exact HC0_0.out)
 (case side3 => exact cX (Kd.C_below HR0_1.out HB.out))
 (case side4 => exact HC0_1.out)
 rintro e w14 ⟨v449, rfl, ho0, hb⟩
 refine ⟨_, rfl, ?_⟩
 have n0_ := Aside0.mk (Kd.S_elder' (by (with_reducible repeat (first | apply Kd.S_alloc | apply Kd.S_drewN | apply Kd.S_drew)); exact HO_3.out) (Kd.R_base ho0) hb)
 have n1_ := Aside0.mk (Kd.R_lower ho0 (below_size (bX2 HB.out GE443.out GE458.out)))
 have n2_ := Aside0.mk (bbX BK443.out hb)
 have n3_ := Aside0.mk (bbX BK458.out hb)
 have n4_ := Aside0.mk (below_step (bX2 HB.out GE443.out GE458.out) hb)
 clear HO_3 BK443 BK458 HB
 have HO_3 := n0_
 have HO450 := n1_
 have BK443 := n2_
 have BK458 := n3_
 have HB := n4_
 clear n0_ n1_ n2_ n3_ n4_
 (try clear hb)
 (try clear hb2)
 (try clear hk)
 (try clear hi)
 (try clear ho0)
 obtain ⟨Ao15, co15, eo15⟩ := Kd.R_slice HO450.out
 (first | subst eo15 | (injection eo15 with f1_ f2_ f3_; have f4_ := f1_.symm; have f5_ := f3_.symm; clear f1_ f2_ f3_; subst f4_; subst f5_))
 refine hK.out _ _ ⟨cz20 BK443.out, cz21 BK443.out⟩ (fun hHeld => ?_)
 clear hK K
 refine norm_ (a' := ?_) ?_ ?_
 rotate_left
 {
 show Act.put _ (some 18) _ = _
 simp only [Act.put, zA, zB, zC, i64_w, i32_w]
 rfl
 }
 refine one_ (i := 4) (N := some 19) #[tt,tt,tt,tt,tt,ff,ff,ff,tt,ff,ff] rfl rfl (one_of HT_.out (by kernel_rfl)) (by decide) (fun K hK => ?_)
 refine goes_ Tryz.func83 (by kernel_rfl) rfl #[.agg #[.slice A0_0 l0_0.length c0_0, .slice A0_1 l0_1.length c0_1], .slice Ao15 t448.length co15] (by rfl) rfl rfl aX ?_
 with_reducible refine (impl_RenameSurface.calls k1 _ _ l0_0 _ _ l0_1 _ _ t448 t451 t454 t457 _ ?side1 ?side2 ?side3 ?side4 ?side5 ?side6 A8.out).mono ?_
 (case side1 => exact cX (Kd.C_below HR0_0.out HB.out))
 (case side2 => exact HC0_0.out)
 (case side3 => exact cX (Kd.C_below HR0_1.out HB.out))
 (case side4 => exact HC0_1.out)
 (case side5 => exact cX (Kd.R_reads' HO450.out).2.2)
 (case side6 => exact (Kd.R_reads' HO450.out).2.1)
 rintro e w16 ⟨v452, v455, rfl, ho0, ho1, hb⟩
 refine ⟨_, rfl, ?_⟩
 have n0_ := Aside0.mk (Kd.S_mono (Kd.S_told (Kd.S_told (Kd.S_old (by (with_reducible repeat (first | apply Kd.S_alloc | apply Kd.S_drewN | apply Kd.S_drew)); exact HO_3.out) hb) (Kd.R_base ho0)) (Kd.R_base ho1)) (fun _ h_ => h_.1))
 have n1_ := Aside0.mk (Kd.R_mono (Kd.R_told (Kd.R_told (Kd.R_old (rX HO450.out) hb) (Kd.R_base ho0)) (Kd.R_base ho1)) (fun _ h_ => h_.1))
 have n2_ := Aside0.mk (Kd.R_lower (Kd.R_new' ho0 (Kd.R_lt (rX HO450.out))) (below_size (bX2 HB.out GE443.out GE458.out)))
 have n3_ := Aside0.mk (Kd.R_lower (Kd.R_new' ho1 (Kd.R_lt (rX HO450.out))) (below_size (bX2 HB.out GE443.out GE458.out)))
 have n4_ := Aside0.mk (bbX BK443.out hb)
 have n5_ := Aside0.mk (bbX BK458.out hb)
 have n6_ := Aside0.mk (below_step (bX2 HB.out GE443.out GE458.out) hb)
 clear HO_3 HO450 BK443 BK458 HB
 have HO_3 := n0_
 have HO450 := n1_
 have HO453 := n2_
 have HO456 := n3_
 have BK443 := n4_
 have BK458 := n5_
 have HB := n6_
 clear n0_ n1_ n2_ n3_ n4_ n5_ n6_
 (try clear hb)
 (try clear hb2)
 (try clear hk)
 (try clear hi)
 (try clear ho0)
 (try clear ho1)
 refine hK.out _ _ ⟨cz20 BK443.out, cz21 BK443.out⟩ (fun hHeld => ?_)
 clear hK K
 refine norm_ (a' := ?_) ?_ ?_
 rotate_left
 {
 show Act.put _ (some 19) _ = _
 simp only [Act.put, zA, zB, zC, i64_w, i32_w]
 rfl
 }
 refine pX 5 14 (fl 11 319) rfl rfl HT_.out ?_
 refine pX 6 20 (fl 11 383) rfl rfl HT_.out ?_
 refine pX 7 21 (fl 11 511) rfl rfl HT_.out ?_
 exact norm_ (by simp only [putAll, Act.put, List.setIfInBounds_toArray, List.set_cons_zero, List.set_cons_succ]) (hCont (.slice Ao15 t448.length co15, v452, v455, gb458) _ ⟨hHeld, (rM HO450.out (fun _ hk => ⟨hk.1.2, hk.2⟩)), (rM HO453.out (fun _ hk => ⟨hk.2, hk.1⟩)), (rM HO456.out (fun _ hk => ⟨hk.2, hk.1⟩)), (by (with_reducible repeat (first | apply Kd.S_alloc | apply Kd.S_drewN | apply Kd.S_drew)); exact Kd.S_mono HO_3.out (fun _ hk => ⟨hk.1.1.2, ⟨hk.1.2, ⟨hk.2, ⟨hk.1.1.1.1, hk.1.1.1.2⟩⟩⟩⟩)), (kX BK443.out), (kX BK458.out), GW458.out, GE458.out, NB443_458.out, NB458_443.out, (bX2 HB.out GE443.out GE458.out)⟩)
 }
 }
 rintro ⟨v449, v452, v455, gb458⟩ w17 ⟨hS_, h0_, h1_, h2_, h3_, h4_, h5_, h6_, h7_, h8_, h9_, h10_⟩
 have n0_ : Aside0 (Kd.R (Kd.int .i64) 3 w17 w.heap.size (fun k_ => some k_ ≠ (v452 : Value).ownBlock ∧ some k_ ≠ (v455 : Value).ownBlock) v449 t448) := ⟨h0_⟩
 have n1_ : Aside0 (Kd.R (Kd.int .i64) 3 w17 w.heap.size (fun k_ => some k_ ≠ (v449 : Value).ownBlock ∧ some k_ ≠ (v455 : Value).ownBlock) v452 t451) := ⟨h1_⟩
 have n2_ : Aside0 (Kd.R (Kd.int .i64) 3 w17 w.heap.size (fun k_ => some k_ ≠ (v449 : Value).ownBlock ∧ some k_ ≠ (v452 : Value).ownBlock) v455 t454) := ⟨h2_⟩
 have n3_ : Aside0 (Kd.S k25 25 w17 w.heap.size (fun k_ => some k_ ≠ (v449 : Value).ownBlock ∧ some k_ ≠ (v452 : Value).ownBlock ∧ some k_ ≠ (v455 : Value).ownBlock ∧ k_ ≠ gb443 ∧ k_ ≠ gb458) u3 x3_1) := ⟨h3_⟩
 have n4_ : Aside0 (w17.heap[gb443]? = some (.cells #[.slice A0_0 l0_0.length c0_0, .slice A0_1 l0_1.length c0_1] 25 (0, 0))) := ⟨h4_⟩
 have n5_ : Aside0 (w17.heap[gb458]? = some (.cells #[.slice none 0 0, .slice none 0 0] 25 (0, 0))) := ⟨h5_⟩
 have n6_ : Aside0 (w.heap.size ≤ gb458) := ⟨h6_⟩
 have n7_ : Aside0 (w.heap.size ≤ gb458) := ⟨h7_⟩
 have n8_ : Aside0 (gb443 ≠ gb458) := ⟨h8_⟩
 have n9_ : Aside0 (gb458 ≠ gb443) := ⟨h9_⟩
 have n10_ : Aside0 (Below w.heap.size w w17) := ⟨h10_⟩
 clear HO_3 BK443 HB h0_ h1_ h2_ h3_ h4_ h5_ h6_ h7_ h8_ h9_ h10_
 have HO450 := n0_
 have HO453 := n1_
 have HO456 := n2_
 have HO_3 := n3_
 have BK443 := n4_
 have BK458 := n5_
 have GW458 := n6_
 have GE458 := n7_
 have NB443_458 := n8_
 have NB458_443 := n9_
 have HB := n10_
 clear n0_ n1_ n2_ n3_ n4_ n5_ n6_ n7_ n8_ n9_ n10_
 have hHeld : w17.cell? ⟨gb443, 0, none⟩ = some (.slice A0_0 l0_0.length c0_0) ∧ w17.cell? ⟨gb443, 1, none⟩ = some (.slice A0_1 l0_1.length c0_1) := hS_
 obtain ⟨Ao18, co18, eo18⟩ := Kd.R_slice HO453.out
 (first | subst eo18 | (injection eo18 with f1_ f2_ f3_; have f4_ := f1_.symm; have f5_ := f3_.symm; clear f1_ f2_ f3_; subst f4_; subst f5_))
 obtain ⟨Ao20, co20, eo20⟩ := Kd.R_slice HO456.out
 (first | subst eo20 | (injection eo20 with f1_ f2_ f3_; have f4_ := f1_.symm; have f5_ := f3_.symm; clear f1_ f2_ f3_; subst f4_; subst f5_))
 refine norm_ (a' := ?_) ?_ ?_
 rotate_left
 {
 simp only [putAll, Act.put, List.setIfInBounds_toArray, List.set_cons_zero, List.set_cons_succ]
 rfl
 }
 refine one_ (i := 9) (N := none) #[tt,tt,tt,tt,tt,tt,tt,tt,tt,tt,ff] rfl rfl (one_of HT_.out (by kernel_rfl)) (by decide) (fun K hK => ?_)
 have hs19 : w17.cell? ⟨gb458, 0, none⟩ = some (.slice none 0 0) := cz20 BK458.out
 have hfs19 := blk_frozen BK458.out 0
 have hns19_0 := NB443_458.out
 have hms19_0 := NB458_443.out
 have hs21 : w17.cell? ⟨gb458, 1, none⟩ = some (.slice none 0 0) := cz21 BK458.out
 have hfs21 := blk_frozen BK458.out 1
 have hns21_0 := NB443_458.out
 have hms21_0 := NB458_443.out
 refine skip_ (w1 := ?_) (by rfl) rfl ?_ ?_
 rotate_left
 {
 go_simp
 rfl
 }
 refine hK.out _ _ ⟨((cell_far (p := ⟨gb458, _, none⟩) NB443_458.out _).trans (((cell_far (p := ⟨gb458, _, none⟩) NB443_458.out _).trans (hHeld.1)))), ((cell_far (p := ⟨gb458, _, none⟩) NB443_458.out _).trans (((cell_far (p := ⟨gb458, _, none⟩) NB443_458.out _).trans (hHeld.2))))⟩ (fun hHeld => ?_)
 clear hK K
 refine pX 10 6 (fl 11 2047) rfl rfl HT_.out ?_
 refine done_ (done_of HT_.out (by kernel_rfl)) ?_
 have n0_ : Aside0 (Kd.S k25 25 ((w17.setCell ⟨gb458, 0, none⟩ (.slice Ao18 t451.length co18)).setCell ⟨gb458, 1, none⟩ (.slice Ao20 t454.length co20)) w.heap.size (fun k_ => some k_ ≠ (v449 : Value).ownBlock ∧ some k_ ≠ (.slice Ao18 t451.length co18 : Value).ownBlock ∧ some k_ ≠ (.slice Ao20 t454.length co20 : Value).ownBlock ∧ k_ ≠ gb443 ∧ k_ ≠ gb458) u3 x3_1) := ⟨by (with_reducible repeat (first | apply Kd.S_alloc | apply Kd.S_drewN | apply Kd.S_drew)); exact Kd.S_mono (Kd.S_far (p := ⟨gb458, 1, none⟩) (Kd.S_far (p := ⟨gb458, 0, none⟩) (Kd.S_mono HO_3.out (fun k_ hk => (⟨hk, hk.2.2.2.2⟩ : _ ∧ k_ ≠ gb458))) (fun _ hk => hk.2) (.slice Ao18 t451.length co18)) (fun _ hk => hk.2) (.slice Ao20 t454.length co20)) (fun _ hk => ⟨hk.1.1, ⟨hk.1.2.1, ⟨hk.1.2.2.1, ⟨hk.1.2.2.2.1, hk.1.2.2.2.2⟩⟩⟩⟩)⟩
 have n1_ : Aside0 (Kd.R (Kd.int .i64) 3 ((w17.setCell ⟨gb458, 0, none⟩ (.slice Ao18 t451.length co18)).setCell ⟨gb458, 1, none⟩ (.slice Ao20 t454.length co20)) w.heap.size (fun k_ => some k_ ≠ (.slice Ao18 t451.length co18 : Value).ownBlock ∧ some k_ ≠ (.slice Ao20 t454.length co20 : Value).ownBlock) v449 t448) := ⟨by (with_reducible repeat (first|apply rA|apply rN|apply rD)); exact Kd.R_mono (Kd.R_far (p := ⟨gb458, 1, none⟩) (Kd.R_far (p := ⟨gb458, 0, none⟩) (Kd.R_types HO450.out BK458.out (by decide)) (fun _ hk => hk.2) (.slice Ao18 t451.length co18)) (fun _ hk => hk.2) (.slice Ao20 t454.length co20)) (fun _ hk => ⟨hk.1.1, hk.1.2⟩)⟩
 have n2_ : Aside0 (Kd.R (Kd.int .i64) 3 ((w17.setCell ⟨gb458, 0, none⟩ (.slice Ao18 t451.length co18)).setCell ⟨gb458, 1, none⟩ (.slice Ao20 t454.length co20)) w.heap.size (fun k_ => some k_ ≠ (v449 : Value).ownBlock ∧ some k_ ≠ (.slice Ao20 t454.length co20 : Value).ownBlock) (.slice Ao18 t451.length co18) t451) := ⟨by (with_reducible repeat (first|apply rA|apply rN|apply rD)); exact Kd.R_mono (Kd.R_far (p := ⟨gb458, 1, none⟩) (Kd.R_far (p := ⟨gb458, 0, none⟩) (Kd.R_types HO453.out BK458.out (by decide)) (fun _ hk => hk.2) (.slice Ao18 t451.length co18)) (fun _ hk => hk.2) (.slice Ao20 t454.length co20)) (fun _ hk => ⟨hk.1.1, hk.1.2⟩)⟩
 have n3_ : Aside0 (Kd.R (Kd.int .i64) 3 ((w17.setCell ⟨gb458, 0, none⟩ (.slice Ao18 t451.length co18)).setCell ⟨gb458, 1, none⟩ (.slice Ao20 t454.length co20)) w.heap.size (fun k_ => some k_ ≠ (v449 : Value).ownBlock ∧ some k_ ≠ (.slice Ao18 t451.length co18 : Value).ownBlock) (.slice Ao20 t454.length co20) t454) := ⟨by (with_reducible repeat (first|apply rA|apply rN|apply rD)); exact Kd.R_mono (Kd.R_far (p := ⟨gb458, 1, none⟩) (Kd.R_far (p := ⟨gb458, 0, none⟩) (Kd.R_types HO456.out BK458.out (by decide)) (fun _ hk => hk.2) (.slice Ao18 t451.length co18)) (fun _ hk => hk.2) (.slice Ao20 t454.length co20)) (fun _ hk => ⟨hk.1.1, hk.1.2⟩)⟩
 have n4_ : Aside0 (((w17.setCell ⟨gb458, 0, none⟩ (.slice Ao18 t451.length co18)).setCell ⟨gb458, 1, none⟩ (.slice Ao20 t454.length co20)).heap[gb443]? = some (.cells #[.slice A0_0 l0_0.length c0_0, .slice A0_1 l0_1.length c0_1] 25 (0, 0))) := ⟨by (with_reducible repeat (first|refine kN ?_ _|refine kD ?_|refine kA ?_ _)); refine blk_far ?_ NB443_458.out _; (with_reducible repeat (first|refine kN ?_ _|refine kD ?_|refine kA ?_ _)); refine blk_far ?_ NB443_458.out _; (with_reducible repeat (first|refine kN ?_ _|refine kD ?_|refine kA ?_ _)); exact BK443.out⟩
 have n5_ : Aside0 (((w17.setCell ⟨gb458, 0, none⟩ (.slice Ao18 t451.length co18)).setCell ⟨gb458, 1, none⟩ (.slice Ao20 t454.length co20)).heap[gb458]? = some (.cells #[.slice Ao18 t451.length co18, .slice Ao20 t454.length co20] 25 (0, 0))) := ⟨by (with_reducible repeat (first|refine kN ?_ _|refine kD ?_|refine kA ?_ _)); refine blk_put (cs := #[.slice Ao18 t451.length co18, .slice none 0 0]) ?_ 1 _ rfl; (with_reducible repeat (first|refine kN ?_ _|refine kD ?_|refine kA ?_ _)); refine blk_put (cs := #[.slice none 0 0, .slice none 0 0]) ?_ 0 _ rfl; (with_reducible repeat (first|refine kN ?_ _|refine kD ?_|refine kA ?_ _)); exact BK458.out⟩
 have n6_ : Aside0 (Below w.heap.size w ((w17.setCell ⟨gb458, 0, none⟩ (.slice Ao18 t451.length co18)).setCell ⟨gb458, 1, none⟩ (.slice Ao20 t454.length co20))) := ⟨bX2 HB.out GE443.out GE458.out⟩
 (try clear HO_3)
 (try clear HO450)
 (try clear HO453)
 (try clear HO456)
 (try clear BK443)
 (try clear BK458)
 (try clear HB)
 generalize ((w17.setCell ⟨gb458, 0, none⟩ (.slice Ao18 t451.length co18)).setCell ⟨gb458, 1, none⟩ (.slice Ao20 t454.length co20)) = w22 at n0_ n1_ n2_ n3_ n4_ n5_ n6_ ⊢
 have HO_3 := n0_
 have HO450 := n1_
 have HO453 := n2_
 have HO456 := n3_
 have BK443 := n4_
 have BK458 := n5_
 have HB := n6_
 clear n0_ n1_ n2_ n3_ n4_ n5_ n6_
 have hnb23 := NB458_443.out
 have hnc23 := NB443_458.out
 have hcz24_0 := cz20 BK458.out
 have hcz24_1 := cz21 BK458.out
 have hfz24_0 := blk_frozen BK458.out 0
 have hfz24_1 := blk_frozen BK458.out 1
 try go_wp2_with (first | ((with_reducible refine gate_builtin (b := .append) (xs := #[.tmp 22, .tmp 24]) rfl ?_); at_builtin; refine Kd.S_append k25 (w0 := w) w.heap.size rfl (.tmp 22) (.tmp 24) 66 25 (.agg #[(.slice none 0 0), (.slice none 0 0)]) 48 rfl Tryz.underlying66 info25 rfl (by decide) (by omega) u3 x3_1 (⟨t451, t454⟩ : S25) [.slice Ao18 t451.length co18, .slice Ao20 t454.length co20] (fun k_ => some k_ ≠ (v449 : Value).ownBlock ∧ k_ ≠ gb443 ∧ k_ ≠ gb458) (fun k_ => some k_ = (.slice Ao18 t451.length co18 : Value).ownBlock ∨ some k_ = (.slice Ao20 t454.length co20 : Value).ownBlock) rfl rfl ?aP (fun k_ hk_ => hk_.elim (fun h_ => ((Kd.R_mono (ok' := fun k_ => ((fun k_ => some k_ ≠ (v449 : Value).ownBlock ∧ k_ ≠ gb443 ∧ k_ ≠ gb458)) k_ ∧ some k_ ≠ (u3 : Value).ownBlock) (Kd.R_types (Kd.R_types (Kd.R_apart' (HO453.out) (Kd.S_typed HO_3.out) (by decide)) BK443.out (by decide)) BK458.out (by decide)) (fun k_ hk => ⟨⟨hk.1.1.1.1, ⟨hk.1.2, hk.2⟩⟩, hk.1.1.2⟩))).1 k_ h_.symm) (fun h_ => ((Kd.R_mono (ok' := fun k_ => ((fun k_ => some k_ ≠ (v449 : Value).ownBlock ∧ k_ ≠ gb443 ∧ k_ ≠ gb458)) k_ ∧ some k_ ≠ (u3 : Value).ownBlock) (Kd.R_types (Kd.R_types (Kd.R_apart' (HO456.out) (Kd.S_typed HO_3.out) (by decide)) BK443.out (by decide)) BK458.out (by decide)) (fun k_ hk => ⟨⟨hk.1.1.1.1, ⟨hk.1.2, hk.2⟩⟩, hk.1.1.2⟩))).1 k_ h_.symm)) ?aF ?aO ?aB ?aS ?aL ?_; (case aP => exact k25_mkM _ _ _ (⟨t451, t454⟩ : S25) (Kd.R_mono (Kd.R_tight rfl (Kd.R_mono (ok' := fun k_ => ((fun k_ => some k_ ≠ (v449 : Value).ownBlock ∧ k_ ≠ gb443 ∧ k_ ≠ gb458)) k_ ∧ some k_ ≠ (u3 : Value).ownBlock) (Kd.R_types (Kd.R_types (Kd.R_apart' (HO453.out) (Kd.S_typed HO_3.out) (by decide)) BK443.out (by decide)) BK458.out (by decide)) (fun k_ hk => ⟨⟨hk.1.1.1.1, ⟨hk.1.2, hk.2⟩⟩, hk.1.1.2⟩))) (fun _ h_ => Or.inl h_)) (Kd.R_mono (Kd.R_tight rfl (Kd.R_mono (ok' := fun k_ => ((fun k_ => some k_ ≠ (v449 : Value).ownBlock ∧ k_ ≠ gb443 ∧ k_ ≠ gb458)) k_ ∧ some k_ ≠ (u3 : Value).ownBlock) (Kd.R_types (Kd.R_types (Kd.R_apart' (HO456.out) (Kd.S_typed HO_3.out) (by decide)) BK443.out (by decide)) BK458.out (by decide)) (fun k_ hk => ⟨⟨hk.1.1.1.1, ⟨hk.1.2, hk.2⟩⟩, hk.1.1.2⟩))) (fun _ h_ => Or.inr (h_)))); (case aB => exact (bX2 HB.out GE443.out GE458.out)); (case aF => exact (fun k_ hk => ⟨Kd.fresh' (Kd.R_lt (rX HO450.out)) k_ hk, Kd.freshB (g := gb443) (o := .cells #[.slice A0_0 l0_0.length c0_0, .slice A0_1 l0_1.length c0_1] 25 (0, 0)) (kX BK443.out) k_ hk, Kd.freshB (g := gb458) (o := .cells #[.slice Ao18 t451.length co18, .slice Ao20 t454.length co20] 25 (0, 0)) (kX BK458.out) k_ hk⟩)); (case aO => exact (by (with_reducible repeat (first | apply Kd.S_alloc | apply Kd.S_drewN | apply Kd.S_drew)); exact Kd.S_mono HO_3.out (fun k_ hk => ⟨⟨hk.1, ⟨hk.2.2.2.1, hk.2.2.2.2⟩⟩, fun e_ => e_.elim (fun h_ => hk.2.1 h_) (fun h_ => hk.2.2.1 h_)⟩))); (case aS => exact (below_size (bX2 HB.out GE443.out GE458.out))); (case aL => have := LMc9.out; omega); intro v460 w25 ho hb hg hat; rw [← Ny459.out] at ho; have n0_ := Aside0.mk (bgX BK443.out hg (Kd.S_away HO_3.out (fun _ hk => hk.2.2.2.1))); have n1_ := Aside0.mk (Kd.R_over' (rX HO450.out) (Kd.S_typed (by (with_reducible repeat (first | apply Kd.S_alloc | apply Kd.S_drewN | apply Kd.S_drew)); exact HO_3.out)) (by decide) hg); have n2_ := Aside0.mk (bgX BK458.out hg (Kd.S_away HO_3.out (fun _ hk => hk.2.2.2.2))); have n3_ := Aside0.mk (hb); have n4_ := Aside0.mk (ho); clear BK443 HO450 BK458 HB HO_3 HO453 HO456; have BK443 := n0_; have HO450 := n1_; have BK458 := n2_; have HB := n3_; have HO461 := n4_; clear n0_ n1_ n2_ n3_ n4_ ho hb hg hat))
 go_roundg k1
 case measure => have := HK1.out; omega
 case rel => exact ⟨(y459), (wrap64 (x4_1 + 1)), vX, H', ⟨by have := HK1.out; omega⟩, ⟨by (with_reducible repeat (first | apply Kd.S_alloc | apply Kd.S_drewN | apply Kd.S_drew)); exact Kd.S_mono HO461.out (fun _ hk => hk.2.1)⟩, ⟨kX BK443.out⟩, ⟨bX2 HB.out GE443.out GE458.out⟩⟩
 }
 {
 rw [if_neg c9] at H
 exact absurd H (by simp)
 }
 }
 {
 rw [if_neg c6] at H
 have c6b0 : decide (x4_1 < t447) = false := decide_eq_false c6
 clear c6
 obtain rfl := Option.some.inj H
 have hcz26_0 := cz20 BK443.out
 have hcz26_1 := cz21 BK443.out
 have hfz26_0 := blk_frozen BK443.out 0
 have hfz26_1 := blk_frozen BK443.out 1
 go_wp2_with (first | ((with_reducible refine gate_callee (f := 32) rfl ?_); refine goesL_ (some 10) rfl rfl Tryz.func32 (by kernel_rfl) rfl #[.agg #[.slice A0_0 l0_0.length c0_0, .slice A0_1 l0_1.length c0_1]] rfl aX ?_; (with_reducible refine (impl_CountSquares.calls k1 _ _ l0_0 _ _ l0_1 t447 _ ?side1 ?side2 ?side3 ?side4 A5.out).mono ?_); (case side1 => exact cX (Kd.C_below HR0_0.out HB.out)); (case side2 => exact HC0_0.out); (case side3 => exact cX (Kd.C_below HR0_1.out HB.out)); (case side4 => exact HC0_1.out); rintro e w27 ⟨rfl, hb⟩; refine ⟨_, rfl, ?_⟩; have n0_ := Aside0.mk (Kd.S_below (by (with_reducible repeat (first | apply Kd.S_alloc | apply Kd.S_drewN | apply Kd.S_drew)); exact HO_3.out) hb); have n1_ := Aside0.mk (bbX BK443.out hb); have n2_ := Aside0.mk (below_step (bX1 HB.out GE443.out) hb); clear HO_3 BK443 HB; have HO_3 := n0_; have BK443 := n1_; have HB := n2_; clear n0_ n1_ n2_; (try clear hb); (try clear hb2); (try clear hk); (try clear hi)))
 go_ret
 exact ⟨_, eX, by (with_reducible repeat (first | apply Kd.S_alloc | apply Kd.S_drewN | apply Kd.S_drew)); exact Kd.S_mono HO_3.out (fun _ hk => trivial), bX1 HB.out GE443.out⟩
 }

/-! ### cmp_isNaN_int: function 159 -/
def cmp_isNaN_int.f (a0 : Int) : Option (Bool) := some (a0 != a0)
set_option maxHeartbeats 8000000 in
set_option maxRecDepth 100000 in
theorem cmp_isNaN_int.calls (a0 : Int) (r : Bool) (w : World) (h : cmp_isNaN_int.f a0 = some r) :
  Calls Tryz.prog 159 #[.int .i64 a0] w fun e w' => e = .returned (.bool r) ∧ Drawn0 w w' := by
 have H : (some (a0 != a0)) = some r := h
 clear h
 obtain rfl := Option.some.inj H
 go_enter Tryz.func159, Tryz.ntmps159
 go_wp2
 go_ret
 exact ⟨by first | rfl | (simp; done) | (simp [*]; done), by repeat (first | exact Drawn0.refl _ | apply Drawn0.step)⟩

/-! ### cmp_Compare_int: function 142 -/
def cmp_Compare_int.f (a0 : Int) (a1 : Int) : Option (Int) := (cmp_isNaN_int.f a0).bind fun t462 => ((cmp_isNaN_int.f a1).bind fun t463 => (if t462 = true then (if t463 = true then (some 0) else (some (-1))) else (if t463 = true then (some 1) else (if a0 < a1 then (some (-1)) else (if a0 > a1 then (some 1) else (some 0))))))
set_option maxHeartbeats 8000000 in
set_option maxRecDepth 100000 in
theorem cmp_Compare_int.calls (a0 : Int) (a1 : Int) (r : Int) (w : World) (h : cmp_Compare_int.f a0 a1 = some r) :
  Calls Tryz.prog 142 #[.int .i64 a0, .int .i64 a1] w fun e w' => e = .returned (.int .i64 r) ∧ Drawn0 w w' := by
 have H : ((cmp_isNaN_int.f a0).bind fun t462 => ((cmp_isNaN_int.f a1).bind fun t463 => (if t462 = true then (if t463 = true then (some 0) else (some (-1))) else (if t463 = true then (some 1) else (if a0 < a1 then (some (-1)) else (if a0 > a1 then (some 1) else (some 0))))))) = some r := h
 clear h
 replace H := Option.bind_eq_some_iff.mp H
 obtain ⟨t462, A30, H⟩ := H
 replace H : ((cmp_isNaN_int.f a1).bind fun t463 => (if t462 = true then (if t463 = true then (some 0) else (some (-1))) else (if t463 = true then (some 1) else (if a0 < a1 then (some (-1)) else (if a0 > a1 then (some 1) else (some 0)))))) = some r := H
 have A3 := Aside0.mk A30
 clear A30
 replace H := Option.bind_eq_some_iff.mp H
 obtain ⟨t463, A40, H⟩ := H
 replace H : (if t462 = true then (if t463 = true then (some 0) else (some (-1))) else (if t463 = true then (some 1) else (if a0 < a1 then (some (-1)) else (if a0 > a1 then (some 1) else (some 0))))) = some r := H
 have A4 := Aside0.mk A40
 clear A40
 by_cases c5 : t462 = true
 {
 subst c5
 have H1 : (if t463 = true then (some 0) else (some (-1))) = some r := by rw [if_pos rfl] at H; exact H
 clear H
 have H := H1
 clear H1
 by_cases c6 : t463 = true
 {
 subst c6
 have H1 : (some 0) = some r := by rw [if_pos rfl] at H; exact H
 clear H
 have H := H1
 clear H1
 obtain rfl := Option.some.inj H
 go_enter Tryz.func142, Tryz.ntmps142
 go_wp2_with (first | ((with_reducible refine gate_callee (f := 159) rfl ?_); refine goesL_ (some 8) rfl rfl Tryz.func159 (by kernel_rfl) rfl #[.int .i64 a0] rfl aX ?_; (with_reducible refine (cmp_isNaN_int.calls a0 true _ A3.out).mono ?_); rintro e w' ⟨rfl, ⟨nd, rfl⟩⟩; refine ⟨_, rfl, ?_⟩) | ((with_reducible refine gate_callee (f := 159) rfl ?_); refine goesL_ (some 10) rfl rfl Tryz.func159 (by kernel_rfl) rfl #[.int .i64 a1] rfl aX ?_; (with_reducible refine (cmp_isNaN_int.calls a1 true _ A4.out).mono ?_); rintro e w' ⟨rfl, ⟨nd, rfl⟩⟩; refine ⟨_, rfl, ?_⟩))
 go_ret
 exact ⟨by first | rfl | (simp; done) | (simp [*]; done), by repeat (first | exact Drawn0.refl _ | apply Drawn0.step)⟩
 }
 {
 replace c6 := Bool.eq_false_iff.mpr c6
 subst c6
 have H1 : (some (-1)) = some r := by rw [if_neg (show ¬ (false = true) by decide)] at H; exact H
 clear H
 have H := H1
 clear H1
 obtain rfl := Option.some.inj H
 go_enter Tryz.func142, Tryz.ntmps142
 go_wp2_with (first | ((with_reducible refine gate_callee (f := 159) rfl ?_); refine goesL_ (some 8) rfl rfl Tryz.func159 (by kernel_rfl) rfl #[.int .i64 a0] rfl aX ?_; (with_reducible refine (cmp_isNaN_int.calls a0 true _ A3.out).mono ?_); rintro e w' ⟨rfl, ⟨nd, rfl⟩⟩; refine ⟨_, rfl, ?_⟩) | ((with_reducible refine gate_callee (f := 159) rfl ?_); refine goesL_ (some 10) rfl rfl Tryz.func159 (by kernel_rfl) rfl #[.int .i64 a1] rfl aX ?_; (with_reducible refine (cmp_isNaN_int.calls a1 false _ A4.out).mono ?_); rintro e w' ⟨rfl, ⟨nd, rfl⟩⟩; refine ⟨_, rfl, ?_⟩))
 go_ret
 exact ⟨by first | rfl | (simp; done) | (simp [*]; done), by repeat (first | exact Drawn0.refl _ | apply Drawn0.step)⟩
 }
 }
 {
 replace c5 := Bool.eq_false_iff.mpr c5
 subst c5
 have H1 : (if t463 = true then (some 1) else (if a0 < a1 then (some (-1)) else (if a0 > a1 then (some 1) else (some 0)))) = some r := by rw [if_neg (show ¬ (false = true) by decide)] at H; exact H
 clear H
 have H := H1
 clear H1
 by_cases c7 : t463 = true
 {
 subst c7
 have H1 : (some 1) = some r := by rw [if_pos rfl] at H; exact H
 clear H
 have H := H1
 clear H1
 obtain rfl := Option.some.inj H
 go_enter Tryz.func142, Tryz.ntmps142
 go_wp2_with (first | ((with_reducible refine gate_callee (f := 159) rfl ?_); refine goesL_ (some 8) rfl rfl Tryz.func159 (by kernel_rfl) rfl #[.int .i64 a0] rfl aX ?_; (with_reducible refine (cmp_isNaN_int.calls a0 false _ A3.out).mono ?_); rintro e w' ⟨rfl, ⟨nd, rfl⟩⟩; refine ⟨_, rfl, ?_⟩) | ((with_reducible refine gate_callee (f := 159) rfl ?_); refine goesL_ (some 10) rfl rfl Tryz.func159 (by kernel_rfl) rfl #[.int .i64 a1] rfl aX ?_; (with_reducible refine (cmp_isNaN_int.calls a1 true _ A4.out).mono ?_); rintro e w' ⟨rfl, ⟨nd, rfl⟩⟩; refine ⟨_, rfl, ?_⟩))
 go_ret
 exact ⟨by first | rfl | (simp; done) | (simp [*]; done), by repeat (first | exact Drawn0.refl _ | apply Drawn0.step)⟩
 }
 {
 replace c7 := Bool.eq_false_iff.mpr c7
 subst c7
 have H1 : (if a0 < a1 then (some (-1)) else (if a0 > a1 then (some 1) else (some 0))) = some r := by rw [if_neg (show ¬ (false = true) by decide)] at H; exact H
 clear H
 have H := H1
 clear H1
 by_cases c8 : a0 < a1
 {
 rw [if_pos c8] at H
 have c8b0 : decide (a0 < a1) = true := decide_eq_true c8
 clear c8
 obtain rfl := Option.some.inj H
 go_enter Tryz.func142, Tryz.ntmps142
 go_wp2_with (first | ((with_reducible refine gate_callee (f := 159) rfl ?_); refine goesL_ (some 8) rfl rfl Tryz.func159 (by kernel_rfl) rfl #[.int .i64 a0] rfl aX ?_; (with_reducible refine (cmp_isNaN_int.calls a0 false _ A3.out).mono ?_); rintro e w' ⟨rfl, ⟨nd, rfl⟩⟩; refine ⟨_, rfl, ?_⟩) | ((with_reducible refine gate_callee (f := 159) rfl ?_); refine goesL_ (some 10) rfl rfl Tryz.func159 (by kernel_rfl) rfl #[.int .i64 a1] rfl aX ?_; (with_reducible refine (cmp_isNaN_int.calls a1 false _ A4.out).mono ?_); rintro e w' ⟨rfl, ⟨nd, rfl⟩⟩; refine ⟨_, rfl, ?_⟩))
 go_ret
 exact ⟨by first | rfl | (simp; done) | (simp [*]; done), by repeat (first | exact Drawn0.refl _ | apply Drawn0.step)⟩
 }
 {
 rw [if_neg c8] at H
 have c8b0 : decide (a0 < a1) = false := decide_eq_false c8
 clear c8
 by_cases c9 : a0 > a1
 {
 rw [if_pos c9] at H
 have c9b0 : decide (a1 < a0) = true := decide_eq_true c9
 clear c9
 obtain rfl := Option.some.inj H
 go_enter Tryz.func142, Tryz.ntmps142
 go_wp2_with (first | ((with_reducible refine gate_callee (f := 159) rfl ?_); refine goesL_ (some 8) rfl rfl Tryz.func159 (by kernel_rfl) rfl #[.int .i64 a0] rfl aX ?_; (with_reducible refine (cmp_isNaN_int.calls a0 false _ A3.out).mono ?_); rintro e w' ⟨rfl, ⟨nd, rfl⟩⟩; refine ⟨_, rfl, ?_⟩) | ((with_reducible refine gate_callee (f := 159) rfl ?_); refine goesL_ (some 10) rfl rfl Tryz.func159 (by kernel_rfl) rfl #[.int .i64 a1] rfl aX ?_; (with_reducible refine (cmp_isNaN_int.calls a1 false _ A4.out).mono ?_); rintro e w' ⟨rfl, ⟨nd, rfl⟩⟩; refine ⟨_, rfl, ?_⟩))
 go_ret
 exact ⟨by first | rfl | (simp; done) | (simp [*]; done), by repeat (first | exact Drawn0.refl _ | apply Drawn0.step)⟩
 }
 {
 rw [if_neg c9] at H
 have c9b0 : decide (a1 < a0) = false := decide_eq_false c9
 clear c9
 obtain rfl := Option.some.inj H
 go_enter Tryz.func142, Tryz.ntmps142
 go_wp2_with (first | ((with_reducible refine gate_callee (f := 159) rfl ?_); refine goesL_ (some 8) rfl rfl Tryz.func159 (by kernel_rfl) rfl #[.int .i64 a0] rfl aX ?_; (with_reducible refine (cmp_isNaN_int.calls a0 false _ A3.out).mono ?_); rintro e w' ⟨rfl, ⟨nd, rfl⟩⟩; refine ⟨_, rfl, ?_⟩) | ((with_reducible refine gate_callee (f := 159) rfl ?_); refine goesL_ (some 10) rfl rfl Tryz.func159 (by kernel_rfl) rfl #[.int .i64 a1] rfl aX ?_; (with_reducible refine (cmp_isNaN_int.calls a1 false _ A4.out).mono ?_); rintro e w' ⟨rfl, ⟨nd, rfl⟩⟩; refine ⟨_, rfl, ?_⟩))
 go_ret
 exact ⟨by first | rfl | (simp; done) | (simp [*]; done), by repeat (first | exact Drawn0.refl _ | apply Drawn0.step)⟩
 }
 }
 }
 }

/-! ### slices_Compare_int_int: function 114 -/
def slices_Compare_int_int.l0 : Nat → List Int → List Int → List Int → Int → Int → Option (Int)
 | 0, _, _, _, _, _ => none
 | k + 1, x0, x1, x9, x10, x11 => if x11 < x10 then (if 0 ≤ x11 then (if x11 < (x9.length : Int) then (if x11 ≥ (x1.length : Int) then (some 1) else (if x11 < (x1.length : Int) then ((cmp_Compare_int.f (rd x9 x11) (rd x1 x11)).bind fun t466 => (if t466 = 0 then (slices_Compare_int_int.l0 k x0 x1 x9 x10 (wrap64 (x11 + 1))) else (some t466))) else (none))) else (none)) else (none)) else (if (x0.length : Int) < (x1.length : Int) then (some (-1)) else (some 0))
def slices_Compare_int_int.f (k : Nat) (l0 : List Int) (l1 : List Int) : Option (Int) := slices_Compare_int_int.l0 k l0 l1 l0 (l0.length : Int) 0
set_option maxHeartbeats 8000000 in
set_option maxRecDepth 100000 in
theorem slices_Compare_int_int.calls (k : Nat) (A0 : Option Addr) (c0 : Nat) (l0 : List Int) (A1 : Option Addr) (c1 : Nat) (l1 : List Int) (r : Int) (w : World) (hr0 : Kd.C (Kd.int .i64) w A0 l0.length l0) (hc0 : l0.length ≤ c0) (hr1 : Kd.C (Kd.int .i64) w A1 l1.length l1) (hc1 : l1.length ≤ c1) (h : slices_Compare_int_int.f k l0 l1 = some r) :
  Calls Tryz.prog 114 #[.slice A0 l0.length c0, .slice A1 l1.length c1] w fun e w' => e = .returned (.int .i64 r) ∧ Drawn0 w w' := by
 have HR0 := Aside0.mk hr0
 have HC0 := Aside0.mk hc0
 clear hr0 hc0
 have HR1 := Aside0.mk hr1
 have HC1 := Aside0.mk hc1
 clear hr1 hc1
 have H : (slices_Compare_int_int.l0 k l0 l1 l0 (l0.length : Int) 0) = some r := h
 clear h
 have H' := Aside0.mk H
 clear H
 go_enter Tryz.func114, Tryz.ntmps114
 go_wp2
 go_loopg [11] k (fun kq v11 w' => ∃ (x11_1 : Int), v11 = .int .i64 x11_1 ∧ Aside0 (slices_Compare_int_int.l0 kq l0 l1 l0 (l0.length : Int) x11_1 = some r) ∧ Aside0 (kq ≤ k) ∧ Drawn0 w w')
 case atStart => exact ⟨(0), vX, H', ⟨Nat.le_refl _⟩, by repeat (first | exact Drawn0.refl _ | apply Drawn0.step)⟩
 case round =>
 clear H'
 try clear c1
 try clear p2
 obtain ⟨x11_1, rfl, HA, HK1, ⟨m1, rfl⟩⟩ := hrel
 cases gk with
 | zero => exact absurd HA.out (by simp [slices_Compare_int_int.l0])
 | succ k1 =>
 have H := HA.out
 clear HA
 simp only [slices_Compare_int_int.l0] at H
 by_cases c3 : x11_1 < (l0.length : Int)
 {
 rw [if_pos c3] at H
 have c3b0 : decide (x11_1 < (l0.length : Int)) = true := decide_eq_true c3
 clear c3
 by_cases c4 : 0 ≤ x11_1
 {
 rw [if_pos c4] at H
 have c4b0 : decide (0 ≤ x11_1) = true := decide_eq_true c4
 clear c4
 by_cases c5 : x11_1 < (l0.length : Int)
 {
 rw [if_pos c5] at H
 have c5b0 : decide (x11_1 < (l0.length : Int)) = true := decide_eq_true c5
 clear c5
 by_cases c6 : x11_1 ≥ (l1.length : Int)
 {
 rw [if_pos c6] at H
 have c6b0 : decide ((l1.length : Int) ≤ x11_1) = true := decide_eq_true c6
 clear c6
 obtain rfl := Option.some.inj H
 have p464 : 0 ≤ (x11_1 : Int) := dX
 have q464 : x11_1 < (l0.length : Int) := dX
 obtain ⟨ad464, e464, hx464_0⟩ := Kd.at_int HR0.out x11_1 p464 q464
 cases e464
 replace p464 := eq_true p464
 replace q464 := eq_true q464
 go_wp2
 go_ret
 exact ⟨by first | rfl | (simp; done) | (simp [*]; done), by repeat (first | exact Drawn0.refl _ | apply Drawn0.step)⟩
 }
 {
 rw [if_neg c6] at H
 have c6b0 : decide ((l1.length : Int) ≤ x11_1) = false := decide_eq_false c6
 clear c6
 by_cases c7 : x11_1 < (l1.length : Int)
 {
 rw [if_pos c7] at H
 have c7b0 : decide (x11_1 < (l1.length : Int)) = true := decide_eq_true c7
 clear c7
 replace H := Option.bind_eq_some_iff.mp H
 obtain ⟨t466, A80, H⟩ := H
 replace H : (if t466 = 0 then (slices_Compare_int_int.l0 k1 l0 l1 l0 (l0.length : Int) (wrap64 (x11_1 + 1))) else (some t466)) = some r := H
 have A8 := Aside0.mk A80
 clear A80
 by_cases c9 : t466 = 0
 {
 rw [if_pos c9] at H
 have c9b0 : (t466 == 0) = true := beq_iff_eq.mpr c9
 have c9b1 : (t466 != 0) = false := bne_eq_false_iff_eq.mpr c9
 clear c9
 have H' := Aside0.mk H
 clear H
 have p464 : 0 ≤ (x11_1 : Int) := dX
 have q464 : x11_1 < (l0.length : Int) := dX
 obtain ⟨ad464, e464, hx464_0⟩ := Kd.at_int HR0.out x11_1 p464 q464
 cases e464
 replace p464 := eq_true p464
 replace q464 := eq_true q464
 have p465 : 0 ≤ (x11_1 : Int) := dX
 have q465 : x11_1 < (l1.length : Int) := dX
 obtain ⟨ad465, e465, hx465_0⟩ := Kd.at_int HR1.out x11_1 p465 q465
 cases e465
 replace p465 := eq_true p465
 replace q465 := eq_true q465
 go_wp2_with (first | ((with_reducible refine gate_callee (f := 142) rfl ?_); refine goesL_ (some 26) rfl rfl Tryz.func142 (by kernel_rfl) rfl #[.int .i64 (rd l0 x11_1), .int .i64 (rd l1 x11_1)] rfl aX ?_; (with_reducible refine (cmp_Compare_int.calls (rd l0 x11_1) (rd l1 x11_1) t466 _ A8.out).mono ?_); rintro e w' ⟨rfl, ⟨nd, rfl⟩⟩; refine ⟨_, rfl, ?_⟩))
 go_roundg k1
 case measure => have := HK1.out; omega
 case rel => exact ⟨(wrap64 (x11_1 + 1)), vX, H', ⟨by have := HK1.out; omega⟩, by repeat (first | exact Drawn0.refl _ | apply Drawn0.step)⟩
 }
 {
 rw [if_neg c9] at H
 have c9b0 : (t466 == 0) = false := beq_eq_false_iff_ne.mpr c9
 have c9b1 : (t466 != 0) = true := bne_iff_ne.mpr c9
 obtain rfl := Option.some.inj H
 have p464 : 0 ≤ (x11_1 : Int) := dX
 have q464 : x11_1 < (l0.length : Int) := dX
 obtain ⟨ad464, e464, hx464_0⟩ := Kd.at_int HR0.out x11_1 p464 q464
 cases e464
 replace p464 := eq_true p464
 replace q464 := eq_true q464
 have p465 : 0 ≤ (x11_1 : Int) := dX
 have q465 : x11_1 < (l1.length : Int) := dX
 obtain ⟨ad465, e465, hx465_0⟩ := Kd.at_int HR1.out x11_1 p465 q465
 cases e465
 replace p465 := eq_true p465
 replace q465 := eq_true q465
 go_wp2_with (first | ((with_reducible refine gate_callee (f := 142) rfl ?_); refine goesL_ (some 26) rfl rfl Tryz.func142 (by kernel_rfl) rfl #[.int .i64 (rd l0 x11_1), .int .i64 (rd l1 x11_1)] rfl aX ?_; (with_reducible refine (cmp_Compare_int.calls (rd l0 x11_1) (rd l1 x11_1) t466 _ A8.out).mono ?_); rintro e w' ⟨rfl, ⟨nd, rfl⟩⟩; refine ⟨_, rfl, ?_⟩))
 go_ret
 exact ⟨by first | rfl | (simp; done) | (simp [*]; done), by repeat (first | exact Drawn0.refl _ | apply Drawn0.step)⟩
 }
 }
 {
 rw [if_neg c7] at H
 exact absurd H (by simp)
 }
 }
 }
 {
 rw [if_neg c5] at H
 exact absurd H (by simp)
 }
 }
 {
 rw [if_neg c4] at H
 exact absurd H (by simp)
 }
 }
 {
 rw [if_neg c3] at H
 have c3b0 : decide (x11_1 < (l0.length : Int)) = false := decide_eq_false c3
 clear c3
 by_cases c10 : (l0.length : Int) < (l1.length : Int)
 {
 rw [if_pos c10] at H
 have c10b0 : decide ((l0.length : Int) < (l1.length : Int)) = true := decide_eq_true c10
 have c10b1 : decide (l0.length < l1.length) = true := decide_eq_true (Int.ofNat_lt.mp c10)
 clear c10
 obtain rfl := Option.some.inj H
 go_wp2
 go_ret
 exact ⟨by first | rfl | (simp; done) | (simp [*]; done), by repeat (first | exact Drawn0.refl _ | apply Drawn0.step)⟩
 }
 {
 rw [if_neg c10] at H
 have c10b0 : decide ((l0.length : Int) < (l1.length : Int)) = false := decide_eq_false c10
 have c10b1 : decide (l0.length < l1.length) = false := decide_eq_false (fun h => c10 (Int.ofNat_lt.mpr h))
 clear c10
 obtain rfl := Option.some.inj H
 go_wp2
 go_ret
 exact ⟨by first | rfl | (simp; done) | (simp [*]; done), by repeat (first | exact Drawn0.refl _ | apply Drawn0.step)⟩
 }
 }

/-! ### impl_compareSurfaces: function 82 -/
def impl_compareSurfaces.f (k : Nat) (l0_0 : List Int) (l0_1 : List Int) (l1_0 : List Int) (l1_1 : List Int) : Option (Int) := (slices_Compare_int_int.f k l0_0 l1_0).bind fun t469 => (if t469 = 0 then ((slices_Compare_int_int.f k l0_1 l1_1).bind fun t470 => (some t470)) else (some t469))
set_option maxHeartbeats 8000000 in
set_option maxRecDepth 100000 in
theorem impl_compareSurfaces.calls (k : Nat) (A0_0 : Option Addr) (c0_0 : Nat) (l0_0 : List Int) (A0_1 : Option Addr) (c0_1 : Nat) (l0_1 : List Int) (A1_0 : Option Addr) (c1_0 : Nat) (l1_0 : List Int) (A1_1 : Option Addr) (c1_1 : Nat) (l1_1 : List Int) (r : Int) (w : World) (hr0_0 : Kd.C (Kd.int .i64) w A0_0 l0_0.length l0_0) (hc0_0 : l0_0.length ≤ c0_0) (hr0_1 : Kd.C (Kd.int .i64) w A0_1 l0_1.length l0_1) (hc0_1 : l0_1.length ≤ c0_1) (hr1_0 : Kd.C (Kd.int .i64) w A1_0 l1_0.length l1_0) (hc1_0 : l1_0.length ≤ c1_0) (hr1_1 : Kd.C (Kd.int .i64) w A1_1 l1_1.length l1_1) (hc1_1 : l1_1.length ≤ c1_1) (h : impl_compareSurfaces.f k l0_0 l0_1 l1_0 l1_1 = some r) :
  Calls Tryz.prog 82 #[.agg #[.slice A0_0 l0_0.length c0_0, .slice A0_1 l0_1.length c0_1], .agg #[.slice A1_0 l1_0.length c1_0, .slice A1_1 l1_1.length c1_1]] w fun e w' => e = .returned (.int .i64 r) ∧ Below w.heap.size w w' := by
 have hu25 := Tryz.underlying25
 have HR0_0 := Aside0.mk hr0_0
 have HC0_0 := Aside0.mk hc0_0
 clear hr0_0 hc0_0
 have HR0_1 := Aside0.mk hr0_1
 have HC0_1 := Aside0.mk hc0_1
 clear hr0_1 hc0_1
 have HR1_0 := Aside0.mk hr1_0
 have HC1_0 := Aside0.mk hc1_0
 clear hr1_0 hc1_0
 have HR1_1 := Aside0.mk hr1_1
 have HC1_1 := Aside0.mk hc1_1
 clear hr1_1 hc1_1
 have HB := Aside0.mk (Below.refl w.heap.size w)
 have H : ((slices_Compare_int_int.f k l0_0 l1_0).bind fun t469 => (if t469 = 0 then ((slices_Compare_int_int.f k l0_1 l1_1).bind fun t470 => (some t470)) else (some t469))) = some r := h
 clear h
 replace H := Option.bind_eq_some_iff.mp H
 obtain ⟨t469, A30, H⟩ := H
 replace H : (if t469 = 0 then ((slices_Compare_int_int.f k l0_1 l1_1).bind fun t470 => (some t470)) else (some t469)) = some r := H
 have A3 := Aside0.mk A30
 clear A30
 by_cases c4 : t469 = 0
 {
 rw [if_pos c4] at H
 have c4b0 : (t469 == 0) = true := beq_iff_eq.mpr c4
 have c4b1 : (t469 != 0) = false := bne_eq_false_iff_eq.mpr c4
 clear c4
 replace H := Option.bind_eq_some_iff.mp H
 obtain ⟨t470, A50, H⟩ := H
 replace H : (some t470) = some r := H
 have A5 := Aside0.mk A50
 clear A50
 obtain rfl := Option.some.inj H
 go_enter Tryz.func82, Tryz.ntmps82
 go_wp2_with (first | ((with_reducible refine gate_dst (N := 2) rfl ?_); refine box_event ?hg (N := 2) ?hd (cs := #[.slice A0_0 l0_0.length c0_0, .slice A0_1 l0_1.length c0_1]) (t := 25) ?hr ?_; (case hd => rfl); (case hg => rfl); (case hr => first | (go_simp; done) | (go_simp; rfl)); intro gb467 hg w6 hbox hb; have n0_ := Aside0.mk (below_step (bX HB.out) hb); have n1_ := Aside0.mk (hbox); have n2_ := Aside0.mk ((szX (below_size (bX HB.out)) hg : w.heap.size ≤ gb467)); have n3_ := Aside0.mk ((szX (below_size (bX HB.out)) hg : w.heap.size ≤ gb467)); clear HB; have HB := n0_; have BK467 := n1_; have GW467 := n2_; have GE467 := n3_; clear n0_ n1_ n2_ n3_ hb hbox hg) | ((with_reducible refine gate_dst (N := 3) rfl ?_); refine box_event ?hg (N := 3) ?hd (cs := #[.slice A1_0 l1_0.length c1_0, .slice A1_1 l1_1.length c1_1]) (t := 25) ?hr ?_; (case hd => rfl); (case hg => rfl); (case hr => first | (go_simp; done) | (go_simp; rfl)); intro gb468 hg w7 hbox hb; have n0_ := Aside0.mk (bbX BK467.out hb); have n1_ := Aside0.mk (below_step (bX1 HB.out GE467.out) hb); have n2_ := Aside0.mk (hbox); have n3_ := Aside0.mk ((szX (below_size (bX1 HB.out GE467.out)) hg : w.heap.size ≤ gb468)); have n4_ := Aside0.mk ((szX (below_size (bX1 HB.out GE467.out)) hg : w.heap.size ≤ gb468)); have n5_ := Aside0.mk (neX BK467.out hg); have n6_ := Aside0.mk (nfX BK467.out hg); clear BK467 HB; have BK467 := n0_; have HB := n1_; have BK468 := n2_; have GW468 := n3_; have GE468 := n4_; have NB467_468 := n5_; have NB468_467 := n6_; clear n0_ n1_ n2_ n3_ n4_ n5_ n6_ hb hbox hg; have hnb8 := NB467_468.out; have hnc8 := NB468_467.out; have hcz9_0 := cz20 BK467.out; have hcz9_1 := cz21 BK467.out; have hfz9_0 := blk_frozen BK467.out 0; have hfz9_1 := blk_frozen BK467.out 1; have hcz10_0 : w7.cell? ⟨gb468, 0, none⟩ = some (.slice A1_0 l1_0.length c1_0) := (blk_cell BK468.out 0).trans rfl; have hcz10_1 : w7.cell? ⟨gb468, 1, none⟩ = some (.slice A1_1 l1_1.length c1_1) := (blk_cell BK468.out 1).trans rfl; have hfz10_0 := blk_frozen BK468.out 0; have hfz10_1 := blk_frozen BK468.out 1) | ((with_reducible refine gate_callee (f := 114) rfl ?_); refine goesL_ (some 10) rfl rfl Tryz.func114 (by kernel_rfl) rfl #[.slice A0_0 l0_0.length c0_0, .slice A1_0 l1_0.length c1_0] rfl aX ?_; (with_reducible refine (slices_Compare_int_int.calls k _ _ l0_0 _ _ l1_0 t469 _ ?side1 ?side2 ?side3 ?side4 A3.out).mono ?_); (case side1 => exact cX (Kd.C_below HR0_0.out HB.out)); (case side2 => exact HC0_0.out); (case side3 => exact cX (Kd.C_below HR1_0.out HB.out)); (case side4 => exact HC1_0.out); rintro e w' ⟨rfl, ⟨nd, rfl⟩⟩; refine ⟨_, rfl, ?_⟩) | ((with_reducible refine gate_callee (f := 114) rfl ?_); refine goesL_ (some 18) rfl rfl Tryz.func114 (by kernel_rfl) rfl #[.slice A0_1 l0_1.length c0_1, .slice A1_1 l1_1.length c1_1] rfl aX ?_; (with_reducible refine (slices_Compare_int_int.calls k _ _ l0_1 _ _ l1_1 t470 _ ?side1 ?side2 ?side3 ?side4 A5.out).mono ?_); (case side1 => exact cX (Kd.C_below HR0_1.out (bX2 HB.out GE467.out GE468.out))); (case side2 => exact HC0_1.out); (case side3 => exact cX (Kd.C_below HR1_1.out (bX2 HB.out GE467.out GE468.out))); (case side4 => exact HC1_1.out); rintro e w' ⟨rfl, ⟨nd, rfl⟩⟩; refine ⟨_, rfl, ?_⟩))
 go_ret
 exact ⟨eX, bX2 HB.out GE467.out GE468.out⟩
 }
 {
 rw [if_neg c4] at H
 have c4b0 : (t469 == 0) = false := beq_eq_false_iff_ne.mpr c4
 have c4b1 : (t469 != 0) = true := bne_iff_ne.mpr c4
 obtain rfl := Option.some.inj H
 go_enter Tryz.func82, Tryz.ntmps82
 go_wp2_with (first | ((with_reducible refine gate_dst (N := 2) rfl ?_); refine box_event ?hg (N := 2) ?hd (cs := #[.slice A0_0 l0_0.length c0_0, .slice A0_1 l0_1.length c0_1]) (t := 25) ?hr ?_; (case hd => rfl); (case hg => rfl); (case hr => first | (go_simp; done) | (go_simp; rfl)); intro gb467 hg w11 hbox hb; have n0_ := Aside0.mk (below_step (bX HB.out) hb); have n1_ := Aside0.mk (hbox); have n2_ := Aside0.mk ((szX (below_size (bX HB.out)) hg : w.heap.size ≤ gb467)); have n3_ := Aside0.mk ((szX (below_size (bX HB.out)) hg : w.heap.size ≤ gb467)); clear HB; have HB := n0_; have BK467 := n1_; have GW467 := n2_; have GE467 := n3_; clear n0_ n1_ n2_ n3_ hb hbox hg) | ((with_reducible refine gate_dst (N := 3) rfl ?_); refine box_event ?hg (N := 3) ?hd (cs := #[.slice A1_0 l1_0.length c1_0, .slice A1_1 l1_1.length c1_1]) (t := 25) ?hr ?_; (case hd => rfl); (case hg => rfl); (case hr => first | (go_simp; done) | (go_simp; rfl)); intro gb468 hg w12 hbox hb; have n0_ := Aside0.mk (bbX BK467.out hb); have n1_ := Aside0.mk (below_step (bX1 HB.out GE467.out) hb); have n2_ := Aside0.mk (hbox); have n3_ := Aside0.mk ((szX (below_size (bX1 HB.out GE467.out)) hg : w.heap.size ≤ gb468)); have n4_ := Aside0.mk ((szX (below_size (bX1 HB.out GE467.out)) hg : w.heap.size ≤ gb468)); have n5_ := Aside0.mk (neX BK467.out hg); have n6_ := Aside0.mk (nfX BK467.out hg); clear BK467 HB; have BK467 := n0_; have HB := n1_; have BK468 := n2_; have GW468 := n3_; have GE468 := n4_; have NB467_468 := n5_; have NB468_467 := n6_; clear n0_ n1_ n2_ n3_ n4_ n5_ n6_ hb hbox hg; have hnb13 := NB467_468.out; have hnc13 := NB468_467.out; have hcz14_0 := cz20 BK467.out; have hcz14_1 := cz21 BK467.out; have hfz14_0 := blk_frozen BK467.out 0; have hfz14_1 := blk_frozen BK467.out 1; have hcz15_0 : w12.cell? ⟨gb468, 0, none⟩ = some (.slice A1_0 l1_0.length c1_0) := (blk_cell BK468.out 0).trans rfl; have hcz15_1 : w12.cell? ⟨gb468, 1, none⟩ = some (.slice A1_1 l1_1.length c1_1) := (blk_cell BK468.out 1).trans rfl; have hfz15_0 := blk_frozen BK468.out 0; have hfz15_1 := blk_frozen BK468.out 1) | ((with_reducible refine gate_callee (f := 114) rfl ?_); refine goesL_ (some 10) rfl rfl Tryz.func114 (by kernel_rfl) rfl #[.slice A0_0 l0_0.length c0_0, .slice A1_0 l1_0.length c1_0] rfl aX ?_; (with_reducible refine (slices_Compare_int_int.calls k _ _ l0_0 _ _ l1_0 t469 _ ?side1 ?side2 ?side3 ?side4 A3.out).mono ?_); (case side1 => exact cX (Kd.C_below HR0_0.out HB.out)); (case side2 => exact HC0_0.out); (case side3 => exact cX (Kd.C_below HR1_0.out HB.out)); (case side4 => exact HC1_0.out); rintro e w' ⟨rfl, ⟨nd, rfl⟩⟩; refine ⟨_, rfl, ?_⟩))
 go_ret
 exact ⟨eX, bX2 HB.out GE467.out GE468.out⟩
 }

/-! ### impl_CanonOf: function 44 -/
/-! by hand -/
/-- The first of the least, from an element on. -/
def minGo (k : Nat) (m : S25) : List S25 → Option S25
  | [] => some m
  | x :: xs => (impl_compareSurfaces.f k x.f0 x.f1 m.f0 m.f1).bind fun c => minGo k (if c < 0 then x else m) xs
def impl_CanonOf.f (k : Nat) (l0_0 l0_1 : List Int) : Option (List Int × List Int × Bool) := (impl_namedFrom.f k l0_0 l0_1).bind fun l => if l.length ≤ 1000 then (if l = [] then some ([], [], false) else (minGo k (rd_T25 l 0) (l.drop 1)).bind fun s => some (s.f0, s.f1, true)) else none
/-- A surface that is read: two rows. -/
structure SurfC (w : World) (A0 A1 : Option Addr) (c0 c1 : Nat) (x y : List Int) : Prop where
  l0 : x.length ≤ c0
  g0 : Kd.C (Kd.int .i64) w A0 x.length x
  l1 : y.length ≤ c1
  g1 : Kd.C (Kd.int .i64) w A1 y.length y
theorem SurfC.below {w w' : World} {A0 A1 : Option Addr} {c0 c1 : Nat} {x y : List Int} (h : SurfC w A0 A1 c0 c1 x y) (hb : Below w.heap.size w w') : SurfC w' A0 A1 c0 c1 x y := ⟨h.l0, Kd.C_below h.g0 hb, h.l1, Kd.C_below h.g1 hb⟩
/-- The same, with the blocks it lies in. -/
def SurfF (w : World) (ok : Nat → Prop) (A0 A1 : Option Addr) (c0 c1 : Nat) (x y : List Int) : Prop := Foot (fun W => SurfC W A0 A1 c0 c1 x y) w ok
theorem SurfF.below {w w' : World} {ok : Nat → Prop} {A0 A1 : Option Addr} {c0 c1 : Nat} {x y : List Int} (h : SurfF w ok A0 A1 c0 c1 x y) (hb : Below w.heap.size w w') : SurfC w' A0 A1 c0 c1 x y := h w' (fun k _ hlt => hb.block k hlt)
theorem SurfF.l0 {w : World} {ok : Nat → Prop} {A0 A1 : Option Addr} {c0 c1 : Nat} {x y : List Int} (h : SurfF w ok A0 A1 c0 c1 x y) : x.length ≤ c0 := (Foot.now h).l0
theorem SurfF.l1 {w : World} {ok : Nat → Prop} {A0 A1 : Option Addr} {c0 c1 : Nat} {x y : List Int} (h : SurfF w ok A0 A1 c0 c1 x y) : y.length ≤ c1 := (Foot.now h).l1
theorem cell_same {w W : World} {p : Addr} {b : Nat} (hp : p.block = b) (h : W.heap[b]? = w.heap[b]?) : W.cell? p = w.cell? p := by
 unfold World.cell?
 rw [hp, h]
theorem canon_add_block (a : Addr) (n : Nat) : (a.add n).block = a.block := by
 unfold Addr.add
 split <;> rfl
theorem surf_elem {w : World} {ok : Nat → Prop} {A : Option Addr} {l : List S25} (hF : Kd.F k25 w ok A l.length l) (hA : ∀ a, A = some a → ok a.block ∧ a.block < w.heap.size) (i : Int) (h0 : 0 ≤ i) (h1 : i < l.length) :
    ∃ ad C0 d0 C1 d1, A = some ad ∧ w.cell? (ad.add (i.toNat * 2)) = some (.slice C0 (rd_T25 l i).f0.length d0) ∧ w.cell? ⟨(ad.add (i.toNat * 2)).block, (ad.add (i.toNat * 2)).off + 1, none⟩ = some (.slice C1 (rd_T25 l i).f1.length d1) ∧ SurfF w ok C0 C1 d0 d1 (rd_T25 l i).f0 (rd_T25 l i).f1 := by
 obtain ⟨ad, C0, d0, C1, d1, rfl, hx0, hx1, l0, g0, l1, g1⟩ := at_T25 (Kd.F_now hF) i h0 h1
 refine ⟨ad, C0, d0, C1, d1, rfl, hx0, hx1, fun W hW => ?_⟩
 obtain ⟨ad2, E0, f0, E1, f1, e2, hy0, hy1, m0, n0, m1, n1⟩ := at_T25 (hF W hW) i h0 h1
 cases e2
 have hb := hA ad rfl
 have q := hW _ hb.1 hb.2
 rw [cell_same (canon_add_block _ _) q, hx0] at hy0
 rw [cell_same (p := ⟨(ad.add (i.toNat * 2)).block, (ad.add (i.toNat * 2)).off + 1, none⟩) (canon_add_block _ _) q, hx1] at hy1
 have z0 := Option.some.inj hy0
 have z1 := Option.some.inj hy1
 injection z0 with a1 a2 a3
 injection z1 with b1 b2 b3
 subst a1 a3 b1 b3
 exact ⟨m0, n0, m1, n1⟩
set_option maxHeartbeats 8000000 in
set_option maxRecDepth 100000 in
theorem minf_calls (k : Nat) (A0 : Option Addr) (c0 : Nat) (l0 : List S25) (r : S25) (w : World) (ok : Nat → Prop) (hr0 : Kd.F k25 w ok A0 l0.length l0) (hA : ∀ a, A0 = some a → ok a.block ∧ a.block < w.heap.size) (hn : 0 < l0.length) (hbig : l0.length ≤ 1000) (h : minGo k (rd_T25 l0 0) (l0.drop 1) = some r) :
    Calls Tryz.prog 81 #[.slice A0 l0.length c0, .func (.func 82) #[] #[]] w fun e w' => ∃ B0 b0 B1 b1, e = .returned (.agg #[.slice B0 r.f0.length b0, .slice B1 r.f1.length b1]) ∧ SurfF w ok B0 B1 b0 b1 r.f0 r.f1 ∧ Below w.heap.size w w' := by
  have hu := Tryz.underlying25
  have HR0 := Aside0.mk hr0
  clear hr0
  have HADR := Aside0.mk hA
  clear hA
  have HA := Aside0.mk h
  clear h
  have HB := Aside0.mk (Below.refl w.heap.size w)
  obtain ⟨ad, B0, b0, B1, b1, ead, hx0, hx1, gx⟩ := surf_elem HR0.out HADR.out 0 (Int.le_refl 0) (by omega)
  cases ead
  have GX := Aside0.mk gx
  clear gx
  have hb1 : decide ((l0.length : Int) < 1) = false := decide_eq_false (by omega)
  have hp0 : decide ((0 : Int) < (l0.length : Int)) = true := decide_eq_true (by omega)
  have hp1 : (0 : Int) < (l0.length : Int) := by omega
  have e0 : ad.add (Int.toNat 0 * 2) = ad := by cases ad; rfl
  rw [e0] at hx0 hx1
  clear e0
  have HN := Aside0.mk hn
  have HG := Aside0.mk hbig
  clear hn hbig
  generalize (rd_T25 l0 0) = m0 at *
  go_enter Tryz.func81, Tryz.ntmps81
  go_wp2_with (first
    | ((with_reducible refine gate_dst (N := 4) rfl ?_); refine box_event ?hg (N := 4) ?hd (cs := #[.slice none 0 0, .slice none 0 0]) (t := 25) ?hr ?_; (case hd => rfl); (case hg => rfl); (case hr => first | (go_simp; done) | (go_simp; rfl)); intro gb4 hg4 w4 hbox4 hb4; have BK4 := Aside0.mk hbox4; have HB4 := Aside0.mk hb4; have GB4 := Aside0.mk hg4; clear hbox4 hb4 hg4; replace hx0 := (HB4.out.cell (World.block_lt_of_cell? w _ hx0)).trans hx0; replace hx1 := (HB4.out.cell (World.block_lt_of_cell? w _ hx1)).trans hx1)
    | ((with_reducible refine gate_dst (N := 5) rfl ?_); refine box_event ?hg (N := 5) ?hd (cs := #[.slice none 0 0, .slice none 0 0]) (t := 25) ?hr ?_; (case hd => rfl); (case hg => rfl); (case hr => first | (go_simp; done) | (go_simp; rfl)); intro gb5 hg5 w5 hbox5 hb5; have BK5 := Aside0.mk hbox5; have HB5 := Aside0.mk hb5; have GB5 := Aside0.mk hg5; clear hbox5 hb5 hg5)
    | (refine wpList_store_row rfl 25 (.tmp 5) (.tmp 13) rfl gb5 #[.slice B0 m0.f0.length b0, .slice B1 m0.f1.length b1] rfl rfl 25 #[.slice none 0 0, .slice none 0 0] BK5.out (by kernel_rfl) rfl (by simp [Value.oneCell']) ?_))
  have H45 : w.heap.size ≤ gb5 := by rw [GB5.out]; exact below_size HB4.out
  have HG5 := Aside0.mk H45
  have HG4 : Aside0 (w.heap.size ≤ gb4) := ⟨by rw [GB4.out]; exact Nat.le_refl _⟩
  have HNE : Aside0 (gb4 ≠ gb5) := ⟨by have h1 := blk_lt BK4.out; have h2 := GB5.out; omega⟩
  clear H45
  have HC5 := Aside0.mk (show (w5.setRow gb5 #[.slice B0 m0.f0.length b0, .slice B1 m0.f1.length b1]).heap[gb5]? = some (.cells #[.slice B0 m0.f0.length b0, .slice B1 m0.f1.length b1] 25 (0, 0)) from setRow_heap w5 gb5 _ _ _ _ BK5.out)
  have HC4 := Aside0.mk (show (w5.setRow gb5 #[.slice B0 m0.f0.length b0, .slice B1 m0.f1.length b1]).heap[gb4]? = some (.cells #[.slice none 0 0, .slice none 0 0] 25 (0, 0)) from (setRow_other w5 gb5 gb4 _ HNE.out).trans (blk_below BK4.out HB5.out))
  have HBB := Aside0.mk (show Below w.heap.size w (w5.setRow gb5 #[.slice B0 m0.f0.length b0, .slice B1 m0.f1.length b1]) from below_setRow (below_step HB4.out HB5.out) HG5.out _)
  go_loopg [6] l0.length (fun kq v6 w' => ∃ (i : Int) (m : S25) (B0 : Option Addr) (b0 : Nat) (B1 : Option Addr) (b1 : Nat), v6 = .int .i64 i ∧ Aside0 (1 ≤ i ∧ i ≤ l0.length ∧ (kq : Int) + i = l0.length + 1) ∧ Aside0 (minGo k m (l0.drop i.toNat) = some r) ∧ Aside0 (w'.heap[gb5]? = some (.cells #[.slice B0 m.f0.length b0, .slice B1 m.f1.length b1] 25 (0, 0))) ∧ Aside0 (w'.heap[gb4]? = some (.cells #[.slice none 0 0, .slice none 0 0] 25 (0, 0))) ∧ Aside0 (SurfF w ok B0 B1 b0 b1 m.f0 m.f1) ∧ Aside0 (Below w.heap.size w w'))
  case atStart => exact ⟨1, m0, B0, b0, B1, b1, rfl, ⟨by have := HN.out; omega⟩, HA, HC5, HC4, GX, HBB⟩
  case round =>
    clear HC5 HC4 HBB GX hx0 hx1 BK4 BK5 HB4 HB5 GB4 GB5 HA HB hp0 hp1 hb1
    obtain ⟨i, m, B0, b0, B1, b1, rfl, HI, HA, HC5, HC4, GX, HB⟩ := hrel
    obtain ⟨hi0, hi1, hik⟩ := HI.out
    clear HI
    obtain ⟨k1, rfl⟩ : ∃ q, gk = q + 1 := ⟨gk - 1, by omega⟩
    have HK := Aside0.mk hik
    clear hik
    have hcz0 : wr.cell? ⟨gb5, 0, none⟩ = some (.slice B0 m.f0.length b0) := (blk_cell HC5.out 0).trans rfl
    have hcz1 : wr.cell? ⟨gb5, 1, none⟩ = some (.slice B1 m.f1.length b1) := (blk_cell HC5.out 1).trans rfl
    by_cases hlt : i < (l0.length : Int)
    · have c1 : decide (i < (l0.length : Int)) = true := decide_eq_true hlt
      have hi00 : 0 ≤ i := by omega
      obtain ⟨ad2, C0, d0, C1, d1, e2, hy0, hy1, gy⟩ := surf_elem HR0.out HADR.out i hi00 hlt
      cases e2
      have HY0 := Aside0.mk hy0
      have HY1 := Aside0.mk hy1
      have GY := Aside0.mk gy
      clear gy
      replace hy0 := (HB.out.cell (World.block_lt_of_cell? w _ hy0)).trans hy0
      replace hy1 := (HB.out.cell (World.block_lt_of_cell? w _ hy1)).trans hy1
      have hdrop : l0.drop i.toNat = rd_T25 l0 i :: l0.drop (i + 1).toNat := by
        have h1 : i.toNat < l0.length := by omega
        rw [show (i + 1).toNat = i.toNat + 1 by omega, List.drop_eq_getElem_cons h1]
        simp [rd_T25, List.getD, h1]
      have hgo := HA.out
      rw [hdrop, minGo] at hgo
      clear HA hdrop
      generalize rd_T25 l0 i = x at *
      obtain ⟨c, hc, hgo⟩ := Option.bind_eq_some_iff.mp hgo
      have HCC := Aside0.mk hc
      have HGO := Aside0.mk hgo
      clear hc hgo
      have p0 : decide (0 ≤ i) = true := decide_eq_true hi00
      have HW := Aside0.mk (show wrap64 (i + 1) = i + 1 from by have := HG.out; unfold wrap64; omega)
      have HI0 := Aside0.mk hi00
      have HI1 := Aside0.mk hlt
      replace hi00 := eq_true hi00
      replace hlt := eq_true hlt
      clear hi0 hi1
      by_cases hcl : c < 0
      · have c2 : decide (c < 0) = true := decide_eq_true hcl
        have HG2 := Aside0.mk (show minGo k x (l0.drop (i + 1).toNat) = some r from by have := HGO.out; rwa [if_pos hcl] at this)
        clear hcl HGO
        go_wp2
        refine start_ (n := 8) (S := fun w' => w'.cell? (ad.add (i.toNat * 2)) = some (.slice C0 x.f0.length d0) ∧ w'.cell? ⟨(ad.add (i.toNat * 2)).block, (ad.add (i.toNat * 2)).off + 1, none⟩ = some (.slice C1 x.f1.length d1) ∧ w'.cell? ⟨gb5, 0, none⟩ = some (.slice B0 m.f0.length b0) ∧ w'.cell? ⟨gb5, 1, none⟩ = some (.slice B1 m.f1.length b1)) (ds := []) #[ff,ff,ff,ff,ff,ff,ff,ff] (by kernel_rfl) rfl rfl ⟨hy0, hy1, hcz0, hcz1⟩ (fun hHeld => ?_)
        replace HC5 := Aside0.mk (show wr.drew.heap[gb5]? = _ from HC5.out)
        replace HC4 := Aside0.mk (show wr.drew.heap[gb4]? = _ from HC4.out)
        replace HB := Aside0.mk (below_drew1 HB.out)
        clear hy0 hy1 hcz0 hcz1
        generalize wr.drew = W at HC5 HC4 HB hHeld ⊢
        refine pure_ (i := 0) (N := some 20) (v := ?_) (a' := ?_) #[tt,ff,ff,ff,ff,ff,ff,ff] rfl rfl (by kernel_rfl) (fun _ _ _ h => h) (Or.inl ⟨by kernel_rfl, ?_⟩) ?_ ?_
        rotate_left
        · intro w'
          go_simp
          with_reducible rfl
        rotate_left
        · simp only [Act.put, List.setIfInBounds_toArray, List.set_cons_zero, List.set_cons_succ, i64_w, i32_w]
          rfl
        refine pure_ (i := 1) (N := some 21) (v := ?_) (a' := ?_) #[tt,tt,ff,ff,ff,ff,ff,ff] rfl rfl (by kernel_rfl) (fun _ _ _ h => h) (Or.inl ⟨by kernel_rfl, ?_⟩) ?_ ?_
        rotate_left
        · intro w'
          go_simp
          with_reducible rfl
        rotate_left
        · simp only [Act.put, List.setIfInBounds_toArray, List.set_cons_zero, List.set_cons_succ, i64_w, i32_w]
          rfl
        refine pure_ (i := 2) (N := some 22) (v := ?_) (a' := ?_) #[tt,tt,tt,ff,ff,ff,ff,ff] rfl rfl (by kernel_rfl) (fun _ _ _ h => h) (Or.inl ⟨by kernel_rfl, ?_⟩) ?_ ?_
        rotate_left
        · intro w'
          go_simp
          with_reducible rfl
        rotate_left
        · simp only [Act.put, List.setIfInBounds_toArray, List.set_cons_zero, List.set_cons_succ, i64_w, i32_w]
          rfl
        refine pure_ (i := 3) (N := some 23) (v := ?_) (a' := ?_) #[tt,tt,tt,tt,ff,ff,ff,ff] rfl rfl (by kernel_rfl) (fun _ _ _ h => h) (Or.inl ⟨by kernel_rfl, ?_⟩) ?_ ?_
        rotate_left
        · intro w'
          go_simp
          with_reducible rfl
        rotate_left
        · simp only [Act.put, List.setIfInBounds_toArray, List.set_cons_zero, List.set_cons_succ, i64_w, i32_w]
          rfl
        refine take_ (i := 4) (N := some 24) (v := ?_) (a' := ?_) #[tt,tt,tt,tt,tt,ff,ff,ff] rfl rfl (by kernel_rfl) (fun _ _ _ h => h) (Or.inl ⟨by kernel_rfl, ?_⟩) hHeld ?_ ?_
        rotate_left
        · rintro w' ⟨s0, s1, s2, s3⟩
          go_simp
          with_reducible rfl
        rotate_left
        · simp only [Act.put, List.setIfInBounds_toArray, List.set_cons_zero, List.set_cons_succ, i64_w, i32_w]
          rfl
        refine take_ (i := 5) (N := some 25) (v := ?_) (a' := ?_) #[tt,tt,tt,tt,tt,tt,ff,ff] rfl rfl (by kernel_rfl) (fun _ _ _ h => h) (Or.inl ⟨by kernel_rfl, ?_⟩) hHeld ?_ ?_
        rotate_left
        · rintro w' ⟨s0, s1, s2, s3⟩
          go_simp
          with_reducible rfl
        rotate_left
        · simp only [Act.put, List.setIfInBounds_toArray, List.set_cons_zero, List.set_cons_succ, i64_w, i32_w]
          rfl
        refine one_ (i := 6) (N := some 26) #[tt,tt,tt,tt,tt,tt,tt,ff] rfl rfl (by kernel_rfl) (by decide) (fun K hK => ?_)
        refine call_ 82 #[.agg #[.slice C0 x.f0.length d0, .slice C1 x.f1.length d1], .agg #[.slice B0 m.f0.length b0, .slice B1 m.f1.length b1]] (by rfl) rfl ?hrun ?_
        case hrun => unfold execOp; simp [resolve, Deferred.ofValue, invoke, Act.eval, enters_ Tryz.func82 (by kernel_rfl) rfl]
        refine (impl_compareSurfaces.calls k C0 d0 x.f0 C1 d1 x.f1 B0 b0 m.f0 B1 b1 m.f1 c _ (GY.out.below HB.out).g0 GY.out.l0 (GY.out.below HB.out).g1 GY.out.l1 (GX.out.below HB.out).g0 GX.out.l0 (GX.out.below HB.out).g1 GX.out.l1 HCC.out).mono ?_
        rintro e w6 ⟨rfl, hb⟩
        refine ⟨_, rfl, ?_⟩
        have HC5' := Aside0.mk (blk_below HC5.out hb)
        have HC4' := Aside0.mk (blk_below HC4.out hb)
        have HB' := Aside0.mk (below_step HB.out hb)
        have hy0 := (HB'.out.cell (World.block_lt_of_cell? w _ HY0.out)).trans HY0.out
        have hy1 := (HB'.out.cell (World.block_lt_of_cell? w _ HY1.out)).trans HY1.out
        clear HC5 HC4 HB hb
        refine hK.out _ _ ⟨hy0, hy1, (blk_cell HC5'.out 0).trans rfl, (blk_cell HC5'.out 1).trans rfl⟩ (fun hHeld => ?_)
        clear hK K
        refine norm_ (a' := ?_) ?_ ?_
        rotate_left
        · show Act.put _ (some 26) _ = _
          simp only [Act.put, List.setIfInBounds_toArray, List.set_cons_zero, List.set_cons_succ, i64_w, i32_w]
          rfl
        refine pure_ (i := 7) (N := some 27) (v := ?_) (a' := ?_) #[tt,tt,tt,tt,tt,tt,tt,tt] rfl rfl (by kernel_rfl) (fun _ _ _ h => h) (Or.inl ⟨by kernel_rfl, ?_⟩) ?_ ?_
        rotate_left
        · intro w'
          go_simp
          with_reducible rfl
        rotate_left
        · simp only [Act.put, List.setIfInBounds_toArray, List.set_cons_zero, List.set_cons_succ, i64_w, i32_w]
          rfl
        refine done_ (by kernel_rfl) ?_
        clear hHeld
        go_wp2_with (refine wpList_store_row rfl 25 (.tmp 5) (.tmp 31) rfl gb5 #[.slice C0 x.f0.length d0, .slice C1 x.f1.length d1] rfl rfl 25 #[.slice B0 m.f0.length b0, .slice B1 m.f1.length b1] HC5'.out (by kernel_rfl) rfl (by simp [Value.oneCell']) ?_)
        go_roundg k1
        case measure => have := HK.out; omega
        case rel => exact ⟨i + 1, x, C0, d0, C1, d1, by rw [HW.out], ⟨by have := HK.out; have := HI1.out; have := HI0.out; omega⟩, HG2, ⟨setRow_heap _ gb5 _ _ _ _ HC5'.out⟩, ⟨(setRow_other _ gb5 gb4 _ HNE.out).trans HC4'.out⟩, GY, ⟨below_setRow HB'.out HG5.out _⟩⟩
      · have c2 : decide (c < 0) = false := decide_eq_false hcl
        have HG2 := Aside0.mk (show minGo k m (l0.drop (i + 1).toNat) = some r from by have := HGO.out; rwa [if_neg hcl] at this)
        clear hcl HGO
        go_wp2
        refine start_ (n := 8) (S := fun w' => w'.cell? (ad.add (i.toNat * 2)) = some (.slice C0 x.f0.length d0) ∧ w'.cell? ⟨(ad.add (i.toNat * 2)).block, (ad.add (i.toNat * 2)).off + 1, none⟩ = some (.slice C1 x.f1.length d1) ∧ w'.cell? ⟨gb5, 0, none⟩ = some (.slice B0 m.f0.length b0) ∧ w'.cell? ⟨gb5, 1, none⟩ = some (.slice B1 m.f1.length b1)) (ds := []) #[ff,ff,ff,ff,ff,ff,ff,ff] (by kernel_rfl) rfl rfl ⟨hy0, hy1, hcz0, hcz1⟩ (fun hHeld => ?_)
        replace HC5 := Aside0.mk (show wr.drew.heap[gb5]? = _ from HC5.out)
        replace HC4 := Aside0.mk (show wr.drew.heap[gb4]? = _ from HC4.out)
        replace HB := Aside0.mk (below_drew1 HB.out)
        clear hy0 hy1 hcz0 hcz1
        generalize wr.drew = W at HC5 HC4 HB hHeld ⊢
        refine pure_ (i := 0) (N := some 20) (v := ?_) (a' := ?_) #[tt,ff,ff,ff,ff,ff,ff,ff] rfl rfl (by kernel_rfl) (fun _ _ _ h => h) (Or.inl ⟨by kernel_rfl, ?_⟩) ?_ ?_
        rotate_left
        · intro w'
          go_simp
          with_reducible rfl
        rotate_left
        · simp only [Act.put, List.setIfInBounds_toArray, List.set_cons_zero, List.set_cons_succ, i64_w, i32_w]
          rfl
        refine pure_ (i := 1) (N := some 21) (v := ?_) (a' := ?_) #[tt,tt,ff,ff,ff,ff,ff,ff] rfl rfl (by kernel_rfl) (fun _ _ _ h => h) (Or.inl ⟨by kernel_rfl, ?_⟩) ?_ ?_
        rotate_left
        · intro w'
          go_simp
          with_reducible rfl
        rotate_left
        · simp only [Act.put, List.setIfInBounds_toArray, List.set_cons_zero, List.set_cons_succ, i64_w, i32_w]
          rfl
        refine pure_ (i := 2) (N := some 22) (v := ?_) (a' := ?_) #[tt,tt,tt,ff,ff,ff,ff,ff] rfl rfl (by kernel_rfl) (fun _ _ _ h => h) (Or.inl ⟨by kernel_rfl, ?_⟩) ?_ ?_
        rotate_left
        · intro w'
          go_simp
          with_reducible rfl
        rotate_left
        · simp only [Act.put, List.setIfInBounds_toArray, List.set_cons_zero, List.set_cons_succ, i64_w, i32_w]
          rfl
        refine pure_ (i := 3) (N := some 23) (v := ?_) (a' := ?_) #[tt,tt,tt,tt,ff,ff,ff,ff] rfl rfl (by kernel_rfl) (fun _ _ _ h => h) (Or.inl ⟨by kernel_rfl, ?_⟩) ?_ ?_
        rotate_left
        · intro w'
          go_simp
          with_reducible rfl
        rotate_left
        · simp only [Act.put, List.setIfInBounds_toArray, List.set_cons_zero, List.set_cons_succ, i64_w, i32_w]
          rfl
        refine take_ (i := 4) (N := some 24) (v := ?_) (a' := ?_) #[tt,tt,tt,tt,tt,ff,ff,ff] rfl rfl (by kernel_rfl) (fun _ _ _ h => h) (Or.inl ⟨by kernel_rfl, ?_⟩) hHeld ?_ ?_
        rotate_left
        · rintro w' ⟨s0, s1, s2, s3⟩
          go_simp
          with_reducible rfl
        rotate_left
        · simp only [Act.put, List.setIfInBounds_toArray, List.set_cons_zero, List.set_cons_succ, i64_w, i32_w]
          rfl
        refine take_ (i := 5) (N := some 25) (v := ?_) (a' := ?_) #[tt,tt,tt,tt,tt,tt,ff,ff] rfl rfl (by kernel_rfl) (fun _ _ _ h => h) (Or.inl ⟨by kernel_rfl, ?_⟩) hHeld ?_ ?_
        rotate_left
        · rintro w' ⟨s0, s1, s2, s3⟩
          go_simp
          with_reducible rfl
        rotate_left
        · simp only [Act.put, List.setIfInBounds_toArray, List.set_cons_zero, List.set_cons_succ, i64_w, i32_w]
          rfl
        refine one_ (i := 6) (N := some 26) #[tt,tt,tt,tt,tt,tt,tt,ff] rfl rfl (by kernel_rfl) (by decide) (fun K hK => ?_)
        refine call_ 82 #[.agg #[.slice C0 x.f0.length d0, .slice C1 x.f1.length d1], .agg #[.slice B0 m.f0.length b0, .slice B1 m.f1.length b1]] (by rfl) rfl ?hrun ?_
        case hrun => unfold execOp; simp [resolve, Deferred.ofValue, invoke, Act.eval, enters_ Tryz.func82 (by kernel_rfl) rfl]
        refine (impl_compareSurfaces.calls k C0 d0 x.f0 C1 d1 x.f1 B0 b0 m.f0 B1 b1 m.f1 c _ (GY.out.below HB.out).g0 GY.out.l0 (GY.out.below HB.out).g1 GY.out.l1 (GX.out.below HB.out).g0 GX.out.l0 (GX.out.below HB.out).g1 GX.out.l1 HCC.out).mono ?_
        rintro e w6 ⟨rfl, hb⟩
        refine ⟨_, rfl, ?_⟩
        have HC5' := Aside0.mk (blk_below HC5.out hb)
        have HC4' := Aside0.mk (blk_below HC4.out hb)
        have HB' := Aside0.mk (below_step HB.out hb)
        have hy0 := (HB'.out.cell (World.block_lt_of_cell? w _ HY0.out)).trans HY0.out
        have hy1 := (HB'.out.cell (World.block_lt_of_cell? w _ HY1.out)).trans HY1.out
        clear HC5 HC4 HB hb
        refine hK.out _ _ ⟨hy0, hy1, (blk_cell HC5'.out 0).trans rfl, (blk_cell HC5'.out 1).trans rfl⟩ (fun hHeld => ?_)
        clear hK K
        refine norm_ (a' := ?_) ?_ ?_
        rotate_left
        · show Act.put _ (some 26) _ = _
          simp only [Act.put, List.setIfInBounds_toArray, List.set_cons_zero, List.set_cons_succ, i64_w, i32_w]
          rfl
        refine pure_ (i := 7) (N := some 27) (v := ?_) (a' := ?_) #[tt,tt,tt,tt,tt,tt,tt,tt] rfl rfl (by kernel_rfl) (fun _ _ _ h => h) (Or.inl ⟨by kernel_rfl, ?_⟩) ?_ ?_
        rotate_left
        · intro w'
          go_simp
          with_reducible rfl
        rotate_left
        · simp only [Act.put, List.setIfInBounds_toArray, List.set_cons_zero, List.set_cons_succ, i64_w, i32_w]
          rfl
        refine done_ (by kernel_rfl) ?_
        clear hHeld
        clear hy0 hy1
        go_wp2
        go_roundg k1
        case measure => have := HK.out; omega
        case rel => exact ⟨i + 1, m, B0, b0, B1, b1, by rw [HW.out], ⟨by have := HK.out; have := HI1.out; have := HI0.out; omega⟩, HG2, HC5', HC4', GX, HB'⟩
    · have hie : i = l0.length := by omega
      have hr : m = r := by
        have h := HA.out
        rw [show l0.drop i.toNat = [] from by rw [hie]; simp, minGo] at h
        exact Option.some.inj h
      subst hr
      have c1 : decide (i < (l0.length : Int)) = false := decide_eq_false hlt
      clear hlt hie hi0 hi1
      go_wp2_with (refine wpList_store_row rfl 25 (.tmp 4) (.tmp 32) rfl gb4 #[.slice B0 m.f0.length b0, .slice B1 m.f1.length b1] rfl rfl 25 #[.slice none 0 0, .slice none 0 0] HC4.out (by kernel_rfl) rfl (by simp [Value.oneCell']) ?_)
      have HCF := Aside0.mk (setRow_heap wr gb4 _ #[.slice B0 m.f0.length b0, .slice B1 m.f1.length b1] _ _ HC4.out)
      refine bodyPost_ret (results_cell_row rfl _ _ gb4 25 #[.slice B0 m.f0.length b0, .slice B1 m.f1.length b1] (0, 0) _ rfl HCF.out hu rfl (by kernel_rfl)) rfl ?_
      exact ⟨B0, b0, B1, b1, rfl, GX.out, below_setRow HB.out HG4.out _⟩
/-- What a row of rows' value is. -/
theorem S_sliceC {α : Type} {d : Kd α} {e base : Nat} {ok : Nat → Prop} {w : World} {v : Value} {xs : List α} (h : Kd.S d e w base ok v xs) : ∃ A c, v = .slice A xs.length c ∧ xs.length ≤ c ∧ Kd.F d w (fun k => base ≤ k) A xs.length xs ∧ ∀ a, A = some a → base ≤ a.block ∧ a.block < w.heap.size := by
 obtain ⟨A, c, rfl⟩ := Kd.R_slice (Kd.S_R h)
 have := Kd.R_reads' (Kd.S_R h)
 refine ⟨A, c, rfl, this.2.1, Kd.S_F (Kd.S_mono (Kd.S_bound h) (fun k hk => hk.2.1)), fun a ha => ?_⟩
 subst ha
 exact ⟨Kd.R_base (Kd.S_R h) _ rfl, Kd.R_lt (Kd.S_R h) _ rfl⟩
theorem SurfF.setRow {w w4 : World} {N g : Nat} {A0 A1 : Option Addr} {c0 c1 : Nat} {x y : List Int} (h : SurfF w (fun k => N ≤ k) A0 A1 c0 c1 x y) (hb : Below w.heap.size w w4) (hg : g < N) (cs : Array Value) : SurfC (w4.setRow g cs) A0 A1 c0 c1 x y := h _ (fun k hk hlt => (setRow_other w4 g k cs (by omega)).trans (hb.block k hlt))
set_option maxHeartbeats 8000000 in
set_option maxRecDepth 100000 in
theorem impl_CanonOf.calls (k : Nat) (A0_0 : Option Addr) (c0_0 : Nat) (l0_0 : List Int) (A0_1 : Option Addr) (c0_1 : Nat) (l0_1 : List Int) (r1 r2 : List Int) (r3 : Bool) (w : World) (hs : SurfC w A0_0 A0_1 c0_0 c0_1 l0_0 l0_1) (h : impl_CanonOf.f k l0_0 l0_1 = some (r1, r2, r3)) :
    Calls Tryz.prog 44 #[.agg #[.slice A0_0 l0_0.length c0_0, .slice A0_1 l0_1.length c0_1]] w fun e w' => ∃ B0 b0 B1 b1, e = .returned (.tuple #[.agg #[.slice B0 r1.length b0, .slice B1 r2.length b1], .bool r3]) ∧ SurfC w' B0 B1 b0 b1 r1 r2 ∧ Below w.heap.size w w' := by
  have hu := Tryz.underlying25
  have HS := Aside0.mk hs
  clear hs
  unfold impl_CanonOf.f at h
  obtain ⟨l, hl, h⟩ := Option.bind_eq_some_iff.mp h
  have HL := Aside0.mk hl
  clear hl
  have H := Aside0.mk h
  clear h
  go_enter Tryz.func44, Tryz.ntmps44
  have HQ : ∀ (W : World), Below w.heap.size w W → Calls Tryz.prog 45 #[.agg #[.slice A0_0 l0_0.length c0_0, .slice A0_1 l0_1.length c0_1]] W fun e w' => ∃ A c, e = .returned (.slice A l.length c) ∧ l.length ≤ c ∧ (Kd.F k25 w' (fun k => W.heap.size ≤ k) A l.length l ∧ ∀ a, A = some a → W.heap.size ≤ a.block ∧ a.block < w'.heap.size) ∧ Below W.heap.size W w' := fun W hW => by
    refine (impl_namedFrom.calls k _ _ l0_0 _ _ l0_1 l W (HS.out.below hW).g0 HS.out.l0 (HS.out.below hW).g1 HS.out.l1 HL.out).mono ?_
    rintro e w' ⟨v, rfl, hv, hb⟩
    obtain ⟨A, c, rfl, hc, hC⟩ := S_sliceC hv
    exact ⟨A, c, rfl, hc, hC, hb⟩
  have HQ2 := Aside0.mk HQ
  clear HQ
  by_cases hz : l = []
  · have h := H.out
    subst hz
    rw [if_pos (by simp), if_pos rfl] at h
    simp only [Option.some.injEq, Prod.mk.injEq] at h
    obtain ⟨rfl, rfl, rfl⟩ := h
    clear H HL
    go_wp2_with (first
      | ((with_reducible refine gate_dst (N := 1) rfl ?_); refine box_event ?hg (N := 1) ?hd (cs := #[.slice A0_0 l0_0.length c0_0, .slice A0_1 l0_1.length c0_1]) (t := 25) ?hr ?_; (case hd => rfl); (case hg => rfl); (case hr => first | (go_simp; done) | (go_simp; rfl)); intro gb1 hg1 w1 hbox1 hb1; have BK1 := Aside0.mk hbox1; have HB1 := Aside0.mk hb1; clear hbox1 hb1 hg1)
      | ((with_reducible refine gate_dst (N := 2) rfl ?_); refine box_event ?hg (N := 2) ?hd (cs := #[.slice none 0 0, .slice none 0 0]) (t := 25) ?hr ?_; (case hd => rfl); (case hg => rfl); (case hr => first | (go_simp; done) | (go_simp; rfl)); intro gb2 hg2 w2 hbox2 hb2; have BK2 := Aside0.mk hbox2; have HB2 := Aside0.mk (below_step HB1.out hb2); have HG2 := Aside0.mk (show w.heap.size ≤ gb2 by rw [hg2]; exact below_size HB1.out); have BK12 := Aside0.mk (blk_below BK1.out hb2); clear BK1 HB1; have hc10 : w2.cell? ⟨gb1, 0, none⟩ = some (.slice A0_0 l0_0.length c0_0) := (blk_cell BK12.out 0).trans rfl; have hc11 : w2.cell? ⟨gb1, 1, none⟩ = some (.slice A0_1 l0_1.length c0_1) := (blk_cell BK12.out 1).trans rfl; clear hbox2 hb2 hg2)
      | (go_at_call 45; refine (HQ2.out _ HB2.out).mono ?_; rintro e w3 ⟨A, c, rfl, hc, hC, hb⟩; have HB3 := Aside0.mk (below_step HB2.out hb); have BK3 := Aside0.mk (blk_below BK2.out hb); clear hc10 hc11 hb hc hC HB2 BK2)
      | (refine wpList_store_row rfl 25 (.tmp 2) (.tmp 10) rfl gb2 #[.slice none 0 0, .slice none 0 0] rfl rfl 25 #[.slice none 0 0, .slice none 0 0] BK3.out (by kernel_rfl) rfl (by simp [Value.oneCell']) ?_))
    have HCF := Aside0.mk (setRow_heap w3 gb2 _ #[.slice none 0 0, .slice none 0 0] _ _ BK3.out)
    refine bodyPost_ret (results_ct rfl _ _ gb2 25 #[.slice none 0 0, .slice none 0 0] (0, 0) _ rfl HCF.out hu rfl (by kernel_rfl)) rfl ?_
    exact ⟨none, 0, none, 0, rfl, ⟨Nat.le_refl _, Kd.C_nil _ _, Nat.le_refl _, Kd.C_nil _ _⟩, below_setRow HB3.out HG2.out _⟩
  · have h := H.out
    by_cases hbig : l.length ≤ 1000
    · rw [if_pos hbig, if_neg hz] at h
      obtain ⟨s, hs, h⟩ := Option.bind_eq_some_iff.mp h
      simp only [Option.some.injEq, Prod.mk.injEq] at h
      obtain ⟨rfl, rfl, rfl⟩ := h
      have HM := Aside0.mk hs
      clear hs H HL
      have hn : 0 < l.length := List.length_pos_iff.mpr hz
      have hn0 : decide ((l.length : Int) = 0) = false := decide_eq_false (by omega)
      have hn1 : ((l.length : Int) == 0) = false := by simpa using hz
      have HN := Aside0.mk hn
      have HG := Aside0.mk hbig
      have hn2 : (l.length = 0) = False := by simp; exact hz
      have hn3 : ((l.length : Int) = 0) = False := by simp; exact hz
      clear hn hbig hz
      go_wp2_with (first
        | ((with_reducible refine gate_dst (N := 1) rfl ?_); refine box_event ?hg (N := 1) ?hd (cs := #[.slice A0_0 l0_0.length c0_0, .slice A0_1 l0_1.length c0_1]) (t := 25) ?hr ?_; (case hd => rfl); (case hg => rfl); (case hr => first | (go_simp; done) | (go_simp; rfl)); intro gb1 hg1 w1 hbox1 hb1; have BK1 := Aside0.mk hbox1; have HB1 := Aside0.mk hb1; clear hbox1 hb1 hg1)
        | ((with_reducible refine gate_dst (N := 2) rfl ?_); refine box_event ?hg (N := 2) ?hd (cs := #[.slice none 0 0, .slice none 0 0]) (t := 25) ?hr ?_; (case hd => rfl); (case hg => rfl); (case hr => first | (go_simp; done) | (go_simp; rfl)); intro gb2 hg2 w2 hbox2 hb2; have BK2 := Aside0.mk hbox2; have HB2 := Aside0.mk (below_step HB1.out hb2); have HG2 := Aside0.mk (show w.heap.size ≤ gb2 by rw [hg2]; exact below_size HB1.out); have BK12 := Aside0.mk (blk_below BK1.out hb2); clear BK1 HB1; have hc10 : w2.cell? ⟨gb1, 0, none⟩ = some (.slice A0_0 l0_0.length c0_0) := (blk_cell BK12.out 0).trans rfl; have hc11 : w2.cell? ⟨gb1, 1, none⟩ = some (.slice A0_1 l0_1.length c0_1) := (blk_cell BK12.out 1).trans rfl; clear hbox2 hb2 hg2)
        | (go_at_call 45; refine (HQ2.out _ HB2.out).mono ?_; rintro e w3 ⟨A, c, rfl, hc, hC, hb⟩; have HB3 := Aside0.mk (below_step HB2.out hb); have BK3 := Aside0.mk (blk_below BK2.out hb); have HC3 := Aside0.mk hC; clear hc10 hc11 hb hc hC HB2)
        | (go_at_call 81; refine (minf_calls k A c l s _ _ HC3.out.1 HC3.out.2 HN.out HG.out HM.out).mono ?_; rintro e w4 ⟨B0, b0, B1, b1, rfl, hS, hb⟩; have HB4 := Aside0.mk (below_step HB3.out hb); have BK4 := Aside0.mk (blk_below BK3.out hb); have HS4 := Aside0.mk (SurfF.setRow hS hb (show gb2 < w2.heap.size from blk_lt BK2.out)); clear hb hS HB3 BK3)
        | (refine wpList_store_row rfl 25 (.tmp 2) (.tmp 12) rfl gb2 #[.slice B0 s.f0.length b0, .slice B1 s.f1.length b1] rfl rfl 25 #[.slice none 0 0, .slice none 0 0] BK4.out (by kernel_rfl) rfl (by simp [Value.oneCell']) ?_))
      have HCF := Aside0.mk (setRow_heap w4 gb2 _ #[.slice B0 s.f0.length b0, .slice B1 s.f1.length b1] _ _ BK4.out)
      refine bodyPost_ret (results_ct rfl _ _ gb2 25 #[.slice B0 s.f0.length b0, .slice B1 s.f1.length b1] (0, 0) _ rfl HCF.out hu rfl (by kernel_rfl)) rfl ?_
      exact ⟨B0, b0, B1, b1, rfl, HS4.out _, below_setRow HB4.out HG2.out _⟩
    · rw [if_neg hbig] at h
      exact absurd h (by simp)

/-! ### slices_Equal_int_int: function 116 -/
def slices_Equal_int_int.l0 : Nat → List Int → List Int → Int → Int → Option (Bool)
 | 0, _, _, _, _ => none
 | k + 1, x0, x1, x12, x13 => if x13 < x12 then (if 0 ≤ x13 then (if x13 < (x0.length : Int) then (if x13 < (x1.length : Int) then (if (rd x0 x13) = (rd x1 x13) then (slices_Equal_int_int.l0 k x0 x1 x12 (wrap64 (x13 + 1))) else (some false)) else (none)) else (none)) else (none)) else (some true)
def slices_Equal_int_int.f (k : Nat) (l0 : List Int) (l1 : List Int) : Option (Bool) := if (l0.length : Int) = (l1.length : Int) then (slices_Equal_int_int.l0 k l0 l1 (l0.length : Int) 0) else (some false)
set_option maxHeartbeats 8000000 in
set_option maxRecDepth 100000 in
theorem slices_Equal_int_int.calls (k : Nat) (A0 : Option Addr) (c0 : Nat) (l0 : List Int) (A1 : Option Addr) (c1 : Nat) (l1 : List Int) (r : Bool) (w : World) (hr0 : Kd.C (Kd.int .i64) w A0 l0.length l0) (hc0 : l0.length ≤ c0) (hr1 : Kd.C (Kd.int .i64) w A1 l1.length l1) (hc1 : l1.length ≤ c1) (h : slices_Equal_int_int.f k l0 l1 = some r) :
  Calls Tryz.prog 116 #[.slice A0 l0.length c0, .slice A1 l1.length c1] w fun e w' => e = .returned (.bool r) ∧ Drawn0 w w' := by
 have HR0 := Aside0.mk hr0
 have HC0 := Aside0.mk hc0
 clear hr0 hc0
 have HR1 := Aside0.mk hr1
 have HC1 := Aside0.mk hc1
 clear hr1 hc1
 have H : (if (l0.length : Int) = (l1.length : Int) then (slices_Equal_int_int.l0 k l0 l1 (l0.length : Int) 0) else (some false)) = some r := h
 clear h
 by_cases c3 : (l0.length : Int) = (l1.length : Int)
 {
 rw [if_pos c3] at H
 have c3b0 : ((l0.length : Int) == (l1.length : Int)) = true := beq_iff_eq.mpr c3
 have c3b1 : ((l0.length : Int) != (l1.length : Int)) = false := bne_eq_false_iff_eq.mpr c3
 have c3b2 : (l0.length == l1.length) = true := by first | simpa using c3 | (simp at c3 ⊢; omega)
 clear c3
 have H' := Aside0.mk H
 clear H
 go_enter Tryz.func116, Tryz.ntmps116
 go_wp2
 repeat (go_quiet (fail); try go_wp2)
 go_loopg [13] k (fun kq v13 w' => ∃ (x13_1 : Int), v13 = .int .i64 x13_1 ∧ Aside0 (slices_Equal_int_int.l0 kq l0 l1 (l0.length : Int) x13_1 = some r) ∧ Aside0 (kq ≤ k) ∧ Drawn0 w w')
 case atStart => exact ⟨(0), vX, H', ⟨Nat.le_refl _⟩, by repeat (first | exact Drawn0.refl _ | apply Drawn0.step)⟩
 case round =>
 clear H'
 try clear c1
 try clear p2
 try clear c3
 try clear c3b0
 try clear c3b1
 try clear c3b2
 obtain ⟨x13_1, rfl, HA, HK1, ⟨m1, rfl⟩⟩ := hrel
 cases gk with
 | zero => exact absurd HA.out (by simp [slices_Equal_int_int.l0])
 | succ k1 =>
 have H := HA.out
 clear HA
 simp only [slices_Equal_int_int.l0] at H
 by_cases c4 : x13_1 < (l0.length : Int)
 {
 rw [if_pos c4] at H
 have c4b0 : decide (x13_1 < (l0.length : Int)) = true := decide_eq_true c4
 clear c4
 by_cases c5 : 0 ≤ x13_1
 {
 rw [if_pos c5] at H
 have c5b0 : decide (0 ≤ x13_1) = true := decide_eq_true c5
 clear c5
 by_cases c6 : x13_1 < (l0.length : Int)
 {
 rw [if_pos c6] at H
 have c6b0 : decide (x13_1 < (l0.length : Int)) = true := decide_eq_true c6
 clear c6
 by_cases c7 : x13_1 < (l1.length : Int)
 {
 rw [if_pos c7] at H
 have c7b0 : decide (x13_1 < (l1.length : Int)) = true := decide_eq_true c7
 clear c7
 by_cases c8 : (rd l0 x13_1) = (rd l1 x13_1)
 {
 rw [if_pos c8] at H
 have c8b0 : ((rd l0 x13_1) == (rd l1 x13_1)) = true := beq_iff_eq.mpr c8
 have c8b1 : ((rd l0 x13_1) != (rd l1 x13_1)) = false := bne_eq_false_iff_eq.mpr c8
 clear c8
 have H' := Aside0.mk H
 clear H
 have p471 : 0 ≤ (x13_1 : Int) := dX
 have q471 : x13_1 < (l0.length : Int) := dX
 obtain ⟨ad471, e471, hx471_0⟩ := Kd.at_int HR0.out x13_1 p471 q471
 cases e471
 replace p471 := eq_true p471
 replace q471 := eq_true q471
 have p472 : 0 ≤ (x13_1 : Int) := dX
 have q472 : x13_1 < (l1.length : Int) := dX
 obtain ⟨ad472, e472, hx472_0⟩ := Kd.at_int HR1.out x13_1 p472 q472
 cases e472
 replace p472 := eq_true p472
 replace q472 := eq_true q472
 go_wp2
 repeat (go_quiet (fail); try go_wp2)
 go_roundg k1
 case measure => have := HK1.out; omega
 case rel => exact ⟨(wrap64 (x13_1 + 1)), vX, H', ⟨by have := HK1.out; omega⟩, by repeat (first | exact Drawn0.refl _ | apply Drawn0.step)⟩
 }
 {
 rw [if_neg c8] at H
 have c8b0 : ((rd l0 x13_1) == (rd l1 x13_1)) = false := beq_eq_false_iff_ne.mpr c8
 have c8b1 : ((rd l0 x13_1) != (rd l1 x13_1)) = true := bne_iff_ne.mpr c8
 obtain rfl := Option.some.inj H
 have p471 : 0 ≤ (x13_1 : Int) := dX
 have q471 : x13_1 < (l0.length : Int) := dX
 obtain ⟨ad471, e471, hx471_0⟩ := Kd.at_int HR0.out x13_1 p471 q471
 cases e471
 replace p471 := eq_true p471
 replace q471 := eq_true q471
 have p472 : 0 ≤ (x13_1 : Int) := dX
 have q472 : x13_1 < (l1.length : Int) := dX
 obtain ⟨ad472, e472, hx472_0⟩ := Kd.at_int HR1.out x13_1 p472 q472
 cases e472
 replace p472 := eq_true p472
 replace q472 := eq_true q472
 go_wp2
 repeat (go_quiet (fail); try go_wp2)
 go_ret
 exact ⟨by first | rfl | (simp; done) | (simp [*]; done), by repeat (first | exact Drawn0.refl _ | apply Drawn0.step)⟩
 }
 }
 {
 rw [if_neg c7] at H
 exact absurd H (by simp)
 }
 }
 {
 rw [if_neg c6] at H
 exact absurd H (by simp)
 }
 }
 {
 rw [if_neg c5] at H
 exact absurd H (by simp)
 }
 }
 {
 rw [if_neg c4] at H
 have c4b0 : decide (x13_1 < (l0.length : Int)) = false := decide_eq_false c4
 clear c4
 obtain rfl := Option.some.inj H
 go_wp2
 repeat (go_quiet (fail); try go_wp2)
 go_ret
 exact ⟨by first | rfl | (simp; done) | (simp [*]; done), by repeat (first | exact Drawn0.refl _ | apply Drawn0.step)⟩
 }
 }
 {
 rw [if_neg c3] at H
 have c3b0 : ((l0.length : Int) == (l1.length : Int)) = false := beq_eq_false_iff_ne.mpr c3
 have c3b1 : ((l0.length : Int) != (l1.length : Int)) = true := bne_iff_ne.mpr c3
 have c3b2 : (l0.length == l1.length) = false := by first | simpa using c3 | (simp at c3 ⊢; omega)
 obtain rfl := Option.some.inj H
 go_enter Tryz.func116, Tryz.ntmps116
 go_wp2
 repeat (go_quiet (fail); try go_wp2)
 go_ret
 exact ⟨by first | rfl | (simp; done) | (simp [*]; done), by repeat (first | exact Drawn0.refl _ | apply Drawn0.step)⟩
 }

/-! ### impl_SameList: function 85 -/
def impl_SameList.f (k : Nat) (l0 : List Int) (l1 : List Int) : Option (Bool) := (slices_Equal_int_int.f k l0 l1).bind fun t473 => (some t473)
set_option maxHeartbeats 8000000 in
set_option maxRecDepth 100000 in
theorem impl_SameList.calls (k : Nat) (A0 : Option Addr) (c0 : Nat) (l0 : List Int) (A1 : Option Addr) (c1 : Nat) (l1 : List Int) (r : Bool) (w : World) (hr0 : Kd.C (Kd.int .i64) w A0 l0.length l0) (hc0 : l0.length ≤ c0) (hr1 : Kd.C (Kd.int .i64) w A1 l1.length l1) (hc1 : l1.length ≤ c1) (h : impl_SameList.f k l0 l1 = some r) :
  Calls Tryz.prog 85 #[.slice A0 l0.length c0, .slice A1 l1.length c1] w fun e w' => e = .returned (.bool r) ∧ Drawn0 w w' := by
 have HR0 := Aside0.mk hr0
 have HC0 := Aside0.mk hc0
 clear hr0 hc0
 have HR1 := Aside0.mk hr1
 have HC1 := Aside0.mk hc1
 clear hr1 hc1
 have H : ((slices_Equal_int_int.f k l0 l1).bind fun t473 => (some t473)) = some r := h
 clear h
 replace H := Option.bind_eq_some_iff.mp H
 obtain ⟨t473, A30, H⟩ := H
 replace H : (some t473) = some r := H
 have A3 := Aside0.mk A30
 clear A30
 obtain rfl := Option.some.inj H
 go_enter Tryz.func85, Tryz.ntmps85
 go_wp2_with (first | ((with_reducible refine gate_callee (f := 116) rfl ?_); refine goesL_ (some 7) rfl rfl Tryz.func116 (by kernel_rfl) rfl #[.slice A0 l0.length c0, .slice A1 l1.length c1] rfl (by (try simp only [List.map_toArray, List.map_cons, List.map_nil]); first | done | rfl | (simp only [List.length_drop, List.length_take]; rfl)) ?_; (with_reducible refine (slices_Equal_int_int.calls k _ _ l0 _ _ l1 t473 _ ?side1 ?side2 ?side3 ?side4 A3.out).mono ?_); (case side1 => exact cX HR0.out); (case side2 => exact HC0.out); (case side3 => exact cX HR1.out); (case side4 => exact HC1.out); rintro e w' ⟨rfl, ⟨nd, rfl⟩⟩; refine ⟨_, rfl, ?_⟩))
 go_ret
 exact ⟨by first | rfl | (simp; done) | (simp [*]; done), by repeat (first | exact Drawn0.refl _ | apply Drawn0.step)⟩

/-! ### impl_SameSurface: function 46 -/
def impl_SameSurface.f (k : Nat) (l0_0 : List Int) (l0_1 : List Int) (l1_0 : List Int) (l1_1 : List Int) : Option (Bool) := (impl_SameList.f k l0_0 l1_0).bind fun t476 => (if t476 = true then ((impl_SameList.f k l0_1 l1_1).bind fun t477 => (some t477)) else (some false))
set_option maxHeartbeats 8000000 in
set_option maxRecDepth 100000 in
theorem impl_SameSurface.calls (k : Nat) (A0_0 : Option Addr) (c0_0 : Nat) (l0_0 : List Int) (A0_1 : Option Addr) (c0_1 : Nat) (l0_1 : List Int) (A1_0 : Option Addr) (c1_0 : Nat) (l1_0 : List Int) (A1_1 : Option Addr) (c1_1 : Nat) (l1_1 : List Int) (r : Bool) (w : World) (hr0_0 : Kd.C (Kd.int .i64) w A0_0 l0_0.length l0_0) (hc0_0 : l0_0.length ≤ c0_0) (hr0_1 : Kd.C (Kd.int .i64) w A0_1 l0_1.length l0_1) (hc0_1 : l0_1.length ≤ c0_1) (hr1_0 : Kd.C (Kd.int .i64) w A1_0 l1_0.length l1_0) (hc1_0 : l1_0.length ≤ c1_0) (hr1_1 : Kd.C (Kd.int .i64) w A1_1 l1_1.length l1_1) (hc1_1 : l1_1.length ≤ c1_1) (h : impl_SameSurface.f k l0_0 l0_1 l1_0 l1_1 = some r) :
  Calls Tryz.prog 46 #[.agg #[.slice A0_0 l0_0.length c0_0, .slice A0_1 l0_1.length c0_1], .agg #[.slice A1_0 l1_0.length c1_0, .slice A1_1 l1_1.length c1_1]] w fun e w' => e = .returned (.bool r) ∧ Below w.heap.size w w' := by
 have hu25 := Tryz.underlying25
 have HR0_0 := Aside0.mk hr0_0
 have HC0_0 := Aside0.mk hc0_0
 clear hr0_0 hc0_0
 have HR0_1 := Aside0.mk hr0_1
 have HC0_1 := Aside0.mk hc0_1
 clear hr0_1 hc0_1
 have HR1_0 := Aside0.mk hr1_0
 have HC1_0 := Aside0.mk hc1_0
 clear hr1_0 hc1_0
 have HR1_1 := Aside0.mk hr1_1
 have HC1_1 := Aside0.mk hc1_1
 clear hr1_1 hc1_1
 have HB := Aside0.mk (Below.refl w.heap.size w)
 have H : ((impl_SameList.f k l0_0 l1_0).bind fun t476 => (if t476 = true then ((impl_SameList.f k l0_1 l1_1).bind fun t477 => (some t477)) else (some false))) = some r := h
 clear h
 replace H := Option.bind_eq_some_iff.mp H
 obtain ⟨t476, A30, H⟩ := H
 replace H : (if t476 = true then ((impl_SameList.f k l0_1 l1_1).bind fun t477 => (some t477)) else (some false)) = some r := H
 have A3 := Aside0.mk A30
 clear A30
 by_cases c4 : t476 = true
 {
 subst c4
 have H1 : ((impl_SameList.f k l0_1 l1_1).bind fun t477 => (some t477)) = some r := by rw [if_pos rfl] at H; exact H
 clear H
 have H := H1
 clear H1
 replace H := Option.bind_eq_some_iff.mp H
 obtain ⟨t477, A50, H⟩ := H
 replace H : (some t477) = some r := H
 have A5 := Aside0.mk A50
 clear A50
 obtain rfl := Option.some.inj H
 go_enter Tryz.func46, Tryz.ntmps46
 go_wp2_with (first | ((with_reducible refine gate_dst (N := 2) rfl ?_); refine box_event ?hg (N := 2) ?hd (cs := #[.slice A0_0 l0_0.length c0_0, .slice A0_1 l0_1.length c0_1]) (t := 25) ?hr ?_; (case hd => rfl); (case hg => rfl); (case hr => first | (go_simp; done) | (go_simp; rfl)); intro gb474 hg w6 hbox hb; have n0_ := Aside0.mk (below_step (bX HB.out) hb); have n1_ := Aside0.mk (hbox); have n2_ := Aside0.mk ((szX (below_size (bX HB.out)) hg : w.heap.size ≤ gb474)); have n3_ := Aside0.mk ((szX (below_size (bX HB.out)) hg : w.heap.size ≤ gb474)); clear HB; have HB := n0_; have BK474 := n1_; have GW474 := n2_; have GE474 := n3_; clear n0_ n1_ n2_ n3_ hb hbox hg) | ((with_reducible refine gate_dst (N := 3) rfl ?_); refine box_event ?hg (N := 3) ?hd (cs := #[.slice A1_0 l1_0.length c1_0, .slice A1_1 l1_1.length c1_1]) (t := 25) ?hr ?_; (case hd => rfl); (case hg => rfl); (case hr => first | (go_simp; done) | (go_simp; rfl)); intro gb475 hg w7 hbox hb; have n0_ := Aside0.mk (bbX BK474.out hb); have n1_ := Aside0.mk (below_step (bX1 HB.out GE474.out) hb); have n2_ := Aside0.mk (hbox); have n3_ := Aside0.mk ((szX (below_size (bX1 HB.out GE474.out)) hg : w.heap.size ≤ gb475)); have n4_ := Aside0.mk ((szX (below_size (bX1 HB.out GE474.out)) hg : w.heap.size ≤ gb475)); have n5_ := Aside0.mk (neX BK474.out hg); have n6_ := Aside0.mk (nfX BK474.out hg); clear BK474 HB; have BK474 := n0_; have HB := n1_; have BK475 := n2_; have GW475 := n3_; have GE475 := n4_; have NB474_475 := n5_; have NB475_474 := n6_; clear n0_ n1_ n2_ n3_ n4_ n5_ n6_ hb hbox hg; have hnb8 := NB474_475.out; have hnc8 := NB475_474.out; have hcz9_0 := cz20 BK474.out; have hcz9_1 := cz21 BK474.out; have hfz9_0 := blk_frozen BK474.out 0; have hfz9_1 := blk_frozen BK474.out 1; have hcz10_0 : w7.cell? ⟨gb475, 0, none⟩ = some (.slice A1_0 l1_0.length c1_0) := (blk_cell BK475.out 0).trans rfl; have hcz10_1 : w7.cell? ⟨gb475, 1, none⟩ = some (.slice A1_1 l1_1.length c1_1) := (blk_cell BK475.out 1).trans rfl; have hfz10_0 := blk_frozen BK475.out 0; have hfz10_1 := blk_frozen BK475.out 1) | ((with_reducible refine gate_callee (f := 85) rfl ?_); refine goesL_ (some 9) rfl rfl Tryz.func85 (by kernel_rfl) rfl #[.slice A0_0 l0_0.length c0_0, .slice A1_0 l1_0.length c1_0] rfl aX ?_; (with_reducible refine (impl_SameList.calls k _ _ l0_0 _ _ l1_0 true _ ?side1 ?side2 ?side3 ?side4 A3.out).mono ?_); (case side1 => exact cX (Kd.C_below HR0_0.out HB.out)); (case side2 => exact HC0_0.out); (case side3 => exact cX (Kd.C_below HR1_0.out HB.out)); (case side4 => exact HC1_0.out); rintro e w' ⟨rfl, ⟨nd, rfl⟩⟩; refine ⟨_, rfl, ?_⟩) | (go_at_call 85; (with_reducible refine (impl_SameList.calls k _ _ l0_1 _ _ l1_1 t477 _ ?side1 ?side2 ?side3 ?side4 A5.out).mono ?_); (case side1 => exact cX (Kd.C_below HR0_1.out (bX2 HB.out GE474.out GE475.out))); (case side2 => exact HC0_1.out); (case side3 => exact cX (Kd.C_below HR1_1.out (bX2 HB.out GE474.out GE475.out))); (case side4 => exact HC1_1.out); rintro e w' ⟨rfl, ⟨nd, rfl⟩⟩))
 go_ret
 exact ⟨eX, bX2 HB.out GE474.out GE475.out⟩
 }
 {
 replace c4 := Bool.eq_false_iff.mpr c4
 subst c4
 have H1 : (some false) = some r := by rw [if_neg (show ¬ (false = true) by decide)] at H; exact H
 clear H
 have H := H1
 clear H1
 obtain rfl := Option.some.inj H
 go_enter Tryz.func46, Tryz.ntmps46
 go_wp2_with (first | ((with_reducible refine gate_dst (N := 2) rfl ?_); refine box_event ?hg (N := 2) ?hd (cs := #[.slice A0_0 l0_0.length c0_0, .slice A0_1 l0_1.length c0_1]) (t := 25) ?hr ?_; (case hd => rfl); (case hg => rfl); (case hr => first | (go_simp; done) | (go_simp; rfl)); intro gb474 hg w11 hbox hb; have n0_ := Aside0.mk (below_step (bX HB.out) hb); have n1_ := Aside0.mk (hbox); have n2_ := Aside0.mk ((szX (below_size (bX HB.out)) hg : w.heap.size ≤ gb474)); have n3_ := Aside0.mk ((szX (below_size (bX HB.out)) hg : w.heap.size ≤ gb474)); clear HB; have HB := n0_; have BK474 := n1_; have GW474 := n2_; have GE474 := n3_; clear n0_ n1_ n2_ n3_ hb hbox hg) | ((with_reducible refine gate_dst (N := 3) rfl ?_); refine box_event ?hg (N := 3) ?hd (cs := #[.slice A1_0 l1_0.length c1_0, .slice A1_1 l1_1.length c1_1]) (t := 25) ?hr ?_; (case hd => rfl); (case hg => rfl); (case hr => first | (go_simp; done) | (go_simp; rfl)); intro gb475 hg w12 hbox hb; have n0_ := Aside0.mk (bbX BK474.out hb); have n1_ := Aside0.mk (below_step (bX1 HB.out GE474.out) hb); have n2_ := Aside0.mk (hbox); have n3_ := Aside0.mk ((szX (below_size (bX1 HB.out GE474.out)) hg : w.heap.size ≤ gb475)); have n4_ := Aside0.mk ((szX (below_size (bX1 HB.out GE474.out)) hg : w.heap.size ≤ gb475)); have n5_ := Aside0.mk (neX BK474.out hg); have n6_ := Aside0.mk (nfX BK474.out hg); clear BK474 HB; have BK474 := n0_; have HB := n1_; have BK475 := n2_; have GW475 := n3_; have GE475 := n4_; have NB474_475 := n5_; have NB475_474 := n6_; clear n0_ n1_ n2_ n3_ n4_ n5_ n6_ hb hbox hg; have hnb13 := NB474_475.out; have hnc13 := NB475_474.out; have hcz14_0 := cz20 BK474.out; have hcz14_1 := cz21 BK474.out; have hfz14_0 := blk_frozen BK474.out 0; have hfz14_1 := blk_frozen BK474.out 1; have hcz15_0 : w12.cell? ⟨gb475, 0, none⟩ = some (.slice A1_0 l1_0.length c1_0) := (blk_cell BK475.out 0).trans rfl; have hcz15_1 : w12.cell? ⟨gb475, 1, none⟩ = some (.slice A1_1 l1_1.length c1_1) := (blk_cell BK475.out 1).trans rfl; have hfz15_0 := blk_frozen BK475.out 0; have hfz15_1 := blk_frozen BK475.out 1) | ((with_reducible refine gate_callee (f := 85) rfl ?_); refine goesL_ (some 9) rfl rfl Tryz.func85 (by kernel_rfl) rfl #[.slice A0_0 l0_0.length c0_0, .slice A1_0 l1_0.length c1_0] rfl aX ?_; (with_reducible refine (impl_SameList.calls k _ _ l0_0 _ _ l1_0 false _ ?side1 ?side2 ?side3 ?side4 A3.out).mono ?_); (case side1 => exact cX (Kd.C_below HR0_0.out HB.out)); (case side2 => exact HC0_0.out); (case side3 => exact cX (Kd.C_below HR1_0.out HB.out)); (case side4 => exact HC1_0.out); rintro e w' ⟨rfl, ⟨nd, rfl⟩⟩; refine ⟨_, rfl, ?_⟩))
 go_ret
 exact ⟨eX, bX2 HB.out GE474.out GE475.out⟩
 }

/-! ### impl_CountSymmetries: function 13 -/
/-! by hand -/
def symGo (k : Nat) (x y : List Int) : List S25 → Int → Option Int
  | [], n => some n
  | s :: l, n => (impl_SameSurface.f k s.f0 s.f1 x y).bind fun b => symGo k x y l (if b = true then wrap64 (n + 1) else n)
def impl_CountSymmetries.f (k : Nat) (l0_0 l0_1 : List Int) : Option Int := (impl_CanonOf.f k l0_0 l0_1).bind fun c => (impl_namedFrom.f k l0_0 l0_1).bind fun l => if l.length ≤ 1000 then symGo k c.1 c.2.1 l 0 else none
set_option maxHeartbeats 8000000 in
set_option maxRecDepth 100000 in
theorem impl_CountSymmetries.calls (k : Nat) (A0_0 : Option Addr) (c0_0 : Nat) (l0_0 : List Int) (A0_1 : Option Addr) (c0_1 : Nat) (l0_1 : List Int) (r : Int) (w : World) (hr0_0 : Kd.C (Kd.int .i64) w A0_0 l0_0.length l0_0) (hc0_0 : l0_0.length ≤ c0_0) (hr0_1 : Kd.C (Kd.int .i64) w A0_1 l0_1.length l0_1) (hc0_1 : l0_1.length ≤ c0_1) (h : impl_CountSymmetries.f k l0_0 l0_1 = some r) :
    Calls Tryz.prog 13 #[.agg #[.slice A0_0 l0_0.length c0_0, .slice A0_1 l0_1.length c0_1]] w fun e w' => e = .returned (.int .i64 r) ∧ Below w.heap.size w w' := by
  have hu := Tryz.underlying25
  have HS : Aside0 (SurfC w A0_0 A0_1 c0_0 c0_1 l0_0 l0_1) := ⟨⟨hc0_0, hr0_0, hc0_1, hr0_1⟩⟩
  clear hr0_0 hc0_0 hr0_1 hc0_1
  unfold impl_CountSymmetries.f at h
  obtain ⟨⟨q1, q2, q3⟩, hq, h⟩ := Option.bind_eq_some_iff.mp h
  obtain ⟨l, hl, h⟩ := Option.bind_eq_some_iff.mp h
  have HQ := Aside0.mk hq
  have HL := Aside0.mk hl
  clear hq hl
  by_cases hbig : l.length ≤ 1000
  · rw [if_pos hbig] at h
    have HA := Aside0.mk h
    have HG := Aside0.mk hbig
    clear h hbig
    have HQ2 : Aside0 (∀ (W : World), Below w.heap.size w W → Calls Tryz.prog 45 #[.agg #[.slice A0_0 l0_0.length c0_0, .slice A0_1 l0_1.length c0_1]] W fun e w' => ∃ A c, e = .returned (.slice A l.length c) ∧ l.length ≤ c ∧ (Kd.F k25 w' (fun k => W.heap.size ≤ k) A l.length l ∧ ∀ a, A = some a → W.heap.size ≤ a.block ∧ a.block < w'.heap.size) ∧ Below W.heap.size W w') := ⟨fun W hW => by
      refine (impl_namedFrom.calls k _ _ l0_0 _ _ l0_1 l W (HS.out.below hW).g0 HS.out.l0 (HS.out.below hW).g1 HS.out.l1 HL.out).mono ?_
      rintro e w' ⟨v, rfl, hv, hb⟩
      obtain ⟨A, c, rfl, hc, hC⟩ := S_sliceC hv
      exact ⟨A, c, rfl, hc, hC, hb⟩⟩
    go_enter Tryz.func13, Tryz.ntmps13
    go_wp2_with (first
      | ((with_reducible refine gate_dst (N := 1) rfl ?_); refine box_event ?hg (N := 1) ?hd (cs := #[.slice A0_0 l0_0.length c0_0, .slice A0_1 l0_1.length c0_1]) (t := 25) ?hr ?_; (case hd => rfl); (case hg => rfl); (case hr => first | (go_simp; done) | (go_simp; rfl)); intro gb1 hg1 w1 hbox1 hb1; have BK1 := Aside0.mk hbox1; have HB1 := Aside0.mk hb1; have HG1 := Aside0.mk hg1; have hc10 : w1.cell? ⟨gb1, 0, none⟩ = some (.slice A0_0 l0_0.length c0_0) := (blk_cell BK1.out 0).trans rfl; have hc11 : w1.cell? ⟨gb1, 1, none⟩ = some (.slice A0_1 l0_1.length c0_1) := (blk_cell BK1.out 1).trans rfl; clear hbox1 hb1 hg1)
      | (go_at_call 44; (refine (impl_CanonOf.calls k _ _ l0_0 _ _ l0_1 q1 q2 q3 w1 (HS.out.below HB1.out) HQ.out).mono ?_); rintro e w2 ⟨B0, b0, B1, b1, rfl, hS, hb⟩; have HB2 := Aside0.mk (below_step HB1.out hb); have BK2 := Aside0.mk (blk_below BK1.out hb); have HS2 := Aside0.mk hS; clear hc10 hc11 hb hS BK1 HB1)
      | ((with_reducible refine gate_dst (N := 3) rfl ?_); refine box_event ?hg (N := 3) ?hd (cs := #[.slice none 0 0, .slice none 0 0]) (t := 25) ?hr ?_; (case hd => rfl); (case hg => rfl); (case hr => first | (go_simp; done) | (go_simp; rfl)); intro gb3 hg3 w3 hbox3 hb3; have BK3 := Aside0.mk hbox3; have HB3 := Aside0.mk (below_step HB2.out hb3); have HG3 := Aside0.mk (show w.heap.size ≤ gb3 by rw [hg3]; exact below_size HB2.out); have BK23 := Aside0.mk (blk_below BK2.out hb3); have HNE := Aside0.mk (show gb1 ≠ gb3 by have := blk_lt BK2.out; omega); have HG23 := Aside0.mk (show w2.heap.size ≤ gb3 by omega); have HB23 := Aside0.mk hb3; clear hbox3 hb3 hg3 BK2 HB2)
      | (refine wpList_store_row rfl 25 (.tmp 3) (.tmp 11) rfl gb3 #[.slice B0 q1.length b0, .slice B1 q2.length b1] rfl rfl 25 #[.slice none 0 0, .slice none 0 0] BK3.out (by kernel_rfl) rfl (by simp [Value.oneCell']) ?_; have BK13 := Aside0.mk ((setRow_other w3 gb3 gb1 #[.slice B0 q1.length b0, .slice B1 q2.length b1] HNE.out).trans BK23.out); have HB4 := Aside0.mk (below_setRow HB3.out HG3.out #[.slice B0 q1.length b0, .slice B1 q2.length b1]); have HC3 := Aside0.mk (setRow_heap w3 gb3 _ #[.slice B0 q1.length b0, .slice B1 q2.length b1] _ _ BK3.out); have HS4 := Aside0.mk (HS2.out.below (below_setRow HB23.out HG23.out #[.slice B0 q1.length b0, .slice B1 q2.length b1])); have hc10 : (w3.setRow gb3 #[.slice B0 q1.length b0, .slice B1 q2.length b1]).cell? ⟨gb1, 0, none⟩ = some (.slice A0_0 l0_0.length c0_0) := (blk_cell BK13.out 0).trans rfl; have hc11 : (w3.setRow gb3 #[.slice B0 q1.length b0, .slice B1 q2.length b1]).cell? ⟨gb1, 1, none⟩ = some (.slice A0_1 l0_1.length c0_1) := (blk_cell BK13.out 1).trans rfl)
      | (go_at_call 45; (refine (HQ2.out _ HB4.out).mono ?_); rintro e w5 ⟨A, c, rfl, hc, hC, hb⟩; have HB5 := Aside0.mk (below_step HB4.out hb); have HC5 := Aside0.mk (blk_below HC3.out hb); have HS5 := Aside0.mk (HS4.out.below hb); have HF := Aside0.mk hC; clear hc10 hc11 hb hc hC HB4 HC3 HS4))
    go_loopg [5, 16] (l.length + 1) (fun kq v5 v16 w' => ∃ (n i : Int), v5 = .int .i64 n ∧ v16 = .int .i64 i ∧ Aside0 (0 ≤ i ∧ i ≤ l.length ∧ (kq : Int) + i = l.length + 1) ∧ Aside0 (symGo k q1 q2 (l.drop i.toNat) n = some r) ∧ Aside0 (w'.heap[gb3]? = some (.cells #[.slice B0 q1.length b0, .slice B1 q2.length b1] 25 (0, 0))) ∧ Aside0 (SurfC w' B0 B1 b0 b1 q1 q2) ∧ Aside0 (Below w5.heap.size w5 w') ∧ Aside0 (Below w.heap.size w w'))
    case atStart => exact ⟨0, 0, rfl, rfl, ⟨by omega⟩, HA, HC5, HS5, ⟨Below.refl _ _⟩, HB5⟩
    case round =>
      clear HA HC5 HS5 HB5
      obtain ⟨n, i, rfl, rfl, HI, HA, HC5, HS5, HW, HB⟩ := hrel
      obtain ⟨hi0, hi1, hik⟩ := HI.out
      clear HI
      obtain ⟨k1, rfl⟩ : ∃ q, gk = q + 1 := ⟨gk - 1, by omega⟩
      have HK := Aside0.mk hik
      clear hik
      by_cases hlt : i < (l.length : Int)
      · have c1 : decide (i < (l.length : Int)) = true := decide_eq_true hlt
        obtain ⟨ad2, C0, d0, C1, d1, e2, hy0, hy1, gy⟩ := surf_elem HF.out.1 HF.out.2 i hi0 hlt
        cases e2
        have GY := Aside0.mk gy
        clear gy
        replace hy0 := (HW.out.cell (World.block_lt_of_cell? w5 _ hy0)).trans hy0
        replace hy1 := (HW.out.cell (World.block_lt_of_cell? w5 _ hy1)).trans hy1
        have HY0 := Aside0.mk hy0
        have HY1 := Aside0.mk hy1
        have hdrop : l.drop i.toNat = rd_T25 l i :: l.drop (i + 1).toNat := by
          have h1 : i.toNat < l.length := by omega
          rw [show (i + 1).toNat = i.toNat + 1 by omega, List.drop_eq_getElem_cons h1]
          simp [rd_T25, List.getD, h1]
        have hgo := HA.out
        rw [hdrop, symGo] at hgo
        clear HA hdrop
        generalize rd_T25 l i = x at *
        obtain ⟨b, hb, hgo⟩ := Option.bind_eq_some_iff.mp hgo
        have HCC := Aside0.mk hb
        have HGO := Aside0.mk hgo
        clear hb hgo
        have p0 : decide (0 ≤ i) = true := decide_eq_true hi0
        have HW1 := Aside0.mk (show wrap64 (i + 1) = i + 1 from by have := HG.out; unfold wrap64; omega)
        have HI0 := Aside0.mk hi0
        have HI1 := Aside0.mk hlt
        replace hi0 := eq_true hi0
        replace hlt := eq_true hlt
        clear hi1
        have box7 : ∀ (W : World), Below wr.heap.size wr W → ∀ gb7, gb7 = W.heap.size → ∀ w7 : World, w7.heap[gb7]? = some (.cells #[.slice none 0 0, .slice none 0 0] 25 (0, 0)) → Below W.heap.size W w7 → True := fun _ _ _ _ _ _ _ => trivial
        clear box7
        cases b with
        | true =>
          go_wp2_with (first
            | ((with_reducible refine gate_dst (N := 7) rfl ?_); refine box_event ?hg (N := 7) ?hd (cs := #[.slice none 0 0, .slice none 0 0]) (t := 25) ?hr ?_; (case hd => rfl); (case hg => rfl); (case hr => first | (go_simp; done) | (go_simp; rfl)); intro gb7 hg7 w7 hbox7 hb7; have BK7 := Aside0.mk hbox7; have HB7 := Aside0.mk hb7; have HG7 := Aside0.mk (show wr.heap.size ≤ gb7 by omega); have HNE7 := Aside0.mk (show gb3 ≠ gb7 by have := blk_lt HC5.out; omega); clear hbox7 hb7 hg7; have hy0 := (HB7.out.cell (World.block_lt_of_cell? wr _ HY0.out)).trans HY0.out; have hy1 := (HB7.out.cell (World.block_lt_of_cell? wr _ HY1.out)).trans HY1.out)
            | (refine wpList_store_row rfl 25 (.tmp 7) (.tmp 19) rfl gb7 #[.slice C0 x.f0.length d0, .slice C1 x.f1.length d1] rfl rfl 25 #[.slice none 0 0, .slice none 0 0] BK7.out (by kernel_rfl) rfl (by simp [Value.oneCell']) ?_; have HC7 := Aside0.mk (setRow_heap w7 gb7 _ #[.slice C0 x.f0.length d0, .slice C1 x.f1.length d1] _ _ BK7.out); have HC6 := Aside0.mk ((setRow_other w7 gb7 gb3 #[.slice C0 x.f0.length d0, .slice C1 x.f1.length d1] HNE7.out).trans (blk_below HC5.out HB7.out)); have HB6 := Aside0.mk (below_setRow HB7.out HG7.out #[.slice C0 x.f0.length d0, .slice C1 x.f1.length d1]); have hz0 : (w7.setRow gb7 #[.slice C0 x.f0.length d0, .slice C1 x.f1.length d1]).cell? ⟨gb7, 0, none⟩ = some (.slice C0 x.f0.length d0) := (blk_cell HC7.out 0).trans rfl; have hz1 : (w7.setRow gb7 #[.slice C0 x.f0.length d0, .slice C1 x.f1.length d1]).cell? ⟨gb7, 1, none⟩ = some (.slice C1 x.f1.length d1) := (blk_cell HC7.out 1).trans rfl; have hv0 : (w7.setRow gb7 #[.slice C0 x.f0.length d0, .slice C1 x.f1.length d1]).cell? ⟨gb3, 0, none⟩ = some (.slice B0 q1.length b0) := (blk_cell HC6.out 0).trans rfl; have hv1 : (w7.setRow gb7 #[.slice C0 x.f0.length d0, .slice C1 x.f1.length d1]).cell? ⟨gb3, 1, none⟩ = some (.slice B1 q2.length b1) := (blk_cell HC6.out 1).trans rfl; have HSQ := Aside0.mk (HS5.out.below HB6.out); have HGX := Aside0.mk (GY.out.below (below_then HW.out HW.out.size HB6.out)))
            | (go_at_call 46; (refine (impl_SameSurface.calls k C0 d0 x.f0 C1 d1 x.f1 B0 b0 q1 B1 b1 q2 true _ HGX.out.g0 HGX.out.l0 HGX.out.g1 HGX.out.l1 HSQ.out.g0 HSQ.out.l0 HSQ.out.g1 HSQ.out.l1 HCC.out).mono ?_); rintro e w8 ⟨rfl, hb⟩; have HC8 := Aside0.mk (blk_below HC6.out hb); have HS8 := Aside0.mk (HSQ.out.below hb); have HW8 := Aside0.mk (below_step (below_then HW.out HW.out.size HB6.out) hb); have HB8 := Aside0.mk (below_step (below_then HB.out HB.out.size HB6.out) hb); clear hz0 hz1 hv0 hv1 hb))
          go_roundg k1
          case measure => have := HK.out; omega
          case rel => exact ⟨wrap64 (n + 1), i + 1, by simp [i64_w], by rw [HW1.out], ⟨by have := HK.out; have := HI1.out; have := HI0.out; omega⟩, ⟨by have := HGO.out; simpa using this⟩, HC8, HS8, HW8, HB8⟩
        | false =>
          go_wp2_with (first
            | ((with_reducible refine gate_dst (N := 7) rfl ?_); refine box_event ?hg (N := 7) ?hd (cs := #[.slice none 0 0, .slice none 0 0]) (t := 25) ?hr ?_; (case hd => rfl); (case hg => rfl); (case hr => first | (go_simp; done) | (go_simp; rfl)); intro gb7 hg7 w7 hbox7 hb7; have BK7 := Aside0.mk hbox7; have HB7 := Aside0.mk hb7; have HG7 := Aside0.mk (show wr.heap.size ≤ gb7 by omega); have HNE7 := Aside0.mk (show gb3 ≠ gb7 by have := blk_lt HC5.out; omega); clear hbox7 hb7 hg7; have hy0 := (HB7.out.cell (World.block_lt_of_cell? wr _ HY0.out)).trans HY0.out; have hy1 := (HB7.out.cell (World.block_lt_of_cell? wr _ HY1.out)).trans HY1.out)
            | (refine wpList_store_row rfl 25 (.tmp 7) (.tmp 19) rfl gb7 #[.slice C0 x.f0.length d0, .slice C1 x.f1.length d1] rfl rfl 25 #[.slice none 0 0, .slice none 0 0] BK7.out (by kernel_rfl) rfl (by simp [Value.oneCell']) ?_; have HC7 := Aside0.mk (setRow_heap w7 gb7 _ #[.slice C0 x.f0.length d0, .slice C1 x.f1.length d1] _ _ BK7.out); have HC6 := Aside0.mk ((setRow_other w7 gb7 gb3 #[.slice C0 x.f0.length d0, .slice C1 x.f1.length d1] HNE7.out).trans (blk_below HC5.out HB7.out)); have HB6 := Aside0.mk (below_setRow HB7.out HG7.out #[.slice C0 x.f0.length d0, .slice C1 x.f1.length d1]); have hz0 : (w7.setRow gb7 #[.slice C0 x.f0.length d0, .slice C1 x.f1.length d1]).cell? ⟨gb7, 0, none⟩ = some (.slice C0 x.f0.length d0) := (blk_cell HC7.out 0).trans rfl; have hz1 : (w7.setRow gb7 #[.slice C0 x.f0.length d0, .slice C1 x.f1.length d1]).cell? ⟨gb7, 1, none⟩ = some (.slice C1 x.f1.length d1) := (blk_cell HC7.out 1).trans rfl; have hv0 : (w7.setRow gb7 #[.slice C0 x.f0.length d0, .slice C1 x.f1.length d1]).cell? ⟨gb3, 0, none⟩ = some (.slice B0 q1.length b0) := (blk_cell HC6.out 0).trans rfl; have hv1 : (w7.setRow gb7 #[.slice C0 x.f0.length d0, .slice C1 x.f1.length d1]).cell? ⟨gb3, 1, none⟩ = some (.slice B1 q2.length b1) := (blk_cell HC6.out 1).trans rfl; have HSQ := Aside0.mk (HS5.out.below HB6.out); have HGX := Aside0.mk (GY.out.below (below_then HW.out HW.out.size HB6.out)))
            | (go_at_call 46; (refine (impl_SameSurface.calls k C0 d0 x.f0 C1 d1 x.f1 B0 b0 q1 B1 b1 q2 false _ HGX.out.g0 HGX.out.l0 HGX.out.g1 HGX.out.l1 HSQ.out.g0 HSQ.out.l0 HSQ.out.g1 HSQ.out.l1 HCC.out).mono ?_); rintro e w8 ⟨rfl, hb⟩; have HC8 := Aside0.mk (blk_below HC6.out hb); have HS8 := Aside0.mk (HSQ.out.below hb); have HW8 := Aside0.mk (below_step (below_then HW.out HW.out.size HB6.out) hb); have HB8 := Aside0.mk (below_step (below_then HB.out HB.out.size HB6.out) hb); clear hz0 hz1 hv0 hv1 hb))
          go_roundg k1
          case measure => have := HK.out; omega
          case rel => exact ⟨n, i + 1, rfl, by rw [HW1.out], ⟨by have := HK.out; have := HI1.out; have := HI0.out; omega⟩, ⟨by have := HGO.out; simpa using this⟩, HC8, HS8, HW8, HB8⟩
      · have hie : i = l.length := by omega
        have hr : n = r := by
          have h := HA.out
          rw [show l.drop i.toNat = [] from by rw [hie]; simp, symGo] at h
          exact Option.some.inj h
        subst hr
        have c1 : decide (i < (l.length : Int)) = false := decide_eq_false hlt
        clear hlt hie hi0 hi1
        go_wp2
        go_ret
        exact ⟨rfl, HB.out⟩
  · rw [if_neg hbig] at h
    exact absurd h (by simp)

/-! ### impl_GenusOf: function 33 -/
def impl_GenusOf.f (k : Nat) (l0_0 : List Int) (l0_1 : List Int) : Option (Int) := (impl_SurfaceOk.f k l0_0 l0_1).bind fun t479 => (if t479 = true then ((impl_CountSquares.f k l0_0 l0_1).bind fun t480 => ((impl_CornersOf.f k l0_0 l0_1).bind fun t481 => (some (wrap64 (1 + (wrap64 (Int.tdiv (wrap64 (t480 - (t481.length : Int))) 2))))))) else (some (-1)))
def impl_GenusOf.T3 : Bool × List (List Nat × List Nat) := (true, [([], []), ([0], [0]), ([], []), ([2, 1], [2]), ([3], [3]), ([1, 4], [1, 4]), ([5], [5]), ([6], [6]), ([7, 3, 0, 1, 2, 3, 4, 5, 6, 7], [7])])
def impl_GenusOf.B3 : List Nat := [0, 1, 0, 7, 15, 31, 63, 127, 255]
theorem impl_GenusOf.tab3 : rtab .any (opsOf Tryz.f33 3) = impl_GenusOf.T3 := by kernel_rfl
theorem impl_GenusOf.bits3 : waitsOk impl_GenusOf.T3.2 impl_GenusOf.B3 = true := by kernel_rfl
set_option maxHeartbeats 8000000 in
set_option maxRecDepth 100000 in
theorem impl_GenusOf.calls (k : Nat) (A0_0 : Option Addr) (c0_0 : Nat) (l0_0 : List Int) (A0_1 : Option Addr) (c0_1 : Nat) (l0_1 : List Int) (r : Int) (w : World) (hr0_0 : Kd.C (Kd.int .i64) w A0_0 l0_0.length l0_0) (hc0_0 : l0_0.length ≤ c0_0) (hr0_1 : Kd.C (Kd.int .i64) w A0_1 l0_1.length l0_1) (hc0_1 : l0_1.length ≤ c0_1) (h : impl_GenusOf.f k l0_0 l0_1 = some r) :
  Calls Tryz.prog 33 #[.agg #[.slice A0_0 l0_0.length c0_0, .slice A0_1 l0_1.length c0_1]] w fun e w' => e = .returned (.int .i64 r) ∧ Below w.heap.size w w' := by
 have hu25 := Tryz.underlying25
 have HR0_0 := Aside0.mk hr0_0
 have HC0_0 := Aside0.mk hc0_0
 clear hr0_0 hc0_0
 have HR0_1 := Aside0.mk hr0_1
 have HC0_1 := Aside0.mk hc0_1
 clear hr0_1 hc0_1
 have HB := Aside0.mk (Below.refl w.heap.size w)
 have H : ((impl_SurfaceOk.f k l0_0 l0_1).bind fun t479 => (if t479 = true then ((impl_CountSquares.f k l0_0 l0_1).bind fun t480 => ((impl_CornersOf.f k l0_0 l0_1).bind fun t481 => (some (wrap64 (1 + (wrap64 (Int.tdiv (wrap64 (t480 - (t481.length : Int))) 2))))))) else (some (-1)))) = some r := h
 clear h
 replace H := Option.bind_eq_some_iff.mp H
 obtain ⟨t479, A20, H⟩ := H
 replace H : (if t479 = true then ((impl_CountSquares.f k l0_0 l0_1).bind fun t480 => ((impl_CornersOf.f k l0_0 l0_1).bind fun t481 => (some (wrap64 (1 + (wrap64 (Int.tdiv (wrap64 (t480 - (t481.length : Int))) 2))))))) else (some (-1))) = some r := H
 have A2 := Aside0.mk A20
 clear A20
 by_cases c3 : t479 = true
 {
 subst c3
 have H1 : ((impl_CountSquares.f k l0_0 l0_1).bind fun t480 => ((impl_CornersOf.f k l0_0 l0_1).bind fun t481 => (some (wrap64 (1 + (wrap64 (Int.tdiv (wrap64 (t480 - (t481.length : Int))) 2))))))) = some r := by rw [if_pos rfl] at H; exact H
 clear H
 have H := H1
 clear H1
 replace H := Option.bind_eq_some_iff.mp H
 obtain ⟨t480, A40, H⟩ := H
 replace H : ((impl_CornersOf.f k l0_0 l0_1).bind fun t481 => (some (wrap64 (1 + (wrap64 (Int.tdiv (wrap64 (t480 - (t481.length : Int))) 2)))))) = some r := H
 have A4 := Aside0.mk A40
 clear A40
 replace H := Option.bind_eq_some_iff.mp H
 obtain ⟨t481, A50, H⟩ := H
 replace H : (some (wrap64 (1 + (wrap64 (Int.tdiv (wrap64 (t480 - (t481.length : Int))) 2))))) = some r := H
 have A5 := Aside0.mk A50
 clear A50
 obtain rfl := Option.some.inj H
 go_enter Tryz.func33, Tryz.ntmps33
 try go_wp2_with (first | ((with_reducible refine gate_dst (N := 1) rfl ?_); refine box_event ?hg (N := 1) ?hd (cs := #[.slice A0_0 l0_0.length c0_0, .slice A0_1 l0_1.length c0_1]) (t := 25) ?hr ?_; (case hd => rfl); (case hg => rfl); (case hr => first | (go_simp; done) | (go_simp; rfl)); intro gb478 hg w6 hbox hb; have n0_ := Aside0.mk (below_step (bX HB.out) hb); have n1_ := Aside0.mk (hbox); have n2_ := Aside0.mk ((szX (below_size (bX HB.out)) hg : w.heap.size ≤ gb478)); have n3_ := Aside0.mk ((szX (below_size (bX HB.out)) hg : w.heap.size ≤ gb478)); clear HB; have HB := n0_; have BK478 := n1_; have GW478 := n2_; have GE478 := n3_; clear n0_ n1_ n2_ n3_ hb hbox hg; have hcz7_0 := cz20 BK478.out; have hcz7_1 := cz21 BK478.out; have hfz7_0 := blk_frozen BK478.out 0; have hfz7_1 := blk_frozen BK478.out 1) | ((with_reducible refine gate_callee (f := 31) rfl ?_); refine goesL_ (some 4) rfl rfl Tryz.func31 (by kernel_rfl) rfl #[.agg #[.slice A0_0 l0_0.length c0_0, .slice A0_1 l0_1.length c0_1]] rfl aX ?_; (with_reducible refine (impl_SurfaceOk.calls k _ _ l0_0 _ _ l0_1 true _ ?side1 ?side2 ?side3 ?side4 A2.out).mono ?_); (case side1 => exact cX (Kd.C_below HR0_0.out HB.out)); (case side2 => exact HC0_0.out); (case side3 => exact cX (Kd.C_below HR0_1.out HB.out)); (case side4 => exact HC0_1.out); rintro e w8 ⟨rfl, hb⟩; refine ⟨_, rfl, ?_⟩; have n0_ := Aside0.mk (bbX BK478.out hb); have n1_ := Aside0.mk (below_step (bX1 HB.out GE478.out) hb); clear BK478 HB; have BK478 := n0_; have HB := n1_; clear n0_ n1_; (try clear hb); (try clear hb2); (try clear hk); (try clear hi)))
 have n0_ := Aside0.mk (blk_drew BK478.out)
 have n1_ := Aside0.mk (below_drew1 HB.out)
 clear BK478 HB
 have BK478 := n0_
 have HB := n1_
 clear n0_ n1_
 refine start_ (n := 9) (S := fun w' => w'.cell? ⟨gb478, 0, none⟩ = some (.slice A0_0 l0_0.length c0_0) ∧ w'.cell? ⟨gb478, 1, none⟩ = some (.slice A0_1 l0_1.length c0_1)) (ds := []) #[ff,ff,ff,ff,ff,ff,ff,ff,ff] (by kernel_rfl) rfl rfl ⟨cz20 BK478.out, cz21 BK478.out⟩ (fun hHeld => ?_); refine with_tabW impl_GenusOf.tab3 impl_GenusOf.bits3 (fun HT_ HW_ => ?_)
 generalize w8.drew = w9 at BK478 HB hHeld ⊢
 refine tX2 0 6 (fl 9 1) rfl rfl HT_.out HW_.out hHeld ?_
 refine tX2 2 8 (fl 9 5) rfl rfl HT_.out HW_.out hHeld ?_
 refine one_ (i := 1) (N := some 7) #[tt,tt,tt,ff,ff,ff,ff,ff,ff] rfl rfl (one_of HT_.out (by kernel_rfl)) (by decide) (fun K hK => ?_)
 refine goes_ Tryz.func32 (by kernel_rfl) rfl #[.agg #[.slice A0_0 l0_0.length c0_0, .slice A0_1 l0_1.length c0_1]] (by rfl) rfl rfl aX ?_
 with_reducible refine (impl_CountSquares.calls k _ _ l0_0 _ _ l0_1 t480 _ ?side1 ?side2 ?side3 ?side4 A4.out).mono ?_
 (case side1 => exact cX (Kd.C_below HR0_0.out HB.out))
 (case side2 => exact HC0_0.out)
 (case side3 => exact cX (Kd.C_below HR0_1.out HB.out))
 (case side4 => exact HC0_1.out)
 rintro e w10 ⟨rfl, hb⟩
 refine ⟨_, rfl, ?_⟩
 have n0_ := Aside0.mk (bbX BK478.out hb)
 have n1_ := Aside0.mk (below_step (bX1 HB.out GE478.out) hb)
 clear BK478 HB
 have BK478 := n0_
 have HB := n1_
 clear n0_ n1_
 (try clear hb)
 (try clear hb2)
 (try clear hk)
 (try clear hi)
 refine hK.out _ _ ⟨cz20 BK478.out, cz21 BK478.out⟩ (fun hHeld => ?_)
 clear hK K
 refine norm_ (a' := ?_) ?_ ?_
 rotate_left
 {
 show Act.put _ (some 7) _ = _
 simp only [Act.put, zA, zB, zC, i64_w, i32_w]
 rfl
 }
 refine one_ (i := 3) (N := some 9) #[tt,tt,tt,tt,ff,ff,ff,ff,ff] rfl rfl (one_of HT_.out (by kernel_rfl)) (by decide) (fun K hK => ?_)
 refine goes_ Tryz.func41 (by kernel_rfl) rfl #[.agg #[.slice A0_0 l0_0.length c0_0, .slice A0_1 l0_1.length c0_1]] (by rfl) rfl rfl aX ?_
 with_reducible refine (impl_CornersOf.calls k _ _ l0_0 _ _ l0_1 t481 _ ?side1 ?side2 ?side3 ?side4 A5.out).mono ?_
 (case side1 => exact cX (Kd.C_below HR0_0.out HB.out))
 (case side2 => exact HC0_0.out)
 (case side3 => exact cX (Kd.C_below HR0_1.out HB.out))
 (case side4 => exact HC0_1.out)
 rintro e w11 ⟨v482, rfl, ho0, hb⟩
 refine ⟨_, rfl, ?_⟩
 have n0_ := Aside0.mk (Kd.S_lower ho0 (below_size (bX1 HB.out GE478.out)))
 have n1_ := Aside0.mk (bbX BK478.out hb)
 have n2_ := Aside0.mk (below_step (bX1 HB.out GE478.out) hb)
 clear BK478 HB
 have HO483 := n0_
 have BK478 := n1_
 have HB := n2_
 clear n0_ n1_ n2_
 (try clear hb)
 (try clear hb2)
 (try clear hk)
 (try clear hi)
 (try clear ho0)
 obtain ⟨Ao12, co12, eo12⟩ := Kd.S_slice HO483.out
 (first | subst eo12 | (injection eo12 with f1_ f2_ f3_; have f4_ := f1_.symm; have f5_ := f3_.symm; clear f1_ f2_ f3_; subst f4_; subst f5_))
 refine hK.out _ _ ⟨cz20 BK478.out, cz21 BK478.out⟩ (fun hHeld => ?_)
 clear hK K
 refine norm_ (a' := ?_) ?_ ?_
 rotate_left
 {
 show Act.put _ (some 9) _ = _
 simp only [Act.put, zA, zB, zC, i64_w, i32_w]
 rfl
 }
 refine pX 4 10 (fl 9 31) rfl rfl HT_.out ?_
 refine pX 5 11 (fl 9 63) rfl rfl HT_.out ?_
 refine pX 6 12 (fl 9 127) rfl rfl HT_.out ?_
 refine pX 7 13 (fl 9 255) rfl rfl HT_.out ?_
 refine pX 8 2 (fl 9 511) rfl rfl HT_.out ?_
 refine done_ (done_of HT_.out (by kernel_rfl)) ?_
 try go_wp2
 go_ret
 exact ⟨eX, bX1 HB.out GE478.out⟩
 }
 {
 replace c3 := Bool.eq_false_iff.mpr c3
 subst c3
 have H1 : (some (-1)) = some r := by rw [if_neg (show ¬ (false = true) by decide)] at H; exact H
 clear H
 have H := H1
 clear H1
 obtain rfl := Option.some.inj H
 go_enter Tryz.func33, Tryz.ntmps33
 go_wp2_with (first | ((with_reducible refine gate_dst (N := 1) rfl ?_); refine box_event ?hg (N := 1) ?hd (cs := #[.slice A0_0 l0_0.length c0_0, .slice A0_1 l0_1.length c0_1]) (t := 25) ?hr ?_; (case hd => rfl); (case hg => rfl); (case hr => first | (go_simp; done) | (go_simp; rfl)); intro gb478 hg w13 hbox hb; have n0_ := Aside0.mk (below_step (bX HB.out) hb); have n1_ := Aside0.mk (hbox); have n2_ := Aside0.mk ((szX (below_size (bX HB.out)) hg : w.heap.size ≤ gb478)); have n3_ := Aside0.mk ((szX (below_size (bX HB.out)) hg : w.heap.size ≤ gb478)); clear HB; have HB := n0_; have BK478 := n1_; have GW478 := n2_; have GE478 := n3_; clear n0_ n1_ n2_ n3_ hb hbox hg; have hcz14_0 := cz20 BK478.out; have hcz14_1 := cz21 BK478.out; have hfz14_0 := blk_frozen BK478.out 0; have hfz14_1 := blk_frozen BK478.out 1) | ((with_reducible refine gate_callee (f := 31) rfl ?_); refine goesL_ (some 4) rfl rfl Tryz.func31 (by kernel_rfl) rfl #[.agg #[.slice A0_0 l0_0.length c0_0, .slice A0_1 l0_1.length c0_1]] rfl aX ?_; (with_reducible refine (impl_SurfaceOk.calls k _ _ l0_0 _ _ l0_1 false _ ?side1 ?side2 ?side3 ?side4 A2.out).mono ?_); (case side1 => exact cX (Kd.C_below HR0_0.out HB.out)); (case side2 => exact HC0_0.out); (case side3 => exact cX (Kd.C_below HR0_1.out HB.out)); (case side4 => exact HC0_1.out); rintro e w15 ⟨rfl, hb⟩; refine ⟨_, rfl, ?_⟩; have n0_ := Aside0.mk (bbX BK478.out hb); have n1_ := Aside0.mk (below_step (bX1 HB.out GE478.out) hb); clear BK478 HB; have BK478 := n0_; have HB := n1_; clear n0_ n1_; (try clear hb); (try clear hb2); (try clear hk); (try clear hi)))
 go_ret
 exact ⟨eX, bX1 HB.out GE478.out⟩
 }

/-! ### impl_StratumOf: function 34 -/
def impl_StratumOf.l0 : Nat → List Int → List Int → Int → Int → Option (List Int)
 | 0, _, _, _, _ => none
 | k + 1, x3, x8, x9, x10 => if x10 < x9 then (if 0 ≤ x10 then (if x10 < (x8.length : Int) then (if (rd x8 x10) > 1 then (if x3.length < 17592186044416 then (impl_StratumOf.l0 k (x3 ++ [wrap64 ((rd x8 x10) - 1)]) x8 x9 (wrap64 (x10 + 1))) else (none)) else (impl_StratumOf.l0 k x3 x8 x9 (wrap64 (x10 + 1)))) else (none)) else (none)) else (some x3)
def impl_StratumOf.f (k : Nat) (l0_0 : List Int) (l0_1 : List Int) : Option (List Int) := (impl_AnglesOf.f k l0_0 l0_1).bind fun t488 => (impl_StratumOf.l0 k (([] : List Int)) t488 (t488.length : Int) 0)
set_option maxHeartbeats 8000000 in
set_option maxRecDepth 100000 in
theorem impl_StratumOf.calls (k : Nat) (A0_0 : Option Addr) (c0_0 : Nat) (l0_0 : List Int) (A0_1 : Option Addr) (c0_1 : Nat) (l0_1 : List Int) (r : List Int) (w : World) (hr0_0 : Kd.C (Kd.int .i64) w A0_0 l0_0.length l0_0) (hc0_0 : l0_0.length ≤ c0_0) (hr0_1 : Kd.C (Kd.int .i64) w A0_1 l0_1.length l0_1) (hc0_1 : l0_1.length ≤ c0_1) (h : impl_StratumOf.f k l0_0 l0_1 = some r) :
  Calls Tryz.prog 34 #[.agg #[.slice A0_0 l0_0.length c0_0, .slice A0_1 l0_1.length c0_1]] w fun e w' => ∃ v0_ : Value, e = .returned (v0_) ∧ Kd.R (Kd.int .i64) 3 w' w.heap.size (fun _ => True) v0_ r ∧ Below w.heap.size w w' := by
 have hu25 := Tryz.underlying25
 have HR0_0 := Aside0.mk hr0_0
 have HC0_0 := Aside0.mk hc0_0
 clear hr0_0 hc0_0
 have HR0_1 := Aside0.mk hr0_1
 have HC0_1 := Aside0.mk hc0_1
 clear hr0_1 hc0_1
 have HB := Aside0.mk (Below.refl w.heap.size w)
 have H : ((impl_AnglesOf.f k l0_0 l0_1).bind fun t488 => (impl_StratumOf.l0 k (([] : List Int)) t488 (t488.length : Int) 0)) = some r := h
 clear h
 obtain ⟨y485, hy485⟩ : ∃ y_ : List Int, y_ = (([] : List Int)) := ⟨_, rfl⟩
 replace H : ((impl_AnglesOf.f k l0_0 l0_1).bind fun t488 => (impl_StratumOf.l0 k y485 t488 (t488.length : Int) 0)) = some r := by first | (rw [hy485]; with_reducible exact H) | (have H2_ := (Option.bind_some _ _).symm.trans H; rw [hy485]; with_reducible exact H2_) | (have H2_ := (Option.bind_some _ _).symm.trans H; with_reducible exact H2_) | with_reducible exact H | (rw [hy485]; exact H) | exact H
 have Ny485 := Aside0.mk hy485
 clear hy485
 replace H := Option.bind_eq_some_iff.mp H
 obtain ⟨t488, A20, H⟩ := H
 replace H : (impl_StratumOf.l0 k y485 t488 (t488.length : Int) 0) = some r := H
 have A2 := Aside0.mk A20
 clear A20
 have H' := Aside0.mk H
 clear H
 go_enter Tryz.func34, Tryz.ntmps34
 go_wp2_with (first | ((with_reducible refine gate_dst (N := 1) rfl ?_); refine box_event ?hg (N := 1) ?hd (cs := #[.slice A0_0 l0_0.length c0_0, .slice A0_1 l0_1.length c0_1]) (t := 25) ?hr ?_; (case hd => rfl); (case hg => rfl); (case hr => first | (go_simp; done) | (go_simp; rfl)); intro gb484 hg w3 hbox hb; have n0_ := Aside0.mk (below_step (bX HB.out) hb); have n1_ := Aside0.mk (hbox); have n2_ := Aside0.mk ((szX (below_size (bX HB.out)) hg : w.heap.size ≤ gb484)); have n3_ := Aside0.mk ((szX (below_size (bX HB.out)) hg : w.heap.size ≤ gb484)); clear HB; have HB := n0_; have BK484 := n1_; have GW484 := n2_; have GE484 := n3_; clear n0_ n1_ n2_ n3_ hb hbox hg) | ((with_reducible refine gate_dst (N := 6) rfl ?_); refine Kd.R_lit (Kd.int .i64) _ 3 ?hg (N := 6) ?hd (xs := ([] : List Int)) (inner := []) (ok := fun _ => True) (okp := fun _ => True) ?hr ?hp (fun _ hk => hk) trivial (Below.refl _ _) (Nat.le_refl _) (by simp) ?_; (case hd => rfl); (case hg => rfl); (case hr => first | (go_simp; done) | (go_simp; rfl)); (case hp => exact (Reps.none _ _)); intro v486 w4 ho5 hb hg_ hnew_; clear hg_ hnew_; (first | rw [← Ny485.out] at ho5 | (simp only [Int.reduceToNat] at ho5; rw [← Ny485.out] at ho5)); have n0_ := Aside0.mk (Kd.R_lower ho5 (below_size (bX1 HB.out GE484.out))); have n1_ := Aside0.mk (bbX BK484.out hb); have n2_ := Aside0.mk (below_step (bX1 HB.out GE484.out) hb); clear BK484 HB; have HO487 := n0_; have BK484 := n1_; have HB := n2_; clear n0_ n1_ n2_ hb ho5; have hcz6_0 := cz20 BK484.out; have hcz6_1 := cz21 BK484.out; have hfz6_0 := blk_frozen BK484.out 0; have hfz6_1 := blk_frozen BK484.out 1) | ((with_reducible refine gate_callee (f := 12) rfl ?_); refine goesL_ (some 8) rfl rfl Tryz.func12 (by kernel_rfl) rfl #[.agg #[.slice A0_0 l0_0.length c0_0, .slice A0_1 l0_1.length c0_1]] rfl aX ?_; (with_reducible refine (impl_AnglesOf.calls k _ _ l0_0 _ _ l0_1 t488 _ ?side1 ?side2 ?side3 ?side4 A2.out).mono ?_); (case side1 => exact cX (Kd.C_below HR0_0.out HB.out)); (case side2 => exact HC0_0.out); (case side3 => exact cX (Kd.C_below HR0_1.out HB.out)); (case side4 => exact HC0_1.out); rintro e w7 ⟨v489, rfl, ho0, hb⟩; refine ⟨_, rfl, ?_⟩; have n0_ := Aside0.mk (Kd.R_elder' (rX HO487.out) (Kd.R_base ho0) hb); have n1_ := Aside0.mk (Kd.R_lower (Kd.R_new' ho0 (Kd.R_lt (rX HO487.out))) (below_size (bX1 HB.out GE484.out))); have n2_ := Aside0.mk (bbX BK484.out hb); have n3_ := Aside0.mk (below_step (bX1 HB.out GE484.out) hb); clear HO487 BK484 HB; have HO487 := n0_; have HO490 := n1_; have BK484 := n2_; have HB := n3_; clear n0_ n1_ n2_ n3_; (try clear hb); (try clear hb2); (try clear hk); (try clear hi); (try clear ho0); obtain ⟨Ao8, co8, eo8⟩ := Kd.R_slice HO490.out; subst eo8))
 go_loopg [3, 10] k (fun kq v3 v10 w' => ∃ (x3_1 : List Int) (x10_1 : Int), v10 = .int .i64 x10_1 ∧ Aside0 (impl_StratumOf.l0 kq x3_1 t488 (t488.length : Int) x10_1 = some r) ∧ Aside0 (kq ≤ k) ∧ Aside0 (Kd.R (Kd.int .i64) 3 w' w.heap.size (fun k_ => some k_ ≠ ((.slice Ao8 t488.length co8) : Value).ownBlock) v3 x3_1) ∧ Aside0 (Kd.R (Kd.int .i64) 3 w' w.heap.size (fun k_ => some k_ ≠ (v3 : Value).ownBlock) (.slice Ao8 t488.length co8) t488) ∧ Aside0 (w'.heap[gb484]? = some (.cells #[(.slice A0_0 l0_0.length c0_0), (.slice A0_1 l0_1.length c0_1)] 25 (0, 0))) ∧ Aside0 (Below w.heap.size w w'))
 case atStart => exact ⟨(y485), (0), vX, H', ⟨Nat.le_refl _⟩, ⟨rM HO487.out (fun _ hk => hk.2)⟩, ⟨rM HO490.out (fun _ hk => hk.2)⟩, ⟨kX BK484.out⟩, ⟨bX1 HB.out GE484.out⟩⟩
 case round =>
 clear H'
 try clear c1
 try clear p2
 try clear c3
 try clear hcz6_0
 try clear hcz6_1
 try clear hfz6_0
 try clear hfz6_1
 obtain ⟨x3_1, x10_1, rfl, HA, HK1, HO_3, HO_8, BK484, HB⟩ := hrel
 cases gk with
 | zero => exact absurd HA.out (by simp [impl_StratumOf.l0])
 | succ k1 =>
 have H := HA.out
 clear HA
 simp only [impl_StratumOf.l0] at H
 by_cases c9 : x10_1 < (t488.length : Int)
 {
 rw [if_pos c9] at H
 have c9b0 : decide (x10_1 < (t488.length : Int)) = true := decide_eq_true c9
 clear c9
 by_cases c10 : 0 ≤ x10_1
 {
 rw [if_pos c10] at H
 have c10b0 : decide (0 ≤ x10_1) = true := decide_eq_true c10
 clear c10
 by_cases c11 : x10_1 < (t488.length : Int)
 {
 rw [if_pos c11] at H
 have c11b0 : decide (x10_1 < (t488.length : Int)) = true := decide_eq_true c11
 clear c11
 by_cases c12 : (rd t488 x10_1) > 1
 {
 rw [if_pos c12] at H
 have c12b0 : decide (1 < (rd t488 x10_1)) = true := decide_eq_true c12
 clear c12
 by_cases c13 : x3_1.length < 17592186044416
 {
 rw [if_pos c13] at H
 have LMc13 := Aside0.mk c13
 clear c13
 obtain ⟨y492, hy492⟩ : ∃ y_ : List Int, y_ = (x3_1 ++ [wrap64 ((rd t488 x10_1) - 1)]) := ⟨_, rfl⟩
 replace H : (impl_StratumOf.l0 k1 y492 t488 (t488.length : Int) (wrap64 (x10_1 + 1))) = some r := by first | (rw [hy492]; with_reducible exact H) | (have H2_ := (Option.bind_some _ _).symm.trans H; rw [hy492]; with_reducible exact H2_) | (have H2_ := (Option.bind_some _ _).symm.trans H; with_reducible exact H2_) | with_reducible exact H | (rw [hy492]; exact H) | exact H
 have Ny492 := Aside0.mk hy492
 clear hy492
 have H' := Aside0.mk H
 clear H
 have p491 : 0 ≤ (x10_1 : Int) := dX
 have q491 : x10_1 < (t488.length : Int) := dX
 obtain ⟨ad491, e491, hx491_0⟩ := Kd.at_int (Kd.R_reads' HO_8.out).2.2 x10_1 p491 q491
 cases e491
 replace p491 := eq_true p491
 replace q491 := eq_true q491
 go_wp2_with (first | ((with_reducible refine gate_builtin (b := .append) (xs := #[.tmp 16, .tmp 19]) rfl ?_); at_builtin; refine Kd.R_append (Kd.int .i64) (w0 := w) w.heap.size rfl (.tmp 16) (.tmp 19) 23 3 (.int .i64 0) 8 rfl Tryz.underlying23 info3 rfl (by decide) (by omega) u3 x3_1 (wrap64 ((rd t488 x10_1) - 1)) [.int .i64 (wrap64 ((rd t488 x10_1) - 1))] (fun k_ => some k_ ≠ (.slice (some ad491) t488.length co8 : Value).ownBlock) (fun _ => False) rfl rfl ?aP (fun _ hk => hk.elim) ?aF ?aO ?aB ?aS ?aL ?_; (case aP => exact rfl); (case aB => exact (bX1 HB.out GE484.out)); (case aF => exact (fun k_ hk => Kd.fresh' (Kd.R_lt (rX HO_8.out)) k_ hk)); (case aO => exact (rX HO_3.out)); (case aS => exact (below_size (bX1 HB.out GE484.out))); (case aL => have := LMc13.out; omega); intro v493 w14 ho hb hg hat; rw [← Ny492.out] at ho; have n0_ := Aside0.mk (Kd.R_after (ok := (fun _ => True)) (rM HO_8.out (fun _ hk => ⟨trivial, hk⟩)) hg hat); have n1_ := Aside0.mk (bgX BK484.out hg (Kd.R_ne HO_3.out BK484.out (by decide))); have n2_ := Aside0.mk (hb); have n3_ := Aside0.mk (ho); clear HO_8 BK484 HB HO_3; have HO_8 := n0_; have BK484 := n1_; have HB := n2_; have HO494 := n3_; clear n0_ n1_ n2_ n3_ ho hb hg hat))
 go_roundg k1
 case measure => have := HK1.out; omega
 case rel => exact ⟨(y492), (wrap64 (x10_1 + 1)), vX, H', ⟨by have := HK1.out; omega⟩, ⟨rX HO494.out⟩, ⟨rM HO_8.out (fun _ hk => hk.2)⟩, ⟨kX BK484.out⟩, ⟨bX1 HB.out GE484.out⟩⟩
 }
 {
 rw [if_neg c13] at H
 exact absurd H (by simp)
 }
 }
 {
 rw [if_neg c12] at H
 have c12b0 : decide (1 < (rd t488 x10_1)) = false := decide_eq_false c12
 clear c12
 have H' := Aside0.mk H
 clear H
 have p491 : 0 ≤ (x10_1 : Int) := dX
 have q491 : x10_1 < (t488.length : Int) := dX
 obtain ⟨ad491, e491, hx491_0⟩ := Kd.at_int (Kd.R_reads' HO_8.out).2.2 x10_1 p491 q491
 cases e491
 replace p491 := eq_true p491
 replace q491 := eq_true q491
 go_wp2
 go_roundg k1
 case measure => have := HK1.out; omega
 case rel => exact ⟨(x3_1), (wrap64 (x10_1 + 1)), vX, H', ⟨by have := HK1.out; omega⟩, ⟨rX HO_3.out⟩, ⟨rX HO_8.out⟩, ⟨kX BK484.out⟩, ⟨bX1 HB.out GE484.out⟩⟩
 }
 }
 {
 rw [if_neg c11] at H
 exact absurd H (by simp)
 }
 }
 {
 rw [if_neg c10] at H
 exact absurd H (by simp)
 }
 }
 {
 rw [if_neg c9] at H
 have c9b0 : decide (x10_1 < (t488.length : Int)) = false := decide_eq_false c9
 clear c9
 obtain rfl := Option.some.inj H
 go_wp2
 go_ret
 exact ⟨_, eX, by (with_reducible repeat (first|apply rA|apply rN|apply rD)); exact Kd.R_mono HO_3.out (fun _ hk => trivial), bX1 HB.out GE484.out⟩
 }

end Go.Proofs.YthhdgeafdnikcaaGreatDoor.S
