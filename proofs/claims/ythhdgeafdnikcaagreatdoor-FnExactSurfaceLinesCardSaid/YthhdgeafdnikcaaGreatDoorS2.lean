-- PRINTED by print.py (a twelfth state) out of the translation. Not trusted: Lean checks it.
import Derived.Test.YthhdgeafdnikcaaGreatDoorS0
import Derived.Test.YthhdgeafdnikcaaGreatDoorS1
namespace Go.Proofs.YthhdgeafdnikcaaGreatDoor.S
open Go.RowKit Go.Proofs.YthhdgeafdnikcaaGreatDoorW.PrintWords Go.Proofs.YthhdgeafdnikcaaGreatDoorW.PrintLast Go.Proofs.YthhdgeafdnikcaaGreatDoorW.PrintMore
attribute [local go_sem] max2_int min2_int max_two min_two max_three min_three max_four min_four   -- for this text's walks alone
set_option linter.unusedVariables false
set_option linter.unusedSimpArgs false

/-! ### impl_AroundOf: function 75 -/
def impl_AroundOf.f (k : Nat) (l0_0 : List Int) (l0_1 : List Int) : Option (List Int) := (impl_SurfaceOk.f k l0_0 l0_1).bind fun t176 => (if t176 = true then ((impl_ThenPerm.f k l0_0 l0_1).bind fun t177 => ((impl_InversePerm.f k l0_0).bind fun t180 => ((impl_InversePerm.f k l0_1).bind fun t183 => ((impl_ThenPerm.f k t180 t183).bind fun t186 => ((impl_ThenPerm.f k t177 t186).bind fun t189 => (some t189)))))) else (some ([] : List Int)))
def impl_AroundOf.T3 : Bool × List (List Nat × List Nat) := (true, [([], []), ([0], [0]), ([], []), ([2], [2]), ([1, 3], [1, 3]), ([], []), ([5], [5]), ([6, 4], [6]), ([], []), ([8], [8]), ([9, 7], [9]), ([7, 10, 10], [7, 10]), ([4, 11, 11], [4, 11]), ([12, 12, 0, 1, 2, 3, 4, 5, 6, 7, 8, 9, 10, 11, 12], [12])])
def impl_AroundOf.B3 : List Nat := [0, 1, 0, 4, 15, 0, 32, 127, 0, 256, 1023, 2047, 4095, 8191]
theorem impl_AroundOf.tab3 : rtab .any (opsOf Tryz.f75 3) = impl_AroundOf.T3 := by kernel_rfl
theorem impl_AroundOf.bits3 : waitsOk impl_AroundOf.T3.2 impl_AroundOf.B3 = true := by kernel_rfl
set_option maxHeartbeats 8000000 in
set_option maxRecDepth 100000 in
theorem impl_AroundOf.calls (k : Nat) (A0_0 : Option Addr) (c0_0 : Nat) (l0_0 : List Int) (A0_1 : Option Addr) (c0_1 : Nat) (l0_1 : List Int) (r : List Int) (w : World) (hr0_0 : Kd.C (Kd.int .i64) w A0_0 l0_0.length l0_0) (hc0_0 : l0_0.length ≤ c0_0) (hr0_1 : Kd.C (Kd.int .i64) w A0_1 l0_1.length l0_1) (hc0_1 : l0_1.length ≤ c0_1) (h : impl_AroundOf.f k l0_0 l0_1 = some r) :
  Calls Tryz.prog 75 #[.agg #[.slice A0_0 l0_0.length c0_0, .slice A0_1 l0_1.length c0_1]] w fun e w' => ∃ v0_ : Value, e = .returned (v0_) ∧ Kd.R (Kd.int .i64) 3 w' w.heap.size (fun _ => True) v0_ r ∧ Below w.heap.size w w' := by
 have hu25 := Tryz.underlying25
 have HR0_0 := Aside0.mk hr0_0
 have HC0_0 := Aside0.mk hc0_0
 clear hr0_0 hc0_0
 have HR0_1 := Aside0.mk hr0_1
 have HC0_1 := Aside0.mk hc0_1
 clear hr0_1 hc0_1
 have HB := Aside0.mk (Below.refl w.heap.size w)
 have H : ((impl_SurfaceOk.f k l0_0 l0_1).bind fun t176 => (if t176 = true then ((impl_ThenPerm.f k l0_0 l0_1).bind fun t177 => ((impl_InversePerm.f k l0_0).bind fun t180 => ((impl_InversePerm.f k l0_1).bind fun t183 => ((impl_ThenPerm.f k t180 t183).bind fun t186 => ((impl_ThenPerm.f k t177 t186).bind fun t189 => (some t189)))))) else (some ([] : List Int)))) = some r := h
 clear h
 replace H := Option.bind_eq_some_iff.mp H
 obtain ⟨t176, A20, H⟩ := H
 replace H : (if t176 = true then ((impl_ThenPerm.f k l0_0 l0_1).bind fun t177 => ((impl_InversePerm.f k l0_0).bind fun t180 => ((impl_InversePerm.f k l0_1).bind fun t183 => ((impl_ThenPerm.f k t180 t183).bind fun t186 => ((impl_ThenPerm.f k t177 t186).bind fun t189 => (some t189)))))) else (some ([] : List Int))) = some r := H
 have A2 := Aside0.mk A20
 clear A20
 by_cases c3 : t176 = true
 {
 subst c3
 have H1 : ((impl_ThenPerm.f k l0_0 l0_1).bind fun t177 => ((impl_InversePerm.f k l0_0).bind fun t180 => ((impl_InversePerm.f k l0_1).bind fun t183 => ((impl_ThenPerm.f k t180 t183).bind fun t186 => ((impl_ThenPerm.f k t177 t186).bind fun t189 => (some t189)))))) = some r := by rw [if_pos rfl] at H; exact H
 clear H
 have H := H1
 clear H1
 replace H := Option.bind_eq_some_iff.mp H
 obtain ⟨t177, A40, H⟩ := H
 replace H : ((impl_InversePerm.f k l0_0).bind fun t180 => ((impl_InversePerm.f k l0_1).bind fun t183 => ((impl_ThenPerm.f k t180 t183).bind fun t186 => ((impl_ThenPerm.f k t177 t186).bind fun t189 => (some t189))))) = some r := H
 have A4 := Aside0.mk A40
 clear A40
 replace H := Option.bind_eq_some_iff.mp H
 obtain ⟨t180, A50, H⟩ := H
 replace H : ((impl_InversePerm.f k l0_1).bind fun t183 => ((impl_ThenPerm.f k t180 t183).bind fun t186 => ((impl_ThenPerm.f k t177 t186).bind fun t189 => (some t189)))) = some r := H
 have A5 := Aside0.mk A50
 clear A50
 replace H := Option.bind_eq_some_iff.mp H
 obtain ⟨t183, A60, H⟩ := H
 replace H : ((impl_ThenPerm.f k t180 t183).bind fun t186 => ((impl_ThenPerm.f k t177 t186).bind fun t189 => (some t189))) = some r := H
 have A6 := Aside0.mk A60
 clear A60
 replace H := Option.bind_eq_some_iff.mp H
 obtain ⟨t186, A70, H⟩ := H
 replace H : ((impl_ThenPerm.f k t177 t186).bind fun t189 => (some t189)) = some r := H
 have A7 := Aside0.mk A70
 clear A70
 replace H := Option.bind_eq_some_iff.mp H
 obtain ⟨t189, A80, H⟩ := H
 replace H : (some t189) = some r := H
 have A8 := Aside0.mk A80
 clear A80
 obtain rfl := Option.some.inj H
 go_enter Tryz.func75, Tryz.ntmps75
 try go_wp2_with (first | ((with_reducible refine gate_dst (N := 1) rfl ?_); refine box_event ?hg (N := 1) ?hd (cs := #[.slice A0_0 l0_0.length c0_0, .slice A0_1 l0_1.length c0_1]) (t := 25) ?hr ?_; (case hd => rfl); (case hg => rfl); (case hr => first | (go_simp; done) | (go_simp; rfl)); intro gb175 hg w9 hbox hb; have n0_ := Aside0.mk (below_step (bX HB.out) hb); have n1_ := Aside0.mk (hbox); have n2_ := Aside0.mk ((szX (below_size (bX HB.out)) hg : w.heap.size ≤ gb175)); have n3_ := Aside0.mk ((szX (below_size (bX HB.out)) hg : w.heap.size ≤ gb175)); clear HB; have HB := n0_; have BK175 := n1_; have GW175 := n2_; have GE175 := n3_; clear n0_ n1_ n2_ n3_ hb hbox hg; have hcz10_0 := cz20 BK175.out; have hcz10_1 := cz21 BK175.out; have hfz10_0 := blk_frozen BK175.out 0; have hfz10_1 := blk_frozen BK175.out 1) | ((with_reducible refine gate_callee (f := 31) rfl ?_); refine goesL_ (some 4) rfl rfl Tryz.func31 (by kernel_rfl) rfl #[.agg #[.slice A0_0 l0_0.length c0_0, .slice A0_1 l0_1.length c0_1]] rfl aX ?_; (with_reducible refine (impl_SurfaceOk.calls k _ _ l0_0 _ _ l0_1 true _ ?side1 ?side2 ?side3 ?side4 A2.out).mono ?_); (case side1 => exact cX (Kd.C_below HR0_0.out HB.out)); (case side2 => exact HC0_0.out); (case side3 => exact cX (Kd.C_below HR0_1.out HB.out)); (case side4 => exact HC0_1.out); rintro e w11 ⟨rfl, hb⟩; refine ⟨_, rfl, ?_⟩; have n0_ := Aside0.mk (bbX BK175.out hb); have n1_ := Aside0.mk (below_step (bX1 HB.out GE175.out) hb); clear BK175 HB; have BK175 := n0_; have HB := n1_; clear n0_ n1_; (try clear hb); (try clear hb2); (try clear hk); (try clear hi)))
 have n0_ := Aside0.mk (blk_drew BK175.out)
 have n1_ := Aside0.mk (below_drew1 HB.out)
 clear BK175 HB
 have BK175 := n0_
 have HB := n1_
 clear n0_ n1_
 refine start_ (n := 14) (S := fun w' => w'.cell? ⟨gb175, 0, none⟩ = some (.slice A0_0 l0_0.length c0_0) ∧ w'.cell? ⟨gb175, 1, none⟩ = some (.slice A0_1 l0_1.length c0_1)) (ds := []) #[ff,ff,ff,ff,ff,ff,ff,ff,ff,ff,ff,ff,ff,ff] (by kernel_rfl) rfl rfl ⟨cz20 BK175.out, cz21 BK175.out⟩ (fun hHeld => ?_); refine with_tabW impl_AroundOf.tab3 impl_AroundOf.bits3 (fun HT_ HW_ => ?_)
 generalize w11.drew = w12 at BK175 HB hHeld ⊢
 refine pX 0 6 (fl 14 1) rfl rfl HT_.out ?_
 refine pX 2 8 (fl 14 5) rfl rfl HT_.out ?_
 refine pX 5 11 (fl 14 37) rfl rfl HT_.out ?_
 refine pX 8 14 (fl 14 293) rfl rfl HT_.out ?_
 refine tX2 1 7 (fl 14 295) rfl rfl HT_.out HW_.out hHeld ?_
 refine tX2 3 9 (fl 14 303) rfl rfl HT_.out HW_.out hHeld ?_
 refine tX2 6 12 (fl 14 367) rfl rfl HT_.out HW_.out hHeld ?_
 refine tX2 9 15 (fl 14 879) rfl rfl HT_.out HW_.out hHeld ?_
 refine one_ (i := 4) (N := some 10) #[tt,tt,tt,tt,tt,tt,tt,ff,tt,tt,ff,ff,ff,ff] rfl rfl (one_of HT_.out (by kernel_rfl)) (by decide) (fun K hK => ?_)
 refine goes_ Tryz.func100 (by kernel_rfl) rfl #[.slice A0_0 l0_0.length c0_0, .slice A0_1 l0_1.length c0_1] (by rfl) rfl rfl aX ?_
 with_reducible refine (impl_ThenPerm.calls k _ _ l0_0 _ _ l0_1 t177 _ ?side1 ?side2 ?side3 ?side4 A4.out).mono ?_
 (case side1 => exact cX (Kd.C_below HR0_0.out HB.out))
 (case side2 => exact HC0_0.out)
 (case side3 => exact cX (Kd.C_below HR0_1.out HB.out))
 (case side4 => exact HC0_1.out)
 rintro e w13 ⟨v178, rfl, ho0, hb⟩
 refine ⟨_, rfl, ?_⟩
 have n0_ := Aside0.mk (Kd.R_lower ho0 (below_size (bX1 HB.out GE175.out)))
 have n1_ := Aside0.mk (bbX BK175.out hb)
 have n2_ := Aside0.mk (below_step (bX1 HB.out GE175.out) hb)
 clear BK175 HB
 have HO179 := n0_
 have BK175 := n1_
 have HB := n2_
 clear n0_ n1_ n2_
 (try clear hb)
 (try clear hb2)
 (try clear hk)
 (try clear hi)
 (try clear ho0)
 refine hK.out _ _ ⟨cz20 BK175.out, cz21 BK175.out⟩ (fun hHeld => ?_)
 clear hK K
 refine norm_ (a' := ?_) ?_ ?_
 rotate_left
 {
 show Act.put _ (some 10) _ = _
 simp only [Act.put, zA, zB, zC, i64_w, i32_w]
 rfl
 }
 refine one_ (i := 7) (N := some 13) #[tt,tt,tt,tt,tt,tt,tt,tt,tt,tt,ff,ff,ff,ff] rfl rfl (one_of HT_.out (by kernel_rfl)) (by decide) (fun K hK => ?_)
 refine goes_ Tryz.func101 (by kernel_rfl) rfl #[.slice A0_0 l0_0.length c0_0] (by rfl) rfl rfl aX ?_
 with_reducible refine (impl_InversePerm.calls k _ _ l0_0 t180 _ ?side1 ?side2 A5.out).mono ?_
 (case side1 => exact cX (Kd.C_below HR0_0.out HB.out))
 (case side2 => exact HC0_0.out)
 rintro e w14 ⟨v181, rfl, ho0, hb⟩
 refine ⟨_, rfl, ?_⟩
 have n0_ := Aside0.mk (Kd.R_elder' (rX HO179.out) (Kd.R_base ho0) hb)
 have n1_ := Aside0.mk (Kd.R_lower (Kd.R_new' ho0 (Kd.R_lt (rX HO179.out))) (below_size (bX1 HB.out GE175.out)))
 have n2_ := Aside0.mk (bbX BK175.out hb)
 have n3_ := Aside0.mk (below_step (bX1 HB.out GE175.out) hb)
 clear HO179 BK175 HB
 have HO179 := n0_
 have HO182 := n1_
 have BK175 := n2_
 have HB := n3_
 clear n0_ n1_ n2_ n3_
 (try clear hb)
 (try clear hb2)
 (try clear hk)
 (try clear hi)
 (try clear ho0)
 refine hK.out _ _ ⟨cz20 BK175.out, cz21 BK175.out⟩ (fun hHeld => ?_)
 clear hK K
 refine norm_ (a' := ?_) ?_ ?_
 rotate_left
 {
 show Act.put _ (some 13) _ = _
 simp only [Act.put, zA, zB, zC, i64_w, i32_w]
 rfl
 }
 refine one_ (i := 10) (N := some 16) #[tt,tt,tt,tt,tt,tt,tt,tt,tt,tt,tt,ff,ff,ff] rfl rfl (one_of HT_.out (by kernel_rfl)) (by decide) (fun K hK => ?_)
 refine goes_ Tryz.func101 (by kernel_rfl) rfl #[.slice A0_1 l0_1.length c0_1] (by rfl) rfl rfl aX ?_
 with_reducible refine (impl_InversePerm.calls k _ _ l0_1 t183 _ ?side1 ?side2 A6.out).mono ?_
 (case side1 => exact cX (Kd.C_below HR0_1.out HB.out))
 (case side2 => exact HC0_1.out)
 rintro e w15 ⟨v184, rfl, ho0, hb⟩
 refine ⟨_, rfl, ?_⟩
 have n0_ := Aside0.mk (Kd.R_elder' (rX HO179.out) (Kd.R_base ho0) hb)
 have n1_ := Aside0.mk (Kd.R_elder' (rX HO182.out) (Kd.R_base ho0) hb)
 have n2_ := Aside0.mk (Kd.R_lower (Kd.R_new' (Kd.R_new' ho0 (Kd.R_lt (rX HO179.out))) (Kd.R_lt (rX HO182.out))) (below_size (bX1 HB.out GE175.out)))
 have n3_ := Aside0.mk (bbX BK175.out hb)
 have n4_ := Aside0.mk (below_step (bX1 HB.out GE175.out) hb)
 clear HO179 HO182 BK175 HB
 have HO179 := n0_
 have HO182 := n1_
 have HO185 := n2_
 have BK175 := n3_
 have HB := n4_
 clear n0_ n1_ n2_ n3_ n4_
 (try clear hb)
 (try clear hb2)
 (try clear hk)
 (try clear hi)
 (try clear ho0)
 obtain ⟨Ao16, co16, eo16⟩ := Kd.R_slice HO182.out
 (first | subst eo16 | (injection eo16 with f1_ f2_ f3_; have f4_ := f1_.symm; have f5_ := f3_.symm; clear f1_ f2_ f3_; subst f4_; subst f5_))
 obtain ⟨Ao17, co17, eo17⟩ := Kd.R_slice HO185.out
 (first | subst eo17 | (injection eo17 with f1_ f2_ f3_; have f4_ := f1_.symm; have f5_ := f3_.symm; clear f1_ f2_ f3_; subst f4_; subst f5_))
 refine hK.out _ _ ⟨cz20 BK175.out, cz21 BK175.out⟩ (fun hHeld => ?_)
 clear hK K
 refine norm_ (a' := ?_) ?_ ?_
 rotate_left
 {
 show Act.put _ (some 16) _ = _
 simp only [Act.put, zA, zB, zC, i64_w, i32_w]
 rfl
 }
 refine one_ (i := 11) (N := some 17) #[tt,tt,tt,tt,tt,tt,tt,tt,tt,tt,tt,tt,ff,ff] rfl rfl (one_of HT_.out (by kernel_rfl)) (by decide) (fun K hK => ?_)
 refine goes_ Tryz.func100 (by kernel_rfl) rfl #[.slice Ao16 t180.length co16, .slice Ao17 t183.length co17] (by rfl) rfl rfl aX ?_
 with_reducible refine (impl_ThenPerm.calls k _ _ t180 _ _ t183 t186 _ ?side1 ?side2 ?side3 ?side4 A7.out).mono ?_
 (case side1 => exact cX (Kd.R_reads' HO182.out).2.2)
 (case side2 => exact (Kd.R_reads' HO182.out).2.1)
 (case side3 => exact cX (Kd.R_reads' HO185.out).2.2)
 (case side4 => exact (Kd.R_reads' HO185.out).2.1)
 rintro e w18 ⟨v187, rfl, ho0, hb⟩
 refine ⟨_, rfl, ?_⟩
 have n0_ := Aside0.mk (Kd.R_elder' (rX HO179.out) (Kd.R_base ho0) hb)
 have n1_ := Aside0.mk (Kd.R_elder' (rX HO182.out) (Kd.R_base ho0) hb)
 have n2_ := Aside0.mk (Kd.R_elder' (rX HO185.out) (Kd.R_base ho0) hb)
 have n3_ := Aside0.mk (Kd.R_lower (Kd.R_new' (Kd.R_new' (Kd.R_new' ho0 (Kd.R_lt (rX HO179.out))) (Kd.R_lt (rX HO182.out))) (Kd.R_lt (rX HO185.out))) (below_size (bX1 HB.out GE175.out)))
 have n4_ := Aside0.mk (bbX BK175.out hb)
 have n5_ := Aside0.mk (below_step (bX1 HB.out GE175.out) hb)
 clear HO179 HO182 HO185 BK175 HB
 have HO179 := n0_
 have HO182 := n1_
 have HO185 := n2_
 have HO188 := n3_
 have BK175 := n4_
 have HB := n5_
 clear n0_ n1_ n2_ n3_ n4_ n5_
 (try clear hb)
 (try clear hb2)
 (try clear hk)
 (try clear hi)
 (try clear ho0)
 obtain ⟨Ao19, co19, eo19⟩ := Kd.R_slice HO179.out
 (first | subst eo19 | (injection eo19 with f1_ f2_ f3_; have f4_ := f1_.symm; have f5_ := f3_.symm; clear f1_ f2_ f3_; subst f4_; subst f5_))
 obtain ⟨Ao20, co20, eo20⟩ := Kd.R_slice HO188.out
 (first | subst eo20 | (injection eo20 with f1_ f2_ f3_; have f4_ := f1_.symm; have f5_ := f3_.symm; clear f1_ f2_ f3_; subst f4_; subst f5_))
 refine hK.out _ _ ⟨cz20 BK175.out, cz21 BK175.out⟩ (fun hHeld => ?_)
 clear hK K
 refine norm_ (a' := ?_) ?_ ?_
 rotate_left
 {
 show Act.put _ (some 17) _ = _
 simp only [Act.put, zA, zB, zC, i64_w, i32_w]
 rfl
 }
 refine one_ (i := 12) (N := some 18) #[tt,tt,tt,tt,tt,tt,tt,tt,tt,tt,tt,tt,tt,ff] rfl rfl (one_of HT_.out (by kernel_rfl)) (by decide) (fun K hK => ?_)
 refine goes_ Tryz.func100 (by kernel_rfl) rfl #[.slice Ao19 t177.length co19, .slice Ao20 t186.length co20] (by rfl) rfl rfl aX ?_
 with_reducible refine (impl_ThenPerm.calls k _ _ t177 _ _ t186 t189 _ ?side1 ?side2 ?side3 ?side4 A8.out).mono ?_
 (case side1 => exact cX (Kd.R_reads' HO179.out).2.2)
 (case side2 => exact (Kd.R_reads' HO179.out).2.1)
 (case side3 => exact cX (Kd.R_reads' HO188.out).2.2)
 (case side4 => exact (Kd.R_reads' HO188.out).2.1)
 rintro e w21 ⟨v190, rfl, ho0, hb⟩
 refine ⟨_, rfl, ?_⟩
 have n0_ := Aside0.mk (Kd.R_elder' (rX HO179.out) (Kd.R_base ho0) hb)
 have n1_ := Aside0.mk (Kd.R_elder' (rX HO182.out) (Kd.R_base ho0) hb)
 have n2_ := Aside0.mk (Kd.R_elder' (rX HO185.out) (Kd.R_base ho0) hb)
 have n3_ := Aside0.mk (Kd.R_elder' (rX HO188.out) (Kd.R_base ho0) hb)
 have n4_ := Aside0.mk (Kd.R_lower (Kd.R_new' (Kd.R_new' (Kd.R_new' (Kd.R_new' ho0 (Kd.R_lt (rX HO179.out))) (Kd.R_lt (rX HO182.out))) (Kd.R_lt (rX HO185.out))) (Kd.R_lt (rX HO188.out))) (below_size (bX1 HB.out GE175.out)))
 have n5_ := Aside0.mk (bbX BK175.out hb)
 have n6_ := Aside0.mk (below_step (bX1 HB.out GE175.out) hb)
 clear HO179 HO182 HO185 HO188 BK175 HB
 have HO179 := n0_
 have HO182 := n1_
 have HO185 := n2_
 have HO188 := n3_
 have HO191 := n4_
 have BK175 := n5_
 have HB := n6_
 clear n0_ n1_ n2_ n3_ n4_ n5_ n6_
 (try clear hb)
 (try clear hb2)
 (try clear hk)
 (try clear hi)
 (try clear ho0)
 refine hK.out _ _ ⟨cz20 BK175.out, cz21 BK175.out⟩ (fun hHeld => ?_)
 clear hK K
 refine norm_ (a' := ?_) ?_ ?_
 rotate_left
 {
 show Act.put _ (some 18) _ = _
 simp only [Act.put, zA, zB, zC, i64_w, i32_w]
 rfl
 }
 refine pX 13 2 (fl 14 16383) rfl rfl HT_.out ?_
 refine done_ (done_of HT_.out (by kernel_rfl)) ?_
 try go_wp2
 go_ret
 exact ⟨_, eX, by (with_reducible repeat (first|apply rA|apply rN|apply rD)); exact Kd.R_mono HO191.out (fun _ hk => trivial), bX1 HB.out GE175.out⟩
 }
 {
 replace c3 := Bool.eq_false_iff.mpr c3
 subst c3
 have H1 : (some ([] : List Int)) = some r := by rw [if_neg (show ¬ (false = true) by decide)] at H; exact H
 clear H
 have H := H1
 clear H1
 obtain rfl := Option.some.inj H
 go_enter Tryz.func75, Tryz.ntmps75
 go_wp2_with (first | ((with_reducible refine gate_dst (N := 1) rfl ?_); refine box_event ?hg (N := 1) ?hd (cs := #[.slice A0_0 l0_0.length c0_0, .slice A0_1 l0_1.length c0_1]) (t := 25) ?hr ?_; (case hd => rfl); (case hg => rfl); (case hr => first | (go_simp; done) | (go_simp; rfl)); intro gb175 hg w22 hbox hb; have n0_ := Aside0.mk (below_step (bX HB.out) hb); have n1_ := Aside0.mk (hbox); have n2_ := Aside0.mk ((szX (below_size (bX HB.out)) hg : w.heap.size ≤ gb175)); have n3_ := Aside0.mk ((szX (below_size (bX HB.out)) hg : w.heap.size ≤ gb175)); clear HB; have HB := n0_; have BK175 := n1_; have GW175 := n2_; have GE175 := n3_; clear n0_ n1_ n2_ n3_ hb hbox hg; have hcz23_0 := cz20 BK175.out; have hcz23_1 := cz21 BK175.out; have hfz23_0 := blk_frozen BK175.out 0; have hfz23_1 := blk_frozen BK175.out 1) | ((with_reducible refine gate_callee (f := 31) rfl ?_); refine goesL_ (some 4) rfl rfl Tryz.func31 (by kernel_rfl) rfl #[.agg #[.slice A0_0 l0_0.length c0_0, .slice A0_1 l0_1.length c0_1]] rfl aX ?_; (with_reducible refine (impl_SurfaceOk.calls k _ _ l0_0 _ _ l0_1 false _ ?side1 ?side2 ?side3 ?side4 A2.out).mono ?_); (case side1 => exact cX (Kd.C_below HR0_0.out HB.out)); (case side2 => exact HC0_0.out); (case side3 => exact cX (Kd.C_below HR0_1.out HB.out)); (case side4 => exact HC0_1.out); rintro e w24 ⟨rfl, hb⟩; refine ⟨_, rfl, ?_⟩; have n0_ := Aside0.mk (bbX BK175.out hb); have n1_ := Aside0.mk (below_step (bX1 HB.out GE175.out) hb); clear BK175 HB; have BK175 := n0_; have HB := n1_; clear n0_ n1_; (try clear hb); (try clear hb2); (try clear hk); (try clear hi)))
 go_ret
 exact ⟨_, eX, by first | exact Kd.R_nil _ _ _ _ _ | exact Kd.N_nil _ _ _ _ _ | exact Kd.V_nil _ _ _ _ _ | exact Kd.Q_nil _ _ _ _ _ | exact Kd.S_nil _ _ _ _ _, bX1 HB.out GE175.out⟩
 }

/-! ### impl_CornersOf: function 41 -/
def impl_CornersOf.f (k : Nat) (l0_0 : List Int) (l0_1 : List Int) : Option ((List (List Int))) := (impl_SurfaceOk.f k l0_0 l0_1).bind fun t193 => (if t193 = true then ((impl_AroundOf.f k l0_0 l0_1).bind fun t194 => ((impl_CyclesOf.f k t194).bind fun t197 => (some t197))) else (some ([] : List (List Int))))
set_option maxHeartbeats 8000000 in
set_option maxRecDepth 100000 in
theorem impl_CornersOf.calls (k : Nat) (A0_0 : Option Addr) (c0_0 : Nat) (l0_0 : List Int) (A0_1 : Option Addr) (c0_1 : Nat) (l0_1 : List Int) (r : List (List Int)) (w : World) (hr0_0 : Kd.C (Kd.int .i64) w A0_0 l0_0.length l0_0) (hc0_0 : l0_0.length ≤ c0_0) (hr0_1 : Kd.C (Kd.int .i64) w A0_1 l0_1.length l0_1) (hc0_1 : l0_1.length ≤ c0_1) (h : impl_CornersOf.f k l0_0 l0_1 = some r) :
  Calls Tryz.prog 41 #[.agg #[.slice A0_0 l0_0.length c0_0, .slice A0_1 l0_1.length c0_1]] w fun e w' => ∃ v0_ : Value, e = .returned (v0_) ∧ Kd.S (Kd.slice 3 (Kd.int .i64)) 23 w' w.heap.size (fun _ => True) v0_ r ∧ Below w.heap.size w w' := by
 have hu25 := Tryz.underlying25
 have HR0_0 := Aside0.mk hr0_0
 have HC0_0 := Aside0.mk hc0_0
 clear hr0_0 hc0_0
 have HR0_1 := Aside0.mk hr0_1
 have HC0_1 := Aside0.mk hc0_1
 clear hr0_1 hc0_1
 have HB := Aside0.mk (Below.refl w.heap.size w)
 have H : ((impl_SurfaceOk.f k l0_0 l0_1).bind fun t193 => (if t193 = true then ((impl_AroundOf.f k l0_0 l0_1).bind fun t194 => ((impl_CyclesOf.f k t194).bind fun t197 => (some t197))) else (some ([] : List (List Int))))) = some r := h
 clear h
 replace H := Option.bind_eq_some_iff.mp H
 obtain ⟨t193, A20, H⟩ := H
 replace H : (if t193 = true then ((impl_AroundOf.f k l0_0 l0_1).bind fun t194 => ((impl_CyclesOf.f k t194).bind fun t197 => (some t197))) else (some ([] : List (List Int)))) = some r := H
 have A2 := Aside0.mk A20
 clear A20
 by_cases c3 : t193 = true
 {
 subst c3
 have H1 : ((impl_AroundOf.f k l0_0 l0_1).bind fun t194 => ((impl_CyclesOf.f k t194).bind fun t197 => (some t197))) = some r := by rw [if_pos rfl] at H; exact H
 clear H
 have H := H1
 clear H1
 replace H := Option.bind_eq_some_iff.mp H
 obtain ⟨t194, A40, H⟩ := H
 replace H : ((impl_CyclesOf.f k t194).bind fun t197 => (some t197)) = some r := H
 have A4 := Aside0.mk A40
 clear A40
 replace H := Option.bind_eq_some_iff.mp H
 obtain ⟨t197, A50, H⟩ := H
 replace H : (some t197) = some r := H
 have A5 := Aside0.mk A50
 clear A50
 obtain rfl := Option.some.inj H
 go_enter Tryz.func41, Tryz.ntmps41
 go_wp2_with (first | ((with_reducible refine gate_dst (N := 1) rfl ?_); refine box_event ?hg (N := 1) ?hd (cs := #[.slice A0_0 l0_0.length c0_0, .slice A0_1 l0_1.length c0_1]) (t := 25) ?hr ?_; (case hd => rfl); (case hg => rfl); (case hr => first | (go_simp; done) | (go_simp; rfl)); intro gb192 hg w6 hbox hb; have n0_ := Aside0.mk (below_step (bX HB.out) hb); have n1_ := Aside0.mk (hbox); have n2_ := Aside0.mk ((szX (below_size (bX HB.out)) hg : w.heap.size ≤ gb192)); have n3_ := Aside0.mk ((szX (below_size (bX HB.out)) hg : w.heap.size ≤ gb192)); clear HB; have HB := n0_; have BK192 := n1_; have GW192 := n2_; have GE192 := n3_; clear n0_ n1_ n2_ n3_ hb hbox hg; have hcz7_0 := cz20 BK192.out; have hcz7_1 := cz21 BK192.out; have hfz7_0 := blk_frozen BK192.out 0; have hfz7_1 := blk_frozen BK192.out 1) | ((with_reducible refine gate_callee (f := 31) rfl ?_); refine goesL_ (some 4) rfl rfl Tryz.func31 (by kernel_rfl) rfl #[.agg #[.slice A0_0 l0_0.length c0_0, .slice A0_1 l0_1.length c0_1]] rfl aX ?_; (with_reducible refine (impl_SurfaceOk.calls k _ _ l0_0 _ _ l0_1 true _ ?side1 ?side2 ?side3 ?side4 A2.out).mono ?_); (case side1 => exact cX (Kd.C_below HR0_0.out HB.out)); (case side2 => exact HC0_0.out); (case side3 => exact cX (Kd.C_below HR0_1.out HB.out)); (case side4 => exact HC0_1.out); rintro e w8 ⟨rfl, hb⟩; refine ⟨_, rfl, ?_⟩; have n0_ := Aside0.mk (bbX BK192.out hb); have n1_ := Aside0.mk (below_step (bX1 HB.out GE192.out) hb); clear BK192 HB; have BK192 := n0_; have HB := n1_; clear n0_ n1_; (try clear hb); (try clear hb2); (try clear hk); (try clear hi); have hcz9_0 := cz20 BK192.out; have hcz9_1 := cz21 BK192.out; have hfz9_0 := blk_frozen BK192.out 0; have hfz9_1 := blk_frozen BK192.out 1) | ((with_reducible refine gate_callee (f := 75) rfl ?_); refine goesL_ (some 7) rfl rfl Tryz.func75 (by kernel_rfl) rfl #[.agg #[.slice A0_0 l0_0.length c0_0, .slice A0_1 l0_1.length c0_1]] rfl aX ?_; (with_reducible refine (impl_AroundOf.calls k _ _ l0_0 _ _ l0_1 t194 _ ?side1 ?side2 ?side3 ?side4 A4.out).mono ?_); (case side1 => exact cX (Kd.C_below HR0_0.out HB.out)); (case side2 => exact HC0_0.out); (case side3 => exact cX (Kd.C_below HR0_1.out HB.out)); (case side4 => exact HC0_1.out); rintro e w10 ⟨v195, rfl, ho0, hb⟩; refine ⟨_, rfl, ?_⟩; have n0_ := Aside0.mk (Kd.R_lower ho0 (below_size (bX1 HB.out GE192.out))); have n1_ := Aside0.mk (bbX BK192.out hb); have n2_ := Aside0.mk (below_step (bX1 HB.out GE192.out) hb); clear BK192 HB; have HO196 := n0_; have BK192 := n1_; have HB := n2_; clear n0_ n1_ n2_; (try clear hb); (try clear hb2); (try clear hk); (try clear hi); (try clear ho0); obtain ⟨Ao11, co11, eo11⟩ := Kd.R_slice HO196.out; subst eo11) | ((with_reducible refine gate_callee (f := 35) rfl ?_); refine goesL_ (some 8) rfl rfl Tryz.func35 (by kernel_rfl) rfl #[.slice Ao11 t194.length co11] rfl aX ?_; (with_reducible refine (impl_CyclesOf.calls k _ _ t194 t197 _ ?side1 ?side2 A5.out).mono ?_); (case side1 => exact cX (Kd.R_reads' HO196.out).2.2); (case side2 => exact (Kd.R_reads' HO196.out).2.1); rintro e w12 ⟨v198, rfl, ho0, hb⟩; refine ⟨_, rfl, ?_⟩; have n0_ := Aside0.mk (Kd.R_below (rX HO196.out) hb); have n1_ := Aside0.mk (Kd.S_lower (Kd.S_new' ho0 (Kd.R_lt (rX HO196.out))) (below_size (bX1 HB.out GE192.out))); have n2_ := Aside0.mk (bbX BK192.out hb); have n3_ := Aside0.mk (below_step (bX1 HB.out GE192.out) hb); clear HO196 BK192 HB; have HO196 := n0_; have HO199 := n1_; have BK192 := n2_; have HB := n3_; clear n0_ n1_ n2_ n3_; (try clear hb); (try clear hb2); (try clear hk); (try clear hi); (try clear ho0)))
 go_ret
 exact ⟨_, eX, by (with_reducible repeat (first | apply Kd.S_alloc | apply Kd.S_drewN | apply Kd.S_drew)); exact Kd.S_mono HO199.out (fun _ hk => trivial), bX1 HB.out GE192.out⟩
 }
 {
 replace c3 := Bool.eq_false_iff.mpr c3
 subst c3
 have H1 : (some ([] : List (List Int))) = some r := by rw [if_neg (show ¬ (false = true) by decide)] at H; exact H
 clear H
 have H := H1
 clear H1
 obtain rfl := Option.some.inj H
 go_enter Tryz.func41, Tryz.ntmps41
 go_wp2_with (first | ((with_reducible refine gate_dst (N := 1) rfl ?_); refine box_event ?hg (N := 1) ?hd (cs := #[.slice A0_0 l0_0.length c0_0, .slice A0_1 l0_1.length c0_1]) (t := 25) ?hr ?_; (case hd => rfl); (case hg => rfl); (case hr => first | (go_simp; done) | (go_simp; rfl)); intro gb192 hg w13 hbox hb; have n0_ := Aside0.mk (below_step (bX HB.out) hb); have n1_ := Aside0.mk (hbox); have n2_ := Aside0.mk ((szX (below_size (bX HB.out)) hg : w.heap.size ≤ gb192)); have n3_ := Aside0.mk ((szX (below_size (bX HB.out)) hg : w.heap.size ≤ gb192)); clear HB; have HB := n0_; have BK192 := n1_; have GW192 := n2_; have GE192 := n3_; clear n0_ n1_ n2_ n3_ hb hbox hg; have hcz14_0 := cz20 BK192.out; have hcz14_1 := cz21 BK192.out; have hfz14_0 := blk_frozen BK192.out 0; have hfz14_1 := blk_frozen BK192.out 1) | ((with_reducible refine gate_callee (f := 31) rfl ?_); refine goesL_ (some 4) rfl rfl Tryz.func31 (by kernel_rfl) rfl #[.agg #[.slice A0_0 l0_0.length c0_0, .slice A0_1 l0_1.length c0_1]] rfl aX ?_; (with_reducible refine (impl_SurfaceOk.calls k _ _ l0_0 _ _ l0_1 false _ ?side1 ?side2 ?side3 ?side4 A2.out).mono ?_); (case side1 => exact cX (Kd.C_below HR0_0.out HB.out)); (case side2 => exact HC0_0.out); (case side3 => exact cX (Kd.C_below HR0_1.out HB.out)); (case side4 => exact HC0_1.out); rintro e w15 ⟨rfl, hb⟩; refine ⟨_, rfl, ?_⟩; have n0_ := Aside0.mk (bbX BK192.out hb); have n1_ := Aside0.mk (below_step (bX1 HB.out GE192.out) hb); clear BK192 HB; have BK192 := n0_; have HB := n1_; clear n0_ n1_; (try clear hb); (try clear hb2); (try clear hk); (try clear hi)))
 go_ret
 exact ⟨_, eX, by first | exact Kd.S_nil _ _ _ _ _ | exact Kd.N_nil _ _ _ _ _ | exact Kd.V_nil _ _ _ _ _ | exact Kd.Q_nil _ _ _ _ _ | exact Kd.R_nil _ _ _ _ _, bX1 HB.out GE192.out⟩
 }

/-! ### slices_SortFunc_int_int: function 42 -/
/-! by hand -/
/-- A function value that hands back the second less the first. -/
def IsDesc (g : Nat) : Prop := (∀ args w, (callFunc g args).run Tryz.prog w = .ok (.enter g args) w) ∧ ∀ (x y : Int) (W : World), Calls Tryz.prog g #[.int .i64 x, .int .i64 y] W fun e w' => e = .returned (.int .i64 (wrap64 (y - x))) ∧ w' = W
theorem angles_desc : IsDesc 43 := ⟨fun args w => enters_ Tryz.func43 (by kernel_rfl) rfl args w, fun x y W => by
  go_enter Tryz.func43, Tryz.ntmps43
  go_wp2
  go_ret
  exact ⟨by simp [i64_w], rfl⟩⟩
theorem cusps_desc : IsDesc 93 := ⟨fun args w => enters_ Tryz.func93 (by kernel_rfl) rfl args w, fun x y W => by
  go_enter Tryz.func93, Tryz.ntmps93
  go_wp2
  go_ret
  exact ⟨by simp [i64_w], rfl⟩⟩
def Sml : Type := {x : Int // 0 ≤ x ∧ x ≤ 100000}
instance : Inhabited Sml := ⟨⟨0, by decide⟩⟩
def sEnc (x : Sml) : Value := .int .i64 x.1
def sCmp (x y : Sml) : Int := y.1 - x.1
theorem sLt (x y : Sml) : ltOf sCmp x y = decide (y.1 < x.1) := by
 unfold ltOf sCmp
 exact decide_eq_decide.2 (by omega)
theorem sSwo : Go.Sort.SWO (ltOf sCmp) where
  irrefl x := by rw [sLt]; simp
  trans x y z h1 h2 := by rw [sLt] at *; simp at *; omega
  ntrans x y z h1 h2 := by rw [sLt] at *; simp at *; omega
def slices_SortFunc_int_int.f (l0 : List Int) : Option (List Int) := if (∀ x ∈ l0, 0 ≤ x ∧ x ≤ 100000) ∧ l0.length ≤ 1000 then some (l0.mergeSort fun x y => decide (y ≤ x)) else none
def smls : (l : List Int) → (∀ x ∈ l, 0 ≤ x ∧ x ≤ 100000) → List Sml
  | [], _ => []
  | x :: l, h => ⟨x, h x List.mem_cons_self⟩ :: smls l (fun y hy => h y (List.mem_cons_of_mem _ hy))
theorem smls_map : ∀ (l : List Int) (h : ∀ x ∈ l, 0 ≤ x ∧ x ≤ 100000), (smls l h).map (·.1) = l
  | [], _ => rfl
  | x :: l, h => by
    show x :: (smls l _).map (·.1) = x :: l
    rw [smls_map l]
theorem smls_enc (l : List Int) (h : ∀ x ∈ l, 0 ≤ x ∧ x ≤ 100000) : (smls l h).map sEnc = encs (Value.int .i64) l := by
 have e : (smls l h).map sEnc = ((smls l h).map (·.1)).map (Value.int .i64) := by rw [List.map_map]; rfl
 rw [e, smls_map]
 rfl
theorem smls_sort (l : List Int) (h : ∀ x ∈ l, 0 ≤ x ∧ x ≤ 100000) : ((smls l h).mergeSort fun x y => !(ltOf sCmp) y x).map (·.1) = l.mergeSort fun x y => decide (y ≤ x) := by
 rw [List.map_mergeSort (s := fun x y => decide (y ≤ x)) (fun a _ b _ => by rw [sLt]; by_cases c : a.1 < b.1 <;> simp [c] <;> omega), smls_map]
/-- The world behind a sort. -/
theorem sort_world {enc : Sml → Value} {w w0 : World} {g n : Nat} {d : Array Sml} {os : Array Obj} (hg : w0.heap.size ≤ g) (hB : Below w0.heap.size w0 w) (hgw : g < w.heap.size) :
    Below w0.heap.size w0 (sortWorld enc w g 0 n d os) ∧ (∀ k, k < w.heap.size → k ≠ g → (sortWorld enc w g 0 n d os).heap[k]? = w.heap[k]?) ∧ w.heap.size ≤ (sortWorld enc w g 0 n d os).heap.size ∧
    ∀ cur e fz, w.heap[g]? = some (.cells cur e fz) → (sortWorld enc w g 0 n d os).heap[g]? = some (.cells (Go.Sort.putCells enc 0 d cur) e fz) := by
  have hsz : (Go.Sort.putRow enc (Go.Sort.ahead w n) g 0 d).heap.size = w.heap.size := by simp [Go.Sort.putRow, Go.Sort.mapBlock, Go.Sort.ahead]
  have old : ∀ k, k < w.heap.size → (sortWorld enc w g 0 n d os).heap[k]? = (w.heap.modify g (Go.Sort.onCells (Go.Sort.putCells enc 0 d)))[k]? := fun k hk => by
    unfold sortWorld
    rw [Go.Sort.heap_grow_old _ _ (by rw [hsz]; exact hk)]
    rfl
  have far : ∀ k, k < w.heap.size → k ≠ g → (sortWorld enc w g 0 n d os).heap[k]? = w.heap[k]? := fun k hk hne => by
    rw [old k hk, Array.getElem?_modify, if_neg (Ne.symm hne)]
  have big : w.heap.size ≤ (sortWorld enc w g 0 n d os).heap.size := by
    unfold sortWorld
    rw [Go.Sort.size_grow, hsz]
    omega
  refine ⟨⟨hB.os, hB.tape, hB.output, Nat.le_trans hB.size big, fun k hk => ?_⟩, far, big, fun cur e fz h => ?_⟩
  · rw [far k (Nat.lt_of_lt_of_le hk hB.size) (by omega)]
    exact hB.block k hk
  · rw [old g hgw, Array.getElem?_modify, if_pos rfl, h]
    rfl
theorem sort_close {w : World} {base g cap : Nat} {P : Nat → Prop} {l : List Int} {cur : Array Value} (hP : P g) (hg : base ≤ g) (hh : w.heap[g]? = some (.cells cur 3 (0, 0))) (h1 : l.length ≤ cap) (h2 : cap ≤ maxLen) (h3 : cur.size = cap) (h4 : cur.toList.take l.length = encs (Value.int .i64) l) :
    Kd.R (Kd.int .i64) 3 w base P (.slice (some ⟨g, 0, none⟩) l.length cap) l := by
 refine Kd.R_of_own (enc := Value.int .i64) (h1 := fun _ => rfl) ⟨by rw [encs_length, Nat.mul_one], .inr ⟨g, cap, cur, rfl, hg, hh, h1, h2, by rw [h3, Nat.mul_one], by rw [Nat.mul_one]; exact h4⟩⟩ ?_
 intro k hk
 have : g = k := by simpa [Value.ownBlock] using hk
 rw [← this]
 exact hP
set_option maxHeartbeats 4000000 in
theorem slices_SortFunc_int_int.calls (P0_ : Nat → Prop) (u9000_ : Value) (l0 : List Int) (r : List Int) (w0 w : World) (hB : Below w0.heap.size w0 w) (ho0 : Kd.R (Kd.int .i64) 3 w w0.heap.size P0_ u9000_ l0) (h : slices_SortFunc_int_int.f l0 = some r) {G : Nat} (hG : IsDesc G := by first | exact angles_desc | exact cusps_desc) :
    Calls Tryz.prog 42 #[u9000_, .func (.func G) #[] #[]] w fun e w' => e = .returned (.tuple #[]) ∧ Kd.R (Kd.int .i64) 3 w' w0.heap.size (fun k_ => (P0_ k_ ∨ w.heap.size ≤ k_)) u9000_ r ∧ Below w0.heap.size w0 w' ∧ Kept w w' (fun k_ => P0_ k_) := by
  unfold slices_SortFunc_int_int.f at h
  by_cases hc : (∀ x ∈ l0, 0 ≤ x ∧ x ≤ 100000) ∧ l0.length ≤ 1000
  · rw [if_pos hc] at h
    obtain rfl := Option.some.inj h
    have hown := Kd.own_of_R (enc := Value.int .i64) (h1 := fun _ => rfl) ho0
    by_cases hz : l0 = []
    · subst hz
      have hu : ∃ p c, u9000_ = .slice p 0 c := by
        rcases hown.2 with ⟨e, _⟩ | ⟨g, cap, cur, e, _⟩
        · exact ⟨none, 0, e⟩
        · exact ⟨_, _, e⟩
      obtain ⟨p, c, rfl⟩ := hu
      refine (Tryz.slices_SortFunc_none (α := Sml) p c _ w).mono ?_
      rintro e w' ⟨rfl, rfl⟩
      rw [show (([] : List Int).mergeSort fun x y => decide (y ≤ x)) = [] from by simp]
      exact ⟨rfl, Kd.R_mono ho0 (fun k hk => .inl hk), hB, Kept.refl _ _⟩
    · have hlen : 0 < l0.length := List.length_pos_iff.mpr hz
      rcases hown.2 with ⟨_, hn⟩ | ⟨g, cap, cur, rfl, hg, hh, h1, h2, h3, h4⟩
      · exact absurd hn (by omega)
      · rw [Nat.mul_one] at h3 h4
        have hP := ho0.1 g rfl
        have hgw : g < w.heap.size := blk_lt hh
        have hcur : cur.toList.take l0.length = encs (Value.int .i64) l0 := h4
        have hds : (smls l0 hc.1).length = l0.length := by have := congrArg List.length (smls_map l0 hc.1); simpa using this
        have hH : Go.Sort.Holds sEnc w g 0 (smls l0 hc.1).toArray := fun j hj => by
          have hj2 : j < (smls l0 hc.1).length := by simpa using hj
          refine ⟨?_, by rw [Nat.zero_add]; exact blk_frozen hh j⟩
          rw [Nat.zero_add, blk_cell hh]
          have e1 : cur[j]? = (encs (Value.int .i64) l0)[j]? := by
            rw [← hcur, List.getElem?_take, if_pos (by omega)]
            simp
          rw [e1, ← smls_enc l0 hc.1, List.getElem?_map]
          simp [hj2]
        have hcmp : CmpReads Tryz.prog G #[] sEnc sCmp g 0 (smls l0 hc.1).toArray.size w := fun m os dk hs x y => by
          refine (hG.2 x.1 y.1 _).mono ?_
          rintro e w' ⟨rfl, rfl⟩
          refine ⟨?_, 0, rfl⟩
          have hx := x.2
          have hy := y.2
          rw [show wrap64 (y.1 - x.1) = sCmp x y from by unfold wrap64 sCmp; omega]
        have hcall := Tryz.slices_SortFunc_total sEnc (fun _ => rfl) sCmp sSwo G #[] g 0 cap (smls l0 hc.1).toArray w hG.1 hcmp.lays hH hgw (by simp; omega) (fun x y h1 h2 => by rw [sLt] at h1 h2; simp at h1 h2; exact Subtype.ext (by omega))
        rw [List.size_toArray, hds] at hcall
        refine hcall.mono ?_
        clear hcall
        rintro e w' ⟨rfl, n, os, rfl⟩
        obtain ⟨s1, s2, s3, s4⟩ := sort_world (enc := sEnc) (n := n) (d := ((smls l0 hc.1).mergeSort fun x y => !(ltOf sCmp) y x).toArray) (os := os) hg hB hgw
        refine ⟨rfl, ?_, s1, ⟨s3, fun i hi hs => s2 i hi (fun e => hs (e ▸ hP))⟩⟩
        have hrl : (l0.mergeSort fun x y => decide (y ≤ x)).length = l0.length := List.length_mergeSort _
        have hsl : ((smls l0 hc.1).mergeSort fun x y => !(ltOf sCmp) y x).length = l0.length := by rw [List.length_mergeSort, hds]
        have hse : ((smls l0 hc.1).mergeSort fun x y => !(ltOf sCmp) y x).map sEnc = encs (Value.int .i64) (l0.mergeSort fun x y => decide (y ≤ x)) := by
          rw [← smls_sort l0 hc.1]
          show _ = (List.map _ _).map _
          rw [List.map_map]
          rfl
        have := sort_close (P := fun k_ => (P0_ k_ ∨ w.heap.size ≤ k_)) (l := l0.mergeSort fun x y => decide (y ≤ x)) (cap := cap) (.inl hP) hg (s4 cur 3 (0, 0) hh) (by rw [hrl]; exact h1) h2 (by simp [Go.Sort.putCells, h3]) (by
          rw [hrl, ← hse]
          apply List.ext_getElem?
          intro i
          by_cases hi : i < l0.length
          · have hic : i < cur.size := by omega
            have e2 : (((smls l0 hc.1).mergeSort fun x y => !(ltOf sCmp) y x).toArray)[i]! = ((smls l0 hc.1).mergeSort fun x y => !(ltOf sCmp) y x)[i]'(by omega) := by
              rw [getElem!_pos _ i (by rw [List.size_toArray]; omega)]
              simp
            simp [Go.Sort.putCells, List.getElem?_take, hi, hic, hsl, List.getElem?_map, e2]
          · rw [List.getElem?_eq_none (by rw [List.length_take]; omega), List.getElem?_eq_none (by rw [List.length_map]; omega)])
        rw [hrl] at this
        exact this
  · rw [if_neg hc] at h
    exact absurd h (by simp)

/-! ### impl_AnglesOf: function 12 -/
def impl_AnglesOf.l0 : Nat → List Int → List (List Int) → Int → Int → Option (List Int)
 | 0, _, _, _, _ => none
 | k + 1, x3, x8, x9, x10 => if x10 < x9 then (if 0 ≤ x10 then (if x10 < (x8.length : Int) then (if x3.length < 17592186044416 then (impl_AnglesOf.l0 k (x3 ++ [((rd_L2 x8 x10).length : Int)]) x8 x9 (wrap64 (x10 + 1))) else (none)) else (none)) else (none)) else ((slices_SortFunc_int_int.f x3).bind fun t211 => (some t211))
def impl_AnglesOf.f (k : Nat) (l0_0 : List Int) (l0_1 : List Int) : Option (List Int) := (impl_CornersOf.f k l0_0 l0_1).bind fun t204 => (impl_AnglesOf.l0 k (([] : List Int)) t204 (t204.length : Int) 0)
set_option maxHeartbeats 8000000 in
set_option maxRecDepth 100000 in
theorem impl_AnglesOf.calls (k : Nat) (A0_0 : Option Addr) (c0_0 : Nat) (l0_0 : List Int) (A0_1 : Option Addr) (c0_1 : Nat) (l0_1 : List Int) (r : List Int) (w : World) (hr0_0 : Kd.C (Kd.int .i64) w A0_0 l0_0.length l0_0) (hc0_0 : l0_0.length ≤ c0_0) (hr0_1 : Kd.C (Kd.int .i64) w A0_1 l0_1.length l0_1) (hc0_1 : l0_1.length ≤ c0_1) (h : impl_AnglesOf.f k l0_0 l0_1 = some r) :
  Calls Tryz.prog 12 #[.agg #[.slice A0_0 l0_0.length c0_0, .slice A0_1 l0_1.length c0_1]] w fun e w' => ∃ v0_ : Value, e = .returned (v0_) ∧ Kd.R (Kd.int .i64) 3 w' w.heap.size (fun _ => True) v0_ r ∧ Below w.heap.size w w' := by
 have hu25 := Tryz.underlying25
 have HR0_0 := Aside0.mk hr0_0
 have HC0_0 := Aside0.mk hc0_0
 clear hr0_0 hc0_0
 have HR0_1 := Aside0.mk hr0_1
 have HC0_1 := Aside0.mk hc0_1
 clear hr0_1 hc0_1
 have HB := Aside0.mk (Below.refl w.heap.size w)
 have H : ((impl_CornersOf.f k l0_0 l0_1).bind fun t204 => (impl_AnglesOf.l0 k (([] : List Int)) t204 (t204.length : Int) 0)) = some r := h
 clear h
 obtain ⟨y201, hy201⟩ : ∃ y_ : List Int, y_ = (([] : List Int)) := ⟨_, rfl⟩
 replace H : ((impl_CornersOf.f k l0_0 l0_1).bind fun t204 => (impl_AnglesOf.l0 k y201 t204 (t204.length : Int) 0)) = some r := by first | (rw [hy201]; with_reducible exact H) | (have H2_ := (Option.bind_some _ _).symm.trans H; rw [hy201]; with_reducible exact H2_) | (have H2_ := (Option.bind_some _ _).symm.trans H; with_reducible exact H2_) | with_reducible exact H | (rw [hy201]; exact H) | exact H
 have Ny201 := Aside0.mk hy201
 clear hy201
 replace H := Option.bind_eq_some_iff.mp H
 obtain ⟨t204, A20, H⟩ := H
 replace H : (impl_AnglesOf.l0 k y201 t204 (t204.length : Int) 0) = some r := H
 have A2 := Aside0.mk A20
 clear A20
 have H' := Aside0.mk H
 clear H
 go_enter Tryz.func12, Tryz.ntmps12
 go_wp2_with (first | ((with_reducible refine gate_dst (N := 1) rfl ?_); refine box_event ?hg (N := 1) ?hd (cs := #[.slice A0_0 l0_0.length c0_0, .slice A0_1 l0_1.length c0_1]) (t := 25) ?hr ?_; (case hd => rfl); (case hg => rfl); (case hr => first | (go_simp; done) | (go_simp; rfl)); intro gb200 hg w3 hbox hb; have n0_ := Aside0.mk (below_step (bX HB.out) hb); have n1_ := Aside0.mk (hbox); have n2_ := Aside0.mk ((szX (below_size (bX HB.out)) hg : w.heap.size ≤ gb200)); have n3_ := Aside0.mk ((szX (below_size (bX HB.out)) hg : w.heap.size ≤ gb200)); clear HB; have HB := n0_; have BK200 := n1_; have GW200 := n2_; have GE200 := n3_; clear n0_ n1_ n2_ n3_ hb hbox hg) | ((with_reducible refine gate_dst (N := 6) rfl ?_); refine Kd.R_lit (Kd.int .i64) _ 3 ?hg (N := 6) ?hd (xs := ([] : List Int)) (inner := []) (ok := fun _ => True) (okp := fun _ => True) ?hr ?hp (fun _ hk => hk) trivial (Below.refl _ _) (Nat.le_refl _) (by simp) ?_; (case hd => rfl); (case hg => rfl); (case hr => first | (go_simp; done) | (go_simp; rfl)); (case hp => exact (Reps.none _ _)); intro v202 w4 ho5 hb hg_ hnew_; clear hg_ hnew_; (first | rw [← Ny201.out] at ho5 | (simp only [Int.reduceToNat] at ho5; rw [← Ny201.out] at ho5)); have n0_ := Aside0.mk (Kd.R_lower ho5 (below_size (bX1 HB.out GE200.out))); have n1_ := Aside0.mk (bbX BK200.out hb); have n2_ := Aside0.mk (below_step (bX1 HB.out GE200.out) hb); clear BK200 HB; have HO203 := n0_; have BK200 := n1_; have HB := n2_; clear n0_ n1_ n2_ hb ho5; have hcz6_0 := cz20 BK200.out; have hcz6_1 := cz21 BK200.out; have hfz6_0 := blk_frozen BK200.out 0; have hfz6_1 := blk_frozen BK200.out 1) | ((with_reducible refine gate_callee (f := 41) rfl ?_); refine goesL_ (some 8) rfl rfl Tryz.func41 (by kernel_rfl) rfl #[.agg #[.slice A0_0 l0_0.length c0_0, .slice A0_1 l0_1.length c0_1]] rfl aX ?_; (with_reducible refine (impl_CornersOf.calls k _ _ l0_0 _ _ l0_1 t204 _ ?side1 ?side2 ?side3 ?side4 A2.out).mono ?_); (case side1 => exact cX (Kd.C_below HR0_0.out HB.out)); (case side2 => exact HC0_0.out); (case side3 => exact cX (Kd.C_below HR0_1.out HB.out)); (case side4 => exact HC0_1.out); rintro e w7 ⟨v205, rfl, ho0, hb⟩; refine ⟨_, rfl, ?_⟩; have n0_ := Aside0.mk (Kd.R_below (rX HO203.out) hb); have n1_ := Aside0.mk (Kd.S_lower (Kd.S_new' ho0 (Kd.R_lt (rX HO203.out))) (below_size (bX1 HB.out GE200.out))); have n2_ := Aside0.mk (bbX BK200.out hb); have n3_ := Aside0.mk (below_step (bX1 HB.out GE200.out) hb); clear HO203 BK200 HB; have HO203 := n0_; have HO206 := n1_; have BK200 := n2_; have HB := n3_; clear n0_ n1_ n2_ n3_; (try clear hb); (try clear hb2); (try clear hk); (try clear hi); (try clear ho0); obtain ⟨Ao8, co8, eo8⟩ := Kd.S_slice HO206.out; subst eo8))
 go_loopg [3, 10] k (fun kq v3 v10 w' => ∃ (x3_1 : List Int) (x10_1 : Int), v10 = .int .i64 x10_1 ∧ Aside0 (impl_AnglesOf.l0 kq x3_1 t204 (t204.length : Int) x10_1 = some r) ∧ Aside0 (kq ≤ k) ∧ Aside0 (Kd.R (Kd.int .i64) 3 w' w.heap.size (fun _ => True) v3 x3_1) ∧ Aside0 (Kd.S (Kd.slice 3 (Kd.int .i64)) 23 w' w.heap.size (fun k_ => some k_ ≠ (v3 : Value).ownBlock) (.slice Ao8 t204.length co8) t204) ∧ Aside0 (w'.heap[gb200]? = some (.cells #[(.slice A0_0 l0_0.length c0_0), (.slice A0_1 l0_1.length c0_1)] 25 (0, 0))) ∧ Aside0 (Below w.heap.size w w'))
 case atStart => exact ⟨(y201), (0), vX, H', ⟨Nat.le_refl _⟩, ⟨rX HO203.out⟩, ⟨by (with_reducible repeat (first | apply Kd.S_alloc | apply Kd.S_drewN | apply Kd.S_drew)); exact Kd.S_mono HO206.out (fun _ hk => hk.2)⟩, ⟨kX BK200.out⟩, ⟨bX1 HB.out GE200.out⟩⟩
 case round =>
 clear H'
 try clear c1
 try clear p2
 try clear c4
 try clear hcz6_0
 try clear hcz6_1
 try clear hfz6_0
 try clear hfz6_1
 obtain ⟨x3_1, x10_1, rfl, HA, HK1, HO_3, HO_8, BK200, HB⟩ := hrel
 cases gk with
 | zero => exact absurd HA.out (by simp [impl_AnglesOf.l0])
 | succ k1 =>
 have H := HA.out
 clear HA
 simp only [impl_AnglesOf.l0] at H
 by_cases c9 : x10_1 < (t204.length : Int)
 {
 rw [if_pos c9] at H
 have c9b0 : decide (x10_1 < (t204.length : Int)) = true := decide_eq_true c9
 clear c9
 by_cases c10 : 0 ≤ x10_1
 {
 rw [if_pos c10] at H
 have c10b0 : decide (0 ≤ x10_1) = true := decide_eq_true c10
 clear c10
 by_cases c11 : x10_1 < (t204.length : Int)
 {
 rw [if_pos c11] at H
 have c11b0 : decide (x10_1 < (t204.length : Int)) = true := decide_eq_true c11
 clear c11
 by_cases c12 : x3_1.length < 17592186044416
 {
 rw [if_pos c12] at H
 have LMc12 := Aside0.mk c12
 clear c12
 obtain ⟨y208, hy208⟩ : ∃ y_ : List Int, y_ = (x3_1 ++ [((rd_L2 t204 x10_1).length : Int)]) := ⟨_, rfl⟩
 replace H : (impl_AnglesOf.l0 k1 y208 t204 (t204.length : Int) (wrap64 (x10_1 + 1))) = some r := by first | (rw [hy208]; with_reducible exact H) | (have H2_ := (Option.bind_some _ _).symm.trans H; rw [hy208]; with_reducible exact H2_) | (have H2_ := (Option.bind_some _ _).symm.trans H; with_reducible exact H2_) | with_reducible exact H | (rw [hy208]; exact H) | exact H
 have Ny208 := Aside0.mk hy208
 clear hy208
 have H' := Aside0.mk H
 clear H
 have p207 : 0 ≤ (x10_1 : Int) := dX
 have q207 : x10_1 < (t204.length : Int) := dX
 obtain ⟨ad207, A207_0, c207_0, e207, hx207_0, hl207_0, hi207_0⟩ := at_L2 (Kd.S_reads' HO_8.out).2.2 x10_1 p207 q207
 cases e207
 obtain ⟨ce207, hce207, hMe207, hcc207⟩ := Kd.S_get HO_8.out [] x10_1 p207 (by first | exact q207 | exact dX | (have e_ := (Kd.S_reads' HO_8.out).1; omega))
 obtain ⟨ve207_0, rfl, ge207_0⟩ := hMe207
 have hv207_0 := hcc207 0 _ rfl
 rw [Nat.add_zero, show ((Kd.slice 3 (Kd.int .i64))).sz = 1 from rfl, Nat.mul_one] at hv207_0
 replace hv207_0 := Option.some.inj (hv207_0.symm.trans hx207_0)
 rw [hv207_0] at ge207_0
 have HL207_0 := Aside0.mk (show Kd.R (Kd.int .i64) 3 _ _ _ _ (rd_L2 t204 x10_1) from ge207_0)
 clear hv207_0 ge207_0 hcc207 hce207
 have HR207_0 := Aside0.mk hi207_0
 have HC207_0 := Aside0.mk hl207_0
 clear hi207_0 hl207_0
 replace p207 := eq_true p207
 replace q207 := eq_true q207
 go_wp2_with (first | ((with_reducible refine gate_builtin (b := .append) (xs := #[.tmp 14, .tmp 17]) rfl ?_); at_builtin; refine Kd.R_append (Kd.int .i64) (w0 := w) w.heap.size rfl (.tmp 14) (.tmp 17) 23 3 (.int .i64 0) 8 rfl Tryz.underlying23 info3 rfl (by decide) (by omega) u3 x3_1 ((rd_L2 t204 x10_1).length : Int) [.int .i64 ((rd_L2 t204 x10_1).length : Int)] (fun _ => True) (fun _ => False) rfl rfl ?aP (fun _ hk => hk.elim) ?aF ?aO ?aB ?aS ?aL ?_; (case aP => exact rfl); (case aB => exact (bX1 HB.out GE200.out)); (case aF => exact (fun _ _ => trivial)); (case aO => exact (rX HO_3.out)); (case aS => exact (below_size (bX1 HB.out GE200.out))); (case aL => have := LMc12.out; omega); intro v209 w13 ho hb hg hat; rw [← Ny208.out] at ho; have n0_ := Aside0.mk (Kd.S_after (ok := (fun _ => True)) (by (with_reducible repeat (first | apply Kd.S_alloc | apply Kd.S_drewN | apply Kd.S_drew)); exact Kd.S_mono HO_8.out (fun _ hk => ⟨trivial, hk⟩)) hg hat); have n1_ := Aside0.mk (bgX BK200.out hg (Kd.R_ne HO_3.out BK200.out (by decide))); have n2_ := Aside0.mk (Kd.R_after (ok := (fun k_ => some k_ ≠ (.slice (some ad207) t204.length co8 : Value).ownBlock)) (rM HL207_0.out (fun _ hk => ⟨hk.2, hk.1⟩)) hg hat); have n3_ := Aside0.mk (hb); have n4_ := Aside0.mk (ho); clear HO_8 BK200 HL207_0 HB HO_3; have HO_8 := n0_; have BK200 := n1_; have HL207_0 := n2_; have HB := n3_; have HO210 := n4_; clear n0_ n1_ n2_ n3_ n4_ ho hb hg hat))
 go_roundg k1
 case measure => have := HK1.out; omega
 case rel => exact ⟨(y208), (wrap64 (x10_1 + 1)), vX, H', ⟨by have := HK1.out; omega⟩, ⟨rX HO210.out⟩, ⟨by (with_reducible repeat (first | apply Kd.S_alloc | apply Kd.S_drewN | apply Kd.S_drew)); exact Kd.S_mono HO_8.out (fun _ hk => hk.2)⟩, ⟨kX BK200.out⟩, ⟨bX1 HB.out GE200.out⟩⟩
 }
 {
 rw [if_neg c12] at H
 exact absurd H (by simp)
 }
 }
 {
 rw [if_neg c11] at H
 exact absurd H (by simp)
 }
 }
 {
 rw [if_neg c10] at H
 exact absurd H (by simp)
 }
 }
 {
 rw [if_neg c9] at H
 have c9b0 : decide (x10_1 < (t204.length : Int)) = false := decide_eq_false c9
 clear c9
 replace H := Option.bind_eq_some_iff.mp H
 obtain ⟨t211, A140, H⟩ := H
 replace H : (some t211) = some r := H
 have A14 := Aside0.mk A140
 clear A140
 obtain rfl := Option.some.inj H
 obtain ⟨Ao15, co15, eo15⟩ := Kd.R_slice HO_3.out
 subst eo15
 go_wp2_with (first | ((with_reducible refine gate_callee (f := 42) rfl ?_); refine goesL_ (some 21) rfl rfl Tryz.func42 (by kernel_rfl) rfl #[.slice Ao15 x3_1.length co15, .func (.func 43) #[] #[]] rfl aX ?_; (with_reducible refine (slices_SortFunc_int_int.calls (fun k_ => some k_ = (.slice Ao15 x3_1.length co15 : Value).ownBlock) (.slice Ao15 x3_1.length co15) x3_1 t211 w _ ?side1 ?side2 A14.out).mono ?_); (case side1 => repeat (first | (with_reducible first | exact HB.out|apply bA|apply bN|apply bD | refine below_set ?_ GE200.out) | exact HB.out)); (case side2 => exact Kd.R_tight rfl HO_3.out); rintro e w16 ⟨rfl, hy0, hb, hkp⟩; refine ⟨_, rfl, ?_⟩; have n0_ := Aside0.mk (Kd.R_reok rfl hy0 (fun k_ e_ => HO_3.out.1 k_ e_)); have n1_ := Aside0.mk (Kd.S_mono (ok' := fun k_ => some k_ ≠ (.slice Ao15 x3_1.length co15 : Value).ownBlock) (Kd.S_keptB (HO_8.out) hkp (fun k_ hk_ hs_ => (hk_) hs_)) (fun k_ hk_ => hk_.1)); have n2_ := Aside0.mk (blk_kept (kX BK200.out) hkp (fun hs_ => (fun e_ => (Kd.R_ne HO_3.out BK200.out (by decide)) e_) hs_)); have n3_ := Aside0.mk (hb); clear HO_3 HO_8 BK200 HB; have HO_3 := n0_; have HO_8 := n1_; have BK200 := n2_; have HB := n3_; clear n0_ n1_ n2_ n3_; (try clear hb); (try clear hkp); (try clear hy0)))
 go_ret
 exact ⟨_, eX, by (with_reducible repeat (first|apply rA|apply rN|apply rD)); exact HO_3.out, bX1 HB.out GE200.out⟩
 }

/-! ### impl_CountSquares: function 32 -/
def impl_CountSquares.f (k : Nat) (l0_0 : List Int) (l0_1 : List Int) : Option (Int) := (impl_SurfaceOk.f k l0_0 l0_1).bind fun t213 => (if t213 = true then (some (l0_0.length : Int)) else (some 0))
set_option maxHeartbeats 8000000 in
set_option maxRecDepth 100000 in
theorem impl_CountSquares.calls (k : Nat) (A0_0 : Option Addr) (c0_0 : Nat) (l0_0 : List Int) (A0_1 : Option Addr) (c0_1 : Nat) (l0_1 : List Int) (r : Int) (w : World) (hr0_0 : Kd.C (Kd.int .i64) w A0_0 l0_0.length l0_0) (hc0_0 : l0_0.length ≤ c0_0) (hr0_1 : Kd.C (Kd.int .i64) w A0_1 l0_1.length l0_1) (hc0_1 : l0_1.length ≤ c0_1) (h : impl_CountSquares.f k l0_0 l0_1 = some r) :
  Calls Tryz.prog 32 #[.agg #[.slice A0_0 l0_0.length c0_0, .slice A0_1 l0_1.length c0_1]] w fun e w' => e = .returned (.int .i64 r) ∧ Below w.heap.size w w' := by
 have hu25 := Tryz.underlying25
 have HR0_0 := Aside0.mk hr0_0
 have HC0_0 := Aside0.mk hc0_0
 clear hr0_0 hc0_0
 have HR0_1 := Aside0.mk hr0_1
 have HC0_1 := Aside0.mk hc0_1
 clear hr0_1 hc0_1
 have HB := Aside0.mk (Below.refl w.heap.size w)
 have H : ((impl_SurfaceOk.f k l0_0 l0_1).bind fun t213 => (if t213 = true then (some (l0_0.length : Int)) else (some 0))) = some r := h
 clear h
 replace H := Option.bind_eq_some_iff.mp H
 obtain ⟨t213, A20, H⟩ := H
 replace H : (if t213 = true then (some (l0_0.length : Int)) else (some 0)) = some r := H
 have A2 := Aside0.mk A20
 clear A20
 by_cases c3 : t213 = true
 {
 subst c3
 have H1 : (some (l0_0.length : Int)) = some r := by rw [if_pos rfl] at H; exact H
 clear H
 have H := H1
 clear H1
 obtain rfl := Option.some.inj H
 go_enter Tryz.func32, Tryz.ntmps32
 go_wp2_with (first | ((with_reducible refine gate_dst (N := 1) rfl ?_); refine box_event ?hg (N := 1) ?hd (cs := #[.slice A0_0 l0_0.length c0_0, .slice A0_1 l0_1.length c0_1]) (t := 25) ?hr ?_; (case hd => rfl); (case hg => rfl); (case hr => first | (go_simp; done) | (go_simp; rfl)); intro gb212 hg w4 hbox hb; have n0_ := Aside0.mk (below_step (bX HB.out) hb); have n1_ := Aside0.mk (hbox); have n2_ := Aside0.mk ((szX (below_size (bX HB.out)) hg : w.heap.size ≤ gb212)); have n3_ := Aside0.mk ((szX (below_size (bX HB.out)) hg : w.heap.size ≤ gb212)); clear HB; have HB := n0_; have BK212 := n1_; have GW212 := n2_; have GE212 := n3_; clear n0_ n1_ n2_ n3_ hb hbox hg; have hcz5_0 := cz20 BK212.out; have hcz5_1 := cz21 BK212.out; have hfz5_0 := blk_frozen BK212.out 0; have hfz5_1 := blk_frozen BK212.out 1) | ((with_reducible refine gate_callee (f := 31) rfl ?_); refine goesL_ (some 4) rfl rfl Tryz.func31 (by kernel_rfl) rfl #[.agg #[.slice A0_0 l0_0.length c0_0, .slice A0_1 l0_1.length c0_1]] rfl aX ?_; (with_reducible refine (impl_SurfaceOk.calls k _ _ l0_0 _ _ l0_1 true _ ?side1 ?side2 ?side3 ?side4 A2.out).mono ?_); (case side1 => exact cX (Kd.C_below HR0_0.out HB.out)); (case side2 => exact HC0_0.out); (case side3 => exact cX (Kd.C_below HR0_1.out HB.out)); (case side4 => exact HC0_1.out); rintro e w6 ⟨rfl, hb⟩; refine ⟨_, rfl, ?_⟩; have n0_ := Aside0.mk (bbX BK212.out hb); have n1_ := Aside0.mk (below_step (bX1 HB.out GE212.out) hb); clear BK212 HB; have BK212 := n0_; have HB := n1_; clear n0_ n1_; (try clear hb); (try clear hb2); (try clear hk); (try clear hi); have hcz7_0 := cz20 BK212.out; have hcz7_1 := cz21 BK212.out; have hfz7_0 := blk_frozen BK212.out 0; have hfz7_1 := blk_frozen BK212.out 1))
 go_ret
 exact ⟨eX, bX1 HB.out GE212.out⟩
 }
 {
 replace c3 := Bool.eq_false_iff.mpr c3
 subst c3
 have H1 : (some 0) = some r := by rw [if_neg (show ¬ (false = true) by decide)] at H; exact H
 clear H
 have H := H1
 clear H1
 obtain rfl := Option.some.inj H
 go_enter Tryz.func32, Tryz.ntmps32
 go_wp2_with (first | ((with_reducible refine gate_dst (N := 1) rfl ?_); refine box_event ?hg (N := 1) ?hd (cs := #[.slice A0_0 l0_0.length c0_0, .slice A0_1 l0_1.length c0_1]) (t := 25) ?hr ?_; (case hd => rfl); (case hg => rfl); (case hr => first | (go_simp; done) | (go_simp; rfl)); intro gb212 hg w8 hbox hb; have n0_ := Aside0.mk (below_step (bX HB.out) hb); have n1_ := Aside0.mk (hbox); have n2_ := Aside0.mk ((szX (below_size (bX HB.out)) hg : w.heap.size ≤ gb212)); have n3_ := Aside0.mk ((szX (below_size (bX HB.out)) hg : w.heap.size ≤ gb212)); clear HB; have HB := n0_; have BK212 := n1_; have GW212 := n2_; have GE212 := n3_; clear n0_ n1_ n2_ n3_ hb hbox hg; have hcz9_0 := cz20 BK212.out; have hcz9_1 := cz21 BK212.out; have hfz9_0 := blk_frozen BK212.out 0; have hfz9_1 := blk_frozen BK212.out 1) | ((with_reducible refine gate_callee (f := 31) rfl ?_); refine goesL_ (some 4) rfl rfl Tryz.func31 (by kernel_rfl) rfl #[.agg #[.slice A0_0 l0_0.length c0_0, .slice A0_1 l0_1.length c0_1]] rfl aX ?_; (with_reducible refine (impl_SurfaceOk.calls k _ _ l0_0 _ _ l0_1 false _ ?side1 ?side2 ?side3 ?side4 A2.out).mono ?_); (case side1 => exact cX (Kd.C_below HR0_0.out HB.out)); (case side2 => exact HC0_0.out); (case side3 => exact cX (Kd.C_below HR0_1.out HB.out)); (case side4 => exact HC0_1.out); rintro e w10 ⟨rfl, hb⟩; refine ⟨_, rfl, ?_⟩; have n0_ := Aside0.mk (bbX BK212.out hb); have n1_ := Aside0.mk (below_step (bX1 HB.out GE212.out) hb); clear BK212 HB; have BK212 := n0_; have HB := n1_; clear n0_ n1_; (try clear hb); (try clear hb2); (try clear hk); (try clear hi)))
 go_ret
 exact ⟨eX, bX1 HB.out GE212.out⟩
 }

/-! ### impl_RenamePerm: function 115 -/
mutual
def impl_RenamePerm.j0 : Nat → List Int → List Int → Bool → Option (List Int)
 | 0, _, _, _ => none
 | k + 1, x0, x1, x22 => if x22 = true then (some ([] : List Int)) else (if 0 ≤ (x0.length : Int) then (if ((x0.length : Int) : Int).toNat ≤ 35184372088832 then (impl_RenamePerm.l0 k x1 (List.replicate ((x0.length : Int) : Int).toNat 0) x0 (x0.length : Int) 0) else (none)) else (none))
def impl_RenamePerm.l0 : Nat → List Int → List Int → List Int → Int → Int → Option (List Int)
 | 0, _, _, _, _, _ => none
 | k + 1, x1, x5, x26, x27, x28 => if x28 < x27 then (if 0 ≤ x28 then (if x28 < (x26.length : Int) then (if x28 < (x1.length : Int) then (if 0 ≤ (rd x26 x28) then (if (rd x26 x28) < (x1.length : Int) then (if 0 ≤ (rd x1 x28) then (if (rd x1 x28) < (x5.length : Int) then (impl_RenamePerm.l0 k x1 (x5.set ((rd x1 x28) : Int).toNat (rd x1 (rd x26 x28))) x26 x27 (wrap64 (x28 + 1))) else (none)) else (none)) else (none)) else (none)) else (none)) else (none)) else (none)) else (some x5)
end
def impl_RenamePerm.f (k : Nat) (l0 : List Int) (l1 : List Int) : Option (List Int) := (impl_PermOk.f l0).bind fun t214 => (if t214 = true then ((impl_PermOk.f l1).bind fun t215 => (if t215 = true then (impl_RenamePerm.j0 k l0 l1 ((l0.length : Int) != (l1.length : Int))) else (impl_RenamePerm.j0 k l0 l1 true))) else (impl_RenamePerm.j0 k l0 l1 true))
def impl_RenamePerm.T7 : Bool × List (List Nat × List Nat) := (true, [([], []), ([], []), ([], []), ([1, 2], [1, 2]), ([3], [3]), ([], []), ([], []), ([5, 6], [5, 6]), ([7], [7]), ([0, 4, 0, 1, 2, 3, 4, 5, 6, 7, 8], [0, 4]), ([9, 8, 0, 1, 2, 3, 4, 5, 6, 7, 8], [8, 9])])
def impl_RenamePerm.B7 : List Nat := [0, 0, 0, 6, 14, 0, 0, 96, 224, 511, 1023]
theorem impl_RenamePerm.tab7 : rtab .any (opsOf Tryz.f115 7) = impl_RenamePerm.T7 := by kernel_rfl
theorem impl_RenamePerm.bits7 : waitsOk impl_RenamePerm.T7.2 impl_RenamePerm.B7 = true := by kernel_rfl
set_option maxHeartbeats 8000000 in
set_option maxRecDepth 100000 in
theorem impl_RenamePerm.calls (k : Nat) (A0 : Option Addr) (c0 : Nat) (l0 : List Int) (A1 : Option Addr) (c1 : Nat) (l1 : List Int) (r : List Int) (w : World) (hr0 : Kd.C (Kd.int .i64) w A0 l0.length l0) (hc0 : l0.length ≤ c0) (hr1 : Kd.C (Kd.int .i64) w A1 l1.length l1) (hc1 : l1.length ≤ c1) (h : impl_RenamePerm.f k l0 l1 = some r) :
  Calls Tryz.prog 115 #[.slice A0 l0.length c0, .slice A1 l1.length c1] w fun e w' => ∃ v0_ : Value, e = .returned (v0_) ∧ Kd.R (Kd.int .i64) 3 w' w.heap.size (fun _ => True) v0_ r ∧ Below w.heap.size w w' := by
 have HR0 := Aside0.mk hr0
 have HC0 := Aside0.mk hc0
 clear hr0 hc0
 have HR1 := Aside0.mk hr1
 have HC1 := Aside0.mk hc1
 clear hr1 hc1
 have HB := Aside0.mk (Below.refl w.heap.size w)
 have H : ((impl_PermOk.f l0).bind fun t214 => (if t214 = true then ((impl_PermOk.f l1).bind fun t215 => (if t215 = true then (impl_RenamePerm.j0 k l0 l1 ((l0.length : Int) != (l1.length : Int))) else (impl_RenamePerm.j0 k l0 l1 true))) else (impl_RenamePerm.j0 k l0 l1 true))) = some r := h
 clear h
 have HC3 := Aside0.mk H
 clear H
 go_enter Tryz.func115, Tryz.ntmps115
 go_upto_region 1 with (fail)
 go_cut [22] (fun v22 wc => ∃ (kq : Nat) (x22_2 : Bool), v22 = .bool x22_2 ∧ Aside0 (impl_RenamePerm.j0 kq l0 l1 x22_2 = some r) ∧ Aside0 (kq ≤ k) ∧ Aside0 (Below w.heap.size w wc))
 case first =>
  have H := HC3.out
  clear HC3
  replace H := Option.bind_eq_some_iff.mp H
  obtain ⟨t214, A40, H⟩ := H
  replace H : (if t214 = true then ((impl_PermOk.f l1).bind fun t215 => (if t215 = true then (impl_RenamePerm.j0 k l0 l1 ((l0.length : Int) != (l1.length : Int))) else (impl_RenamePerm.j0 k l0 l1 true))) else (impl_RenamePerm.j0 k l0 l1 true)) = some r := H
  have A4 := Aside0.mk A40
  clear A40
  by_cases c5 : t214 = true
  {
  subst c5
  have H1 : ((impl_PermOk.f l1).bind fun t215 => (if t215 = true then (impl_RenamePerm.j0 k l0 l1 ((l0.length : Int) != (l1.length : Int))) else (impl_RenamePerm.j0 k l0 l1 true))) = some r := by rw [if_pos rfl] at H; exact H
  clear H
  have H := H1
  clear H1
  replace H := Option.bind_eq_some_iff.mp H
  obtain ⟨t215, A60, H⟩ := H
  replace H : (if t215 = true then (impl_RenamePerm.j0 k l0 l1 ((l0.length : Int) != (l1.length : Int))) else (impl_RenamePerm.j0 k l0 l1 true)) = some r := H
  have A6 := Aside0.mk A60
  clear A60
  by_cases c7 : t215 = true
  {
  subst c7
  have H1 : (impl_RenamePerm.j0 k l0 l1 ((l0.length : Int) != (l1.length : Int))) = some r := by rw [if_pos rfl] at H; exact H
  clear H
  have H := H1
  clear H1
  have H' := Aside0.mk H
  clear H
  go_wp2_with (first | ((with_reducible refine gate_callee (f := 74) rfl ?_); refine goesL_ (some 9) rfl rfl Tryz.func74 (by kernel_rfl) rfl #[.slice A0 l0.length c0] rfl aX ?_; (with_reducible refine (impl_PermOk.calls _ _ l0 true _ ?side1 ?side2 A4.out).mono ?_); (case side1 => exact cX (Kd.C_below HR0.out HB.out)); (case side2 => exact HC0.out); rintro e w8 ⟨rfl, hb⟩; refine ⟨_, rfl, ?_⟩; have n0_ := Aside0.mk (below_step (bX HB.out) hb); clear HB; have HB := n0_; clear n0_; (try clear hb); (try clear hb2); (try clear hk); (try clear hi)) | (go_at_call 74; (with_reducible refine (impl_PermOk.calls _ _ l1 true _ ?side1 ?side2 A6.out).mono ?_); (case side1 => exact cX (Kd.C_below HR1.out HB.out)); (case side2 => exact HC1.out); rintro e w9 ⟨rfl, hb⟩; have n0_ := Aside0.mk (below_step (bX HB.out) hb); clear HB; have HB := n0_; clear n0_; (try clear hb); (try clear hb2); (try clear hk); (try clear hi)))
  go_meet
  case rel => exact ⟨_, (((l0.length : Int) != (l1.length : Int))), vX, H', ⟨by first | omega | exact Nat.le_refl _⟩, ⟨bX HB.out⟩⟩
  }
  {
  replace c7 := Bool.eq_false_iff.mpr c7
  subst c7
  have H1 : (impl_RenamePerm.j0 k l0 l1 true) = some r := by rw [if_neg (show ¬ (false = true) by decide)] at H; exact H
  clear H
  have H := H1
  clear H1
  have H' := Aside0.mk H
  clear H
  go_wp2_with (first | ((with_reducible refine gate_callee (f := 74) rfl ?_); refine goesL_ (some 9) rfl rfl Tryz.func74 (by kernel_rfl) rfl #[.slice A0 l0.length c0] rfl aX ?_; (with_reducible refine (impl_PermOk.calls _ _ l0 true _ ?side1 ?side2 A4.out).mono ?_); (case side1 => exact cX (Kd.C_below HR0.out HB.out)); (case side2 => exact HC0.out); rintro e w10 ⟨rfl, hb⟩; refine ⟨_, rfl, ?_⟩; have n0_ := Aside0.mk (below_step (bX HB.out) hb); clear HB; have HB := n0_; clear n0_; (try clear hb); (try clear hb2); (try clear hk); (try clear hi)) | (go_at_call 74; (with_reducible refine (impl_PermOk.calls _ _ l1 false _ ?side1 ?side2 A6.out).mono ?_); (case side1 => exact cX (Kd.C_below HR1.out HB.out)); (case side2 => exact HC1.out); rintro e w11 ⟨rfl, hb⟩; have n0_ := Aside0.mk (below_step (bX HB.out) hb); clear HB; have HB := n0_; clear n0_; (try clear hb); (try clear hb2); (try clear hk); (try clear hi)))
  go_meet
  case rel => exact ⟨_, (true), vX, H', ⟨by first | omega | exact Nat.le_refl _⟩, ⟨bX HB.out⟩⟩
  }
  }
  {
  replace c5 := Bool.eq_false_iff.mpr c5
  subst c5
  have H1 : (impl_RenamePerm.j0 k l0 l1 true) = some r := by rw [if_neg (show ¬ (false = true) by decide)] at H; exact H
  clear H
  have H := H1
  clear H1
  have H' := Aside0.mk H
  clear H
  go_wp2_with (first | ((with_reducible refine gate_callee (f := 74) rfl ?_); refine goesL_ (some 9) rfl rfl Tryz.func74 (by kernel_rfl) rfl #[.slice A0 l0.length c0] rfl aX ?_; (with_reducible refine (impl_PermOk.calls _ _ l0 false _ ?side1 ?side2 A4.out).mono ?_); (case side1 => exact cX (Kd.C_below HR0.out HB.out)); (case side2 => exact HC0.out); rintro e w12 ⟨rfl, hb⟩; refine ⟨_, rfl, ?_⟩; have n0_ := Aside0.mk (below_step (bX HB.out) hb); clear HB; have HB := n0_; clear n0_; (try clear hb); (try clear hb2); (try clear hk); (try clear hi)))
  go_meet
  case rel => exact ⟨_, (true), vX, H', ⟨by first | omega | exact Nat.le_refl _⟩, ⟨bX HB.out⟩⟩
  }
 case rest =>
 clear HC3
 try clear c1
 try clear p2
 try clear c5
 try clear c7
 try clear c11
 obtain ⟨kq, x22_2, rfl, HA, HJ2, HB⟩ := hcut
 cases kq with
 | zero => exact absurd HA.out (by simp [impl_RenamePerm.j0])
 | succ kj2 =>
 have H := HA.out
 clear HA
 simp only [impl_RenamePerm.j0] at H
 by_cases c13 : x22_2 = true
 {
 subst c13
 have H1 : (some ([] : List Int)) = some r := by rw [if_pos rfl] at H; exact H
 clear H
 have H := H1
 clear H1
 obtain rfl := Option.some.inj H
 go_wp2
 go_ret
 exact ⟨_, eX, by first | exact Kd.R_nil _ _ _ _ _ | exact Kd.N_nil _ _ _ _ _ | exact Kd.V_nil _ _ _ _ _ | exact Kd.Q_nil _ _ _ _ _ | exact Kd.S_nil _ _ _ _ _, bX HB.out⟩
 }
 {
 replace c13 := Bool.eq_false_iff.mpr c13
 subst c13
 have H1 : (if 0 ≤ (l0.length : Int) then (if ((l0.length : Int) : Int).toNat ≤ 35184372088832 then (impl_RenamePerm.l0 kj2 l1 (List.replicate ((l0.length : Int) : Int).toNat 0) l0 (l0.length : Int) 0) else (none)) else (none)) = some r := by rw [if_neg (show ¬ (false = true) by decide)] at H; exact H
 clear H
 have H := H1
 clear H1
 by_cases c14 : 0 ≤ (l0.length : Int)
 {
 rw [if_pos c14] at H
 have c14b0 := eq_true c14
 have c14b1 : decide (0 ≤ (l0.length : Int)) = true := decide_eq_true c14
 clear c14
 by_cases c15 : ((l0.length : Int) : Int).toNat ≤ 35184372088832
 {
 rw [if_pos c15] at H
 have c15b0 := eq_true c15
 have c15b1 : decide (((l0.length : Int) : Int).toNat ≤ 35184372088832) = true := decide_eq_true c15
 clear c15
 obtain ⟨y216, hy216⟩ : ∃ y_ : List Int, y_ = (List.replicate ((l0.length : Int) : Int).toNat 0) := ⟨_, rfl⟩
 replace H : (impl_RenamePerm.l0 kj2 l1 y216 l0 (l0.length : Int) 0) = some r := by first | (rw [hy216]; with_reducible exact H) | (have H2_ := (Option.bind_some _ _).symm.trans H; rw [hy216]; with_reducible exact H2_) | (have H2_ := (Option.bind_some _ _).symm.trans H; with_reducible exact H2_) | with_reducible exact H | (rw [hy216]; exact H) | exact H
 have Ny216 := Aside0.mk hy216
 clear hy216
 have H' := Aside0.mk H
 clear H
 go_wp2_with (first | ((with_reducible refine gate_dst (N := 25) rfl ?_); (try (refine gate_guard (by rfl) ?_; dsimp only)); refine Kd.R_make (Kd.int .i64) _ 3 rfl (N := 25) rfl 23 _ _ rfl (l0.length : Int) rfl rfl Tryz.underlying23 (.int .i64 0) 8 info3 rfl (by decide) (by omega) 0 (ok := fun _ => True) (okp := fun _ => True) rfl (fun _ hk => hk) trivial (dX) (Nat.le_trans (Nat.mul_le_mul_right _ (dX : (l0.length : Int).toNat ≤ 35184372088832)) (by omega)) (Below.refl _ _) (Nat.le_refl _) ?_; intro v217 w16 ho17 hb hg_ hnew_; clear hg_ hnew_; (first | rw [← Ny216.out] at ho17 | (simp only [Int.reduceToNat] at ho17; rw [← Ny216.out] at ho17)); have n0_ := Aside0.mk (Kd.R_lower ho17 (below_size (bX HB.out))); have n1_ := Aside0.mk (below_step (bX HB.out) hb); clear HB; have HO218 := n0_; have HB := n1_; clear n0_ n1_ hb ho17))
 go_loopg [28] kj2 (fun kq v28 w' => ∃ (x5_2 : List Int) (x28_2 : Int), v28 = .int .i64 x28_2 ∧ Aside0 (impl_RenamePerm.l0 kq l1 x5_2 l0 (l0.length : Int) x28_2 = some r) ∧ Aside0 (kq ≤ kj2) ∧ Aside0 (Kd.R (Kd.int .i64) 3 w' w.heap.size (fun _ => True) v217 x5_2) ∧ Aside0 (Below w.heap.size w w'))
 case atStart => exact ⟨(y216), (0), vX, H', ⟨Nat.le_refl _⟩, ⟨rX HO218.out⟩, ⟨bX HB.out⟩⟩
 case round =>
 clear H'
 try clear c1
 try clear p2
 try clear c5
 try clear c7
 try clear c11
 try clear c13
 try clear c14
 try clear c14b0
 try clear c14b1
 try clear c15
 try clear c15b0
 try clear c15b1
 try clear p2
 obtain ⟨x5_2, x28_2, rfl, HA, HK2, HO_5, HB⟩ := hrel
 cases gk with
 | zero => exact absurd HA.out (by simp [impl_RenamePerm.l0])
 | succ k2 =>
 have H := HA.out
 clear HA
 simp only [impl_RenamePerm.l0] at H
 by_cases c18 : x28_2 < (l0.length : Int)
 {
 rw [if_pos c18] at H
 have c18b0 : decide (x28_2 < (l0.length : Int)) = true := decide_eq_true c18
 clear c18
 by_cases c19 : 0 ≤ x28_2
 {
 rw [if_pos c19] at H
 have c19b0 : decide (0 ≤ x28_2) = true := decide_eq_true c19
 clear c19
 by_cases c20 : x28_2 < (l0.length : Int)
 {
 rw [if_pos c20] at H
 have c20b0 : decide (x28_2 < (l0.length : Int)) = true := decide_eq_true c20
 clear c20
 by_cases c21 : x28_2 < (l1.length : Int)
 {
 rw [if_pos c21] at H
 have c21b0 : decide (x28_2 < (l1.length : Int)) = true := decide_eq_true c21
 clear c21
 by_cases c22 : 0 ≤ (rd l0 x28_2)
 {
 rw [if_pos c22] at H
 have c22b0 : decide (0 ≤ (rd l0 x28_2)) = true := decide_eq_true c22
 clear c22
 by_cases c23 : (rd l0 x28_2) < (l1.length : Int)
 {
 rw [if_pos c23] at H
 have c23b0 : decide ((rd l0 x28_2) < (l1.length : Int)) = true := decide_eq_true c23
 clear c23
 by_cases c24 : 0 ≤ (rd l1 x28_2)
 {
 rw [if_pos c24] at H
 have c24b0 : decide (0 ≤ (rd l1 x28_2)) = true := decide_eq_true c24
 clear c24
 by_cases c25 : (rd l1 x28_2) < (x5_2.length : Int)
 {
 rw [if_pos c25] at H
 have c25b0 : decide ((rd l1 x28_2) < (x5_2.length : Int)) = true := decide_eq_true c25
 clear c25
 obtain ⟨y222, hy222⟩ : ∃ y_ : List Int, y_ = (x5_2.set ((rd l1 x28_2) : Int).toNat (rd l1 (rd l0 x28_2))) := ⟨_, rfl⟩
 replace H : (impl_RenamePerm.l0 k2 l1 y222 l0 (l0.length : Int) (wrap64 (x28_2 + 1))) = some r := by first | (rw [hy222]; with_reducible exact H) | (have H2_ := (Option.bind_some _ _).symm.trans H; rw [hy222]; with_reducible exact H2_) | (have H2_ := (Option.bind_some _ _).symm.trans H; with_reducible exact H2_) | with_reducible exact H | (rw [hy222]; exact H) | exact H
 have Ny222 := Aside0.mk hy222
 clear hy222
 have H' := Aside0.mk H
 clear H
 have p219 : 0 ≤ (x28_2 : Int) := dX
 have q219 : x28_2 < (l0.length : Int) := dX
 obtain ⟨ad219, e219, hx219_0⟩ := Kd.at_int HR0.out x28_2 p219 q219
 cases e219
 replace hx219_0 := (HB.out.cell (World.block_lt_of_cell? w _ hx219_0)).trans hx219_0
 replace p219 := eq_true p219
 replace q219 := eq_true q219
 try go_wp2
 have n0_ := Aside0.mk (Kd.R_drew HO_5.out)
 have n1_ := Aside0.mk (below_drew1 HB.out)
 clear HO_5 HB
 have HO_5 := n0_
 have HB := n1_
 clear n0_ n1_
 have p220 : 0 ≤ (x28_2 : Int) := dX
 have q220 : x28_2 < (l1.length : Int) := dX
 obtain ⟨ad220, e220, hx220_0⟩ := Kd.at_int HR1.out x28_2 p220 q220
 have hw220_0 := hx220_0
 cases e220
 replace hx220_0 := (HB.out.cell (World.block_lt_of_cell? w _ hx220_0)).trans hx220_0
 replace p220 := eq_true p220
 replace q220 := eq_true q220
 have p221 : 0 ≤ ((rd l0 x28_2) : Int) := dX
 have q221 : (rd l0 x28_2) < (l1.length : Int) := dX
 obtain ⟨ad221, e221, hx221_0⟩ := Kd.at_int HR1.out (rd l0 x28_2) p221 q221
 have hw221_0 := hx221_0
 obtain rfl : ad220 = ad221 := (by injection e221)
 replace hx221_0 := (HB.out.cell (World.block_lt_of_cell? w _ hx221_0)).trans hx221_0
 replace p221 := eq_true p221
 replace q221 := eq_true q221
 have p26 : 0 ≤ ((rd l1 x28_2) : Int) := dX
 have q26 : ((rd l1 x28_2) : Int) < ((x5_2.length : Int) : Int) := dX
 obtain ⟨go26, co26, eo26, gb26, gl26, cl26, HG26⟩ := Kd.R_form HO_5.out (by omega)
 (first | cases eo26 | (injection eo26 with ea_ en_ ec_; (first | subst ea_ | (injection ea_ with ea_; subst ea_)); subst ec_; clear en_))
 have GB26 := Aside0.mk gb26
 have GG26 := Aside0.mk HG26
 clear gb26 gl26 HG26
 obtain ⟨hx26_0, hf26_0⟩ := Kd.R_celln 0 HO_5.out ((rd l1 x28_2) : Int) p26 q26
 replace p26 := eq_true p26
 replace q26 := eq_true q26
 have HP28 := Kd.R_putn HO_5.out ((rd l1 x28_2) : Int) (rd l1 (rd l0 x28_2))
 rw [← Ny222.out] at HP28
 have HQ28 := Aside0.mk HP28
 clear HP28
 refine start_ (n := 11) (S := fun w' => w'.cell? (ad220.add (x28_2).toNat) = some (.int .i64 (rd l1 x28_2)) ∧ w'.cell? (ad220.add ((rd l0 x28_2)).toNat) = some (.int .i64 (rd l1 (rd l0 x28_2)))) (ds := [10]) #[ff,ff,ff,ff,ff,ff,ff,ff,ff,ff,ff] (by kernel_rfl) rfl rfl ⟨((HB.out.cell (World.block_lt_of_cell? w _ hw220_0)).trans hw220_0), ((HB.out.cell (World.block_lt_of_cell? w _ hw221_0)).trans hw221_0)⟩ (fun hHeld => ?_); refine with_tabW impl_RenamePerm.tab7 impl_RenamePerm.bits7 (fun HT_ HW_ => ?_)
 generalize wr.drew = w27 at HO_5 HB GG26 HQ28 hf26_0 hx220_0 hx221_0 hx26_0 hHeld ⊢
 refine pX 0 33 (fl 11 1) rfl rfl HT_.out ?_
 refine pX 1 34 (fl 11 3) rfl rfl HT_.out ?_
 refine pX 2 35 (fl 11 7) rfl rfl HT_.out ?_
 refine pX 3 36 (fl 11 15) rfl rfl HT_.out ?_
 refine pX 5 38 (fl 11 47) rfl rfl HT_.out ?_
 refine pX 6 39 (fl 11 111) rfl rfl HT_.out ?_
 refine pX 7 40 (fl 11 239) rfl rfl HT_.out ?_
 refine tX2 4 37 (fl 11 255) rfl rfl HT_.out HW_.out hHeld ?_
 refine tX2 8 41 (fl 11 511) rfl rfl HT_.out HW_.out hHeld ?_
 refine pX 9 42 (fl 11 1023) rfl rfl HT_.out ?_
 refine last_ (i := 10) (N := none) #[tt,tt,tt,tt,tt,tt,tt,tt,tt,tt,tt] rfl rfl (one_of HT_.out (by kernel_rfl)) (by decide) (fun K hK => ?_)
 refine skip_ (w1 := ?_) (by rfl) rfl ?_ ?_
 rotate_left
 {
 go_simp
 rfl
 }
 refine hK.out _ _ ?_
 clear hK K
 refine done_ (done_of HT_.out (by kernel_rfl)) ?_
 try go_wp2
 go_roundg k2
 case measure => have := HJ2.out; have := HK2.out; omega
 case rel => exact ⟨(y222), (wrap64 (x28_2 + 1)), vX, H', ⟨by have := HJ2.out; have := HK2.out; omega⟩, ⟨rX HQ28.out⟩, ⟨bX1 HB.out GB26.out⟩⟩
 }
 {
 rw [if_neg c25] at H
 exact absurd H (by simp)
 }
 }
 {
 rw [if_neg c24] at H
 exact absurd H (by simp)
 }
 }
 {
 rw [if_neg c23] at H
 exact absurd H (by simp)
 }
 }
 {
 rw [if_neg c22] at H
 exact absurd H (by simp)
 }
 }
 {
 rw [if_neg c21] at H
 exact absurd H (by simp)
 }
 }
 {
 rw [if_neg c20] at H
 exact absurd H (by simp)
 }
 }
 {
 rw [if_neg c19] at H
 exact absurd H (by simp)
 }
 }
 {
 rw [if_neg c18] at H
 have c18b0 : decide (x28_2 < (l0.length : Int)) = false := decide_eq_false c18
 clear c18
 obtain rfl := Option.some.inj H
 go_wp2
 go_ret
 exact ⟨_, eX, by (with_reducible repeat (first|apply rA|apply rN|apply rD)); exact HO_5.out, bX HB.out⟩
 }
 }
 {
 rw [if_neg c15] at H
 exact absurd H (by simp)
 }
 }
 {
 rw [if_neg c14] at H
 exact absurd H (by simp)
 }
 }

/-! ### impl_RenameSurface: function 83 -/
def impl_RenameSurface.j0 : Nat → List Int → Bool → List Int → List Int → Option (List Int × List Int × Bool)
 | 0, _, _, _, _ => none
 | k + 1, x1, x21, x224000, x224001 => if x21 = true then (some (([] : List Int), ([] : List Int), false)) else ((impl_RenamePerm.f k x224000 x1).bind fun t227 => ((impl_RenamePerm.f k x224001 x1).bind fun t230 => (some (t227, t230, true))))
def impl_RenameSurface.f (k : Nat) (l0_0 : List Int) (l0_1 : List Int) (l1 : List Int) : Option (List Int × List Int × Bool) := (impl_SurfaceOk.f k l0_0 l0_1).bind fun t225 => (if t225 = true then ((impl_PermOk.f l1).bind fun t226 => (if t226 = true then (impl_RenameSurface.j0 k l1 ((l1.length : Int) != (l0_0.length : Int)) l0_0 l0_1) else (impl_RenameSurface.j0 k l1 true l0_0 l0_1))) else (impl_RenameSurface.j0 k l1 true l0_0 l0_1))
def impl_RenameSurface.T3 : Bool × List (List Nat × List Nat) := (true, [([], []), ([0], [0]), ([], []), ([1, 2], [1, 2]), ([], []), ([4], [4]), ([], []), ([5, 6, 3], [5, 6]), ([3, 7], [3, 7]), ([8, 7, 0, 1, 2, 3, 4, 5, 6, 7, 8], [8]), ([9, 0, 1, 2, 3, 4, 5, 6, 7, 8, 9], [])])
def impl_RenameSurface.B3 : List Nat := [0, 1, 0, 7, 0, 16, 0, 127, 255, 511, 1023]
theorem impl_RenameSurface.tab3 : rtab .any (opsOf Tryz.f83 3) = impl_RenameSurface.T3 := by kernel_rfl
theorem impl_RenameSurface.bits3 : waitsOk impl_RenameSurface.T3.2 impl_RenameSurface.B3 = true := by kernel_rfl
set_option maxHeartbeats 8000000 in
set_option maxRecDepth 100000 in
theorem impl_RenameSurface.calls (k : Nat) (A0_0 : Option Addr) (c0_0 : Nat) (l0_0 : List Int) (A0_1 : Option Addr) (c0_1 : Nat) (l0_1 : List Int) (A1 : Option Addr) (c1 : Nat) (l1 : List Int) (r1 : List Int) (r2 : List Int) (r3 : Bool) (w : World) (hr0_0 : Kd.C (Kd.int .i64) w A0_0 l0_0.length l0_0) (hc0_0 : l0_0.length ≤ c0_0) (hr0_1 : Kd.C (Kd.int .i64) w A0_1 l0_1.length l0_1) (hc0_1 : l0_1.length ≤ c0_1) (hr1 : Kd.C (Kd.int .i64) w A1 l1.length l1) (hc1 : l1.length ≤ c1) (h : impl_RenameSurface.f k l0_0 l0_1 l1 = some (r1, r2, r3)) :
  Calls Tryz.prog 83 #[.agg #[.slice A0_0 l0_0.length c0_0, .slice A0_1 l0_1.length c0_1], .slice A1 l1.length c1] w fun e w' => ∃ v0_ v1_ : Value, e = .returned (.tuple #[.agg #[v0_, v1_], .bool r3]) ∧ Kd.R (Kd.int .i64) 3 w' w.heap.size (fun k_ => some k_ ≠ (v1_ : Value).ownBlock) v0_ r1 ∧ Kd.R (Kd.int .i64) 3 w' w.heap.size (fun k_ => some k_ ≠ (v0_ : Value).ownBlock) v1_ r2 ∧ Below w.heap.size w w' := by
 have hu25 := Tryz.underlying25
 have HR0_0 := Aside0.mk hr0_0
 have HC0_0 := Aside0.mk hc0_0
 clear hr0_0 hc0_0
 have HR0_1 := Aside0.mk hr0_1
 have HC0_1 := Aside0.mk hc0_1
 clear hr0_1 hc0_1
 have HR1 := Aside0.mk hr1
 have HC1 := Aside0.mk hc1
 clear hr1 hc1
 have HB := Aside0.mk (Below.refl w.heap.size w)
 have H : ((impl_SurfaceOk.f k l0_0 l0_1).bind fun t225 => (if t225 = true then ((impl_PermOk.f l1).bind fun t226 => (if t226 = true then (impl_RenameSurface.j0 k l1 ((l1.length : Int) != (l0_0.length : Int)) l0_0 l0_1) else (impl_RenameSurface.j0 k l1 true l0_0 l0_1))) else (impl_RenameSurface.j0 k l1 true l0_0 l0_1))) = some (r1, r2, r3) := h
 clear h
 have HC3 := Aside0.mk H
 clear H
 go_enter Tryz.func83, Tryz.ntmps83
 go_upto_region 1 with (first | ((with_reducible refine gate_dst (N := 2) rfl ?_); (try (refine gate_guard (by rfl) ?_; dsimp only)); refine box_event ?hg (N := 2) ?hd (cs := #[.slice A0_0 l0_0.length c0_0, .slice A0_1 l0_1.length c0_1]) (t := 25) ?hr ?_; (case hd => rfl); (case hg => rfl); (case hr => first | (go_simp; done) | (go_simp; rfl)); intro gb223 hg w4 hbox hb; have n0_ := Aside0.mk (below_step (bX HB.out) hb); have n1_ := Aside0.mk (hbox); have n2_ := Aside0.mk ((szX (below_size (bX HB.out)) hg : w.heap.size ≤ gb223)); have n3_ := Aside0.mk ((szX (below_size (bX HB.out)) hg : w.heap.size ≤ gb223)); clear HB; have HB := n0_; have BK223 := n1_; have GW223 := n2_; have GE223 := n3_; clear n0_ n1_ n2_ n3_ hb hbox hg) | ((with_reducible refine gate_dst (N := 4) rfl ?_); (try (refine gate_guard (by rfl) ?_; dsimp only)); refine box_event ?hg (N := 4) ?hd (cs := #[.slice none 0 0, .slice none 0 0]) (t := 25) ?hr ?_; (case hd => rfl); (case hg => rfl); (case hr => first | (go_simp; done) | (go_simp; rfl)); intro gb224 hg w5 hbox hb; have n0_ := Aside0.mk (bbX BK223.out hb); have n1_ := Aside0.mk (below_step (bX1 HB.out GE223.out) hb); have n2_ := Aside0.mk (hbox); have n3_ := Aside0.mk ((szX (below_size (bX1 HB.out GE223.out)) hg : w.heap.size ≤ gb224)); have n4_ := Aside0.mk ((szX (below_size (bX1 HB.out GE223.out)) hg : w.heap.size ≤ gb224)); have n5_ := Aside0.mk (neX BK223.out hg); have n6_ := Aside0.mk (nfX BK223.out hg); clear BK223 HB; have BK223 := n0_; have HB := n1_; have BK224 := n2_; have GW224 := n3_; have GE224 := n4_; have NB223_224 := n5_; have NB224_223 := n6_; clear n0_ n1_ n2_ n3_ n4_ n5_ n6_ hb hbox hg))
 (try simp only [Act.put, List.setIfInBounds_toArray, List.set_cons_zero, List.set_cons_succ])
 go_cut [21] (fun v21 wc => ∃ (kq : Nat) (x21_2 : Bool), v21 = .bool x21_2 ∧ Aside0 (impl_RenameSurface.j0 kq l1 x21_2 l0_0 l0_1 = some (r1, r2, r3)) ∧ Aside0 (kq ≤ k) ∧ Aside0 (wc.heap[gb223]? = some (.cells #[(.slice A0_0 l0_0.length c0_0), (.slice A0_1 l0_1.length c0_1)] 25 (0, 0))) ∧ Aside0 (wc.heap[gb224]? = some (.cells #[(.slice none 0 0), (.slice none 0 0)] 25 (0, 0))) ∧ Aside0 (Below w.heap.size w wc))
 case first =>
  have H := HC3.out
  clear HC3
  replace H := Option.bind_eq_some_iff.mp H
  obtain ⟨t225, A60, H⟩ := H
  replace H : (if t225 = true then ((impl_PermOk.f l1).bind fun t226 => (if t226 = true then (impl_RenameSurface.j0 k l1 ((l1.length : Int) != (l0_0.length : Int)) l0_0 l0_1) else (impl_RenameSurface.j0 k l1 true l0_0 l0_1))) else (impl_RenameSurface.j0 k l1 true l0_0 l0_1)) = some (r1, r2, r3) := H
  have A6 := Aside0.mk A60
  clear A60
  by_cases c7 : t225 = true
  {
  subst c7
  have H1 : ((impl_PermOk.f l1).bind fun t226 => (if t226 = true then (impl_RenameSurface.j0 k l1 ((l1.length : Int) != (l0_0.length : Int)) l0_0 l0_1) else (impl_RenameSurface.j0 k l1 true l0_0 l0_1))) = some (r1, r2, r3) := by rw [if_pos rfl] at H; exact H
  clear H
  have H := H1
  clear H1
  replace H := Option.bind_eq_some_iff.mp H
  obtain ⟨t226, A80, H⟩ := H
  replace H : (if t226 = true then (impl_RenameSurface.j0 k l1 ((l1.length : Int) != (l0_0.length : Int)) l0_0 l0_1) else (impl_RenameSurface.j0 k l1 true l0_0 l0_1)) = some (r1, r2, r3) := H
  have A8 := Aside0.mk A80
  clear A80
  by_cases c9 : t226 = true
  {
  subst c9
  have H1 : (impl_RenameSurface.j0 k l1 ((l1.length : Int) != (l0_0.length : Int)) l0_0 l0_1) = some (r1, r2, r3) := by rw [if_pos rfl] at H; exact H
  clear H
  have H := H1
  clear H1
  have H' := Aside0.mk H
  clear H
  have hnb10 := NB223_224.out
  have hnc10 := NB224_223.out
  have hcz11_0 := cz20 BK223.out
  have hcz11_1 := cz21 BK223.out
  have hfz11_0 := blk_frozen BK223.out 0
  have hfz11_1 := blk_frozen BK223.out 1
  go_wp2_with (first | ((with_reducible refine gate_callee (f := 31) rfl ?_); refine goesL_ (some 7) rfl rfl Tryz.func31 (by kernel_rfl) rfl #[.agg #[.slice A0_0 l0_0.length c0_0, .slice A0_1 l0_1.length c0_1]] rfl aX ?_; (with_reducible refine (impl_SurfaceOk.calls k _ _ l0_0 _ _ l0_1 true _ ?side1 ?side2 ?side3 ?side4 A6.out).mono ?_); (case side1 => exact cX (Kd.C_below HR0_0.out HB.out)); (case side2 => exact HC0_0.out); (case side3 => exact cX (Kd.C_below HR0_1.out HB.out)); (case side4 => exact HC0_1.out); rintro e w12 ⟨rfl, hb⟩; refine ⟨_, rfl, ?_⟩; have n0_ := Aside0.mk (bbX BK223.out hb); have n1_ := Aside0.mk (bbX BK224.out hb); have n2_ := Aside0.mk (below_step (bX2 HB.out GE223.out GE224.out) hb); clear BK223 BK224 HB; have BK223 := n0_; have BK224 := n1_; have HB := n2_; clear n0_ n1_ n2_; (try clear hb); (try clear hb2); (try clear hk); (try clear hi)) | (go_at_call 74; (with_reducible refine (impl_PermOk.calls _ _ l1 true _ ?side1 ?side2 A8.out).mono ?_); (case side1 => exact cX (Kd.C_below HR1.out HB.out)); (case side2 => exact HC1.out); rintro e w13 ⟨rfl, hb⟩; have n0_ := Aside0.mk (bbX BK223.out hb); have n1_ := Aside0.mk (bbX BK224.out hb); have n2_ := Aside0.mk (below_step (bX2 HB.out GE223.out GE224.out) hb); clear BK223 BK224 HB; have BK223 := n0_; have BK224 := n1_; have HB := n2_; clear n0_ n1_ n2_; (try clear hb); (try clear hb2); (try clear hk); (try clear hi); have hcz14_0 := cz20 BK223.out; have hcz14_1 := cz21 BK223.out; have hfz14_0 := blk_frozen BK223.out 0; have hfz14_1 := blk_frozen BK223.out 1))
  go_meet
  case rel => exact ⟨_, (((l1.length : Int) != (l0_0.length : Int))), vX, H', ⟨by first | omega | exact Nat.le_refl _⟩, ⟨kX BK223.out⟩, ⟨kX BK224.out⟩, ⟨bX2 HB.out GE223.out GE224.out⟩⟩
  }
  {
  replace c9 := Bool.eq_false_iff.mpr c9
  subst c9
  have H1 : (impl_RenameSurface.j0 k l1 true l0_0 l0_1) = some (r1, r2, r3) := by rw [if_neg (show ¬ (false = true) by decide)] at H; exact H
  clear H
  have H := H1
  clear H1
  have H' := Aside0.mk H
  clear H
  have hnb15 := NB223_224.out
  have hnc15 := NB224_223.out
  have hcz16_0 := cz20 BK223.out
  have hcz16_1 := cz21 BK223.out
  have hfz16_0 := blk_frozen BK223.out 0
  have hfz16_1 := blk_frozen BK223.out 1
  go_wp2_with (first | ((with_reducible refine gate_callee (f := 31) rfl ?_); refine goesL_ (some 7) rfl rfl Tryz.func31 (by kernel_rfl) rfl #[.agg #[.slice A0_0 l0_0.length c0_0, .slice A0_1 l0_1.length c0_1]] rfl aX ?_; (with_reducible refine (impl_SurfaceOk.calls k _ _ l0_0 _ _ l0_1 true _ ?side1 ?side2 ?side3 ?side4 A6.out).mono ?_); (case side1 => exact cX (Kd.C_below HR0_0.out HB.out)); (case side2 => exact HC0_0.out); (case side3 => exact cX (Kd.C_below HR0_1.out HB.out)); (case side4 => exact HC0_1.out); rintro e w17 ⟨rfl, hb⟩; refine ⟨_, rfl, ?_⟩; have n0_ := Aside0.mk (bbX BK223.out hb); have n1_ := Aside0.mk (bbX BK224.out hb); have n2_ := Aside0.mk (below_step (bX2 HB.out GE223.out GE224.out) hb); clear BK223 BK224 HB; have BK223 := n0_; have BK224 := n1_; have HB := n2_; clear n0_ n1_ n2_; (try clear hb); (try clear hb2); (try clear hk); (try clear hi)) | (go_at_call 74; (with_reducible refine (impl_PermOk.calls _ _ l1 false _ ?side1 ?side2 A8.out).mono ?_); (case side1 => exact cX (Kd.C_below HR1.out HB.out)); (case side2 => exact HC1.out); rintro e w18 ⟨rfl, hb⟩; have n0_ := Aside0.mk (bbX BK223.out hb); have n1_ := Aside0.mk (bbX BK224.out hb); have n2_ := Aside0.mk (below_step (bX2 HB.out GE223.out GE224.out) hb); clear BK223 BK224 HB; have BK223 := n0_; have BK224 := n1_; have HB := n2_; clear n0_ n1_ n2_; (try clear hb); (try clear hb2); (try clear hk); (try clear hi)))
  go_meet
  case rel => exact ⟨_, (true), vX, H', ⟨by first | omega | exact Nat.le_refl _⟩, ⟨kX BK223.out⟩, ⟨kX BK224.out⟩, ⟨bX2 HB.out GE223.out GE224.out⟩⟩
  }
  }
  {
  replace c7 := Bool.eq_false_iff.mpr c7
  subst c7
  have H1 : (impl_RenameSurface.j0 k l1 true l0_0 l0_1) = some (r1, r2, r3) := by rw [if_neg (show ¬ (false = true) by decide)] at H; exact H
  clear H
  have H := H1
  clear H1
  have H' := Aside0.mk H
  clear H
  have hnb19 := NB223_224.out
  have hnc19 := NB224_223.out
  have hcz20_0 := cz20 BK223.out
  have hcz20_1 := cz21 BK223.out
  have hfz20_0 := blk_frozen BK223.out 0
  have hfz20_1 := blk_frozen BK223.out 1
  go_wp2_with (first | ((with_reducible refine gate_callee (f := 31) rfl ?_); refine goesL_ (some 7) rfl rfl Tryz.func31 (by kernel_rfl) rfl #[.agg #[.slice A0_0 l0_0.length c0_0, .slice A0_1 l0_1.length c0_1]] rfl aX ?_; (with_reducible refine (impl_SurfaceOk.calls k _ _ l0_0 _ _ l0_1 false _ ?side1 ?side2 ?side3 ?side4 A6.out).mono ?_); (case side1 => exact cX (Kd.C_below HR0_0.out HB.out)); (case side2 => exact HC0_0.out); (case side3 => exact cX (Kd.C_below HR0_1.out HB.out)); (case side4 => exact HC0_1.out); rintro e w21 ⟨rfl, hb⟩; refine ⟨_, rfl, ?_⟩; have n0_ := Aside0.mk (bbX BK223.out hb); have n1_ := Aside0.mk (bbX BK224.out hb); have n2_ := Aside0.mk (below_step (bX2 HB.out GE223.out GE224.out) hb); clear BK223 BK224 HB; have BK223 := n0_; have BK224 := n1_; have HB := n2_; clear n0_ n1_ n2_; (try clear hb); (try clear hb2); (try clear hk); (try clear hi)))
  go_meet
  case rel => exact ⟨_, (true), vX, H', ⟨by first | omega | exact Nat.le_refl _⟩, ⟨kX BK223.out⟩, ⟨kX BK224.out⟩, ⟨bX2 HB.out GE223.out GE224.out⟩⟩
  }
 case rest =>
 clear HC3
 try clear c1
 try clear p2
 try clear c3
 try clear c7
 try clear c8
 try clear c9
 try clear c10
 try clear c15
 try clear c19
 try clear hcz11_0
 try clear hcz11_1
 try clear hcz14_0
 try clear hcz14_1
 try clear hcz16_0
 try clear hcz16_1
 try clear hcz20_0
 try clear hcz20_1
 try clear hfz11_0
 try clear hfz11_1
 try clear hfz14_0
 try clear hfz14_1
 try clear hfz16_0
 try clear hfz16_1
 try clear hfz20_0
 try clear hfz20_1
 obtain ⟨kq, x21_2, rfl, HA, HJ2, BK223, BK224, HB⟩ := hcut
 cases kq with
 | zero => exact absurd HA.out (by simp [impl_RenameSurface.j0])
 | succ kj2 =>
 have H := HA.out
 clear HA
 simp only [impl_RenameSurface.j0] at H
 by_cases c22 : x21_2 = true
 {
 subst c22
 have H1 : (some (([] : List Int), ([] : List Int), false)) = some (r1, r2, r3) := by rw [if_pos rfl] at H; exact H
 clear H
 have H := H1
 clear H1
 simp only [Option.some.injEq, Prod.mk.injEq] at H
 obtain ⟨rfl, rfl, rfl⟩ := H
 have hnb23 := NB224_223.out
 have hnc23 := NB223_224.out
 have hcz24_0 := cz20 BK224.out
 have hcz24_1 := cz21 BK224.out
 have hfz24_0 := blk_frozen BK224.out 0
 have hfz24_1 := blk_frozen BK224.out 1
 go_wp2
 refine bodyPost_ret (results_ct rfl _ _ gb224 25 #[.slice none 0 0, .slice none 0 0] (0, 0) _ rfl (by (with_reducible repeat (first|refine kN ?_ _|refine kD ?_|refine kA ?_ _)); refine blk_put (cs := #[.slice none 0 0, .slice none 0 0]) ?_ 1 _ rfl; (with_reducible repeat (first|refine kN ?_ _|refine kD ?_|refine kA ?_ _)); refine blk_put (cs := #[.slice none 0 0, .slice none 0 0]) ?_ 0 _ rfl; (with_reducible repeat (first|refine kN ?_ _|refine kD ?_|refine kA ?_ _)); exact BK224.out) Tryz.underlying25 rfl (by kernel_rfl)) rfl ?_
 exact ⟨_, _, eX, by first | exact Kd.R_nil _ _ _ _ _ | exact Kd.N_nil _ _ _ _ _ | exact Kd.V_nil _ _ _ _ _ | exact Kd.Q_nil _ _ _ _ _ | exact Kd.S_nil _ _ _ _ _, by first | exact Kd.R_nil _ _ _ _ _ | exact Kd.N_nil _ _ _ _ _ | exact Kd.V_nil _ _ _ _ _ | exact Kd.Q_nil _ _ _ _ _ | exact Kd.S_nil _ _ _ _ _, bX2 HB.out GE223.out GE224.out⟩
 }
 {
 replace c22 := Bool.eq_false_iff.mpr c22
 subst c22
 have H1 : ((impl_RenamePerm.f kj2 l0_0 l1).bind fun t227 => ((impl_RenamePerm.f kj2 l0_1 l1).bind fun t230 => (some (t227, t230, true)))) = some (r1, r2, r3) := by rw [if_neg (show ¬ (false = true) by decide)] at H; exact H
 clear H
 have H := H1
 clear H1
 replace H := Option.bind_eq_some_iff.mp H
 obtain ⟨t227, A250, H⟩ := H
 replace H : ((impl_RenamePerm.f kj2 l0_1 l1).bind fun t230 => (some (t227, t230, true))) = some (r1, r2, r3) := H
 have A25 := Aside0.mk A250
 clear A250
 replace H := Option.bind_eq_some_iff.mp H
 obtain ⟨t230, A260, H⟩ := H
 replace H : (some (t227, t230, true)) = some (r1, r2, r3) := H
 have A26 := Aside0.mk A260
 clear A260
 simp only [Option.some.injEq, Prod.mk.injEq] at H
 obtain ⟨rfl, rfl, rfl⟩ := H
 try go_wp2
 have n0_ := Aside0.mk (blk_drew BK223.out)
 have n1_ := Aside0.mk (blk_drew BK224.out)
 have n2_ := Aside0.mk (below_drew1 HB.out)
 clear BK223 BK224 HB
 have BK223 := n0_
 have BK224 := n1_
 have HB := n2_
 clear n0_ n1_ n2_
 refine start_ (n := 11) (S := fun w' => w'.cell? ⟨gb223, 0, none⟩ = some (.slice A0_0 l0_0.length c0_0) ∧ w'.cell? ⟨gb223, 1, none⟩ = some (.slice A0_1 l0_1.length c0_1)) (ds := []) #[ff,ff,ff,ff,ff,ff,ff,ff,ff,ff,ff] (by kernel_rfl) rfl rfl ⟨cz20 BK223.out, cz21 BK223.out⟩ (fun hHeld => ?_); refine with_tabW impl_RenameSurface.tab3 impl_RenameSurface.bits3 (fun HT_ HW_ => ?_)
 generalize wc.drew = w27 at BK223 BK224 HB hHeld ⊢
 refine pX 0 23 (fl 11 1) rfl rfl HT_.out ?_
 refine pX 2 25 (fl 11 5) rfl rfl HT_.out ?_
 refine pX 4 27 (fl 11 21) rfl rfl HT_.out ?_
 refine pX 6 29 (fl 11 85) rfl rfl HT_.out ?_
 refine tX2 1 24 (fl 11 87) rfl rfl HT_.out HW_.out hHeld ?_
 refine tX2 5 28 (fl 11 119) rfl rfl HT_.out HW_.out hHeld ?_
 refine one_ (i := 3) (N := some 26) #[tt,tt,tt,tt,tt,tt,tt,ff,ff,ff,ff] rfl rfl (one_of HT_.out (by kernel_rfl)) (by decide) (fun K hK => ?_)
 refine goes_ Tryz.func115 (by kernel_rfl) rfl #[.slice A0_0 l0_0.length c0_0, .slice A1 l1.length c1] (by rfl) rfl rfl aX ?_
 with_reducible refine (impl_RenamePerm.calls kj2 _ _ l0_0 _ _ l1 t227 _ ?side1 ?side2 ?side3 ?side4 A25.out).mono ?_
 (case side1 => exact cX (Kd.C_below HR0_0.out HB.out))
 (case side2 => exact HC0_0.out)
 (case side3 => exact cX (Kd.C_below HR1.out HB.out))
 (case side4 => exact HC1.out)
 rintro e w28 ⟨v228, rfl, ho0, hb⟩
 refine ⟨_, rfl, ?_⟩
 have n0_ := Aside0.mk (Kd.R_lower ho0 (below_size (bX2 HB.out GE223.out GE224.out)))
 have n1_ := Aside0.mk (bbX BK223.out hb)
 have n2_ := Aside0.mk (bbX BK224.out hb)
 have n3_ := Aside0.mk (below_step (bX2 HB.out GE223.out GE224.out) hb)
 clear BK223 BK224 HB
 have HO229 := n0_
 have BK223 := n1_
 have BK224 := n2_
 have HB := n3_
 clear n0_ n1_ n2_ n3_
 (try clear hb)
 (try clear hb2)
 (try clear hk)
 (try clear hi)
 (try clear ho0)
 refine hK.out _ _ ⟨cz20 BK223.out, cz21 BK223.out⟩ (fun hHeld => ?_)
 clear hK K
 refine norm_ (a' := ?_) ?_ ?_
 rotate_left
 {
 show Act.put _ (some 26) _ = _
 simp only [Act.put, zA, zB, zC, i64_w, i32_w]
 rfl
 }
 refine one_ (i := 7) (N := some 30) #[tt,tt,tt,tt,tt,tt,tt,tt,ff,ff,ff] rfl rfl (one_of HT_.out (by kernel_rfl)) (by decide) (fun K hK => ?_)
 refine goes_ Tryz.func115 (by kernel_rfl) rfl #[.slice A0_1 l0_1.length c0_1, .slice A1 l1.length c1] (by rfl) rfl rfl aX ?_
 with_reducible refine (impl_RenamePerm.calls kj2 _ _ l0_1 _ _ l1 t230 _ ?side1 ?side2 ?side3 ?side4 A26.out).mono ?_
 (case side1 => exact cX (Kd.C_below HR0_1.out HB.out))
 (case side2 => exact HC0_1.out)
 (case side3 => exact cX (Kd.C_below HR1.out HB.out))
 (case side4 => exact HC1.out)
 rintro e w29 ⟨v231, rfl, ho0, hb⟩
 refine ⟨_, rfl, ?_⟩
 have n0_ := Aside0.mk (Kd.R_elder' (rX HO229.out) (Kd.R_base ho0) hb)
 have n1_ := Aside0.mk (Kd.R_lower (Kd.R_new' ho0 (Kd.R_lt (rX HO229.out))) (below_size (bX2 HB.out GE223.out GE224.out)))
 have n2_ := Aside0.mk (bbX BK223.out hb)
 have n3_ := Aside0.mk (bbX BK224.out hb)
 have n4_ := Aside0.mk (below_step (bX2 HB.out GE223.out GE224.out) hb)
 clear HO229 BK223 BK224 HB
 have HO229 := n0_
 have HO232 := n1_
 have BK223 := n2_
 have BK224 := n3_
 have HB := n4_
 clear n0_ n1_ n2_ n3_ n4_
 (try clear hb)
 (try clear hb2)
 (try clear hk)
 (try clear hi)
 (try clear ho0)
 obtain ⟨Ao30, co30, eo30⟩ := Kd.R_slice HO232.out
 (first | subst eo30 | (injection eo30 with f1_ f2_ f3_; have f4_ := f1_.symm; have f5_ := f3_.symm; clear f1_ f2_ f3_; subst f4_; subst f5_))
 obtain ⟨Ao31, co31, eo31⟩ := Kd.R_slice HO229.out
 (first | subst eo31 | (injection eo31 with f1_ f2_ f3_; have f4_ := f1_.symm; have f5_ := f3_.symm; clear f1_ f2_ f3_; subst f4_; subst f5_))
 refine hK.out _ _ ⟨cz20 BK223.out, cz21 BK223.out⟩ (fun hHeld => ?_)
 clear hK K
 refine norm_ (a' := ?_) ?_ ?_
 rotate_left
 {
 show Act.put _ (some 30) _ = _
 simp only [Act.put, zA, zB, zC, i64_w, i32_w]
 rfl
 }
 refine pX 8 31 (fl 11 511) rfl rfl HT_.out ?_
 refine one_ (i := 9) (N := none) #[tt,tt,tt,tt,tt,tt,tt,tt,tt,tt,ff] rfl rfl (one_of HT_.out (by kernel_rfl)) (by decide) (fun K hK => ?_)
 have hs32 : w29.cell? ⟨gb224, 0, none⟩ = some (.slice none 0 0) := cz20 BK224.out
 have hfs32 := blk_frozen BK224.out 0
 have hns32_0 := NB223_224.out
 have hms32_0 := NB224_223.out
 have hs33 : w29.cell? ⟨gb224, 1, none⟩ = some (.slice none 0 0) := cz21 BK224.out
 have hfs33 := blk_frozen BK224.out 1
 have hns33_0 := NB223_224.out
 have hms33_0 := NB224_223.out
 refine skip_ (w1 := ?_) (by rfl) rfl ?_ ?_
 rotate_left
 {
 go_simp
 rfl
 }
 refine hK.out _ _ ⟨((cell_far (p := ⟨gb224, _, none⟩) NB223_224.out _).trans (((cell_far (p := ⟨gb224, _, none⟩) NB223_224.out _).trans (hHeld.1)))), ((cell_far (p := ⟨gb224, _, none⟩) NB223_224.out _).trans (((cell_far (p := ⟨gb224, _, none⟩) NB223_224.out _).trans (hHeld.2))))⟩ (fun hHeld => ?_)
 clear hK K
 refine pX 10 5 (fl 11 2047) rfl rfl HT_.out ?_
 refine done_ (done_of HT_.out (by kernel_rfl)) ?_
 try go_wp2
 refine bodyPost_ret (results_ct rfl _ _ gb224 25 #[.slice Ao31 t227.length co31, .slice Ao30 t230.length co30] (0, 0) _ rfl (by (with_reducible repeat (first|refine kN ?_ _|refine kD ?_|refine kA ?_ _)); refine blk_put (cs := #[.slice Ao31 t227.length co31, .slice none 0 0]) ?_ 1 _ rfl; (with_reducible repeat (first|refine kN ?_ _|refine kD ?_|refine kA ?_ _)); refine blk_put (cs := #[.slice none 0 0, .slice none 0 0]) ?_ 0 _ rfl; (with_reducible repeat (first|refine kN ?_ _|refine kD ?_|refine kA ?_ _)); exact BK224.out) Tryz.underlying25 rfl (by kernel_rfl)) rfl ?_
 exact ⟨_, _, eX, by (with_reducible repeat (first|apply rA|apply rN|apply rD)); exact Kd.R_mono (Kd.R_far (p := ⟨gb224, 1, none⟩) (Kd.R_far (p := ⟨gb224, 0, none⟩) (Kd.R_types HO229.out BK224.out (by decide)) (fun _ hk => hk.2) (.slice Ao31 t227.length co31)) (fun _ hk => hk.2) (.slice Ao30 t230.length co30)) (fun _ hk => hk.1.2), by (with_reducible repeat (first|apply rA|apply rN|apply rD)); exact Kd.R_mono (Kd.R_far (p := ⟨gb224, 1, none⟩) (Kd.R_far (p := ⟨gb224, 0, none⟩) (Kd.R_types HO232.out BK224.out (by decide)) (fun _ hk => hk.2) (.slice Ao31 t227.length co31)) (fun _ hk => hk.2) (.slice Ao30 t230.length co30)) (fun _ hk => hk.1.2), bX2 HB.out GE223.out GE224.out⟩
 }

end Go.Proofs.YthhdgeafdnikcaaGreatDoor.S
