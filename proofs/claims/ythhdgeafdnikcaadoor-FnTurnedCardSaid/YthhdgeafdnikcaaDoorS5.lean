-- PRINTED by print.py (a twelfth state) out of the translation. Not trusted: Lean checks it.
import Derived.Test.YthhdgeafdnikcaaDoorS0
import Derived.Test.YthhdgeafdnikcaaDoorS2
import Derived.Test.YthhdgeafdnikcaaDoorS3
import Derived.Test.YthhdgeafdnikcaaDoorS4
namespace Go.Proofs.YthhdgeafdnikcaaDoor.S
set_option maxHeartbeats 8000000
set_option maxRecDepth 100000
open Go.RowKit Go.Proofs.YthhdgeafdnikcaaDoorW.PrintWords Go.Proofs.YthhdgeafdnikcaaDoorW.PrintLast Go.Proofs.YthhdgeafdnikcaaDoorW.PrintMore
attribute [local go_sem] max2_int min2_int max_two min_two max_three min_three max_four min_four   -- for this text's walks alone
set_option linter.unusedVariables false
set_option linter.unusedSimpArgs false

/-! ### i_AroundOf: function 43 -/
def i_AroundOf.f (k:Nat) (l0_0:List Int) (l0_1:List Int):Option (List Int):=(i_SurfaceOk.f k l0_0 l0_1).bind fun t410=>(if t410=true then ((i_ThenPerm.f k l0_0 l0_1).bind fun t411=>((i_InversePerm.f k l0_0).bind fun t414=>((i_InversePerm.f k l0_1).bind fun t417=>((i_ThenPerm.f k t414 t417).bind fun t420=>((i_ThenPerm.f k t411 t420).bind fun t423=>(some t423)))))) else (some ([]:List Int)))
def i_AroundOf.T3 : Bool × List (List Nat × List Nat):=(true,[([],[]),([0],[0]),([],[]),([2],[2]),([1,3],[1,3]),([],[]),([5],[5]),([6,4],[6]),([],[]),([8],[8]),([9,7],[9]),([7,10,10],[7,10]),([4,11,11],[4,11]),([12,12,0,1,2,3,4,5,6,7,8,9,10,11,12],[12])])
def i_AroundOf.B3 : List Nat:=[0,1,0,4,15,0,32,127,0,256,1023,2047,4095,8191]
theorem i_AroundOf.tab3 : rtab .any (opsOf Tryd.f43 3)=i_AroundOf.T3:=by kernel_rfl
theorem i_AroundOf.bits3 : waitsOk i_AroundOf.T3.2 i_AroundOf.B3=true:=by kernel_rfl
theorem i_AroundOf.calls (k:Nat) (A0_0:Option Addr) (c0_0:Nat) (l0_0:List Int) (A0_1:Option Addr) (c0_1:Nat) (l0_1:List Int) (r:List Int) (w:World) (hr0_0:Kd.C (Kd.int .i64) w A0_0 l0_0.length l0_0) (hc0_0:l0_0.length≤c0_0) (hr0_1:Kd.C (Kd.int .i64) w A0_1 l0_1.length l0_1) (hc0_1:l0_1.length≤c0_1) (h:i_AroundOf.f k l0_0 l0_1=some r) :
  Calls Tryd.prog 43 #[.agg #[.slice A0_0 l0_0.length c0_0,.slice A0_1 l0_1.length c0_1]] w fun e w'=>∃ v0_:Value,e = .returned (v0_)∧Kd.R (Kd.int .i64) 3 w' w.heap.size (fun _=>True) v0_ r∧Below w.heap.size w w':=by
 have hu25:=Tryd.underlying25
 have HR0_0:=aM hr0_0
 have HC0_0:=aM hc0_0
 clear hr0_0 hc0_0
 have HR0_1:=aM hr0_1
 have HC0_1:=aM hc0_1
 clear hr0_1 hc0_1
 have HB:=aM (Below.refl w.heap.size w)
 have H:((i_SurfaceOk.f k l0_0 l0_1).bind fun t410=>(if t410=true then ((i_ThenPerm.f k l0_0 l0_1).bind fun t411=>((i_InversePerm.f k l0_0).bind fun t414=>((i_InversePerm.f k l0_1).bind fun t417=>((i_ThenPerm.f k t414 t417).bind fun t420=>((i_ThenPerm.f k t411 t420).bind fun t423=>(some t423)))))) else (some ([]:List Int))))=some r:=h
 clear h
 replace H:=oB H
 obtain ⟨t410,A20,H⟩:=H
 have A2:=aM A20
 clear A20
 by_cases c3:t410=true
 {
 subst c3
 have H1:((i_ThenPerm.f k l0_0 l0_1).bind fun t411=>((i_InversePerm.f k l0_0).bind fun t414=>((i_InversePerm.f k l0_1).bind fun t417=>((i_ThenPerm.f k t414 t417).bind fun t420=>((i_ThenPerm.f k t411 t420).bind fun t423=>(some t423))))))=some r:=by rw [if_pos rfl] at H;exact H
 clear H
 have H:=H1
 clear H1
 replace H:=oB H
 obtain ⟨t411,A40,H⟩:=H
 have A4:=aM A40
 clear A40
 replace H:=oB H
 obtain ⟨t414,A50,H⟩:=H
 have A5:=aM A50
 clear A50
 replace H:=oB H
 obtain ⟨t417,A60,H⟩:=H
 have A6:=aM A60
 clear A60
 replace H:=oB H
 obtain ⟨t420,A70,H⟩:=H
 have A7:=aM A70
 clear A70
 replace H:=oB H
 obtain ⟨t423,A80,H⟩:=H
 have A8:=aM A80
 clear A80
 obtain rfl:=Option.some.inj H
 go_enter Tryd.func43,Tryd.ntmps43
 try go_wp2_with (first|((with_reducible refine gate_dst (N:=1) rfl ?_);refine bEv (cs:=#[.slice A0_0 l0_0.length c0_0,.slice A0_1 l0_1.length c0_1]) (t:=25) ?_;intro gb409 hg w9 hbox hb;have BK409:=aM (hbox);have GW409:=aM ((szX (below_size (bX HB.out)) hg:w.heap.size≤gb409));have GE409:=GW409;replace HB:=aM (below_step (bX HB.out) hb);clear hb hbox hg;obtain ⟨hcz10_0,hcz10_1,hfz10_0,hfz10_1⟩:=f2Z BK409.out)|((with_reducible refine gate_callee (f:=22) rfl ?_);refine goesL_ (some 4) rfl rfl Tryd.func22 (by kernel_rfl) rfl #[.agg #[.slice A0_0 l0_0.length c0_0,.slice A0_1 l0_1.length c0_1]] rfl aX ?_;(with_reducible refine(i_SurfaceOk.calls k _ _ l0_0 _ _ l0_1 true _ ?side1 ?side2 ?side3 ?side4 A2.out).mono ?_);(case side1=>exact cX (Kd.C_below HR0_0.out HB.out));(case side2=>exact HC0_0.out);(case side3=>exact cX (Kd.C_below HR0_1.out HB.out));(case side4=>exact HC0_1.out);rintro e w11 ⟨rfl,hb⟩;refine ⟨_,rfl,?_⟩;replace BK409:=aM (bbX BK409.out hb);replace HB:=aM (below_step (bX1 HB.out GE409.out) hb);(try clear hb);(try clear hk)))
 replace BK409:=aM (blk_drew BK409.out)
 replace HB:=aM (below_drew1 HB.out)
 refine start_ (n:=14) (S:=fun w'=>w'.cell? ⟨gb409,0,none⟩=some (.slice A0_0 l0_0.length c0_0)∧w'.cell? ⟨gb409,1,none⟩=some (.slice A0_1 l0_1.length c0_1)) (ds:=[]) #[ff,ff,ff,ff,ff,ff,ff,ff,ff,ff,ff,ff,ff,ff] (by kernel_rfl) rfl rfl ⟨cz20 BK409.out,cz21 BK409.out⟩ (fun hHeld => ?_);refine with_tabW i_AroundOf.tab3 i_AroundOf.bits3 (fun HT_ HW_ => ?_)
 generalize w11.drew=w12 at BK409 HB hHeld ⊢
 refine pX 0 6 (fl 14 1) rfl rfl HT_.out ?_
 refine pX 2 8 (fl 14 5) rfl rfl HT_.out ?_
 refine pX 5 11 (fl 14 37) rfl rfl HT_.out ?_
 refine pX 8 14 (fl 14 293) rfl rfl HT_.out ?_
 refine tX2 1 7 (fl 14 295) rfl rfl HT_.out HW_.out hHeld ?_
 refine tX2 3 9 (fl 14 303) rfl rfl HT_.out HW_.out hHeld ?_
 refine tX2 6 12 (fl 14 367) rfl rfl HT_.out HW_.out hHeld ?_
 refine tX2 9 15 (fl 14 879) rfl rfl HT_.out HW_.out hHeld ?_
 refine one_ (i:=4) (N:=some 10) #[tt,tt,tt,tt,tt,tt,tt,ff,tt,tt,ff,ff,ff,ff] rfl rfl (one_of HT_.out (by kernel_rfl)) (by decide) (fun K hK => ?_)
 refine goes_ Tryd.func54 (by kernel_rfl) rfl #[.slice A0_0 l0_0.length c0_0,.slice A0_1 l0_1.length c0_1] (by rfl) rfl rfl aX ?_
 with_reducible refine(i_ThenPerm.calls k _ _ l0_0 _ _ l0_1 t411 _ ?side1 ?side2 ?side3 ?side4 A4.out).mono ?_
 (case side1=>exact cX (Kd.C_below HR0_0.out HB.out))
 (case side2=>exact HC0_0.out)
 (case side3=>exact cX (Kd.C_below HR0_1.out HB.out))
 (case side4=>exact HC0_1.out)
 rintro e w13 ⟨v412,rfl,ho0,hb⟩
 refine ⟨_,rfl,?_⟩
 have HO413:=aM (Kd.R_lower ho0 (below_size (bX1 HB.out GE409.out)))
 replace BK409:=aM (bbX BK409.out hb)
 replace HB:=aM (below_step (bX1 HB.out GE409.out) hb)
 (try clear hb)
 (try clear hk)
 (try clear ho0)
 refine hK.out _ _ ⟨cz20 BK409.out,cz21 BK409.out⟩ (fun hHeld => ?_)
 clear hK K
 refine norm_ (a':=?_) ?_ ?_
 rotate_left
 {
 show Act.put _ (some 10) _=_
 simp only [Act.put,zA,zB,zC,i64_w,i32_w]
 rfl
 }
 refine one_ (i:=7) (N:=some 13) #[tt,tt,tt,tt,tt,tt,tt,tt,tt,tt,ff,ff,ff,ff] rfl rfl (one_of HT_.out (by kernel_rfl)) (by decide) (fun K hK => ?_)
 refine goes_ Tryd.func30 (by kernel_rfl) rfl #[.slice A0_0 l0_0.length c0_0] (by rfl) rfl rfl aX ?_
 with_reducible refine(i_InversePerm.calls k _ _ l0_0 t414 _ ?side1 ?side2 A5.out).mono ?_
 (case side1=>exact cX (Kd.C_below HR0_0.out HB.out))
 (case side2=>exact HC0_0.out)
 rintro e w14 ⟨v415,rfl,ho0,hb⟩
 refine ⟨_,rfl,?_⟩
 have HO416:=aM (Kd.R_lower (Kd.R_new' ho0 (Kd.R_lt (rX HO413.out))) (below_size (bX1 HB.out GE409.out)))
 replace HO413:=aM (Kd.R_elder' (rX HO413.out) (Kd.R_base ho0) hb)
 replace BK409:=aM (bbX BK409.out hb)
 replace HB:=aM (below_step (bX1 HB.out GE409.out) hb)
 (try clear hb)
 (try clear hk)
 (try clear ho0)
 refine hK.out _ _ ⟨cz20 BK409.out,cz21 BK409.out⟩ (fun hHeld => ?_)
 clear hK K
 refine norm_ (a':=?_) ?_ ?_
 rotate_left
 {
 show Act.put _ (some 13) _=_
 simp only [Act.put,zA,zB,zC,i64_w,i32_w]
 rfl
 }
 refine one_ (i:=10) (N:=some 16) #[tt,tt,tt,tt,tt,tt,tt,tt,tt,tt,tt,ff,ff,ff] rfl rfl (one_of HT_.out (by kernel_rfl)) (by decide) (fun K hK => ?_)
 refine goes_ Tryd.func30 (by kernel_rfl) rfl #[.slice A0_1 l0_1.length c0_1] (by rfl) rfl rfl aX ?_
 with_reducible refine(i_InversePerm.calls k _ _ l0_1 t417 _ ?side1 ?side2 A6.out).mono ?_
 (case side1=>exact cX (Kd.C_below HR0_1.out HB.out))
 (case side2=>exact HC0_1.out)
 rintro e w15 ⟨v418,rfl,ho0,hb⟩
 refine ⟨_,rfl,?_⟩
 have HO419:=aM (Kd.R_lower (Kd.R_new' (Kd.R_new' ho0 (Kd.R_lt (rX HO413.out))) (Kd.R_lt (rX HO416.out))) (below_size (bX1 HB.out GE409.out)))
 replace HO413:=aM (Kd.R_elder' (rX HO413.out) (Kd.R_base ho0) hb)
 replace HO416:=aM (Kd.R_elder' (rX HO416.out) (Kd.R_base ho0) hb)
 replace BK409:=aM (bbX BK409.out hb)
 replace HB:=aM (below_step (bX1 HB.out GE409.out) hb)
 (try clear hb)
 (try clear hk)
 (try clear ho0)
 obtain ⟨Ao16,co16,eo16⟩:=Kd.R_slice HO416.out
 (first|subst eo16|(injection eo16 with f1_ f2_ f3_;have f4_:=f1_.symm;have f5_:=f3_.symm;clear f1_ f2_ f3_;subst f4_;subst f5_))
 obtain ⟨Ao17,co17,eo17⟩:=Kd.R_slice HO419.out
 (first|subst eo17|(injection eo17 with f1_ f2_ f3_;have f4_:=f1_.symm;have f5_:=f3_.symm;clear f1_ f2_ f3_;subst f4_;subst f5_))
 refine hK.out _ _ ⟨cz20 BK409.out,cz21 BK409.out⟩ (fun hHeld => ?_)
 clear hK K
 refine norm_ (a':=?_) ?_ ?_
 rotate_left
 {
 show Act.put _ (some 16) _=_
 simp only [Act.put,zA,zB,zC,i64_w,i32_w]
 rfl
 }
 refine one_ (i:=11) (N:=some 17) #[tt,tt,tt,tt,tt,tt,tt,tt,tt,tt,tt,tt,ff,ff] rfl rfl (one_of HT_.out (by kernel_rfl)) (by decide) (fun K hK => ?_)
 refine goes_ Tryd.func54 (by kernel_rfl) rfl #[.slice Ao16 t414.length co16,.slice Ao17 t417.length co17] (by rfl) rfl rfl aX ?_
 with_reducible refine(i_ThenPerm.calls k _ _ t414 _ _ t417 t420 _ ?side1 ?side2 ?side3 ?side4 A7.out).mono ?_
 (case side1=>exact cX (Kd.R_reads' HO416.out).2.2)
 (case side2=>exact(Kd.R_reads' HO416.out).2.1)
 (case side3=>exact cX (Kd.R_reads' HO419.out).2.2)
 (case side4=>exact(Kd.R_reads' HO419.out).2.1)
 rintro e w18 ⟨v421,rfl,ho0,hb⟩
 refine ⟨_,rfl,?_⟩
 have HO422:=aM (Kd.R_lower (Kd.R_new' (Kd.R_new' (Kd.R_new' ho0 (Kd.R_lt (rX HO413.out))) (Kd.R_lt (rX HO416.out))) (Kd.R_lt (rX HO419.out))) (below_size (bX1 HB.out GE409.out)))
 replace HO413:=aM (Kd.R_elder' (rX HO413.out) (Kd.R_base ho0) hb)
 replace HO416:=aM (Kd.R_elder' (rX HO416.out) (Kd.R_base ho0) hb)
 replace HO419:=aM (Kd.R_elder' (rX HO419.out) (Kd.R_base ho0) hb)
 replace BK409:=aM (bbX BK409.out hb)
 replace HB:=aM (below_step (bX1 HB.out GE409.out) hb)
 (try clear hb)
 (try clear hk)
 (try clear ho0)
 obtain ⟨Ao19,co19,eo19⟩:=Kd.R_slice HO413.out
 (first|subst eo19|(injection eo19 with f1_ f2_ f3_;have f4_:=f1_.symm;have f5_:=f3_.symm;clear f1_ f2_ f3_;subst f4_;subst f5_))
 obtain ⟨Ao20,co20,eo20⟩:=Kd.R_slice HO422.out
 (first|subst eo20|(injection eo20 with f1_ f2_ f3_;have f4_:=f1_.symm;have f5_:=f3_.symm;clear f1_ f2_ f3_;subst f4_;subst f5_))
 refine hK.out _ _ ⟨cz20 BK409.out,cz21 BK409.out⟩ (fun hHeld => ?_)
 clear hK K
 refine norm_ (a':=?_) ?_ ?_
 rotate_left
 {
 show Act.put _ (some 17) _=_
 simp only [Act.put,zA,zB,zC,i64_w,i32_w]
 rfl
 }
 refine one_ (i:=12) (N:=some 18) #[tt,tt,tt,tt,tt,tt,tt,tt,tt,tt,tt,tt,tt,ff] rfl rfl (one_of HT_.out (by kernel_rfl)) (by decide) (fun K hK => ?_)
 refine goes_ Tryd.func54 (by kernel_rfl) rfl #[.slice Ao19 t411.length co19,.slice Ao20 t420.length co20] (by rfl) rfl rfl aX ?_
 with_reducible refine(i_ThenPerm.calls k _ _ t411 _ _ t420 t423 _ ?side1 ?side2 ?side3 ?side4 A8.out).mono ?_
 (case side1=>exact cX (Kd.R_reads' HO413.out).2.2)
 (case side2=>exact(Kd.R_reads' HO413.out).2.1)
 (case side3=>exact cX (Kd.R_reads' HO422.out).2.2)
 (case side4=>exact(Kd.R_reads' HO422.out).2.1)
 rintro e w21 ⟨v424,rfl,ho0,hb⟩
 refine ⟨_,rfl,?_⟩
 have HO425:=aM (Kd.R_lower (Kd.R_new' (Kd.R_new' (Kd.R_new' (Kd.R_new' ho0 (Kd.R_lt (rX HO413.out))) (Kd.R_lt (rX HO416.out))) (Kd.R_lt (rX HO419.out))) (Kd.R_lt (rX HO422.out))) (below_size (bX1 HB.out GE409.out)))
 replace HO413:=aM (Kd.R_elder' (rX HO413.out) (Kd.R_base ho0) hb)
 replace HO416:=aM (Kd.R_elder' (rX HO416.out) (Kd.R_base ho0) hb)
 replace HO419:=aM (Kd.R_elder' (rX HO419.out) (Kd.R_base ho0) hb)
 replace HO422:=aM (Kd.R_elder' (rX HO422.out) (Kd.R_base ho0) hb)
 replace BK409:=aM (bbX BK409.out hb)
 replace HB:=aM (below_step (bX1 HB.out GE409.out) hb)
 (try clear hb)
 (try clear hk)
 (try clear ho0)
 refine hK.out _ _ ⟨cz20 BK409.out,cz21 BK409.out⟩ (fun hHeld => ?_)
 clear hK K
 refine norm_ (a':=?_) ?_ ?_
 rotate_left
 {
 show Act.put _ (some 18) _=_
 simp only [Act.put,zA,zB,zC,i64_w,i32_w]
 rfl
 }
 refine pX 13 2 (fl 14 16383) rfl rfl HT_.out ?_
 refine done_ (done_of HT_.out (by kernel_rfl)) ?_
 try go_wp2
 go_ret
 exact ⟨_,eX,by(with_reducible repeat(first|apply rA|apply rN|apply rD));exact Kd.R_mono HO425.out (fun _ hk=>trivial),bX1 HB.out GE409.out⟩
 }
 {
 replace c3:=Bool.eq_false_iff.mpr c3
 subst c3
 have H1:(some ([]:List Int))=some r:=by rw [if_neg (show ¬ (false=true) by decide)] at H;exact H
 clear H
 have H:=H1
 clear H1
 obtain rfl:=Option.some.inj H
 go_enter Tryd.func43,Tryd.ntmps43
 go_wp2_with (first|((with_reducible refine gate_dst (N:=1) rfl ?_);refine bEv (cs:=#[.slice A0_0 l0_0.length c0_0,.slice A0_1 l0_1.length c0_1]) (t:=25) ?_;intro gb409 hg w22 hbox hb;have BK409:=aM (hbox);have GW409:=aM ((szX (below_size (bX HB.out)) hg:w.heap.size≤gb409));have GE409:=GW409;replace HB:=aM (below_step (bX HB.out) hb);clear hb hbox hg;obtain ⟨hcz23_0,hcz23_1,hfz23_0,hfz23_1⟩:=f2Z BK409.out)|((with_reducible refine gate_callee (f:=22) rfl ?_);refine goesL_ (some 4) rfl rfl Tryd.func22 (by kernel_rfl) rfl #[.agg #[.slice A0_0 l0_0.length c0_0,.slice A0_1 l0_1.length c0_1]] rfl aX ?_;(with_reducible refine(i_SurfaceOk.calls k _ _ l0_0 _ _ l0_1 false _ ?side1 ?side2 ?side3 ?side4 A2.out).mono ?_);(case side1=>exact cX (Kd.C_below HR0_0.out HB.out));(case side2=>exact HC0_0.out);(case side3=>exact cX (Kd.C_below HR0_1.out HB.out));(case side4=>exact HC0_1.out);rintro e w24 ⟨rfl,hb⟩;refine ⟨_,rfl,?_⟩;replace BK409:=aM (bbX BK409.out hb);replace HB:=aM (below_step (bX1 HB.out GE409.out) hb);(try clear hb);(try clear hk)))
 go_ret
 exact ⟨_,eX,by first|exact Kd.R_nil _ _ _ _ _|exact Kd.N_nil _ _ _ _ _|exact Kd.V_nil _ _ _ _ _|exact Kd.Q_nil _ _ _ _ _|exact Kd.S_nil _ _ _ _ _,bX1 HB.out GE409.out⟩
 }

/-! ### i_CornersOf: function 25 -/
def i_CornersOf.f (k:Nat) (l0_0:List Int) (l0_1:List Int):Option ((List (List Int))):=(i_SurfaceOk.f k l0_0 l0_1).bind fun t427=>(if t427=true then ((i_AroundOf.f k l0_0 l0_1).bind fun t428=>((i_CyclesOf.f k t428).bind fun t431=>(some t431))) else (some ([]:List (List Int))))
theorem i_CornersOf.calls (k:Nat) (A0_0:Option Addr) (c0_0:Nat) (l0_0:List Int) (A0_1:Option Addr) (c0_1:Nat) (l0_1:List Int) (r:List (List Int)) (w:World) (hr0_0:Kd.C (Kd.int .i64) w A0_0 l0_0.length l0_0) (hc0_0:l0_0.length≤c0_0) (hr0_1:Kd.C (Kd.int .i64) w A0_1 l0_1.length l0_1) (hc0_1:l0_1.length≤c0_1) (h:i_CornersOf.f k l0_0 l0_1=some r) :
  Calls Tryd.prog 25 #[.agg #[.slice A0_0 l0_0.length c0_0,.slice A0_1 l0_1.length c0_1]] w fun e w'=>∃ v0_:Value,e = .returned (v0_)∧Kd.S (Kd.slice 3 (Kd.int .i64)) 23 w' w.heap.size (fun _=>True) v0_ r∧Below w.heap.size w w':=by
 have hu25:=Tryd.underlying25
 have HR0_0:=aM hr0_0
 have HC0_0:=aM hc0_0
 clear hr0_0 hc0_0
 have HR0_1:=aM hr0_1
 have HC0_1:=aM hc0_1
 clear hr0_1 hc0_1
 have HB:=aM (Below.refl w.heap.size w)
 have H:((i_SurfaceOk.f k l0_0 l0_1).bind fun t427=>(if t427=true then ((i_AroundOf.f k l0_0 l0_1).bind fun t428=>((i_CyclesOf.f k t428).bind fun t431=>(some t431))) else (some ([]:List (List Int)))))=some r:=h
 clear h
 replace H:=oB H
 obtain ⟨t427,A20,H⟩:=H
 have A2:=aM A20
 clear A20
 by_cases c3:t427=true
 {
 subst c3
 have H1:((i_AroundOf.f k l0_0 l0_1).bind fun t428=>((i_CyclesOf.f k t428).bind fun t431=>(some t431)))=some r:=by rw [if_pos rfl] at H;exact H
 clear H
 have H:=H1
 clear H1
 replace H:=oB H
 obtain ⟨t428,A40,H⟩:=H
 have A4:=aM A40
 clear A40
 replace H:=oB H
 obtain ⟨t431,A50,H⟩:=H
 have A5:=aM A50
 clear A50
 obtain rfl:=Option.some.inj H
 go_enter Tryd.func25,Tryd.ntmps25
 go_wp2_with (first|((with_reducible refine gate_dst (N:=1) rfl ?_);refine bEv (cs:=#[.slice A0_0 l0_0.length c0_0,.slice A0_1 l0_1.length c0_1]) (t:=25) ?_;intro gb426 hg w6 hbox hb;have BK426:=aM (hbox);have GW426:=aM ((szX (below_size (bX HB.out)) hg:w.heap.size≤gb426));have GE426:=GW426;replace HB:=aM (below_step (bX HB.out) hb);clear hb hbox hg;obtain ⟨hcz7_0,hcz7_1,hfz7_0,hfz7_1⟩:=f2Z BK426.out)|((with_reducible refine gate_callee (f:=22) rfl ?_);refine goesL_ (some 4) rfl rfl Tryd.func22 (by kernel_rfl) rfl #[.agg #[.slice A0_0 l0_0.length c0_0,.slice A0_1 l0_1.length c0_1]] rfl aX ?_;(with_reducible refine(i_SurfaceOk.calls k _ _ l0_0 _ _ l0_1 true _ ?side1 ?side2 ?side3 ?side4 A2.out).mono ?_);(case side1=>exact cX (Kd.C_below HR0_0.out HB.out));(case side2=>exact HC0_0.out);(case side3=>exact cX (Kd.C_below HR0_1.out HB.out));(case side4=>exact HC0_1.out);rintro e w8 ⟨rfl,hb⟩;refine ⟨_,rfl,?_⟩;replace BK426:=aM (bbX BK426.out hb);replace HB:=aM (below_step (bX1 HB.out GE426.out) hb);(try clear hb);(try clear hk);obtain ⟨hcz9_0,hcz9_1,hfz9_0,hfz9_1⟩:=f2Z BK426.out)|((with_reducible refine gate_callee (f:=43) rfl ?_);refine goesL_ (some 7) rfl rfl Tryd.func43 (by kernel_rfl) rfl #[.agg #[.slice A0_0 l0_0.length c0_0,.slice A0_1 l0_1.length c0_1]] rfl aX ?_;(with_reducible refine(i_AroundOf.calls k _ _ l0_0 _ _ l0_1 t428 _ ?side1 ?side2 ?side3 ?side4 A4.out).mono ?_);(case side1=>exact cX (Kd.C_below HR0_0.out HB.out));(case side2=>exact HC0_0.out);(case side3=>exact cX (Kd.C_below HR0_1.out HB.out));(case side4=>exact HC0_1.out);rintro e w10 ⟨v429,rfl,ho0,hb⟩;refine ⟨_,rfl,?_⟩;have HO430:=aM (Kd.R_lower ho0 (below_size (bX1 HB.out GE426.out)));replace BK426:=aM (bbX BK426.out hb);replace HB:=aM (below_step (bX1 HB.out GE426.out) hb);(try clear hb);(try clear hk);(try clear ho0);obtain ⟨Ao11,co11,eo11⟩:=Kd.R_slice HO430.out;subst eo11)|((with_reducible refine gate_callee (f:=42) rfl ?_);refine goesL_ (some 8) rfl rfl Tryd.func42 (by kernel_rfl) rfl #[.slice Ao11 t428.length co11] rfl aX ?_;(with_reducible refine(i_CyclesOf.calls k _ _ t428 t431 _ ?side1 ?side2 A5.out).mono ?_);(case side1=>exact cX (Kd.R_reads' HO430.out).2.2);(case side2=>exact(Kd.R_reads' HO430.out).2.1);rintro e w12 ⟨v432,rfl,ho0,hb⟩;refine ⟨_,rfl,?_⟩;have HO433:=aM (Kd.S_lower (Kd.S_new' ho0 (Kd.R_lt (rX HO430.out))) (below_size (bX1 HB.out GE426.out)));replace HO430:=aM (Kd.R_below (rX HO430.out) hb);replace BK426:=aM (bbX BK426.out hb);replace HB:=aM (below_step (bX1 HB.out GE426.out) hb);(try clear hb);(try clear hk);(try clear ho0)))
 go_ret
 exact ⟨_,eX,by(with_reducible repeat(first|apply Kd.S_alloc|apply Kd.S_drewN|apply Kd.S_drew));exact Kd.S_mono HO433.out (fun _ hk=>trivial),bX1 HB.out GE426.out⟩
 }
 {
 replace c3:=Bool.eq_false_iff.mpr c3
 subst c3
 have H1:(some ([]:List (List Int)))=some r:=by rw [if_neg (show ¬ (false=true) by decide)] at H;exact H
 clear H
 have H:=H1
 clear H1
 obtain rfl:=Option.some.inj H
 go_enter Tryd.func25,Tryd.ntmps25
 go_wp2_with (first|((with_reducible refine gate_dst (N:=1) rfl ?_);refine bEv (cs:=#[.slice A0_0 l0_0.length c0_0,.slice A0_1 l0_1.length c0_1]) (t:=25) ?_;intro gb426 hg w13 hbox hb;have BK426:=aM (hbox);have GW426:=aM ((szX (below_size (bX HB.out)) hg:w.heap.size≤gb426));have GE426:=GW426;replace HB:=aM (below_step (bX HB.out) hb);clear hb hbox hg;obtain ⟨hcz14_0,hcz14_1,hfz14_0,hfz14_1⟩:=f2Z BK426.out)|((with_reducible refine gate_callee (f:=22) rfl ?_);refine goesL_ (some 4) rfl rfl Tryd.func22 (by kernel_rfl) rfl #[.agg #[.slice A0_0 l0_0.length c0_0,.slice A0_1 l0_1.length c0_1]] rfl aX ?_;(with_reducible refine(i_SurfaceOk.calls k _ _ l0_0 _ _ l0_1 false _ ?side1 ?side2 ?side3 ?side4 A2.out).mono ?_);(case side1=>exact cX (Kd.C_below HR0_0.out HB.out));(case side2=>exact HC0_0.out);(case side3=>exact cX (Kd.C_below HR0_1.out HB.out));(case side4=>exact HC0_1.out);rintro e w15 ⟨rfl,hb⟩;refine ⟨_,rfl,?_⟩;replace BK426:=aM (bbX BK426.out hb);replace HB:=aM (below_step (bX1 HB.out GE426.out) hb);(try clear hb);(try clear hk)))
 go_ret
 exact ⟨_,eX,by first|exact Kd.S_nil _ _ _ _ _|exact Kd.N_nil _ _ _ _ _|exact Kd.V_nil _ _ _ _ _|exact Kd.Q_nil _ _ _ _ _|exact Kd.R_nil _ _ _ _ _,bX1 HB.out GE426.out⟩
 }

/-! ### i_GenusOf: function 6 -/
def i_GenusOf.f (k:Nat) (l0_0:List Int) (l0_1:List Int):Option (Int):=(i_SurfaceOk.f k l0_0 l0_1).bind fun t435=>(if t435=true then ((i_CountSquares.f k l0_0 l0_1).bind fun t436=>((i_CornersOf.f k l0_0 l0_1).bind fun t437=>(some (wrap64 (1+(wrap64 (Int.tdiv (wrap64 (t436 - (t437.length:Int))) 2))))))) else (some (-1)))
def i_GenusOf.T3 : Bool × List (List Nat × List Nat):=(true,[([],[]),([0],[0]),([],[]),([2,1],[2]),([3],[3]),([1,4],[1,4]),([5],[5]),([6],[6]),([7,3,0,1,2,3,4,5,6,7],[7])])
def i_GenusOf.B3 : List Nat:=[0,1,0,7,15,31,63,127,255]
theorem i_GenusOf.tab3 : rtab .any (opsOf Tryd.f6 3)=i_GenusOf.T3:=by kernel_rfl
theorem i_GenusOf.bits3 : waitsOk i_GenusOf.T3.2 i_GenusOf.B3=true:=by kernel_rfl
theorem i_GenusOf.calls (k:Nat) (A0_0:Option Addr) (c0_0:Nat) (l0_0:List Int) (A0_1:Option Addr) (c0_1:Nat) (l0_1:List Int) (r:Int) (w:World) (hr0_0:Kd.C (Kd.int .i64) w A0_0 l0_0.length l0_0) (hc0_0:l0_0.length≤c0_0) (hr0_1:Kd.C (Kd.int .i64) w A0_1 l0_1.length l0_1) (hc0_1:l0_1.length≤c0_1) (h:i_GenusOf.f k l0_0 l0_1=some r) :
  Calls Tryd.prog 6 #[.agg #[.slice A0_0 l0_0.length c0_0,.slice A0_1 l0_1.length c0_1]] w fun e w'=>e = .returned (.int .i64 r)∧Below w.heap.size w w':=by
 have hu25:=Tryd.underlying25
 have HR0_0:=aM hr0_0
 have HC0_0:=aM hc0_0
 clear hr0_0 hc0_0
 have HR0_1:=aM hr0_1
 have HC0_1:=aM hc0_1
 clear hr0_1 hc0_1
 have HB:=aM (Below.refl w.heap.size w)
 have H:((i_SurfaceOk.f k l0_0 l0_1).bind fun t435=>(if t435=true then ((i_CountSquares.f k l0_0 l0_1).bind fun t436=>((i_CornersOf.f k l0_0 l0_1).bind fun t437=>(some (wrap64 (1+(wrap64 (Int.tdiv (wrap64 (t436 - (t437.length:Int))) 2))))))) else (some (-1))))=some r:=h
 clear h
 replace H:=oB H
 obtain ⟨t435,A20,H⟩:=H
 have A2:=aM A20
 clear A20
 by_cases c3:t435=true
 {
 subst c3
 have H1:((i_CountSquares.f k l0_0 l0_1).bind fun t436=>((i_CornersOf.f k l0_0 l0_1).bind fun t437=>(some (wrap64 (1+(wrap64 (Int.tdiv (wrap64 (t436 - (t437.length:Int))) 2)))))))=some r:=by rw [if_pos rfl] at H;exact H
 clear H
 have H:=H1
 clear H1
 replace H:=oB H
 obtain ⟨t436,A40,H⟩:=H
 have A4:=aM A40
 clear A40
 replace H:=oB H
 obtain ⟨t437,A50,H⟩:=H
 have A5:=aM A50
 clear A50
 obtain rfl:=Option.some.inj H
 go_enter Tryd.func6,Tryd.ntmps6
 try go_wp2_with (first|((with_reducible refine gate_dst (N:=1) rfl ?_);refine bEv (cs:=#[.slice A0_0 l0_0.length c0_0,.slice A0_1 l0_1.length c0_1]) (t:=25) ?_;intro gb434 hg w6 hbox hb;have BK434:=aM (hbox);have GW434:=aM ((szX (below_size (bX HB.out)) hg:w.heap.size≤gb434));have GE434:=GW434;replace HB:=aM (below_step (bX HB.out) hb);clear hb hbox hg;obtain ⟨hcz7_0,hcz7_1,hfz7_0,hfz7_1⟩:=f2Z BK434.out)|((with_reducible refine gate_callee (f:=22) rfl ?_);refine goesL_ (some 4) rfl rfl Tryd.func22 (by kernel_rfl) rfl #[.agg #[.slice A0_0 l0_0.length c0_0,.slice A0_1 l0_1.length c0_1]] rfl aX ?_;(with_reducible refine(i_SurfaceOk.calls k _ _ l0_0 _ _ l0_1 true _ ?side1 ?side2 ?side3 ?side4 A2.out).mono ?_);(case side1=>exact cX (Kd.C_below HR0_0.out HB.out));(case side2=>exact HC0_0.out);(case side3=>exact cX (Kd.C_below HR0_1.out HB.out));(case side4=>exact HC0_1.out);rintro e w8 ⟨rfl,hb⟩;refine ⟨_,rfl,?_⟩;replace BK434:=aM (bbX BK434.out hb);replace HB:=aM (below_step (bX1 HB.out GE434.out) hb);(try clear hb)))
 replace BK434:=aM (blk_drew BK434.out)
 replace HB:=aM (below_drew1 HB.out)
 refine start_ (n:=9) (S:=fun w'=>w'.cell? ⟨gb434,0,none⟩=some (.slice A0_0 l0_0.length c0_0)∧w'.cell? ⟨gb434,1,none⟩=some (.slice A0_1 l0_1.length c0_1)) (ds:=[]) #[ff,ff,ff,ff,ff,ff,ff,ff,ff] (by kernel_rfl) rfl rfl ⟨cz20 BK434.out,cz21 BK434.out⟩ (fun hHeld => ?_);refine with_tabW i_GenusOf.tab3 i_GenusOf.bits3 (fun HT_ HW_ => ?_)
 generalize w8.drew=w9 at BK434 HB hHeld ⊢
 refine tX2 0 6 (fl 9 1) rfl rfl HT_.out HW_.out hHeld ?_
 refine tX2 2 8 (fl 9 5) rfl rfl HT_.out HW_.out hHeld ?_
 refine one_ (i:=1) (N:=some 7) #[tt,tt,tt,ff,ff,ff,ff,ff,ff] rfl rfl (one_of HT_.out (by kernel_rfl)) (by decide) (fun K hK => ?_)
 refine goes_ Tryd.func24 (by kernel_rfl) rfl #[.agg #[.slice A0_0 l0_0.length c0_0,.slice A0_1 l0_1.length c0_1]] (by rfl) rfl rfl aX ?_
 with_reducible refine(i_CountSquares.calls k _ _ l0_0 _ _ l0_1 t436 _ ?side1 ?side2 ?side3 ?side4 A4.out).mono ?_
 (case side1=>exact cX (Kd.C_below HR0_0.out HB.out))
 (case side2=>exact HC0_0.out)
 (case side3=>exact cX (Kd.C_below HR0_1.out HB.out))
 (case side4=>exact HC0_1.out)
 rintro e w10 ⟨rfl,hb⟩
 refine ⟨_,rfl,?_⟩
 replace BK434:=aM (bbX BK434.out hb)
 replace HB:=aM (below_step (bX1 HB.out GE434.out) hb)
 (try clear hb)
 refine hK.out _ _ ⟨cz20 BK434.out,cz21 BK434.out⟩ (fun hHeld => ?_)
 clear hK K
 refine norm_ (a':=?_) ?_ ?_
 rotate_left
 {
 show Act.put _ (some 7) _=_
 simp only [Act.put,zA,zB,zC,i64_w,i32_w]
 rfl
 }
 refine one_ (i:=3) (N:=some 9) #[tt,tt,tt,tt,ff,ff,ff,ff,ff] rfl rfl (one_of HT_.out (by kernel_rfl)) (by decide) (fun K hK => ?_)
 refine goes_ Tryd.func25 (by kernel_rfl) rfl #[.agg #[.slice A0_0 l0_0.length c0_0,.slice A0_1 l0_1.length c0_1]] (by rfl) rfl rfl aX ?_
 with_reducible refine(i_CornersOf.calls k _ _ l0_0 _ _ l0_1 t437 _ ?side1 ?side2 ?side3 ?side4 A5.out).mono ?_
 (case side1=>exact cX (Kd.C_below HR0_0.out HB.out))
 (case side2=>exact HC0_0.out)
 (case side3=>exact cX (Kd.C_below HR0_1.out HB.out))
 (case side4=>exact HC0_1.out)
 rintro e w11 ⟨v438,rfl,ho0,hb⟩
 refine ⟨_,rfl,?_⟩
 have HO439:=aM (Kd.S_lower ho0 (below_size (bX1 HB.out GE434.out)))
 replace BK434:=aM (bbX BK434.out hb)
 replace HB:=aM (below_step (bX1 HB.out GE434.out) hb)
 (try clear hb)
 (try clear ho0)
 obtain ⟨Ao12,co12,eo12⟩:=Kd.S_slice HO439.out
 (first|subst eo12|(injection eo12 with f1_ f2_ f3_;have f4_:=f1_.symm;have f5_:=f3_.symm;clear f1_ f2_ f3_;subst f4_;subst f5_))
 refine hK.out _ _ ⟨cz20 BK434.out,cz21 BK434.out⟩ (fun hHeld => ?_)
 clear hK K
 refine norm_ (a':=?_) ?_ ?_
 rotate_left
 {
 show Act.put _ (some 9) _=_
 simp only [Act.put,zA,zB,zC,i64_w,i32_w]
 rfl
 }
 refine pX 4 10 (fl 9 31) rfl rfl HT_.out ?_
 refine pX 5 11 (fl 9 63) rfl rfl HT_.out ?_
 refine pX 6 12 (fl 9 127) rfl rfl HT_.out ?_
 refine pX 7 13 (fl 9 255) rfl rfl HT_.out ?_
 refine pX 8 2 (fl 9 511) rfl rfl HT_.out ?_
 refine done_ (done_of HT_.out (by kernel_rfl)) ?_
 try go_wp2
 go_ret
 exact ⟨eX,bX1 HB.out GE434.out⟩
 }
 {
 replace c3:=Bool.eq_false_iff.mpr c3
 subst c3
 have H1:(some (-1))=some r:=by rw [if_neg (show ¬ (false=true) by decide)] at H;exact H
 clear H
 have H:=H1
 clear H1
 obtain rfl:=Option.some.inj H
 go_enter Tryd.func6,Tryd.ntmps6
 go_wp2_with (first|((with_reducible refine gate_dst (N:=1) rfl ?_);refine bEv (cs:=#[.slice A0_0 l0_0.length c0_0,.slice A0_1 l0_1.length c0_1]) (t:=25) ?_;intro gb434 hg w13 hbox hb;have BK434:=aM (hbox);have GW434:=aM ((szX (below_size (bX HB.out)) hg:w.heap.size≤gb434));have GE434:=GW434;replace HB:=aM (below_step (bX HB.out) hb);clear hb hbox hg;obtain ⟨hcz14_0,hcz14_1,hfz14_0,hfz14_1⟩:=f2Z BK434.out)|((with_reducible refine gate_callee (f:=22) rfl ?_);refine goesL_ (some 4) rfl rfl Tryd.func22 (by kernel_rfl) rfl #[.agg #[.slice A0_0 l0_0.length c0_0,.slice A0_1 l0_1.length c0_1]] rfl aX ?_;(with_reducible refine(i_SurfaceOk.calls k _ _ l0_0 _ _ l0_1 false _ ?side1 ?side2 ?side3 ?side4 A2.out).mono ?_);(case side1=>exact cX (Kd.C_below HR0_0.out HB.out));(case side2=>exact HC0_0.out);(case side3=>exact cX (Kd.C_below HR0_1.out HB.out));(case side4=>exact HC0_1.out);rintro e w15 ⟨rfl,hb⟩;refine ⟨_,rfl,?_⟩;replace BK434:=aM (bbX BK434.out hb);replace HB:=aM (below_step (bX1 HB.out GE434.out) hb);(try clear hb)))
 go_ret
 exact ⟨eX,bX1 HB.out GE434.out⟩
 }

/-! ### i_RenamePerm: function 56 -/
mutual
def i_RenamePerm.j0 : Nat→List Int→List Int→Bool→Option (List Int)
 | 0,_,_,_=>none
 | k+1,x0,x1,x22=>if x22=true then (some ([]:List Int)) else (if 0≤(x0.length:Int) then (if ((x0.length:Int):Int).toNat≤35184372088832 then (i_RenamePerm.l0 k x1 (List.replicate ((x0.length:Int):Int).toNat 0) x0 (x0.length:Int) 0) else (none)) else (none))
def i_RenamePerm.l0 : Nat→List Int→List Int→List Int→Int→Int→Option (List Int)
 | 0,_,_,_,_,_=>none
 | k+1,x1,x5,x26,x27,x28=>if x28<x27 then (if 0≤x28 then (if x28<(x26.length:Int) then (if x28<(x1.length:Int) then (if 0≤(rd x26 x28) then (if (rd x26 x28)<(x1.length:Int) then (if 0≤(rd x1 x28) then (if (rd x1 x28)<(x5.length:Int) then (i_RenamePerm.l0 k x1 (x5.set ((rd x1 x28):Int).toNat (rd x1 (rd x26 x28))) x26 x27 (wrap64 (x28+1))) else (none)) else (none)) else (none)) else (none)) else (none)) else (none)) else (none)) else (some x5)
end
def i_RenamePerm.f (k:Nat) (l0:List Int) (l1:List Int):Option (List Int):=(i_PermOk.f l0).bind fun t440=>(if t440=true then ((i_PermOk.f l1).bind fun t441=>(if t441=true then (i_RenamePerm.j0 k l0 l1 ((l0.length:Int) != (l1.length:Int))) else (i_RenamePerm.j0 k l0 l1 true))) else (i_RenamePerm.j0 k l0 l1 true))
def i_RenamePerm.T7 : Bool × List (List Nat × List Nat):=(true,[([],[]),([],[]),([],[]),([1,2],[1,2]),([3],[3]),([],[]),([],[]),([5,6],[5,6]),([7],[7]),([0,4,0,1,2,3,4,5,6,7,8],[0,4]),([9,8,0,1,2,3,4,5,6,7,8],[8,9])])
def i_RenamePerm.B7 : List Nat:=[0,0,0,6,14,0,0,96,224,511,1023]
theorem i_RenamePerm.tab7 : rtab .any (opsOf Tryd.f56 7)=i_RenamePerm.T7:=by kernel_rfl
theorem i_RenamePerm.bits7 : waitsOk i_RenamePerm.T7.2 i_RenamePerm.B7=true:=by kernel_rfl
theorem i_RenamePerm.calls (k:Nat) (A0:Option Addr) (c0:Nat) (l0:List Int) (A1:Option Addr) (c1:Nat) (l1:List Int) (r:List Int) (w:World) (hr0:Kd.C (Kd.int .i64) w A0 l0.length l0) (hc0:l0.length≤c0) (hr1:Kd.C (Kd.int .i64) w A1 l1.length l1) (hc1:l1.length≤c1) (h:i_RenamePerm.f k l0 l1=some r) :
  Calls Tryd.prog 56 #[.slice A0 l0.length c0,.slice A1 l1.length c1] w fun e w'=>∃ v0_:Value,e = .returned (v0_)∧Kd.R (Kd.int .i64) 3 w' w.heap.size (fun _=>True) v0_ r∧Below w.heap.size w w':=by
 have HR0:=aM hr0
 have HC0:=aM hc0
 clear hr0 hc0
 have HR1:=aM hr1
 have HC1:=aM hc1
 clear hr1 hc1
 have HB:=aM (Below.refl w.heap.size w)
 have H:((i_PermOk.f l0).bind fun t440=>(if t440=true then ((i_PermOk.f l1).bind fun t441=>(if t441=true then (i_RenamePerm.j0 k l0 l1 ((l0.length:Int) != (l1.length:Int))) else (i_RenamePerm.j0 k l0 l1 true))) else (i_RenamePerm.j0 k l0 l1 true)))=some r:=h
 clear h
 have HC3:=aM H
 clear H
 go_enter Tryd.func56,Tryd.ntmps56
 go_upto_region 1 with (fail)
 go_cut [22] (fun v22 wc=>∃ (kq:Nat) (x22_2:Bool),v22 = .bool x22_2∧Aside0 (i_RenamePerm.j0 kq l0 l1 x22_2=some r)∧Aside0 (kq≤k)∧Aside0 (Below w.heap.size w wc))
 case first =>
  have H:=HC3.out
  clear HC3
  replace H:=oB H
  obtain ⟨t440,A40,H⟩:=H
  have A4:=aM A40
  clear A40
  by_cases c5:t440=true
  {
  subst c5
  have H1:((i_PermOk.f l1).bind fun t441=>(if t441=true then (i_RenamePerm.j0 k l0 l1 ((l0.length:Int) != (l1.length:Int))) else (i_RenamePerm.j0 k l0 l1 true)))=some r:=by rw [if_pos rfl] at H;exact H
  clear H
  have H:=H1
  clear H1
  replace H:=oB H
  obtain ⟨t441,A60,H⟩:=H
  have A6:=aM A60
  clear A60
  by_cases c7:t441=true
  {
  subst c7
  have H1:(i_RenamePerm.j0 k l0 l1 ((l0.length:Int) != (l1.length:Int)))=some r:=by rw [if_pos rfl] at H;exact H
  clear H
  have H:=H1
  clear H1
  have H':=aM H
  clear H
  go_wp2_with (first|((with_reducible refine gate_callee (f:=31) rfl ?_);refine goesL_ (some 9) rfl rfl Tryd.func31 (by kernel_rfl) rfl #[.slice A0 l0.length c0] rfl aX ?_;(with_reducible refine(i_PermOk.calls _ _ l0 true _ ?side1 ?side2 A4.out).mono ?_);(case side1=>exact cX (Kd.C_below HR0.out HB.out));(case side2=>exact HC0.out);rintro e w8 ⟨rfl,hb⟩;refine ⟨_,rfl,?_⟩;replace HB:=aM (below_step (bX HB.out) hb);(try clear hb);(try clear hk))|(go_at_call 31;(with_reducible refine(i_PermOk.calls _ _ l1 true _ ?side1 ?side2 A6.out).mono ?_);(case side1=>exact cX (Kd.C_below HR1.out HB.out));(case side2=>exact HC1.out);rintro e w9 ⟨rfl,hb⟩;replace HB:=aM (below_step (bX HB.out) hb);(try clear hb);(try clear hk)))
  go_meet
  case rel=>exact ⟨_,(((l0.length:Int) != (l1.length:Int))),vX,H',⟨by first|omega|exact Nat.le_refl _⟩,⟨bX HB.out⟩⟩
  }
  {
  replace c7:=Bool.eq_false_iff.mpr c7
  subst c7
  have H1:(i_RenamePerm.j0 k l0 l1 true)=some r:=by rw [if_neg (show ¬ (false=true) by decide)] at H;exact H
  clear H
  have H:=H1
  clear H1
  have H':=aM H
  clear H
  go_wp2_with (first|((with_reducible refine gate_callee (f:=31) rfl ?_);refine goesL_ (some 9) rfl rfl Tryd.func31 (by kernel_rfl) rfl #[.slice A0 l0.length c0] rfl aX ?_;(with_reducible refine(i_PermOk.calls _ _ l0 true _ ?side1 ?side2 A4.out).mono ?_);(case side1=>exact cX (Kd.C_below HR0.out HB.out));(case side2=>exact HC0.out);rintro e w10 ⟨rfl,hb⟩;refine ⟨_,rfl,?_⟩;replace HB:=aM (below_step (bX HB.out) hb);(try clear hb);(try clear hk))|(go_at_call 31;(with_reducible refine(i_PermOk.calls _ _ l1 false _ ?side1 ?side2 A6.out).mono ?_);(case side1=>exact cX (Kd.C_below HR1.out HB.out));(case side2=>exact HC1.out);rintro e w11 ⟨rfl,hb⟩;replace HB:=aM (below_step (bX HB.out) hb);(try clear hb);(try clear hk)))
  go_meet
  case rel=>exact ⟨_,(true),vX,H',⟨by first|omega|exact Nat.le_refl _⟩,⟨bX HB.out⟩⟩
  }
  }
  {
  replace c5:=Bool.eq_false_iff.mpr c5
  subst c5
  have H1:(i_RenamePerm.j0 k l0 l1 true)=some r:=by rw [if_neg (show ¬ (false=true) by decide)] at H;exact H
  clear H
  have H:=H1
  clear H1
  have H':=aM H
  clear H
  go_wp2_with (first|((with_reducible refine gate_callee (f:=31) rfl ?_);refine goesL_ (some 9) rfl rfl Tryd.func31 (by kernel_rfl) rfl #[.slice A0 l0.length c0] rfl aX ?_;(with_reducible refine(i_PermOk.calls _ _ l0 false _ ?side1 ?side2 A4.out).mono ?_);(case side1=>exact cX (Kd.C_below HR0.out HB.out));(case side2=>exact HC0.out);rintro e w12 ⟨rfl,hb⟩;refine ⟨_,rfl,?_⟩;replace HB:=aM (below_step (bX HB.out) hb);(try clear hb);(try clear hk)))
  go_meet
  case rel=>exact ⟨_,(true),vX,H',⟨by first|omega|exact Nat.le_refl _⟩,⟨bX HB.out⟩⟩
  }
 case rest =>
 clear HC3
 try clear c1
 try clear c5
 try clear c7
 obtain ⟨kq,x22_2,rfl,HA,HJ2,HB⟩:=hcut
 cases kq with
 | zero=>exact absurd HA.out (by simp [i_RenamePerm.j0])
 | succ kj2 =>
 have H:=HA.out
 clear HA
 simp only [i_RenamePerm.j0] at H
 by_cases c13:x22_2=true
 {
 subst c13
 have H1:(some ([]:List Int))=some r:=by rw [if_pos rfl] at H;exact H
 clear H
 have H:=H1
 clear H1
 obtain rfl:=Option.some.inj H
 go_wp2
 go_ret
 exact ⟨_,eX,by first|exact Kd.R_nil _ _ _ _ _|exact Kd.N_nil _ _ _ _ _|exact Kd.V_nil _ _ _ _ _|exact Kd.Q_nil _ _ _ _ _|exact Kd.S_nil _ _ _ _ _,bX HB.out⟩
 }
 {
 replace c13:=Bool.eq_false_iff.mpr c13
 subst c13
 have H1:(if 0≤(l0.length:Int) then (if ((l0.length:Int):Int).toNat≤35184372088832 then (i_RenamePerm.l0 kj2 l1 (List.replicate ((l0.length:Int):Int).toNat 0) l0 (l0.length:Int) 0) else (none)) else (none))=some r:=by rw [if_neg (show ¬ (false=true) by decide)] at H;exact H
 clear H
 have H:=H1
 clear H1
 by_cases c14:0≤(l0.length:Int)
 {
 rw [if_pos c14] at H
 have c14b0:=eq_true c14
 have c14b1:=decide_eq_true c14
 clear c14
 by_cases c15:((l0.length:Int):Int).toNat≤35184372088832
 {
 rw [if_pos c15] at H
 have c15b0:=eq_true c15
 have c15b1:=decide_eq_true c15
 clear c15
 obtain ⟨y442,hy442⟩:∃ y_:List Int,y_=(List.replicate ((l0.length:Int):Int).toNat 0):=⟨_,rfl⟩
 replace H:(i_RenamePerm.l0 kj2 l1 y442 l0 (l0.length:Int) 0)=some r:=by first|(rw [hy442];with_reducible exact H)|(have H2_:=(Option.bind_some _ _).symm.trans H;rw [hy442];with_reducible exact H2_)|(have H2_:=(Option.bind_some _ _).symm.trans H;with_reducible exact H2_)|with_reducible exact H|(rw [hy442];exact H)|exact H
 have Ny442:=aM hy442
 clear hy442
 have H':=aM H
 clear H
 go_wp2_with (first|((with_reducible refine gate_dst (N:=25) rfl ?_);(try(refine gate_guard (by rfl) ?_;dsimp only));refine Kd.R_make (Kd.int .i64) _ 3 rfl (N:=25) rfl 23 _ _ rfl (l0.length:Int) rfl rfl Tryd.underlying23 (.int .i64 0) 8 info3 rfl (by decide) (by omega) 0 (ok:=fun _=>True) (okp:=fun _=>True) rfl (fun _ hk=>hk) trivial (dX) (Nat.le_trans (Nat.mul_le_mul_right _ (dX:(l0.length:Int).toNat≤35184372088832)) (by omega)) (Below.refl _ _) (Nat.le_refl _) ?_;intro v443 w16 ho17 hb hg_ hnew_;clear hg_ hnew_;(first|rw [← Ny442.out] at ho17|(simp only [Int.reduceToNat] at ho17;rw [← Ny442.out] at ho17));have HO444:=aM (Kd.R_lower ho17 (below_size (bX HB.out)));replace HB:=aM (below_step (bX HB.out) hb);clear hb ho17))
 go_loopg [28] kj2 (fun kq v28 w'=>∃ (x5_2:List Int) (x28_2:Int),v28 = .int .i64 x28_2∧Aside0 (i_RenamePerm.l0 kq l1 x5_2 l0 (l0.length:Int) x28_2=some r)∧Aside0 (kq≤kj2)∧Aside0 (Kd.R (Kd.int .i64) 3 w' w.heap.size (fun _=>True) v443 x5_2)∧Aside0 (Below w.heap.size w w'))
 case atStart=>exact ⟨(y442),(0),vX,H',⟨Nat.le_refl _⟩,⟨rX HO444.out⟩,⟨bX HB.out⟩⟩
 case round =>
 clear H'
 try clear c1
 try clear c5
 try clear c7
 try clear c13
 try clear c14
 try clear c14b0
 try clear c14b1
 try clear c15
 try clear c15b0
 try clear c15b1
 obtain ⟨x5_2,x28_2,rfl,HA,HK2,HO_5,HB⟩:=hrel
 cases gk with
 | zero=>exact absurd HA.out (by simp [i_RenamePerm.l0])
 | succ k2 =>
 have H:=HA.out
 clear HA
 simp only [i_RenamePerm.l0] at H
 by_cases c18:x28_2<(l0.length:Int)
 {
 rw [if_pos c18] at H
 have c18b0:=decide_eq_true c18
 clear c18
 by_cases c19:0≤x28_2
 {
 rw [if_pos c19] at H
 have c19b0:=decide_eq_true c19
 clear c19
 by_cases c20:x28_2<(l0.length:Int)
 {
 rw [if_pos c20] at H
 have c20b0:=decide_eq_true c20
 clear c20
 by_cases c21:x28_2<(l1.length:Int)
 {
 rw [if_pos c21] at H
 have c21b0:=decide_eq_true c21
 clear c21
 by_cases c22:0≤(rd l0 x28_2)
 {
 rw [if_pos c22] at H
 have c22b0:=decide_eq_true c22
 clear c22
 by_cases c23:(rd l0 x28_2)<(l1.length:Int)
 {
 rw [if_pos c23] at H
 have c23b0:=decide_eq_true c23
 clear c23
 by_cases c24:0≤(rd l1 x28_2)
 {
 rw [if_pos c24] at H
 have c24b0:=decide_eq_true c24
 clear c24
 by_cases c25:(rd l1 x28_2)<(x5_2.length:Int)
 {
 rw [if_pos c25] at H
 have c25b0:=decide_eq_true c25
 clear c25
 obtain ⟨y448,hy448⟩:∃ y_:List Int,y_=(x5_2.set ((rd l1 x28_2):Int).toNat (rd l1 (rd l0 x28_2))):=⟨_,rfl⟩
 replace H:(i_RenamePerm.l0 k2 l1 y448 l0 (l0.length:Int) (wrap64 (x28_2+1)))=some r:=by first|(rw [hy448];with_reducible exact H)|(have H2_:=(Option.bind_some _ _).symm.trans H;rw [hy448];with_reducible exact H2_)|(have H2_:=(Option.bind_some _ _).symm.trans H;with_reducible exact H2_)|with_reducible exact H|(rw [hy448];exact H)|exact H
 have Ny448:=aM hy448
 clear hy448
 have H':=aM H
 clear H
 have p445:0≤(x28_2:Int):=dX
 have q445:x28_2<(l0.length:Int):=dX
 obtain ⟨ad445,e445,hx445_0⟩:=Kd.at_int HR0.out x28_2 p445 q445
 cases e445
 replace hx445_0:=(HB.out.cell (World.block_lt_of_cell? w _ hx445_0)).trans hx445_0
 replace p445:=eq_true p445
 replace q445:=eq_true q445
 try go_wp2
 replace HO_5:=aM (Kd.R_drew HO_5.out)
 replace HB:=aM (below_drew1 HB.out)
 have p446:0≤(x28_2:Int):=dX
 have q446:x28_2<(l1.length:Int):=dX
 obtain ⟨ad446,e446,hx446_0⟩:=Kd.at_int HR1.out x28_2 p446 q446
 have hw446_0:=hx446_0
 cases e446
 replace hx446_0:=(HB.out.cell (World.block_lt_of_cell? w _ hx446_0)).trans hx446_0
 replace p446:=eq_true p446
 replace q446:=eq_true q446
 have p447:0≤((rd l0 x28_2):Int):=dX
 have q447:(rd l0 x28_2)<(l1.length:Int):=dX
 obtain ⟨ad447,e447,hx447_0⟩:=Kd.at_int HR1.out (rd l0 x28_2) p447 q447
 have hw447_0:=hx447_0
 obtain rfl:ad446=ad447:=(by injection e447)
 replace hx447_0:=(HB.out.cell (World.block_lt_of_cell? w _ hx447_0)).trans hx447_0
 replace p447:=eq_true p447
 replace q447:=eq_true q447
 have p26:0≤((rd l1 x28_2):Int):=dX
 have q26:((rd l1 x28_2):Int)<((x5_2.length:Int):Int):=dX
 obtain ⟨go26,co26,eo26,gb26,gl26,cl26,HG26⟩:=Kd.R_form HO_5.out (by omega)
 (first|cases eo26|(injection eo26 with ea_ en_ ec_;(first|subst ea_|(injection ea_ with ea_;subst ea_));subst ec_;clear en_))
 have GB26:=aM gb26
 have GG26:=aM HG26
 clear gb26 gl26 HG26
 obtain ⟨hx26_0,hf26_0⟩:=Kd.R_celln 0 HO_5.out ((rd l1 x28_2):Int) p26 q26
 replace p26:=eq_true p26
 replace q26:=eq_true q26
 have HP28:=Kd.R_putn HO_5.out ((rd l1 x28_2):Int) (rd l1 (rd l0 x28_2))
 rw [← Ny448.out] at HP28
 have HQ28:=aM HP28
 clear HP28
 refine start_ (n:=11) (S:=fun w'=>w'.cell? (ad446.add (x28_2).toNat)=some (.int .i64 (rd l1 x28_2))∧w'.cell? (ad446.add ((rd l0 x28_2)).toNat)=some (.int .i64 (rd l1 (rd l0 x28_2)))) (ds:=[10]) #[ff,ff,ff,ff,ff,ff,ff,ff,ff,ff,ff] (by kernel_rfl) rfl rfl ⟨((HB.out.cell (World.block_lt_of_cell? w _ hw446_0)).trans hw446_0),((HB.out.cell (World.block_lt_of_cell? w _ hw447_0)).trans hw447_0)⟩ (fun hHeld => ?_);refine with_tabW i_RenamePerm.tab7 i_RenamePerm.bits7 (fun HT_ HW_ => ?_)
 generalize wr.drew=w27 at HO_5 HB GG26 HQ28 hf26_0 hx26_0 hx446_0 hx447_0 hHeld ⊢
 refine pX 0 33 (fl 11 1) rfl rfl HT_.out ?_
 refine pX 1 34 (fl 11 3) rfl rfl HT_.out ?_
 refine pX 2 35 (fl 11 7) rfl rfl HT_.out ?_
 refine pX 3 36 (fl 11 15) rfl rfl HT_.out ?_
 refine pX 5 38 (fl 11 47) rfl rfl HT_.out ?_
 refine pX 6 39 (fl 11 111) rfl rfl HT_.out ?_
 refine pX 7 40 (fl 11 239) rfl rfl HT_.out ?_
 refine tX2 4 37 (fl 11 255) rfl rfl HT_.out HW_.out hHeld ?_
 refine tX2 8 41 (fl 11 511) rfl rfl HT_.out HW_.out hHeld ?_
 refine pX 9 42 (fl 11 1023) rfl rfl HT_.out ?_
 refine last_ (i:=10) (N:=none) #[tt,tt,tt,tt,tt,tt,tt,tt,tt,tt,tt] rfl rfl (one_of HT_.out (by kernel_rfl)) (by decide) (fun K hK => ?_)
 refine skip_ (w1:=?_) (by rfl) rfl ?_ ?_
 rotate_left
 {
 go_simp
 rfl
 }
 refine hK.out _ _ ?_
 clear hK K
 refine done_ (done_of HT_.out (by kernel_rfl)) ?_
 try go_wp2
 go_roundg k2
 case measure=>have:=HJ2.out;have:=HK2.out;omega
 case rel=>exact ⟨(y448),(wrap64 (x28_2+1)),vX,H',⟨by have:=HJ2.out;have:=HK2.out;omega⟩,⟨rX HQ28.out⟩,⟨bX1 HB.out GB26.out⟩⟩
 }
 {
 rw [if_neg c25] at H
 exact absurd H (by simp)
 }
 }
 {
 rw [if_neg c24] at H
 exact absurd H (by simp)
 }
 }
 {
 rw [if_neg c23] at H
 exact absurd H (by simp)
 }
 }
 {
 rw [if_neg c22] at H
 exact absurd H (by simp)
 }
 }
 {
 rw [if_neg c21] at H
 exact absurd H (by simp)
 }
 }
 {
 rw [if_neg c20] at H
 exact absurd H (by simp)
 }
 }
 {
 rw [if_neg c19] at H
 exact absurd H (by simp)
 }
 }
 {
 rw [if_neg c18] at H
 have c18b0:=decide_eq_false c18
 clear c18
 obtain rfl:=Option.some.inj H
 go_wp2
 go_ret
 exact ⟨_,eX,by(with_reducible repeat(first|apply rA|apply rN|apply rD));exact HO_5.out,bX HB.out⟩
 }
 }
 {
 rw [if_neg c15] at H
 exact absurd H (by simp)
 }
 }
 {
 rw [if_neg c14] at H
 exact absurd H (by simp)
 }
 }

/-! ### i_RenameSurface: function 46 -/
def i_RenameSurface.j0 : Nat→List Int→Bool→List Int→List Int→Option (List Int × List Int × Bool)
 | 0,_,_,_,_=>none
 | k+1,x1,x21,x450000,x450001=>if x21=true then (some (([]:List Int),([]:List Int),false)) else ((i_RenamePerm.f k x450000 x1).bind fun t453=>((i_RenamePerm.f k x450001 x1).bind fun t456=>(some (t453,t456,true))))
def i_RenameSurface.f (k:Nat) (l0_0:List Int) (l0_1:List Int) (l1:List Int):Option (List Int × List Int × Bool):=(i_SurfaceOk.f k l0_0 l0_1).bind fun t451=>(if t451=true then ((i_PermOk.f l1).bind fun t452=>(if t452=true then (i_RenameSurface.j0 k l1 ((l1.length:Int) != (l0_0.length:Int)) l0_0 l0_1) else (i_RenameSurface.j0 k l1 true l0_0 l0_1))) else (i_RenameSurface.j0 k l1 true l0_0 l0_1))
def i_RenameSurface.T3 : Bool × List (List Nat × List Nat):=(true,[([],[]),([0],[0]),([],[]),([1,2],[1,2]),([],[]),([4],[4]),([],[]),([5,6,3],[5,6]),([3,7],[3,7]),([8,7,0,1,2,3,4,5,6,7,8],[8]),([9,0,1,2,3,4,5,6,7,8,9],[])])
def i_RenameSurface.B3 : List Nat:=[0,1,0,7,0,16,0,127,255,511,1023]
theorem i_RenameSurface.tab3 : rtab .any (opsOf Tryd.f46 3)=i_RenameSurface.T3:=by kernel_rfl
theorem i_RenameSurface.bits3 : waitsOk i_RenameSurface.T3.2 i_RenameSurface.B3=true:=by kernel_rfl
theorem i_RenameSurface.calls (k:Nat) (A0_0:Option Addr) (c0_0:Nat) (l0_0:List Int) (A0_1:Option Addr) (c0_1:Nat) (l0_1:List Int) (A1:Option Addr) (c1:Nat) (l1:List Int) (r1:List Int) (r2:List Int) (r3:Bool) (w:World) (hr0_0:Kd.C (Kd.int .i64) w A0_0 l0_0.length l0_0) (hc0_0:l0_0.length≤c0_0) (hr0_1:Kd.C (Kd.int .i64) w A0_1 l0_1.length l0_1) (hc0_1:l0_1.length≤c0_1) (hr1:Kd.C (Kd.int .i64) w A1 l1.length l1) (hc1:l1.length≤c1) (h:i_RenameSurface.f k l0_0 l0_1 l1=some (r1,r2,r3)) :
  Calls Tryd.prog 46 #[.agg #[.slice A0_0 l0_0.length c0_0,.slice A0_1 l0_1.length c0_1],.slice A1 l1.length c1] w fun e w'=>∃ v0_ v1_:Value,e = .returned (.tuple #[.agg #[v0_,v1_],.bool r3])∧Kd.R (Kd.int .i64) 3 w' w.heap.size (fun k_=>some k_≠(v1_:Value).ownBlock) v0_ r1∧Kd.R (Kd.int .i64) 3 w' w.heap.size (fun k_=>some k_≠(v0_:Value).ownBlock) v1_ r2∧Below w.heap.size w w':=by
 have hu25:=Tryd.underlying25
 have HR0_0:=aM hr0_0
 have HC0_0:=aM hc0_0
 clear hr0_0 hc0_0
 have HR0_1:=aM hr0_1
 have HC0_1:=aM hc0_1
 clear hr0_1 hc0_1
 have HR1:=aM hr1
 have HC1:=aM hc1
 clear hr1 hc1
 have HB:=aM (Below.refl w.heap.size w)
 have H:((i_SurfaceOk.f k l0_0 l0_1).bind fun t451=>(if t451=true then ((i_PermOk.f l1).bind fun t452=>(if t452=true then (i_RenameSurface.j0 k l1 ((l1.length:Int) != (l0_0.length:Int)) l0_0 l0_1) else (i_RenameSurface.j0 k l1 true l0_0 l0_1))) else (i_RenameSurface.j0 k l1 true l0_0 l0_1)))=some (r1,r2,r3):=h
 clear h
 have HC3:=aM H
 clear H
 go_enter Tryd.func46,Tryd.ntmps46
 go_upto_region 1 with (first|((with_reducible refine gate_dst (N:=2) rfl ?_);(try(refine gate_guard (by rfl) ?_;dsimp only));refine bEv (cs:=#[.slice A0_0 l0_0.length c0_0,.slice A0_1 l0_1.length c0_1]) (t:=25) ?_;intro gb449 hg w4 hbox hb;have BK449:=aM (hbox);have GW449:=aM ((szX (below_size (bX HB.out)) hg:w.heap.size≤gb449));have GE449:=GW449;replace HB:=aM (below_step (bX HB.out) hb);clear hb hbox hg)|((with_reducible refine gate_dst (N:=4) rfl ?_);(try(refine gate_guard (by rfl) ?_;dsimp only));refine bEv (cs:=#[.slice none 0 0,.slice none 0 0]) (t:=25) ?_;intro gb450 hg w5 hbox hb;have BK450:=aM (hbox);have GW450:=aM ((szX (below_size (bX1 HB.out GE449.out)) hg:w.heap.size≤gb450));have GE450:=GW450;replace HB:=aM (below_step (bX1 HB.out GE449.out) hb);have NB449_450:=aM (neX BK449.out hg);have NB450_449:=aM (nfX BK449.out hg);replace BK449:=aM (bbX BK449.out hb);clear hb hbox hg))
 (try simp only [Act.put,List.setIfInBounds_toArray,List.set_cons_zero,List.set_cons_succ])
 go_cut [21] (fun v21 wc=>∃ (kq:Nat) (x21_2:Bool),v21 = .bool x21_2∧Aside0 (i_RenameSurface.j0 kq l1 x21_2 l0_0 l0_1=some (r1,r2,r3))∧Aside0 (kq≤k)∧Aside0 (wc.heap[gb449]? = some (.cells #[(.slice A0_0 l0_0.length c0_0),(.slice A0_1 l0_1.length c0_1)] 25 (0,0)))∧Aside0 (wc.heap[gb450]? = some (.cells #[(.slice none 0 0),(.slice none 0 0)] 25 (0,0)))∧Aside0 (Below w.heap.size w wc))
 case first =>
  have H:=HC3.out
  clear HC3
  replace H:=oB H
  obtain ⟨t451,A60,H⟩:=H
  have A6:=aM A60
  clear A60
  by_cases c7:t451=true
  {
  subst c7
  have H1:((i_PermOk.f l1).bind fun t452=>(if t452=true then (i_RenameSurface.j0 k l1 ((l1.length:Int) != (l0_0.length:Int)) l0_0 l0_1) else (i_RenameSurface.j0 k l1 true l0_0 l0_1)))=some (r1,r2,r3):=by rw [if_pos rfl] at H;exact H
  clear H
  have H:=H1
  clear H1
  replace H:=oB H
  obtain ⟨t452,A80,H⟩:=H
  have A8:=aM A80
  clear A80
  by_cases c9:t452=true
  {
  subst c9
  have H1:(i_RenameSurface.j0 k l1 ((l1.length:Int) != (l0_0.length:Int)) l0_0 l0_1)=some (r1,r2,r3):=by rw [if_pos rfl] at H;exact H
  clear H
  have H:=H1
  clear H1
  have H':=aM H
  clear H
  have hnb10:=NB449_450.out
  have hnc10:=NB450_449.out
  obtain ⟨hcz11_0,hcz11_1,hfz11_0,hfz11_1⟩:=f2Z BK449.out
  go_wp2_with (first|((with_reducible refine gate_callee (f:=22) rfl ?_);refine goesL_ (some 7) rfl rfl Tryd.func22 (by kernel_rfl) rfl #[.agg #[.slice A0_0 l0_0.length c0_0,.slice A0_1 l0_1.length c0_1]] rfl aX ?_;(with_reducible refine(i_SurfaceOk.calls k _ _ l0_0 _ _ l0_1 true _ ?side1 ?side2 ?side3 ?side4 A6.out).mono ?_);(case side1=>exact cX (Kd.C_below HR0_0.out HB.out));(case side2=>exact HC0_0.out);(case side3=>exact cX (Kd.C_below HR0_1.out HB.out));(case side4=>exact HC0_1.out);rintro e w12 ⟨rfl,hb⟩;refine ⟨_,rfl,?_⟩;replace BK449:=aM (bbX BK449.out hb);replace BK450:=aM (bbX BK450.out hb);replace HB:=aM (below_step (bX2 HB.out GE449.out GE450.out) hb);(try clear hb);(try clear hk))|(go_at_call 31;(with_reducible refine(i_PermOk.calls _ _ l1 true _ ?side1 ?side2 A8.out).mono ?_);(case side1=>exact cX (Kd.C_below HR1.out HB.out));(case side2=>exact HC1.out);rintro e w13 ⟨rfl,hb⟩;replace BK449:=aM (bbX BK449.out hb);replace BK450:=aM (bbX BK450.out hb);replace HB:=aM (below_step (bX2 HB.out GE449.out GE450.out) hb);(try clear hb);(try clear hk);obtain ⟨hcz14_0,hcz14_1,hfz14_0,hfz14_1⟩:=f2Z BK449.out))
  go_meet
  case rel=>exact ⟨_,(((l1.length:Int) != (l0_0.length:Int))),vX,H',⟨by first|omega|exact Nat.le_refl _⟩,⟨kX BK449.out⟩,⟨kX BK450.out⟩,⟨bX2 HB.out GE449.out GE450.out⟩⟩
  }
  {
  replace c9:=Bool.eq_false_iff.mpr c9
  subst c9
  have H1:(i_RenameSurface.j0 k l1 true l0_0 l0_1)=some (r1,r2,r3):=by rw [if_neg (show ¬ (false=true) by decide)] at H;exact H
  clear H
  have H:=H1
  clear H1
  have H':=aM H
  clear H
  have hnb15:=NB449_450.out
  have hnc15:=NB450_449.out
  obtain ⟨hcz16_0,hcz16_1,hfz16_0,hfz16_1⟩:=f2Z BK449.out
  go_wp2_with (first|((with_reducible refine gate_callee (f:=22) rfl ?_);refine goesL_ (some 7) rfl rfl Tryd.func22 (by kernel_rfl) rfl #[.agg #[.slice A0_0 l0_0.length c0_0,.slice A0_1 l0_1.length c0_1]] rfl aX ?_;(with_reducible refine(i_SurfaceOk.calls k _ _ l0_0 _ _ l0_1 true _ ?side1 ?side2 ?side3 ?side4 A6.out).mono ?_);(case side1=>exact cX (Kd.C_below HR0_0.out HB.out));(case side2=>exact HC0_0.out);(case side3=>exact cX (Kd.C_below HR0_1.out HB.out));(case side4=>exact HC0_1.out);rintro e w17 ⟨rfl,hb⟩;refine ⟨_,rfl,?_⟩;replace BK449:=aM (bbX BK449.out hb);replace BK450:=aM (bbX BK450.out hb);replace HB:=aM (below_step (bX2 HB.out GE449.out GE450.out) hb);(try clear hb);(try clear hk))|(go_at_call 31;(with_reducible refine(i_PermOk.calls _ _ l1 false _ ?side1 ?side2 A8.out).mono ?_);(case side1=>exact cX (Kd.C_below HR1.out HB.out));(case side2=>exact HC1.out);rintro e w18 ⟨rfl,hb⟩;replace BK449:=aM (bbX BK449.out hb);replace BK450:=aM (bbX BK450.out hb);replace HB:=aM (below_step (bX2 HB.out GE449.out GE450.out) hb);(try clear hb);(try clear hk)))
  go_meet
  case rel=>exact ⟨_,(true),vX,H',⟨by first|omega|exact Nat.le_refl _⟩,⟨kX BK449.out⟩,⟨kX BK450.out⟩,⟨bX2 HB.out GE449.out GE450.out⟩⟩
  }
  }
  {
  replace c7:=Bool.eq_false_iff.mpr c7
  subst c7
  have H1:(i_RenameSurface.j0 k l1 true l0_0 l0_1)=some (r1,r2,r3):=by rw [if_neg (show ¬ (false=true) by decide)] at H;exact H
  clear H
  have H:=H1
  clear H1
  have H':=aM H
  clear H
  have hnb19:=NB449_450.out
  have hnc19:=NB450_449.out
  obtain ⟨hcz20_0,hcz20_1,hfz20_0,hfz20_1⟩:=f2Z BK449.out
  go_wp2_with (first|((with_reducible refine gate_callee (f:=22) rfl ?_);refine goesL_ (some 7) rfl rfl Tryd.func22 (by kernel_rfl) rfl #[.agg #[.slice A0_0 l0_0.length c0_0,.slice A0_1 l0_1.length c0_1]] rfl aX ?_;(with_reducible refine(i_SurfaceOk.calls k _ _ l0_0 _ _ l0_1 false _ ?side1 ?side2 ?side3 ?side4 A6.out).mono ?_);(case side1=>exact cX (Kd.C_below HR0_0.out HB.out));(case side2=>exact HC0_0.out);(case side3=>exact cX (Kd.C_below HR0_1.out HB.out));(case side4=>exact HC0_1.out);rintro e w21 ⟨rfl,hb⟩;refine ⟨_,rfl,?_⟩;replace BK449:=aM (bbX BK449.out hb);replace BK450:=aM (bbX BK450.out hb);replace HB:=aM (below_step (bX2 HB.out GE449.out GE450.out) hb);(try clear hb);(try clear hk)))
  go_meet
  case rel=>exact ⟨_,(true),vX,H',⟨by first|omega|exact Nat.le_refl _⟩,⟨kX BK449.out⟩,⟨kX BK450.out⟩,⟨bX2 HB.out GE449.out GE450.out⟩⟩
  }
 case rest =>
 clear HC3
 try clear c1
 try clear c7
 try clear c9
 try clear hcz11_0
 try clear hcz11_1
 try clear hcz14_0
 try clear hcz14_1
 try clear hcz16_0
 try clear hcz16_1
 try clear hcz20_0
 try clear hcz20_1
 try clear hfz11_0
 try clear hfz11_1
 try clear hfz14_0
 try clear hfz14_1
 try clear hfz16_0
 try clear hfz16_1
 try clear hfz20_0
 try clear hfz20_1
 obtain ⟨kq,x21_2,rfl,HA,HJ2,BK449,BK450,HB⟩:=hcut
 cases kq with
 | zero=>exact absurd HA.out (by simp [i_RenameSurface.j0])
 | succ kj2 =>
 have H:=HA.out
 clear HA
 simp only [i_RenameSurface.j0] at H
 by_cases c22:x21_2=true
 {
 subst c22
 have H1:(some (([]:List Int),([]:List Int),false))=some (r1,r2,r3):=by rw [if_pos rfl] at H;exact H
 clear H
 have H:=H1
 clear H1
 simp only [Option.some.injEq,Prod.mk.injEq] at H
 obtain ⟨rfl,rfl,rfl⟩:=H
 have hnb23:=NB450_449.out
 have hnc23:=NB449_450.out
 obtain ⟨hcz24_0,hcz24_1,hfz24_0,hfz24_1⟩:=f2Z BK450.out
 go_wp2
 refine bodyPost_ret (results_ct rfl _ _ gb450 25 #[.slice none 0 0,.slice none 0 0] (0,0) _ rfl (by(with_reducible repeat(first|refine kN ?_ _|refine kD ?_|refine kA ?_ _));refine blk_put (cs:=#[.slice none 0 0,.slice none 0 0]) ?_ 1 _ rfl;(with_reducible repeat(first|refine kN ?_ _|refine kD ?_|refine kA ?_ _));refine blk_put (cs:=#[.slice none 0 0,.slice none 0 0]) ?_ 0 _ rfl;(with_reducible repeat(first|refine kN ?_ _|refine kD ?_|refine kA ?_ _));exact BK450.out) Tryd.underlying25 rfl (by kernel_rfl)) rfl ?_
 exact ⟨_,_,eX,by first|exact Kd.R_nil _ _ _ _ _|exact Kd.N_nil _ _ _ _ _|exact Kd.V_nil _ _ _ _ _|exact Kd.Q_nil _ _ _ _ _|exact Kd.S_nil _ _ _ _ _,by first|exact Kd.R_nil _ _ _ _ _|exact Kd.N_nil _ _ _ _ _|exact Kd.V_nil _ _ _ _ _|exact Kd.Q_nil _ _ _ _ _|exact Kd.S_nil _ _ _ _ _,bX2 HB.out GE449.out GE450.out⟩
 }
 {
 replace c22:=Bool.eq_false_iff.mpr c22
 subst c22
 have H1:((i_RenamePerm.f kj2 l0_0 l1).bind fun t453=>((i_RenamePerm.f kj2 l0_1 l1).bind fun t456=>(some (t453,t456,true))))=some (r1,r2,r3):=by rw [if_neg (show ¬ (false=true) by decide)] at H;exact H
 clear H
 have H:=H1
 clear H1
 replace H:=oB H
 obtain ⟨t453,A250,H⟩:=H
 have A25:=aM A250
 clear A250
 replace H:=oB H
 obtain ⟨t456,A260,H⟩:=H
 have A26:=aM A260
 clear A260
 simp only [Option.some.injEq,Prod.mk.injEq] at H
 obtain ⟨rfl,rfl,rfl⟩:=H
 try go_wp2
 replace BK449:=aM (blk_drew BK449.out)
 replace BK450:=aM (blk_drew BK450.out)
 replace HB:=aM (below_drew1 HB.out)
 refine start_ (n:=11) (S:=fun w'=>w'.cell? ⟨gb449,0,none⟩=some (.slice A0_0 l0_0.length c0_0)∧w'.cell? ⟨gb449,1,none⟩=some (.slice A0_1 l0_1.length c0_1)) (ds:=[]) #[ff,ff,ff,ff,ff,ff,ff,ff,ff,ff,ff] (by kernel_rfl) rfl rfl ⟨cz20 BK449.out,cz21 BK449.out⟩ (fun hHeld => ?_);refine with_tabW i_RenameSurface.tab3 i_RenameSurface.bits3 (fun HT_ HW_ => ?_)
 generalize wc.drew=w27 at BK449 BK450 HB hHeld ⊢
 refine pX 0 23 (fl 11 1) rfl rfl HT_.out ?_
 refine pX 2 25 (fl 11 5) rfl rfl HT_.out ?_
 refine pX 4 27 (fl 11 21) rfl rfl HT_.out ?_
 refine pX 6 29 (fl 11 85) rfl rfl HT_.out ?_
 refine tX2 1 24 (fl 11 87) rfl rfl HT_.out HW_.out hHeld ?_
 refine tX2 5 28 (fl 11 119) rfl rfl HT_.out HW_.out hHeld ?_
 refine one_ (i:=3) (N:=some 26) #[tt,tt,tt,tt,tt,tt,tt,ff,ff,ff,ff] rfl rfl (one_of HT_.out (by kernel_rfl)) (by decide) (fun K hK => ?_)
 refine goes_ Tryd.func56 (by kernel_rfl) rfl #[.slice A0_0 l0_0.length c0_0,.slice A1 l1.length c1] (by rfl) rfl rfl aX ?_
 with_reducible refine(i_RenamePerm.calls kj2 _ _ l0_0 _ _ l1 t453 _ ?side1 ?side2 ?side3 ?side4 A25.out).mono ?_
 (case side1=>exact cX (Kd.C_below HR0_0.out HB.out))
 (case side2=>exact HC0_0.out)
 (case side3=>exact cX (Kd.C_below HR1.out HB.out))
 (case side4=>exact HC1.out)
 rintro e w28 ⟨v454,rfl,ho0,hb⟩
 refine ⟨_,rfl,?_⟩
 have HO455:=aM (Kd.R_lower ho0 (below_size (bX2 HB.out GE449.out GE450.out)))
 replace BK449:=aM (bbX BK449.out hb)
 replace BK450:=aM (bbX BK450.out hb)
 replace HB:=aM (below_step (bX2 HB.out GE449.out GE450.out) hb)
 (try clear hb)
 (try clear hk)
 (try clear ho0)
 refine hK.out _ _ ⟨cz20 BK449.out,cz21 BK449.out⟩ (fun hHeld => ?_)
 clear hK K
 refine norm_ (a':=?_) ?_ ?_
 rotate_left
 {
 show Act.put _ (some 26) _=_
 simp only [Act.put,zA,zB,zC,i64_w,i32_w]
 rfl
 }
 refine one_ (i:=7) (N:=some 30) #[tt,tt,tt,tt,tt,tt,tt,tt,ff,ff,ff] rfl rfl (one_of HT_.out (by kernel_rfl)) (by decide) (fun K hK => ?_)
 refine goes_ Tryd.func56 (by kernel_rfl) rfl #[.slice A0_1 l0_1.length c0_1,.slice A1 l1.length c1] (by rfl) rfl rfl aX ?_
 with_reducible refine(i_RenamePerm.calls kj2 _ _ l0_1 _ _ l1 t456 _ ?side1 ?side2 ?side3 ?side4 A26.out).mono ?_
 (case side1=>exact cX (Kd.C_below HR0_1.out HB.out))
 (case side2=>exact HC0_1.out)
 (case side3=>exact cX (Kd.C_below HR1.out HB.out))
 (case side4=>exact HC1.out)
 rintro e w29 ⟨v457,rfl,ho0,hb⟩
 refine ⟨_,rfl,?_⟩
 have HO458:=aM (Kd.R_lower (Kd.R_new' ho0 (Kd.R_lt (rX HO455.out))) (below_size (bX2 HB.out GE449.out GE450.out)))
 replace HO455:=aM (Kd.R_elder' (rX HO455.out) (Kd.R_base ho0) hb)
 replace BK449:=aM (bbX BK449.out hb)
 replace BK450:=aM (bbX BK450.out hb)
 replace HB:=aM (below_step (bX2 HB.out GE449.out GE450.out) hb)
 (try clear hb)
 (try clear hk)
 (try clear ho0)
 obtain ⟨Ao30,co30,eo30⟩:=Kd.R_slice HO458.out
 (first|subst eo30|(injection eo30 with f1_ f2_ f3_;have f4_:=f1_.symm;have f5_:=f3_.symm;clear f1_ f2_ f3_;subst f4_;subst f5_))
 obtain ⟨Ao31,co31,eo31⟩:=Kd.R_slice HO455.out
 (first|subst eo31|(injection eo31 with f1_ f2_ f3_;have f4_:=f1_.symm;have f5_:=f3_.symm;clear f1_ f2_ f3_;subst f4_;subst f5_))
 refine hK.out _ _ ⟨cz20 BK449.out,cz21 BK449.out⟩ (fun hHeld => ?_)
 clear hK K
 refine norm_ (a':=?_) ?_ ?_
 rotate_left
 {
 show Act.put _ (some 30) _=_
 simp only [Act.put,zA,zB,zC,i64_w,i32_w]
 rfl
 }
 refine pX 8 31 (fl 11 511) rfl rfl HT_.out ?_
 refine one_ (i:=9) (N:=none) #[tt,tt,tt,tt,tt,tt,tt,tt,tt,tt,ff] rfl rfl (one_of HT_.out (by kernel_rfl)) (by decide) (fun K hK => ?_)
 have hs32:w29.cell? ⟨gb450,0,none⟩=some (.slice none 0 0):=cz20 BK450.out
 have hfs32:=blk_frozen BK450.out 0
 have hns32_0:=NB449_450.out
 have hms32_0:=NB450_449.out
 have hs33:w29.cell? ⟨gb450,1,none⟩=some (.slice none 0 0):=cz21 BK450.out
 have hfs33:=blk_frozen BK450.out 1
 have hns33_0:=NB449_450.out
 have hms33_0:=NB450_449.out
 refine skip_ (w1:=?_) (by rfl) rfl ?_ ?_
 rotate_left
 {
 go_simp
 rfl
 }
 refine hK.out _ _ ⟨((cell_far (p:=⟨gb450,_,none⟩) NB449_450.out _).trans (((cell_far (p:=⟨gb450,_,none⟩) NB449_450.out _).trans (hHeld.1)))),((cell_far (p:=⟨gb450,_,none⟩) NB449_450.out _).trans (((cell_far (p:=⟨gb450,_,none⟩) NB449_450.out _).trans (hHeld.2))))⟩ (fun hHeld => ?_)
 clear hK K
 refine pX 10 5 (fl 11 2047) rfl rfl HT_.out ?_
 refine done_ (done_of HT_.out (by kernel_rfl)) ?_
 try go_wp2
 refine bodyPost_ret (results_ct rfl _ _ gb450 25 #[.slice Ao31 t453.length co31,.slice Ao30 t456.length co30] (0,0) _ rfl (by(with_reducible repeat(first|refine kN ?_ _|refine kD ?_|refine kA ?_ _));refine blk_put (cs:=#[.slice Ao31 t453.length co31,.slice none 0 0]) ?_ 1 _ rfl;(with_reducible repeat(first|refine kN ?_ _|refine kD ?_|refine kA ?_ _));refine blk_put (cs:=#[.slice none 0 0,.slice none 0 0]) ?_ 0 _ rfl;(with_reducible repeat(first|refine kN ?_ _|refine kD ?_|refine kA ?_ _));exact BK450.out) Tryd.underlying25 rfl (by kernel_rfl)) rfl ?_
 exact ⟨_,_,eX,by(with_reducible repeat(first|apply rA|apply rN|apply rD));exact Kd.R_mono (Kd.R_far (p:=⟨gb450,1,none⟩) (Kd.R_far (p:=⟨gb450,0,none⟩) (Kd.R_types HO455.out BK450.out (by decide)) (fun _ hk=>hk.2) (.slice Ao31 t453.length co31)) (fun _ hk=>hk.2) (.slice Ao30 t456.length co30)) (fun _ hk=>hk.1.2),by(with_reducible repeat(first|apply rA|apply rN|apply rD));exact Kd.R_mono (Kd.R_far (p:=⟨gb450,1,none⟩) (Kd.R_far (p:=⟨gb450,0,none⟩) (Kd.R_types HO458.out BK450.out (by decide)) (fun _ hk=>hk.2) (.slice Ao31 t453.length co31)) (fun _ hk=>hk.2) (.slice Ao30 t456.length co30)) (fun _ hk=>hk.1.2),bX2 HB.out GE449.out GE450.out⟩
 }

/-! ### i_NamesFrom: function 47 -/
mutual
def i_NamesFrom.j0 : Nat→Int→Bool→List Int→List Int→Option (List Int)
 | 0,_,_,_,_=>none
 | k+1,x1,x24,x460000,x460001=>if x24=true then (some ([]:List Int)) else (if 0≤(x460000.length:Int) then (if ((x460000.length:Int):Int).toNat≤35184372088832 then ((some (List.replicate ((x460000.length:Int):Int).toNat 0:List Int)).bind fun y461=>(i_NamesFrom.l0 k x1 y461 (y461.length:Int) 0 x460000 x460001)) else (none)) else (none))
def i_NamesFrom.l0 : Nat→Int→List Int→Int→Int→List Int→List Int→Option (List Int)
 | 0,_,_,_,_,_,_=>none
 | k+1,x1,x5,x30,x31,x460000,x460001=>if x31<x30 then (if 0≤x31 then (if x31<(x5.length:Int) then (i_NamesFrom.l0 k x1 (x5.set (x31:Int).toNat (-1)) x30 (wrap64 (x31+1)) x460000 x460001) else (none)) else (none)) else (if 0≤x1 then (if x1<(x5.length:Int) then (i_NamesFrom.l1 k (x5.set (x1:Int).toNat 0) (([x1]:List Int)) 0 x460000 x460001) else (none)) else (none))
def i_NamesFrom.l1 : Nat→List Int→List Int→Int→List Int→List Int→Option (List Int)
 | 0,_,_,_,_,_=>none
 | k+1,x5,x7,x8,x460000,x460001=>if x8<(x7.length:Int) then (if 0≤x8 then (if 0≤(rd x7 x8) then (if (rd x7 x8)<(x460000.length:Int) then (if (rd x7 x8)<(x460001.length:Int) then ((some (([rd x460000 (rd x7 x8),rd x460001 (rd x7 x8)]:List Int):List Int)).bind fun y473=>(i_NamesFrom.l2 k x5 x7 x8 y473 (y473.length:Int) 0 x460000 x460001)) else (none)) else (none)) else (none)) else (none)) else (some x5)
def i_NamesFrom.l2 : Nat→List Int→List Int→Int→List Int→Int→Int→List Int→List Int→Option (List Int)
 | 0,_,_,_,_,_,_,_,_=>none
 | k+1,x5,x7,x8,x65,x66,x67,x460000,x460001=>if x67<x66 then (if 0≤x67 then (if x67<(x65.length:Int) then (if 0≤(rd x65 x67) then (if (rd x65 x67)<(x5.length:Int) then (if (rd x5 (rd x65 x67))<0 then (if x7.length<17592186044416 then (i_NamesFrom.l2 k (x5.set ((rd x65 x67):Int).toNat (x7.length:Int)) (x7 ++ [rd x65 x67]) x8 x65 x66 (wrap64 (x67+1)) x460000 x460001) else (none)) else (i_NamesFrom.l2 k x5 x7 x8 x65 x66 (wrap64 (x67+1)) x460000 x460001)) else (none)) else (none)) else (none)) else (none)) else (i_NamesFrom.l1 k x5 x7 (wrap64 (x8+1)) x460000 x460001)
end
def i_NamesFrom.f (k:Nat) (l0_0:List Int) (l0_1:List Int) (a1:Int):Option (List Int):=(i_SurfaceOk.f k l0_0 l0_1).bind fun t460=>(if t460=true then (if a1<0 then (i_NamesFrom.j0 k a1 true l0_0 l0_1) else (i_NamesFrom.j0 k a1 (decide (a1≥(l0_0.length:Int))) l0_0 l0_1)) else (i_NamesFrom.j0 k a1 true l0_0 l0_1))
def i_NamesFrom.T14 : Bool × List (List Nat × List Nat):=(true,[([],[]),([0],[0]),([],[]),([],[]),([2,3],[2,3]),([4],[4]),([1,5],[1,5]),([6],[6]),([],[]),([8],[8]),([],[]),([],[]),([10,11],[10,11]),([12],[12]),([9,13],[9,13]),([14],[14]),([7,15],[7,15]),([16],[16]),([],[])])
def i_NamesFrom.B14 : List Nat:=[0,1,0,0,12,28,63,127,0,256,0,0,3072,7168,16128,32512,65535,131071,0]
theorem i_NamesFrom.tab14 : rtab .any (opsOf Tryd.f47 14)=i_NamesFrom.T14:=by kernel_rfl
theorem i_NamesFrom.bits14 : waitsOk i_NamesFrom.T14.2 i_NamesFrom.B14=true:=by kernel_rfl
theorem i_NamesFrom.calls (k:Nat) (A0_0:Option Addr) (c0_0:Nat) (l0_0:List Int) (A0_1:Option Addr) (c0_1:Nat) (l0_1:List Int) (a1:Int) (r:List Int) (w:World) (hr0_0:Kd.C (Kd.int .i64) w A0_0 l0_0.length l0_0) (hc0_0:l0_0.length≤c0_0) (hr0_1:Kd.C (Kd.int .i64) w A0_1 l0_1.length l0_1) (hc0_1:l0_1.length≤c0_1) (h:i_NamesFrom.f k l0_0 l0_1 a1=some r) :
  Calls Tryd.prog 47 #[.agg #[.slice A0_0 l0_0.length c0_0,.slice A0_1 l0_1.length c0_1],.int .i64 a1] w fun e w'=>∃ v0_:Value,e = .returned (v0_)∧Kd.R (Kd.int .i64) 3 w' w.heap.size (fun _=>True) v0_ r∧Below w.heap.size w w':=by
 have hu25:=Tryd.underlying25
 have HR0_0:=aM hr0_0
 have HC0_0:=aM hc0_0
 clear hr0_0 hc0_0
 have HR0_1:=aM hr0_1
 have HC0_1:=aM hc0_1
 clear hr0_1 hc0_1
 have HB:=aM (Below.refl w.heap.size w)
 have H:((i_SurfaceOk.f k l0_0 l0_1).bind fun t460=>(if t460=true then (if a1<0 then (i_NamesFrom.j0 k a1 true l0_0 l0_1) else (i_NamesFrom.j0 k a1 (decide (a1≥(l0_0.length:Int))) l0_0 l0_1)) else (i_NamesFrom.j0 k a1 true l0_0 l0_1)))=some r:=h
 clear h
 have HC3:=aM H
 clear H
 go_enter Tryd.func47,Tryd.ntmps47
 go_upto_region 1 with (first|((with_reducible refine gate_dst (N:=2) rfl ?_);(try(refine gate_guard (by rfl) ?_;dsimp only));refine bEv (cs:=#[.slice A0_0 l0_0.length c0_0,.slice A0_1 l0_1.length c0_1]) (t:=25) ?_;intro gb459 hg w4 hbox hb;have BK459:=aM (hbox);have GW459:=aM ((szX (below_size (bX HB.out)) hg:w.heap.size≤gb459));have GE459:=GW459;replace HB:=aM (below_step (bX HB.out) hb);clear hb hbox hg))
 (try simp only [Act.put,List.setIfInBounds_toArray,List.set_cons_zero,List.set_cons_succ])
 go_cut [24] (fun v24 wc=>∃ (kq:Nat) (x24_2:Bool),v24 = .bool x24_2∧Aside0 (i_NamesFrom.j0 kq a1 x24_2 l0_0 l0_1=some r)∧Aside0 (kq≤k)∧Aside0 (wc.heap[gb459]? = some (.cells #[(.slice A0_0 l0_0.length c0_0),(.slice A0_1 l0_1.length c0_1)] 25 (0,0)))∧Aside0 (Below w.heap.size w wc))
 case first =>
  have H:=HC3.out
  clear HC3
  replace H:=oB H
  obtain ⟨t460,A50,H⟩:=H
  have A5:=aM A50
  clear A50
  by_cases c6:t460=true
  {
  subst c6
  have H1:(if a1<0 then (i_NamesFrom.j0 k a1 true l0_0 l0_1) else (i_NamesFrom.j0 k a1 (decide (a1≥(l0_0.length:Int))) l0_0 l0_1))=some r:=by rw [if_pos rfl] at H;exact H
  clear H
  have H:=H1
  clear H1
  by_cases c7:a1<0
  {
  rw [if_pos c7] at H
  have c7b0:=decide_eq_true c7
  clear c7
  (first|rw [c7b0]|(simp only [i64_w,i32_w];rw [c7b0])|skip)
  have H':=aM H
  clear H
  obtain ⟨hcz8_0,hcz8_1,hfz8_0,hfz8_1⟩:=f2Z BK459.out
  go_wp2_with (first|((with_reducible refine gate_callee (f:=22) rfl ?_);refine goesL_ (some 12) rfl rfl Tryd.func22 (by kernel_rfl) rfl #[.agg #[.slice A0_0 l0_0.length c0_0,.slice A0_1 l0_1.length c0_1]] rfl aX ?_;(with_reducible refine(i_SurfaceOk.calls k _ _ l0_0 _ _ l0_1 true _ ?side1 ?side2 ?side3 ?side4 A5.out).mono ?_);(case side1=>exact cX (Kd.C_below HR0_0.out HB.out));(case side2=>exact HC0_0.out);(case side3=>exact cX (Kd.C_below HR0_1.out HB.out));(case side4=>exact HC0_1.out);rintro e w9 ⟨rfl,hb⟩;refine ⟨_,rfl,?_⟩;replace BK459:=aM (bbX BK459.out hb);replace HB:=aM (below_step (bX1 HB.out GE459.out) hb);(try clear hb);(try clear hk)))
  go_meet
  case rel=>exact ⟨_,(true),vX,H',⟨by first|omega|exact Nat.le_refl _⟩,⟨kX BK459.out⟩,⟨bX1 HB.out GE459.out⟩⟩
  }
  {
  rw [if_neg c7] at H
  have c7b0:=decide_eq_false c7
  clear c7
  (first|rw [c7b0]|(simp only [i64_w,i32_w];rw [c7b0])|skip)
  have H':=aM H
  clear H
  obtain ⟨hcz10_0,hcz10_1,hfz10_0,hfz10_1⟩:=f2Z BK459.out
  go_wp2_with (first|((with_reducible refine gate_callee (f:=22) rfl ?_);refine goesL_ (some 12) rfl rfl Tryd.func22 (by kernel_rfl) rfl #[.agg #[.slice A0_0 l0_0.length c0_0,.slice A0_1 l0_1.length c0_1]] rfl aX ?_;(with_reducible refine(i_SurfaceOk.calls k _ _ l0_0 _ _ l0_1 true _ ?side1 ?side2 ?side3 ?side4 A5.out).mono ?_);(case side1=>exact cX (Kd.C_below HR0_0.out HB.out));(case side2=>exact HC0_0.out);(case side3=>exact cX (Kd.C_below HR0_1.out HB.out));(case side4=>exact HC0_1.out);rintro e w11 ⟨rfl,hb⟩;refine ⟨_,rfl,?_⟩;replace BK459:=aM (bbX BK459.out hb);replace HB:=aM (below_step (bX1 HB.out GE459.out) hb);(try clear hb);(try clear hk);obtain ⟨hcz12_0,hcz12_1,hfz12_0,hfz12_1⟩:=f2Z BK459.out))
  go_meet
  case rel=>exact ⟨_,(decide (a1≥(l0_0.length:Int))),vX,H',⟨by first|omega|exact Nat.le_refl _⟩,⟨kX BK459.out⟩,⟨bX1 HB.out GE459.out⟩⟩
  }
  }
  {
  replace c6:=Bool.eq_false_iff.mpr c6
  subst c6
  have H1:(i_NamesFrom.j0 k a1 true l0_0 l0_1)=some r:=by rw [if_neg (show ¬ (false=true) by decide)] at H;exact H
  clear H
  have H:=H1
  clear H1
  have H':=aM H
  clear H
  obtain ⟨hcz13_0,hcz13_1,hfz13_0,hfz13_1⟩:=f2Z BK459.out
  go_wp2_with (first|((with_reducible refine gate_callee (f:=22) rfl ?_);refine goesL_ (some 12) rfl rfl Tryd.func22 (by kernel_rfl) rfl #[.agg #[.slice A0_0 l0_0.length c0_0,.slice A0_1 l0_1.length c0_1]] rfl aX ?_;(with_reducible refine(i_SurfaceOk.calls k _ _ l0_0 _ _ l0_1 false _ ?side1 ?side2 ?side3 ?side4 A5.out).mono ?_);(case side1=>exact cX (Kd.C_below HR0_0.out HB.out));(case side2=>exact HC0_0.out);(case side3=>exact cX (Kd.C_below HR0_1.out HB.out));(case side4=>exact HC0_1.out);rintro e w14 ⟨rfl,hb⟩;refine ⟨_,rfl,?_⟩;replace BK459:=aM (bbX BK459.out hb);replace HB:=aM (below_step (bX1 HB.out GE459.out) hb);(try clear hb);(try clear hk)))
  go_meet
  case rel=>exact ⟨_,(true),vX,H',⟨by first|omega|exact Nat.le_refl _⟩,⟨kX BK459.out⟩,⟨bX1 HB.out GE459.out⟩⟩
  }
 case rest =>
 clear HC3
 try clear c6
 try clear c7
 try clear c7b0
 try clear hcz10_0
 try clear hcz10_1
 try clear hcz12_0
 try clear hcz12_1
 try clear hcz13_0
 try clear hcz13_1
 try clear hcz8_0
 try clear hcz8_1
 try clear hfz10_0
 try clear hfz10_1
 try clear hfz12_0
 try clear hfz12_1
 try clear hfz13_0
 try clear hfz13_1
 try clear hfz8_0
 try clear hfz8_1
 obtain ⟨kq,x24_2,rfl,HA,HJ2,BK459,HB⟩:=hcut
 cases kq with
 | zero=>exact absurd HA.out (by simp [i_NamesFrom.j0])
 | succ kj2 =>
 have H:=HA.out
 clear HA
 simp only [i_NamesFrom.j0] at H
 by_cases c15:x24_2=true
 {
 subst c15
 have H1:(some ([]:List Int))=some r:=by rw [if_pos rfl] at H;exact H
 clear H
 have H:=H1
 clear H1
 obtain rfl:=Option.some.inj H
 go_wp2
 go_ret
 exact ⟨_,eX,by first|exact Kd.R_nil _ _ _ _ _|exact Kd.N_nil _ _ _ _ _|exact Kd.V_nil _ _ _ _ _|exact Kd.Q_nil _ _ _ _ _|exact Kd.S_nil _ _ _ _ _,bX1 HB.out GE459.out⟩
 }
 {
 replace c15:=Bool.eq_false_iff.mpr c15
 subst c15
 have H1:(if 0≤(l0_0.length:Int) then (if ((l0_0.length:Int):Int).toNat≤35184372088832 then ((some (List.replicate ((l0_0.length:Int):Int).toNat 0:List Int)).bind fun y461=>(i_NamesFrom.l0 kj2 a1 y461 (y461.length:Int) 0 l0_0 l0_1)) else (none)) else (none))=some r:=by rw [if_neg (show ¬ (false=true) by decide)] at H;exact H
 clear H
 have H:=H1
 clear H1
 by_cases c16:0≤(l0_0.length:Int)
 {
 rw [if_pos c16] at H
 have c16b0:=eq_true c16
 have c16b1:=decide_eq_true c16
 clear c16
 by_cases c17:((l0_0.length:Int):Int).toNat≤35184372088832
 {
 rw [if_pos c17] at H
 have c17b0:=eq_true c17
 have c17b1:=decide_eq_true c17
 clear c17
 obtain ⟨y461,hy461⟩:∃ y_:List Int,y_=(List.replicate ((l0_0.length:Int):Int).toNat 0):=⟨_,rfl⟩
 replace H:(i_NamesFrom.l0 kj2 a1 y461 (y461.length:Int) 0 l0_0 l0_1)=some r:=by first|(rw [hy461];with_reducible exact H)|(have H2_:=(Option.bind_some _ _).symm.trans H;rw [hy461];with_reducible exact H2_)|(have H2_:=(Option.bind_some _ _).symm.trans H;with_reducible exact H2_)|with_reducible exact H|(rw [hy461];exact H)|exact H
 have Ny461:=aM hy461
 clear hy461
 have H':=aM H
 clear H
 obtain ⟨hcz18_0,hcz18_1,hfz18_0,hfz18_1⟩:=f2Z BK459.out
 go_wp2_with (first|((with_reducible refine gate_dst (N:=28) rfl ?_);(try(refine gate_guard (by rfl) ?_;dsimp only));refine Kd.R_make (Kd.int .i64) _ 3 rfl (N:=28) rfl 23 _ _ rfl (l0_0.length:Int) rfl rfl Tryd.underlying23 (.int .i64 0) 8 info3 rfl (by decide) (by omega) 0 (ok:=fun _=>True) (okp:=fun _=>True) rfl (fun _ hk=>hk) trivial (dX) (Nat.le_trans (Nat.mul_le_mul_right _ (dX:(l0_0.length:Int).toNat≤35184372088832)) (by omega)) (Below.refl _ _) (Nat.le_refl _) ?_;intro v462 w19 ho20 hb hg_ hnew_;clear hg_ hnew_;(first|rw [← Ny461.out] at ho20|(simp only [Int.reduceToNat] at ho20;rw [← Ny461.out] at ho20));have HO463:=aM (Kd.R_lower ho20 (below_size (bX1 HB.out GE459.out)));replace BK459:=aM (bbX BK459.out hb);replace HB:=aM (below_step (bX1 HB.out GE459.out) hb);clear hb ho20;obtain ⟨Ao21,co21,eo21⟩:=Kd.R_slice HO463.out;subst eo21))
 go_loopg [31] kj2 (fun kq v31 w'=>∃ (x5_2:List Int) (x31_2:Int),v31 = .int .i64 x31_2∧Aside0 (i_NamesFrom.l0 kq a1 x5_2 (y461.length:Int) x31_2 l0_0 l0_1=some r)∧Aside0 (kq≤kj2)∧Aside0 (Kd.R (Kd.int .i64) 3 w' w.heap.size (fun _=>True) (.slice Ao21 y461.length co21) x5_2)∧Aside0 (w'.heap[gb459]? = some (.cells #[(.slice A0_0 l0_0.length c0_0),(.slice A0_1 l0_1.length c0_1)] 25 (0,0)))∧Aside0 (Below w.heap.size w w'))
 case atStart=>exact ⟨(y461),(0),vX,H',⟨Nat.le_refl _⟩,⟨rX HO463.out⟩,⟨kX BK459.out⟩,⟨bX1 HB.out GE459.out⟩⟩
 case round =>
 clear H'
 try clear c6
 try clear c7
 try clear c7b0
 try clear c15
 try clear c16
 try clear c16b0
 try clear c16b1
 try clear c17
 try clear c17b0
 try clear c17b1
 try clear hcz10_0
 try clear hcz10_1
 try clear hcz12_0
 try clear hcz12_1
 try clear hcz13_0
 try clear hcz13_1
 try clear hcz18_0
 try clear hcz18_1
 try clear hcz8_0
 try clear hcz8_1
 try clear hfz10_0
 try clear hfz10_1
 try clear hfz12_0
 try clear hfz12_1
 try clear hfz13_0
 try clear hfz13_1
 try clear hfz18_0
 try clear hfz18_1
 try clear hfz8_0
 try clear hfz8_1
 obtain ⟨x5_2,x31_2,rfl,HA,HK2,HO_5,BK459,HB⟩:=hrel
 have hl5_2:=(Kd.R_reads' HO_5.out).1
 rw [hl5_2] at HO_5
 (try simp only [hl5_2])
 (try simp only [hl5_2] at BK459)
 cases gk with
 | zero=>exact absurd HA.out (by simp [i_NamesFrom.l0])
 | succ k2 =>
 have H:=HA.out
 clear HA
 simp only [i_NamesFrom.l0] at H
 by_cases c22:x31_2<(y461.length:Int)
 {
 rw [if_pos c22] at H
 have c22b0:=decide_eq_true c22
 clear c22
 by_cases c23:0≤x31_2
 {
 rw [if_pos c23] at H
 have c23b0:=decide_eq_true c23
 clear c23
 by_cases c24:x31_2<(x5_2.length:Int)
 {
 rw [if_pos c24] at H
 have c24b0:=decide_eq_true c24
 clear c24
 obtain ⟨y464,hy464⟩:∃ y_:List Int,y_=(x5_2.set (x31_2:Int).toNat (-1)):=⟨_,rfl⟩
 replace H:(i_NamesFrom.l0 k2 a1 y464 (y461.length:Int) (wrap64 (x31_2+1)) l0_0 l0_1)=some r:=by first|(rw [hy464];with_reducible exact H)|(have H2_:=(Option.bind_some _ _).symm.trans H;rw [hy464];with_reducible exact H2_)|(have H2_:=(Option.bind_some _ _).symm.trans H;with_reducible exact H2_)|with_reducible exact H|(rw [hy464];exact H)|exact H
 have Ny464:=aM hy464
 clear hy464
 have H':=aM H
 clear H
 have p25:0≤(x31_2:Int):=dX
 have q25:(x31_2:Int)<((x5_2.length:Int):Int):=dX
 obtain ⟨go25,co25,eo25,gb25,gl25,cl25,HG25⟩:=Kd.R_form HO_5.out (by omega)
 (first|cases eo25|(injection eo25 with ea_ en_ ec_;(first|subst ea_|(injection ea_ with ea_;subst ea_));subst ec_;clear en_))
 have GB25:=aM gb25
 have GG25:=aM HG25
 clear gb25 gl25 HG25
 obtain ⟨hx25_0,hf25_0⟩:=Kd.R_celln 0 HO_5.out (x31_2:Int) p25 q25
 replace p25:=eq_true p25
 replace q25:=eq_true q25
 have HP26:=Kd.R_putg HO_5.out (x31_2:Int) (-1)
 go_wp2_with (first|((with_reducible refine gate_store (t:=3) (p:=36) rfl ?_);refine store_event (t:=3) (p:=36) (v:=?vo_w27) (w1:=(wr.setCell ⟨go25,(x31_2:Int).toNat,none⟩ (.int .i64 (-1)))) ?hg ?ho ?hn ?hr ?_;(case ho=>rfl);(case hg=>rfl);(case hn=>rfl);(case hr=>first|(go_simp;done)|(go_simp;rfl));intro w27 hw;have hg:wr.grownBy w27 (some go25):=(by rw [hw];exact HP26.2);have hp_:Kd.R (Kd.int .i64) 3 w27 w.heap.size (fun _=>True) (.slice (some ⟨go25,0,none⟩) x5_2.length co21) y464:=(by rw [hw,Ny464.out];exact HP26.1);clear HP26;replace BK459:=aM (bgX BK459.out hg (Kd.R_ne HO_5.out BK459.out (by decide)));replace HO_5:=aM (hp_);replace HB:=aM ((by rw [hw];exact below_set (HB.out) GB25.out:Below w.heap.size w w27));clear hg hw hp_))
 (try simp only [← hl5_2])
 go_roundg k2
 case measure=>have:=HJ2.out;have:=HK2.out;omega
 case rel=>exact ⟨(y464),(wrap64 (x31_2+1)),vX,H',⟨by have:=HJ2.out;have:=HK2.out;omega⟩,⟨by(try simp only [hl5_2]);(with_reducible repeat(first|apply rA|apply rN|apply rD));exact HO_5.out⟩,⟨by(try simp only [hl5_2]);(with_reducible repeat(first|refine kN ?_ _|refine kD ?_|refine kA ?_ _));exact BK459.out⟩,⟨bX1 HB.out GE459.out⟩⟩
 }
 {
 rw [if_neg c24] at H
 exact absurd H (by simp)
 }
 }
 {
 rw [if_neg c23] at H
 exact absurd H (by simp)
 }
 }
 {
 rw [if_neg c22] at H
 have c22b0:=decide_eq_false c22
 (try rw [hl5_2] at c22b0)
 clear c22
 by_cases c28:0≤a1
 {
 rw [if_pos c28] at H
 have c28b0:=decide_eq_true c28
 clear c28
 by_cases c29:a1<(x5_2.length:Int)
 {
 rw [if_pos c29] at H
 have c29b0:=decide_eq_true c29
 clear c29
 obtain ⟨y465,hy465⟩:∃ y_:List Int,y_=(x5_2.set (a1:Int).toNat 0):=⟨_,rfl⟩
 replace H:(i_NamesFrom.l1 k2 y465 (([a1]:List Int)) 0 l0_0 l0_1)=some r:=by first|(rw [hy465];with_reducible exact H)|(have H2_:=(Option.bind_some _ _).symm.trans H;rw [hy465];with_reducible exact H2_)|(have H2_:=(Option.bind_some _ _).symm.trans H;with_reducible exact H2_)|with_reducible exact H|(rw [hy465];exact H)|exact H
 have Ny465:=aM hy465
 clear hy465
 obtain ⟨y466,hy466⟩:∃ y_:List Int,y_=(([a1]:List Int)):=⟨_,rfl⟩
 replace H:(i_NamesFrom.l1 k2 y465 y466 0 l0_0 l0_1)=some r:=by first|(rw [hy466];with_reducible exact H)|(have H2_:=(Option.bind_some _ _).symm.trans H;rw [hy466];with_reducible exact H2_)|(have H2_:=(Option.bind_some _ _).symm.trans H;with_reducible exact H2_)|with_reducible exact H|(rw [hy466];exact H)|exact H
 have Ny466:=aM hy466
 clear hy466
 have H':=aM H
 clear H
 have p30:0≤(a1:Int):=dX
 have q30:(a1:Int)<((x5_2.length:Int):Int):=dX
 obtain ⟨go30,co30,eo30,gb30,gl30,cl30,HG30⟩:=Kd.R_form HO_5.out (by omega)
 (first|cases eo30|(injection eo30 with ea_ en_ ec_;(first|subst ea_|(injection ea_ with ea_;subst ea_));subst ec_;clear en_))
 have GB30:=aM gb30
 have GG30:=aM HG30
 clear gb30 gl30 HG30
 obtain ⟨hx30_0,hf30_0⟩:=Kd.R_celln 0 HO_5.out (a1:Int) p30 q30
 replace p30:=eq_true p30
 replace q30:=eq_true q30
 have HP31:=Kd.R_putg HO_5.out (a1:Int) 0
 go_wp2_with (first|((with_reducible refine gate_store (t:=3) (p:=40) rfl ?_);refine store_event (t:=3) (p:=40) (v:=?vo_w32) (w1:=(wr.setCell ⟨go30,(a1:Int).toNat,none⟩ (.int .i64 0))) ?hg ?ho ?hn ?hr ?_;(case ho=>rfl);(case hg=>rfl);(case hn=>rfl);(case hr=>first|(go_simp;done)|(go_simp;rfl));intro w32 hw;have hg:wr.grownBy w32 (some go30):=(by rw [hw];exact HP31.2);have hp_:Kd.R (Kd.int .i64) 3 w32 w.heap.size (fun _=>True) (.slice (some ⟨go30,0,none⟩) x5_2.length co21) y465:=(by rw [hw,Ny465.out];exact HP31.1);clear HP31;replace BK459:=aM (bgX BK459.out hg (Kd.R_ne HO_5.out BK459.out (by decide)));replace HO_5:=aM (hp_);replace HB:=aM ((by rw [hw];exact below_set (HB.out) GB30.out:Below w.heap.size w w32));clear hg hw hp_)|((with_reducible refine gate_dst (N:=42) rfl ?_);(try(refine gate_guard (by rfl) ?_;dsimp only));refine Kd.R_lit (Kd.int .i64) _ 3 ?hg (N:=42) ?hd (xs:=([a1]:List Int)) (inner:=[.int .i64 a1]) (ok:=fun _=>True) (okp:=fun _=>True) ?hr ?hp (fun _ hk=>hk) trivial (Below.refl _ _) (Nat.le_refl _) (by simp) ?_;(case hd=>rfl);(case hg=>rfl);(case hr=>first|(go_simp;done)|(go_simp;rfl));(case hp=>exact(Reps.one (show Kd.M (Kd.int .i64) _ _ _ a1 [.int .i64 a1] from rfl) (Reps.none _ _)));intro v467 w33 ho34 hb hg_ hnew_;clear hg_ hnew_;(first|rw [← Ny466.out] at ho34|(simp only [Int.reduceToNat] at ho34;rw [← Ny466.out] at ho34));have HO468:=aM (Kd.R_lower (Kd.R_new' ho34 (Kd.R_lt (rX HO_5.out))) (below_size (bX1 HB.out GE459.out)));replace HO_5:=aM (Kd.R_elder' (rX HO_5.out) (Kd.R_base ho34) hb);replace BK459:=aM (bbX BK459.out hb);replace HB:=aM (below_step (bX1 HB.out GE459.out) hb);clear hb ho34))
 go_loopg [7,8] k2 (fun kq v7 v8 w'=>∃ (x5_3:List Int) (x7_3:List Int) (x8_3:Int),v8 = .int .i64 x8_3∧Aside0 (i_NamesFrom.l1 kq x5_3 x7_3 x8_3 l0_0 l0_1=some r)∧Aside0 (kq≤k2)∧Aside0 (Kd.R (Kd.int .i64) 3 w' w.heap.size (fun k_=>some k_≠(v7:Value).ownBlock) (.slice (some ⟨go30,0,none⟩) x5_2.length co21) x5_3)∧Aside0 (Kd.R (Kd.int .i64) 3 w' w.heap.size (fun k_=>some k_≠((.slice (some ⟨go30,0,none⟩) x5_2.length co21):Value).ownBlock) v7 x7_3)∧Aside0 (w'.heap[gb459]? = some (.cells #[(.slice A0_0 l0_0.length c0_0),(.slice A0_1 l0_1.length c0_1)] 25 (0,0)))∧Aside0 (Below w.heap.size w w'))
 case atStart=>exact ⟨(y465),(y466),(0),vX,H',⟨Nat.le_refl _⟩,⟨by(try simp only [hl5_2]);(with_reducible repeat(first|apply rA|apply rN|apply rD));exact Kd.R_mono HO_5.out (fun _ hk=>hk.2)⟩,⟨by(try simp only [hl5_2]);(with_reducible repeat(first|apply rA|apply rN|apply rD));exact Kd.R_mono HO468.out (fun _ hk=>hk.2)⟩,⟨by(try simp only [hl5_2]);(with_reducible repeat(first|refine kN ?_ _|refine kD ?_|refine kA ?_ _));exact BK459.out⟩,⟨bX1 HB.out GE459.out⟩⟩
 case round =>
 clear H'
 try clear c6
 try clear c7
 try clear c7b0
 try clear c15
 try clear c16
 try clear c16b0
 try clear c16b1
 try clear c17
 try clear c17b0
 try clear c17b1
 try clear c22
 try clear c22b0
 try clear c23
 try clear c23b0
 try clear c24
 try clear c24b0
 try clear p25
 try clear q25
 try clear c28
 try clear c28b0
 try clear c29
 try clear c29b0
 try clear p30
 try clear q30
 try clear hcz10_0
 try clear hcz10_1
 try clear hcz12_0
 try clear hcz12_1
 try clear hcz13_0
 try clear hcz13_1
 try clear hcz18_0
 try clear hcz18_1
 try clear hcz8_0
 try clear hcz8_1
 try clear hfz10_0
 try clear hfz10_1
 try clear hfz12_0
 try clear hfz12_1
 try clear hfz13_0
 try clear hfz13_1
 try clear hfz18_0
 try clear hfz18_1
 try clear hfz8_0
 try clear hfz8_1
 try clear hx25_0
 try clear hx30_0
 try clear p25
 try clear p30
 try clear q25
 try clear q30
 obtain ⟨x5_3,x7_3,x8_3,rfl,HA,HK3,HO_5,HO_7,BK459,HB⟩:=hrel
 have hl5_3:=(Kd.R_reads' HO_5.out).1
 rw [hl5_3] at HO_5
 (try simp only [hl5_3])
 (try simp only [hl5_3] at BK459)
 (try simp only [hl5_3] at HO_7)
 cases gk with
 | zero=>exact absurd HA.out (by simp [i_NamesFrom.l1])
 | succ k3 =>
 have H:=HA.out
 clear HA
 simp only [i_NamesFrom.l1] at H
 by_cases c35:x8_3<(x7_3.length:Int)
 {
 rw [if_pos c35] at H
 have c35b0:=decide_eq_true c35
 clear c35
 by_cases c36:0≤x8_3
 {
 rw [if_pos c36] at H
 have c36b0:=decide_eq_true c36
 clear c36
 by_cases c37:0≤(rd x7_3 x8_3)
 {
 rw [if_pos c37] at H
 have c37b0:=decide_eq_true c37
 clear c37
 by_cases c38:(rd x7_3 x8_3)<(l0_0.length:Int)
 {
 rw [if_pos c38] at H
 have c38b0:=decide_eq_true c38
 clear c38
 by_cases c39:(rd x7_3 x8_3)<(l0_1.length:Int)
 {
 rw [if_pos c39] at H
 have c39b0:=decide_eq_true c39
 clear c39
 obtain ⟨y473,hy473⟩:∃ y_:List Int,y_=(([rd l0_0 (rd x7_3 x8_3),rd l0_1 (rd x7_3 x8_3)]:List Int)):=⟨_,rfl⟩
 replace H:(i_NamesFrom.l2 k3 x5_3 x7_3 x8_3 y473 (y473.length:Int) 0 l0_0 l0_1)=some r:=by first|(rw [hy473];with_reducible exact H)|(have H2_:=(Option.bind_some _ _).symm.trans H;rw [hy473];with_reducible exact H2_)|(have H2_:=(Option.bind_some _ _).symm.trans H;with_reducible exact H2_)|with_reducible exact H|(rw [hy473];exact H)|exact H
 have Ny473:=aM hy473
 clear hy473
 have H':=aM H
 clear H
 obtain ⟨Ao40,co40,eo40⟩:=Kd.R_slice HO_7.out
 subst eo40
 try go_wp2
 replace HO_5:=aM (Kd.R_drew HO_5.out)
 replace HO_7:=aM (Kd.R_drew HO_7.out)
 replace BK459:=aM (blk_drew BK459.out)
 replace HB:=aM (below_drew1 HB.out)
 have p469:0≤(x8_3:Int):=dX
 have q469:x8_3<(x7_3.length:Int):=dX
 obtain ⟨ad469,e469,hx469_0⟩:=Kd.at_int (Kd.R_reads' HO_7.out).2.2 x8_3 p469 q469
 cases e469
 replace p469:=eq_true p469
 replace q469:=eq_true q469
 have p470:0≤((rd x7_3 x8_3):Int):=dX
 have q470:(rd x7_3 x8_3)<(l0_0.length:Int):=dX
 obtain ⟨ad470,e470,hx470_0⟩:=Kd.at_int HR0_0.out (rd x7_3 x8_3) p470 q470
 have hw470_0:=hx470_0
 cases e470
 replace hx470_0:=(HB.out.cell (World.block_lt_of_cell? w _ hx470_0)).trans hx470_0
 replace p470:=eq_true p470
 replace q470:=eq_true q470
 have p471:0≤(x8_3:Int):=dX
 have q471:x8_3<(x7_3.length:Int):=dX
 obtain ⟨ad471,e471,hx471_0⟩:=Kd.at_int (Kd.R_reads' HO_7.out).2.2 x8_3 p471 q471
 obtain rfl:ad469=ad471:=(by injection e471)
 replace p471:=eq_true p471
 replace q471:=eq_true q471
 have p472:0≤((rd x7_3 x8_3):Int):=dX
 have q472:(rd x7_3 x8_3)<(l0_1.length:Int):=dX
 obtain ⟨ad472,e472,hx472_0⟩:=Kd.at_int HR0_1.out (rd x7_3 x8_3) p472 q472
 have hw472_0:=hx472_0
 cases e472
 replace hx472_0:=(HB.out.cell (World.block_lt_of_cell? w _ hx472_0)).trans hx472_0
 replace p472:=eq_true p472
 replace q472:=eq_true q472
 refine start_ (n:=19) (S:=fun w'=>w'.cell? ⟨gb459,0,none⟩=some (.slice (some ad470) l0_0.length c0_0)∧w'.cell? ⟨gb459,1,none⟩=some (.slice (some ad472) l0_1.length c0_1)∧w'.cell? (ad469.add (x8_3).toNat)=some (.int .i64 (rd x7_3 x8_3))∧w'.cell? (ad470.add ((rd x7_3 x8_3)).toNat)=some (.int .i64 (rd l0_0 (rd x7_3 x8_3)))∧w'.cell? (ad469.add (x8_3).toNat)=some (.int .i64 (rd x7_3 x8_3))∧w'.cell? (ad472.add ((rd x7_3 x8_3)).toNat)=some (.int .i64 (rd l0_1 (rd x7_3 x8_3)))) (ds:=[]) #[ff,ff,ff,ff,ff,ff,ff,ff,ff,ff,ff,ff,ff,ff,ff,ff,ff,ff,ff] (by kernel_rfl) rfl rfl ⟨cz20 BK459.out,cz21 BK459.out,hx469_0,((HB.out.cell (World.block_lt_of_cell? w _ hw470_0)).trans hw470_0),hx471_0,((HB.out.cell (World.block_lt_of_cell? w _ hw472_0)).trans hw472_0)⟩ (fun hHeld => ?_);refine with_tabW i_NamesFrom.tab14 i_NamesFrom.bits14 (fun HT_ HW_ => ?_)
 generalize wr.drew=w41 at HO_5 HO_7 BK459 HB hx469_0 hx470_0 hx471_0 hx472_0 hHeld ⊢
 refine pX 0 49 (fl 19 1) rfl rfl HT_.out ?_
 refine pX 2 51 (fl 19 5) rfl rfl HT_.out ?_
 refine pX 3 52 (fl 19 13) rfl rfl HT_.out ?_
 refine pX 4 53 (fl 19 29) rfl rfl HT_.out ?_
 refine pX 8 57 (fl 19 285) rfl rfl HT_.out ?_
 refine pX 10 59 (fl 19 1309) rfl rfl HT_.out ?_
 refine pX 11 60 (fl 19 3357) rfl rfl HT_.out ?_
 refine pX 12 61 (fl 19 7453) rfl rfl HT_.out ?_
 refine pX 18 67 (fl 19 269597) rfl rfl HT_.out ?_
 refine tX6 1 50 (fl 19 269599) rfl rfl HT_.out HW_.out hHeld ?_
 refine tX6 5 54 (fl 19 269631) rfl rfl HT_.out HW_.out hHeld ?_
 refine pX 6 55 (fl 19 269695) rfl rfl HT_.out ?_
 refine tX6 7 56 (fl 19 269823) rfl rfl HT_.out HW_.out hHeld ?_
 refine tX6 9 58 (fl 19 270335) rfl rfl HT_.out HW_.out hHeld ?_
 refine tX6 13 62 (fl 19 278527) rfl rfl HT_.out HW_.out hHeld ?_
 refine pX 14 63 (fl 19 294911) rfl rfl HT_.out ?_
 refine tX6 15 64 (fl 19 327679) rfl rfl HT_.out HW_.out hHeld ?_
 refine one_ (i:=16) (N:=some 65) #[tt,tt,tt,tt,tt,tt,tt,tt,tt,tt,tt,tt,tt,tt,tt,tt,tt,ff,tt] rfl rfl (one_of HT_.out (by kernel_rfl)) (by decide) (fun K hK => ?_)
 refine Kd.R_lit_step (Kd.int .i64) _ 3 ?hg (N:=65) ?hd (xs:=([rd l0_0 (rd x7_3 x8_3),rd l0_1 (rd x7_3 x8_3)]:List Int)) (inner:=[.int .i64 (rd l0_0 (rd x7_3 x8_3)),.int .i64 (rd l0_1 (rd x7_3 x8_3))]) (ok:=fun _=>True) (okp:=fun _=>True) ?hr ?hp (fun _ hk=>hk) trivial (Below.refl _ _) (Nat.le_refl _) (by simp) ?_;(case hd=>rfl);(case hg=>rfl);(case hr=>first|(go_simp;done)|(go_simp;rfl));(case hp=>exact(Reps.one (show Kd.M (Kd.int .i64) _ _ _ (rd l0_0 (rd x7_3 x8_3)) [.int .i64 (rd l0_0 (rd x7_3 x8_3))] from rfl) (Reps.one (show Kd.M (Kd.int .i64) _ _ _ (rd l0_1 (rd x7_3 x8_3)) [.int .i64 (rd l0_1 (rd x7_3 x8_3))] from rfl) (Reps.none _ _))))
 intro v474 w42 ho43 hb hg_ hnew_
 have HS2_:=(hb.cell (World.block_lt_of_cell? _ _ (hHeld.2.2.1))).trans (hHeld.2.2.1)
 have HS4_:=(hb.cell (World.block_lt_of_cell? _ _ (hHeld.2.2.2.2.1))).trans (hHeld.2.2.2.2.1)
 clear hg_ hnew_
 (first|rw [← Ny473.out] at ho43|(simp only [Int.reduceToNat] at ho43;rw [← Ny473.out] at ho43))
 have HO475:=aM (Kd.R_lower (Kd.R_new' (Kd.R_new' ho43 (Kd.R_lt (rX HO_5.out))) (Kd.R_lt (rX HO_7.out))) (below_size (bX1 HB.out GE459.out)))
 replace HO_5:=aM (Kd.R_elder' (rX HO_5.out) (Kd.R_base ho43) hb)
 replace HO_7:=aM (Kd.R_elder' (rX HO_7.out) (Kd.R_base ho43) hb)
 replace BK459:=aM (bbX BK459.out hb)
 replace HB:=aM (below_step (bX1 HB.out GE459.out) hb)
 clear hb ho43
 obtain ⟨Ao44,co44,eo44⟩:=Kd.R_slice HO475.out
 (first|subst eo44|(injection eo44 with f1_ f2_ f3_;have f4_:=f1_.symm;have f5_:=f3_.symm;clear f1_ f2_ f3_;subst f4_;subst f5_))
 refine hK.out _ _ ⟨cz20 BK459.out,cz21 BK459.out,HS2_,((HB.out.cell (World.block_lt_of_cell? w _ hw470_0)).trans hw470_0),HS4_,((HB.out.cell (World.block_lt_of_cell? w _ hw472_0)).trans hw472_0)⟩ (fun hHeld => ?_)
 clear hK K
 refine norm_ (a':=?_) ?_ ?_
 rotate_left
 {
 show Act.put _ (some 65) _=_
 simp only [Act.put,zA,zB,zC,i64_w,i32_w]
 rfl
 }
 refine pX 17 66 (fl 19 524287) rfl rfl HT_.out ?_
 refine done_ (done_of HT_.out (by kernel_rfl)) ?_
 try go_wp2
 go_loopg [7,67] k3 (fun kq v7 v67 w'=>∃ (x5_4:List Int) (x7_4:List Int) (x67_4:Int),v67 = .int .i64 x67_4∧Aside0 (i_NamesFrom.l2 kq x5_4 x7_4 x8_3 y473 (y473.length:Int) x67_4 l0_0 l0_1=some r)∧Aside0 (kq≤k3)∧Aside0 (Kd.R (Kd.int .i64) 3 w' w.heap.size (fun k_=>some k_≠(v7:Value).ownBlock∧some k_≠((.slice Ao44 y473.length co44):Value).ownBlock) (.slice (some ⟨go30,0,none⟩) x5_3.length co21) x5_4)∧Aside0 (Kd.R (Kd.int .i64) 3 w' w.heap.size (fun k_=>some k_≠((.slice (some ⟨go30,0,none⟩) x5_3.length co21):Value).ownBlock∧some k_≠((.slice Ao44 y473.length co44):Value).ownBlock) v7 x7_4)∧Aside0 (Kd.R (Kd.int .i64) 3 w' w.heap.size (fun k_=>some k_≠((.slice (some ⟨go30,0,none⟩) x5_3.length co21):Value).ownBlock∧some k_≠(v7:Value).ownBlock) (.slice Ao44 y473.length co44) y473)∧Aside0 (w'.heap[gb459]? = some (.cells #[(.slice (some ad470) l0_0.length c0_0),(.slice (some ad472) l0_1.length c0_1)] 25 (0,0)))∧Aside0 (Below w.heap.size w w'))
 case atStart=>exact ⟨(x5_3),(x7_3),(0),vX,H',⟨Nat.le_refl _⟩,⟨by(try simp only [hl5_2]);(try simp only [hl5_3]);(with_reducible repeat(first|apply rA|apply rN|apply rD));exact HO_5.out⟩,⟨by(try simp only [hl5_2]);(try simp only [hl5_3]);(with_reducible repeat(first|apply rA|apply rN|apply rD));exact HO_7.out⟩,⟨by(try simp only [hl5_2]);(try simp only [hl5_3]);(with_reducible repeat(first|apply rA|apply rN|apply rD));exact Kd.R_mono HO475.out (fun _ hk=>⟨hk.1.2,hk.2⟩)⟩,⟨by(try simp only [hl5_2]);(try simp only [hl5_3]);(with_reducible repeat(first|refine kN ?_ _|refine kD ?_|refine kA ?_ _));exact BK459.out⟩,⟨bX1 HB.out GE459.out⟩⟩
 case round =>
 clear H'
 try clear c6
 try clear c7
 try clear c7b0
 try clear c15
 try clear c16
 try clear c16b0
 try clear c16b1
 try clear c17
 try clear c17b0
 try clear c17b1
 try clear c22
 try clear c22b0
 try clear c23
 try clear c23b0
 try clear c24
 try clear c24b0
 try clear p25
 try clear q25
 try clear c28
 try clear c28b0
 try clear c29
 try clear c29b0
 try clear p30
 try clear q30
 try clear c35
 try clear c35b0
 try clear c36
 try clear c36b0
 try clear c37
 try clear c37b0
 try clear c38
 try clear c38b0
 try clear c39
 try clear c39b0
 try clear hcz10_0
 try clear hcz10_1
 try clear hcz12_0
 try clear hcz12_1
 try clear hcz13_0
 try clear hcz13_1
 try clear hcz18_0
 try clear hcz18_1
 try clear hcz8_0
 try clear hcz8_1
 try clear hfz10_0
 try clear hfz10_1
 try clear hfz12_0
 try clear hfz12_1
 try clear hfz13_0
 try clear hfz13_1
 try clear hfz18_0
 try clear hfz18_1
 try clear hfz8_0
 try clear hfz8_1
 try clear hx25_0
 try clear hx30_0
 try clear hx469_0
 try clear hx470_0
 try clear hx471_0
 try clear hx472_0
 try clear p25
 try clear p30
 try clear p469
 try clear p470
 try clear p471
 try clear p472
 try clear q25
 try clear q30
 try clear q469
 try clear q470
 try clear q471
 try clear q472
 obtain ⟨x5_4,x7_4,x67_4,rfl,HA,HK4,HO_5,HO_7,HO_65,BK459,HB⟩:=hrel
 have hl5_4:=(Kd.R_reads' HO_5.out).1
 rw [hl5_4] at HO_5
 (try simp only [hl5_4])
 (try simp only [hl5_4] at BK459)
 (try simp only [hl5_4] at HO_7)
 (try simp only [hl5_4] at HO_65)
 cases gk with
 | zero=>exact absurd HA.out (by simp [i_NamesFrom.l2])
 | succ k4 =>
 have H:=HA.out
 clear HA
 simp only [i_NamesFrom.l2] at H
 by_cases c45:x67_4<(y473.length:Int)
 {
 rw [if_pos c45] at H
 have c45b0:=decide_eq_true c45
 clear c45
 by_cases c46:0≤x67_4
 {
 rw [if_pos c46] at H
 have c46b0:=decide_eq_true c46
 clear c46
 by_cases c47:x67_4<(y473.length:Int)
 {
 rw [if_pos c47] at H
 have c47b0:=decide_eq_true c47
 clear c47
 by_cases c48:0≤(rd y473 x67_4)
 {
 rw [if_pos c48] at H
 have c48b0:=decide_eq_true c48
 clear c48
 by_cases c49:(rd y473 x67_4)<(x5_4.length:Int)
 {
 rw [if_pos c49] at H
 have c49b0:=decide_eq_true c49
 clear c49
 by_cases c50:(rd x5_4 (rd y473 x67_4))<0
 {
 rw [if_pos c50] at H
 have c50b0:=decide_eq_true c50
 clear c50
 obtain ⟨y478,hy478⟩:∃ y_:List Int,y_=(x5_4.set ((rd y473 x67_4):Int).toNat (x7_4.length:Int)):=⟨_,rfl⟩
 replace H:(if x7_4.length<17592186044416 then (i_NamesFrom.l2 k4 y478 (x7_4 ++ [rd y473 x67_4]) x8_3 y473 (y473.length:Int) (wrap64 (x67_4+1)) l0_0 l0_1) else (none))=some r:=by first|(rw [hy478];with_reducible exact H)|(have H2_:=(Option.bind_some _ _).symm.trans H;rw [hy478];with_reducible exact H2_)|(have H2_:=(Option.bind_some _ _).symm.trans H;with_reducible exact H2_)|with_reducible exact H|(rw [hy478];exact H)|exact H
 have Ny478:=aM hy478
 clear hy478
 by_cases c52:x7_4.length<17592186044416
 {
 rw [if_pos c52] at H
 have LMc52:=aM c52
 clear c52
 obtain ⟨y479,hy479⟩:∃ y_:List Int,y_=(x7_4 ++ [rd y473 x67_4]):=⟨_,rfl⟩
 replace H:(i_NamesFrom.l2 k4 y478 y479 x8_3 y473 (y473.length:Int) (wrap64 (x67_4+1)) l0_0 l0_1)=some r:=by first|(rw [hy479];with_reducible exact H)|(have H2_:=(Option.bind_some _ _).symm.trans H;rw [hy479];with_reducible exact H2_)|(have H2_:=(Option.bind_some _ _).symm.trans H;with_reducible exact H2_)|with_reducible exact H|(rw [hy479];exact H)|exact H
 have Ny479:=aM hy479
 clear hy479
 have H':=aM H
 clear H
 have p476:0≤(x67_4:Int):=dX
 have q476:x67_4<(y473.length:Int):=dX
 obtain ⟨ad476,e476,hx476_0⟩:=Kd.at_int (Kd.R_reads' HO_65.out).2.2 x67_4 p476 q476
 cases e476
 replace p476:=eq_true p476
 replace q476:=eq_true q476
 have p477:0≤((rd y473 x67_4):Int):=dX
 have q477:(rd y473 x67_4)<(x5_4.length:Int):=dX
 obtain ⟨ad477,e477,hx477_0⟩:=Kd.at_int (Kd.R_reads' HO_5.out).2.2 (rd y473 x67_4) p477 q477
 obtain rfl:(⟨go30,0,none⟩:Addr)=ad477:=(by injection e477)
 (first|simp only [add_plain] at hx477_0|simp only [add_at] at hx477_0|simp only [Addr.add,Nat.zero_add] at hx477_0|skip)
 replace p477:=eq_true p477
 replace q477:=eq_true q477
 obtain ⟨Ao53,co53,eo53⟩:=Kd.R_slice HO_7.out
 subst eo53
 have p51:0≤((rd y473 x67_4):Int):=dX
 have q51:((rd y473 x67_4):Int)<((x5_4.length:Int):Int):=dX
 obtain ⟨hx51_0,hf51_0⟩:=Kd.R_celln 0 HO_5.out ((rd y473 x67_4):Int) p51 q51
 replace p51:=eq_true p51
 replace q51:=eq_true q51
 have HP54:=Kd.R_putg HO_5.out ((rd y473 x67_4):Int) (x7_4.length:Int)
 go_wp2_with (first|((with_reducible refine gate_store (t:=3) (p:=80) rfl ?_);refine store_event (t:=3) (p:=80) (v:=?vo_w55) (w1:=(wr.setCell ⟨go30,((rd y473 x67_4):Int).toNat,none⟩ (.int .i64 (x7_4.length:Int)))) ?hg ?ho ?hn ?hr ?_;(case ho=>rfl);(case hg=>rfl);(case hn=>rfl);(case hr=>first|(go_simp;done)|(go_simp;rfl));intro w55 hw;have hg:wr.grownBy w55 (some go30):=(by rw [hw];exact HP54.2);have hp_:Kd.R (Kd.int .i64) 3 w55 w.heap.size (fun k_=>some k_≠(.slice Ao53 x7_4.length co53:Value).ownBlock∧some k_≠(.slice (some ad476) y473.length co44:Value).ownBlock) (.slice (some ⟨go30,0,none⟩) x5_4.length co21) y478:=(by rw [hw,Ny478.out];exact HP54.1);clear HP54;replace HO_7:=aM (Kd.R_after (v:=(.slice (some ⟨go30,0,none⟩) x5_4.length co21)) (v1:=(.slice (some ⟨go30,0,none⟩) x5_4.length co21)) (ok:=(fun k_=>some k_≠(.slice (some ad476) y473.length co44:Value).ownBlock)) (rM HO_7.out (fun _ hk=>⟨hk.2,hk.1⟩)) hg (.inl rfl));replace HO_65:=aM (Kd.R_after (v:=(.slice (some ⟨go30,0,none⟩) x5_4.length co21)) (v1:=(.slice (some ⟨go30,0,none⟩) x5_4.length co21)) (ok:=(fun k_=>some k_≠(.slice Ao53 x7_4.length co53:Value).ownBlock)) (rM HO_65.out (fun _ hk=>⟨hk.2,hk.1⟩)) hg (.inl rfl));replace BK459:=aM (bgX BK459.out hg (Kd.R_ne HO_5.out BK459.out (by decide)));replace HO_5:=aM (hp_);replace HB:=aM ((by rw [hw];exact below_set (HB.out) GB30.out:Below w.heap.size w w55));clear hg hw hp_)|((with_reducible refine gate_builtin (b:=.append) (xs:=#[.tmp 81,.tmp 83]) rfl ?_);(try(refine gate_guard (by rfl) ?_;dsimp only));at_builtin;refine Kd.R_append (Kd.int .i64) (w0:=w) w.heap.size rfl (.tmp 81) (.tmp 83) 23 3 (.int .i64 0) 8 rfl Tryd.underlying23 info3 rfl (by decide) (by omega) (.slice Ao53 x7_4.length co53) x7_4 (rd y473 x67_4) [.int .i64 (rd y473 x67_4)] (fun k_=>some k_≠(.slice (some ⟨go30,0,none⟩) x5_4.length co21:Value).ownBlock∧some k_≠(.slice (some ad476) y473.length co44:Value).ownBlock) (fun _=>False) rfl rfl ?aP (fun _ hk=>hk.elim) ?aF ?aO ?aB ?aS ?aL ?_;(case aP=>exact rfl);(case aB=>exact(bX1 HB.out GE459.out));(case aF=>exact(fun k_ hk=>⟨Kd.fresh' (Kd.R_lt (rX HO_5.out)) k_ hk,Kd.fresh' (Kd.R_lt (rX HO_65.out)) k_ hk⟩));(case aO=>exact(rM HO_7.out (fun _ hk=>⟨hk.2,hk.1⟩)));(case aS=>exact(below_size (bX1 HB.out GE459.out)));(case aL=>have:=LMc52.out;omega);intro v480 w56 ho hb hg hat;rw [← Ny479.out] at ho;replace HO_5:=aM (Kd.R_after (ok:=(fun k_=>some k_≠(.slice (some ad476) y473.length co44:Value).ownBlock)) (rM HO_5.out (fun _ hk=>⟨hk.2,hk.1⟩)) hg hat);replace HO_65:=aM (Kd.R_after (ok:=(fun k_=>some k_≠(.slice (some ⟨go30,0,none⟩) x5_4.length co21:Value).ownBlock)) (rM HO_65.out (fun _ hk=>⟨hk.2,hk.1⟩)) hg hat);replace BK459:=aM (bgX BK459.out hg (Kd.R_ne HO_7.out BK459.out (by decide)));replace HB:=aM (hb);have HO481:=aM (ho);clear HO_7 ho hb hg hat))
 (try simp only [← hl5_4])
 go_roundg k4
 case measure=>have:=HJ2.out;have:=HK2.out;have:=HK3.out;have:=HK4.out;omega
 case rel=>exact ⟨(y478),(y479),(wrap64 (x67_4+1)),vX,H',⟨by have:=HJ2.out;have:=HK2.out;have:=HK3.out;have:=HK4.out;omega⟩,⟨by(try simp only [hl5_2]);(try simp only [hl5_3]);(try simp only [hl5_4]);(with_reducible repeat(first|apply rA|apply rN|apply rD));exact Kd.R_mono HO_5.out (fun _ hk=>⟨hk.2,hk.1⟩)⟩,⟨by(try simp only [hl5_2]);(try simp only [hl5_3]);(try simp only [hl5_4]);(with_reducible repeat(first|apply rA|apply rN|apply rD));exact HO481.out⟩,⟨by(try simp only [hl5_2]);(try simp only [hl5_3]);(try simp only [hl5_4]);(with_reducible repeat(first|apply rA|apply rN|apply rD));exact HO_65.out⟩,⟨by(try simp only [hl5_2]);(try simp only [hl5_3]);(try simp only [hl5_4]);(with_reducible repeat(first|refine kN ?_ _|refine kD ?_|refine kA ?_ _));exact BK459.out⟩,⟨bX1 HB.out GE459.out⟩⟩
 }
 {
 rw [if_neg c52] at H
 exact absurd H (by simp)
 }
 }
 {
 rw [if_neg c50] at H
 have c50b0:=decide_eq_false c50
 clear c50
 have H':=aM H
 clear H
 have p476:0≤(x67_4:Int):=dX
 have q476:x67_4<(y473.length:Int):=dX
 obtain ⟨ad476,e476,hx476_0⟩:=Kd.at_int (Kd.R_reads' HO_65.out).2.2 x67_4 p476 q476
 cases e476
 replace p476:=eq_true p476
 replace q476:=eq_true q476
 have p477:0≤((rd y473 x67_4):Int):=dX
 have q477:(rd y473 x67_4)<(x5_4.length:Int):=dX
 obtain ⟨ad477,e477,hx477_0⟩:=Kd.at_int (Kd.R_reads' HO_5.out).2.2 (rd y473 x67_4) p477 q477
 obtain rfl:(⟨go30,0,none⟩:Addr)=ad477:=(by injection e477)
 (first|simp only [add_plain] at hx477_0|simp only [add_at] at hx477_0|simp only [Addr.add,Nat.zero_add] at hx477_0|skip)
 replace p477:=eq_true p477
 replace q477:=eq_true q477
 go_wp2
 (try simp only [← hl5_4])
 go_roundg k4
 case measure=>have:=HJ2.out;have:=HK2.out;have:=HK3.out;have:=HK4.out;omega
 case rel=>exact ⟨(x5_4),(x7_4),(wrap64 (x67_4+1)),vX,H',⟨by have:=HJ2.out;have:=HK2.out;have:=HK3.out;have:=HK4.out;omega⟩,⟨by(try simp only [hl5_2]);(try simp only [hl5_3]);(try simp only [hl5_4]);(with_reducible repeat(first|apply rA|apply rN|apply rD));exact HO_5.out⟩,⟨by(try simp only [hl5_2]);(try simp only [hl5_3]);(try simp only [hl5_4]);(with_reducible repeat(first|apply rA|apply rN|apply rD));exact HO_7.out⟩,⟨by(try simp only [hl5_2]);(try simp only [hl5_3]);(try simp only [hl5_4]);(with_reducible repeat(first|apply rA|apply rN|apply rD));exact HO_65.out⟩,⟨by(try simp only [hl5_2]);(try simp only [hl5_3]);(try simp only [hl5_4]);(with_reducible repeat(first|refine kN ?_ _|refine kD ?_|refine kA ?_ _));exact BK459.out⟩,⟨bX1 HB.out GE459.out⟩⟩
 }
 }
 {
 rw [if_neg c49] at H
 exact absurd H (by simp)
 }
 }
 {
 rw [if_neg c48] at H
 exact absurd H (by simp)
 }
 }
 {
 rw [if_neg c47] at H
 exact absurd H (by simp)
 }
 }
 {
 rw [if_neg c46] at H
 exact absurd H (by simp)
 }
 }
 {
 rw [if_neg c45] at H
 have c45b0:=decide_eq_false c45
 clear c45
 have H':=aM H
 clear H
 go_wp2
 (try simp only [← hl5_3,← hl5_4])
 go_roundg k4
 case measure=>have:=HJ2.out;have:=HK2.out;have:=HK3.out;have:=HK4.out;omega
 case rel=>exact ⟨(x5_4),(x7_4),(wrap64 (x8_3+1)),vX,H',⟨by have:=HJ2.out;have:=HK2.out;have:=HK3.out;have:=HK4.out;omega⟩,⟨by(try simp only [hl5_2]);(try simp only [hl5_3]);(try simp only [hl5_4]);(with_reducible repeat(first|apply rA|apply rN|apply rD));exact Kd.R_mono HO_5.out (fun _ hk=>hk.1)⟩,⟨by(try simp only [hl5_2]);(try simp only [hl5_3]);(try simp only [hl5_4]);(with_reducible repeat(first|apply rA|apply rN|apply rD));exact Kd.R_mono HO_7.out (fun _ hk=>hk.1)⟩,⟨by(try simp only [hl5_2]);(try simp only [hl5_3]);(try simp only [hl5_4]);(with_reducible repeat(first|refine kN ?_ _|refine kD ?_|refine kA ?_ _));exact BK459.out⟩,⟨bX1 HB.out GE459.out⟩⟩
 }
 }
 {
 rw [if_neg c39] at H
 exact absurd H (by simp)
 }
 }
 {
 rw [if_neg c38] at H
 exact absurd H (by simp)
 }
 }
 {
 rw [if_neg c37] at H
 exact absurd H (by simp)
 }
 }
 {
 rw [if_neg c36] at H
 exact absurd H (by simp)
 }
 }
 {
 rw [if_neg c35] at H
 have c35b0:=decide_eq_false c35
 clear c35
 obtain rfl:=Option.some.inj H
 obtain ⟨Ao57,co57,eo57⟩:=Kd.R_slice HO_7.out
 subst eo57
 go_wp2
 go_ret
 exact ⟨_,eX,by(with_reducible repeat(first|apply rA|apply rN|apply rD));exact Kd.R_mono HO_5.out (fun _ hk=>trivial),bX1 HB.out GE459.out⟩
 }
 }
 {
 rw [if_neg c29] at H
 exact absurd H (by simp)
 }
 }
 {
 rw [if_neg c28] at H
 exact absurd H (by simp)
 }
 }
 }
 {
 rw [if_neg c17] at H
 exact absurd H (by simp)
 }
 }
 {
 rw [if_neg c16] at H
 exact absurd H (by simp)
 }
 }

end Go.Proofs.YthhdgeafdnikcaaDoor.S
