-- PRINTED by print.py (a twelfth state) out of the translation. Not trusted: Lean checks it.
import Derived.Test.YthhdgeafdnikcaaDoorS0
import Derived.Test.YthhdgeafdnikcaaDoorS3
import Derived.Test.YthhdgeafdnikcaaDoorS4
import Derived.Test.YthhdgeafdnikcaaDoorS6
namespace Go.Proofs.YthhdgeafdnikcaaDoor.S
set_option maxHeartbeats 8000000
set_option maxRecDepth 100000
open Go.RowKit Go.Proofs.YthhdgeafdnikcaaDoorW.PrintWords Go.Proofs.YthhdgeafdnikcaaDoorW.PrintLast Go.Proofs.YthhdgeafdnikcaaDoorW.PrintMore
attribute [local go_sem] max2_int min2_int max_two min_two max_three min_three max_four min_four   -- for this text's walks alone
set_option linter.unusedVariables false
set_option linter.unusedSimpArgs false

/-! ### i_ShearSurface: function 68 -/
def i_ShearSurface.f (k:Nat) (l0_0:List Int) (l0_1:List Int):Option (List Int × List Int × Bool):=(i_SurfaceOk.f k l0_0 l0_1).bind fun t534=>(if t534=true then ((i_copyInts.f l0_0).bind fun t535=>((i_InversePerm.f k l0_0).bind fun t538=>((i_ThenPerm.f k t538 l0_1).bind fun t541=>(some (t535,t541,true))))) else (some (([]:List Int),([]:List Int),false)))
def i_ShearSurface.T3 : Bool × List (List Nat × List Nat):=(true,[([],[]),([0],[0]),([1],[1]),([],[]),([3],[3]),([4,2],[4]),([],[]),([6],[6]),([5,7,5],[5,7]),([2,8],[2,8]),([9,8,0,1,2,3,4,5,6,7,8,9],[9]),([10,0,1,2,3,4,5,6,7,8,9,10],[])])
def i_ShearSurface.B3 : List Nat:=[0,1,3,0,8,31,0,64,255,511,1023,2047]
theorem i_ShearSurface.tab3 : rtab .any (opsOf Tryd.f68 3)=i_ShearSurface.T3:=by kernel_rfl
theorem i_ShearSurface.bits3 : waitsOk i_ShearSurface.T3.2 i_ShearSurface.B3=true:=by kernel_rfl
theorem i_ShearSurface.calls (k:Nat) (A0_0:Option Addr) (c0_0:Nat) (l0_0:List Int) (A0_1:Option Addr) (c0_1:Nat) (l0_1:List Int) (r1:List Int) (r2:List Int) (r3:Bool) (w:World) (hr0_0:Kd.C (Kd.int .i64) w A0_0 l0_0.length l0_0) (hc0_0:l0_0.length≤c0_0) (hr0_1:Kd.C (Kd.int .i64) w A0_1 l0_1.length l0_1) (hc0_1:l0_1.length≤c0_1) (h:i_ShearSurface.f k l0_0 l0_1=some (r1,r2,r3)) :
  Calls Tryd.prog 68 #[.agg #[.slice A0_0 l0_0.length c0_0,.slice A0_1 l0_1.length c0_1]] w fun e w'=>∃ v0_ v1_:Value,e = .returned (.tuple #[.agg #[v0_,v1_],.bool r3])∧Kd.R (Kd.int .i64) 3 w' w.heap.size (fun k_=>some k_≠(v1_:Value).ownBlock) v0_ r1∧Kd.R (Kd.int .i64) 3 w' w.heap.size (fun k_=>some k_≠(v0_:Value).ownBlock) v1_ r2∧Below w.heap.size w w':=by
 have hu25:=Tryd.underlying25
 have HR0_0:=aM hr0_0
 have HC0_0:=aM hc0_0
 clear hr0_0 hc0_0
 have HR0_1:=aM hr0_1
 have HC0_1:=aM hc0_1
 clear hr0_1 hc0_1
 have HB:=aM (Below.refl w.heap.size w)
 have H:((i_SurfaceOk.f k l0_0 l0_1).bind fun t534=>(if t534=true then ((i_copyInts.f l0_0).bind fun t535=>((i_InversePerm.f k l0_0).bind fun t538=>((i_ThenPerm.f k t538 l0_1).bind fun t541=>(some (t535,t541,true))))) else (some (([]:List Int),([]:List Int),false))))=some (r1,r2,r3):=h
 clear h
 replace H:=oB H
 obtain ⟨t534,A20,H⟩:=H
 have A2:=aM A20
 clear A20
 by_cases c3:t534=true
 {
 subst c3
 have H1:((i_copyInts.f l0_0).bind fun t535=>((i_InversePerm.f k l0_0).bind fun t538=>((i_ThenPerm.f k t538 l0_1).bind fun t541=>(some (t535,t541,true)))))=some (r1,r2,r3):=by rw [if_pos rfl] at H;exact H
 clear H
 have H:=H1
 clear H1
 replace H:=oB H
 obtain ⟨t535,A40,H⟩:=H
 have A4:=aM A40
 clear A40
 replace H:=oB H
 obtain ⟨t538,A50,H⟩:=H
 have A5:=aM A50
 clear A50
 replace H:=oB H
 obtain ⟨t541,A60,H⟩:=H
 have A6:=aM A60
 clear A60
 simp only [Option.some.injEq,Prod.mk.injEq] at H
 obtain ⟨rfl,rfl,rfl⟩:=H
 go_enter Tryd.func68,Tryd.ntmps68
 try go_wp2_with (first|((with_reducible refine gate_dst (N:=1) rfl ?_);refine bEv (cs:=#[.slice A0_0 l0_0.length c0_0,.slice A0_1 l0_1.length c0_1]) (t:=25) ?_;intro gb532 hg w7 hbox hb;have BK532:=aM (hbox);have GW532:=aM ((szX (below_size (bX HB.out)) hg:w.heap.size≤gb532));have GE532:=GW532;replace HB:=aM (below_step (bX HB.out) hb);clear hb hbox hg)|((with_reducible refine gate_dst (N:=2) rfl ?_);refine bEv (cs:=#[.slice none 0 0,.slice none 0 0]) (t:=25) ?_;intro gb533 hg w8 hbox hb;have BK533:=aM (hbox);have GW533:=aM ((szX (below_size (bX1 HB.out GE532.out)) hg:w.heap.size≤gb533));have GE533:=GW533;replace HB:=aM (below_step (bX1 HB.out GE532.out) hb);have NB532_533:=aM (neX BK532.out hg);have NB533_532:=aM (nfX BK532.out hg);replace BK532:=aM (bbX BK532.out hb);clear hb hbox hg;have hnb9:=NB532_533.out;have hnc9:=NB533_532.out;obtain ⟨hcz10_0,hcz10_1,hfz10_0,hfz10_1⟩:=f2Z BK532.out)|((with_reducible refine gate_callee (f:=22) rfl ?_);refine goesL_ (some 5) rfl rfl Tryd.func22 (by kernel_rfl) rfl #[.agg #[.slice A0_0 l0_0.length c0_0,.slice A0_1 l0_1.length c0_1]] rfl aX ?_;(with_reducible refine(i_SurfaceOk.calls k _ _ l0_0 _ _ l0_1 true _ ?side1 ?side2 ?side3 ?side4 A2.out).mono ?_);(case side1=>exact cX (Kd.C_below HR0_0.out HB.out));(case side2=>exact HC0_0.out);(case side3=>exact cX (Kd.C_below HR0_1.out HB.out));(case side4=>exact HC0_1.out);rintro e w11 ⟨rfl,hb⟩;refine ⟨_,rfl,?_⟩;replace BK532:=aM (bbX BK532.out hb);replace BK533:=aM (bbX BK533.out hb);replace HB:=aM (below_step (bX2 HB.out GE532.out GE533.out) hb);(try clear hb);(try clear hk)))
 replace BK532:=aM (blk_drew BK532.out)
 replace BK533:=aM (blk_drew BK533.out)
 replace HB:=aM (below_drew1 HB.out)
 refine start_ (n:=12) (S:=fun w'=>w'.cell? ⟨gb532,0,none⟩=some (.slice A0_0 l0_0.length c0_0)∧w'.cell? ⟨gb532,1,none⟩=some (.slice A0_1 l0_1.length c0_1)) (ds:=[]) #[ff,ff,ff,ff,ff,ff,ff,ff,ff,ff,ff,ff] (by kernel_rfl) rfl rfl ⟨cz20 BK532.out,cz21 BK532.out⟩ (fun hHeld => ?_);refine with_tabW i_ShearSurface.tab3 i_ShearSurface.bits3 (fun HT_ HW_ => ?_)
 generalize w11.drew=w12 at BK532 BK533 HB hHeld ⊢
 refine pX 0 8 (fl 12 1) rfl rfl HT_.out ?_
 refine pX 3 11 (fl 12 9) rfl rfl HT_.out ?_
 refine pX 6 14 (fl 12 73) rfl rfl HT_.out ?_
 refine tX2 1 9 (fl 12 75) rfl rfl HT_.out HW_.out hHeld ?_
 refine tX2 4 12 (fl 12 91) rfl rfl HT_.out HW_.out hHeld ?_
 refine tX2 7 15 (fl 12 219) rfl rfl HT_.out HW_.out hHeld ?_
 refine one_ (i:=2) (N:=some 10) #[tt,tt,tt,tt,tt,ff,tt,tt,ff,ff,ff,ff] rfl rfl (one_of HT_.out (by kernel_rfl)) (by decide) (fun K hK => ?_)
 refine goes_ Tryd.func67 (by kernel_rfl) rfl #[.slice A0_0 l0_0.length c0_0] (by rfl) rfl rfl aX ?_
 with_reducible refine(i_copyInts.calls _ _ l0_0 t535 _ ?side1 ?side2 A4.out).mono ?_
 (case side1=>exact cX (Kd.C_below HR0_0.out HB.out))
 (case side2=>exact HC0_0.out)
 rintro e w13 ⟨v536,rfl,ho0,hb⟩
 refine ⟨_,rfl,?_⟩
 have HO537:=aM (Kd.R_lower ho0 (below_size (bX2 HB.out GE532.out GE533.out)))
 replace BK532:=aM (bbX BK532.out hb)
 replace BK533:=aM (bbX BK533.out hb)
 replace HB:=aM (below_step (bX2 HB.out GE532.out GE533.out) hb)
 (try clear hb)
 (try clear hk)
 (try clear ho0)
 refine hK.out _ _ ⟨cz20 BK532.out,cz21 BK532.out⟩ (fun hHeld => ?_)
 clear hK K
 refine norm_ (a':=?_) ?_ ?_
 rotate_left
 {
 show Act.put _ (some 10) _=_
 simp only [Act.put,zA,zB,zC,i64_w,i32_w]
 rfl
 }
 refine one_ (i:=5) (N:=some 13) #[tt,tt,tt,tt,tt,tt,tt,tt,ff,ff,ff,ff] rfl rfl (one_of HT_.out (by kernel_rfl)) (by decide) (fun K hK => ?_)
 refine goes_ Tryd.func30 (by kernel_rfl) rfl #[.slice A0_0 l0_0.length c0_0] (by rfl) rfl rfl aX ?_
 with_reducible refine(i_InversePerm.calls k _ _ l0_0 t538 _ ?side1 ?side2 A5.out).mono ?_
 (case side1=>exact cX (Kd.C_below HR0_0.out HB.out))
 (case side2=>exact HC0_0.out)
 rintro e w14 ⟨v539,rfl,ho0,hb⟩
 refine ⟨_,rfl,?_⟩
 have HO540:=aM (Kd.R_lower (Kd.R_new' ho0 (Kd.R_lt (rX HO537.out))) (below_size (bX2 HB.out GE532.out GE533.out)))
 replace HO537:=aM (Kd.R_elder' (rX HO537.out) (Kd.R_base ho0) hb)
 replace BK532:=aM (bbX BK532.out hb)
 replace BK533:=aM (bbX BK533.out hb)
 replace HB:=aM (below_step (bX2 HB.out GE532.out GE533.out) hb)
 (try clear hb)
 (try clear hk)
 (try clear ho0)
 obtain ⟨Ao15,co15,eo15⟩:=Kd.R_slice HO540.out
 (first|subst eo15|(injection eo15 with f1_ f2_ f3_;have f4_:=f1_.symm;have f5_:=f3_.symm;clear f1_ f2_ f3_;subst f4_;subst f5_))
 refine hK.out _ _ ⟨cz20 BK532.out,cz21 BK532.out⟩ (fun hHeld => ?_)
 clear hK K
 refine norm_ (a':=?_) ?_ ?_
 rotate_left
 {
 show Act.put _ (some 13) _=_
 simp only [Act.put,zA,zB,zC,i64_w,i32_w]
 rfl
 }
 refine one_ (i:=8) (N:=some 16) #[tt,tt,tt,tt,tt,tt,tt,tt,tt,ff,ff,ff] rfl rfl (one_of HT_.out (by kernel_rfl)) (by decide) (fun K hK => ?_)
 refine goes_ Tryd.func54 (by kernel_rfl) rfl #[.slice Ao15 t538.length co15,.slice A0_1 l0_1.length c0_1] (by rfl) rfl rfl aX ?_
 with_reducible refine(i_ThenPerm.calls k _ _ t538 _ _ l0_1 t541 _ ?side1 ?side2 ?side3 ?side4 A6.out).mono ?_
 (case side1=>exact cX (Kd.R_reads' HO540.out).2.2)
 (case side2=>exact(Kd.R_reads' HO540.out).2.1)
 (case side3=>exact cX (Kd.C_below HR0_1.out HB.out))
 (case side4=>exact HC0_1.out)
 rintro e w16 ⟨v542,rfl,ho0,hb⟩
 refine ⟨_,rfl,?_⟩
 have HO543:=aM (Kd.R_lower (Kd.R_new' (Kd.R_new' ho0 (Kd.R_lt (rX HO537.out))) (Kd.R_lt (rX HO540.out))) (below_size (bX2 HB.out GE532.out GE533.out)))
 replace HO537:=aM (Kd.R_elder' (rX HO537.out) (Kd.R_base ho0) hb)
 replace HO540:=aM (Kd.R_elder' (rX HO540.out) (Kd.R_base ho0) hb)
 replace BK532:=aM (bbX BK532.out hb)
 replace BK533:=aM (bbX BK533.out hb)
 replace HB:=aM (below_step (bX2 HB.out GE532.out GE533.out) hb)
 (try clear hb)
 (try clear hk)
 (try clear ho0)
 obtain ⟨Ao17,co17,eo17⟩:=Kd.R_slice HO543.out
 (first|subst eo17|(injection eo17 with f1_ f2_ f3_;have f4_:=f1_.symm;have f5_:=f3_.symm;clear f1_ f2_ f3_;subst f4_;subst f5_))
 obtain ⟨Ao18,co18,eo18⟩:=Kd.R_slice HO537.out
 (first|subst eo18|(injection eo18 with f1_ f2_ f3_;have f4_:=f1_.symm;have f5_:=f3_.symm;clear f1_ f2_ f3_;subst f4_;subst f5_))
 refine hK.out _ _ ⟨cz20 BK532.out,cz21 BK532.out⟩ (fun hHeld => ?_)
 clear hK K
 refine norm_ (a':=?_) ?_ ?_
 rotate_left
 {
 show Act.put _ (some 16) _=_
 simp only [Act.put,zA,zB,zC,i64_w,i32_w]
 rfl
 }
 refine pX 9 17 (fl 12 1023) rfl rfl HT_.out ?_
 refine one_ (i:=10) (N:=none) #[tt,tt,tt,tt,tt,tt,tt,tt,tt,tt,tt,ff] rfl rfl (one_of HT_.out (by kernel_rfl)) (by decide) (fun K hK => ?_)
 have hs19:w16.cell? ⟨gb533,0,none⟩=some (.slice none 0 0):=cz20 BK533.out
 have hfs19:=blk_frozen BK533.out 0
 have hns19_0:=NB532_533.out
 have hms19_0:=NB533_532.out
 have hs20:w16.cell? ⟨gb533,1,none⟩=some (.slice none 0 0):=cz21 BK533.out
 have hfs20:=blk_frozen BK533.out 1
 have hns20_0:=NB532_533.out
 have hms20_0:=NB533_532.out
 refine skip_ (w1:=?_) (by rfl) rfl ?_ ?_
 rotate_left
 {
 go_simp
 rfl
 }
 refine hK.out _ _ ⟨((cell_far (p:=⟨gb533,_,none⟩) NB532_533.out _).trans (((cell_far (p:=⟨gb533,_,none⟩) NB532_533.out _).trans (hHeld.1)))),((cell_far (p:=⟨gb533,_,none⟩) NB532_533.out _).trans (((cell_far (p:=⟨gb533,_,none⟩) NB532_533.out _).trans (hHeld.2))))⟩ (fun hHeld => ?_)
 clear hK K
 refine pX 11 3 (fl 12 4095) rfl rfl HT_.out ?_
 refine done_ (done_of HT_.out (by kernel_rfl)) ?_
 try go_wp2
 refine bodyPost_ret (results_ct rfl _ _ gb533 25 #[.slice Ao18 t535.length co18,.slice Ao17 t541.length co17] (0,0) _ rfl (by(with_reducible repeat(first|refine kN ?_ _|refine kD ?_|refine kA ?_ _));refine blk_put (cs:=#[.slice Ao18 t535.length co18,.slice none 0 0]) ?_ 1 _ rfl;(with_reducible repeat(first|refine kN ?_ _|refine kD ?_|refine kA ?_ _));refine blk_put (cs:=#[.slice none 0 0,.slice none 0 0]) ?_ 0 _ rfl;(with_reducible repeat(first|refine kN ?_ _|refine kD ?_|refine kA ?_ _));exact BK533.out) Tryd.underlying25 rfl (by kernel_rfl)) rfl ?_
 exact ⟨_,_,eX,by(with_reducible repeat(first|apply rA|apply rN|apply rD));exact Kd.R_mono (Kd.R_far (p:=⟨gb533,1,none⟩) (Kd.R_far (p:=⟨gb533,0,none⟩) (Kd.R_types HO537.out BK533.out (by decide)) (fun _ hk=>hk.2) (.slice Ao18 t535.length co18)) (fun _ hk=>hk.2) (.slice Ao17 t541.length co17)) (fun _ hk=>hk.1.2),by(with_reducible repeat(first|apply rA|apply rN|apply rD));exact Kd.R_mono (Kd.R_far (p:=⟨gb533,1,none⟩) (Kd.R_far (p:=⟨gb533,0,none⟩) (Kd.R_types HO543.out BK533.out (by decide)) (fun _ hk=>hk.2) (.slice Ao18 t535.length co18)) (fun _ hk=>hk.2) (.slice Ao17 t541.length co17)) (fun _ hk=>hk.1.1.2),bX2 HB.out GE532.out GE533.out⟩
 }
 {
 replace c3:=Bool.eq_false_iff.mpr c3
 subst c3
 have H1:(some (([]:List Int),([]:List Int),false))=some (r1,r2,r3):=by rw [if_neg (show ¬ (false=true) by decide)] at H;exact H
 clear H
 have H:=H1
 clear H1
 simp only [Option.some.injEq,Prod.mk.injEq] at H
 obtain ⟨rfl,rfl,rfl⟩:=H
 go_enter Tryd.func68,Tryd.ntmps68
 go_wp2_with (first|((with_reducible refine gate_dst (N:=1) rfl ?_);refine bEv (cs:=#[.slice A0_0 l0_0.length c0_0,.slice A0_1 l0_1.length c0_1]) (t:=25) ?_;intro gb532 hg w21 hbox hb;have BK532:=aM (hbox);have GW532:=aM ((szX (below_size (bX HB.out)) hg:w.heap.size≤gb532));have GE532:=GW532;replace HB:=aM (below_step (bX HB.out) hb);clear hb hbox hg)|((with_reducible refine gate_dst (N:=2) rfl ?_);refine bEv (cs:=#[.slice none 0 0,.slice none 0 0]) (t:=25) ?_;intro gb533 hg w22 hbox hb;have BK533:=aM (hbox);have GW533:=aM ((szX (below_size (bX1 HB.out GE532.out)) hg:w.heap.size≤gb533));have GE533:=GW533;replace HB:=aM (below_step (bX1 HB.out GE532.out) hb);have NB532_533:=aM (neX BK532.out hg);have NB533_532:=aM (nfX BK532.out hg);replace BK532:=aM (bbX BK532.out hb);clear hb hbox hg;have hnb23:=NB532_533.out;have hnc23:=NB533_532.out;obtain ⟨hcz24_0,hcz24_1,hfz24_0,hfz24_1⟩:=f2Z BK532.out)|((with_reducible refine gate_callee (f:=22) rfl ?_);refine goesL_ (some 5) rfl rfl Tryd.func22 (by kernel_rfl) rfl #[.agg #[.slice A0_0 l0_0.length c0_0,.slice A0_1 l0_1.length c0_1]] rfl aX ?_;(with_reducible refine(i_SurfaceOk.calls k _ _ l0_0 _ _ l0_1 false _ ?side1 ?side2 ?side3 ?side4 A2.out).mono ?_);(case side1=>exact cX (Kd.C_below HR0_0.out HB.out));(case side2=>exact HC0_0.out);(case side3=>exact cX (Kd.C_below HR0_1.out HB.out));(case side4=>exact HC0_1.out);rintro e w25 ⟨rfl,hb⟩;refine ⟨_,rfl,?_⟩;replace BK532:=aM (bbX BK532.out hb);replace BK533:=aM (bbX BK533.out hb);replace HB:=aM (below_step (bX2 HB.out GE532.out GE533.out) hb);(try clear hb);(try clear hk);obtain ⟨hcz26_0,hcz26_1,hfz26_0,hfz26_1⟩:=f2Z BK533.out))
 refine bodyPost_ret (results_ct rfl _ _ gb533 25 #[.slice none 0 0,.slice none 0 0] (0,0) _ rfl (by(with_reducible repeat(first|refine kN ?_ _|refine kD ?_|refine kA ?_ _));refine blk_put (cs:=#[.slice none 0 0,.slice none 0 0]) ?_ 1 _ rfl;(with_reducible repeat(first|refine kN ?_ _|refine kD ?_|refine kA ?_ _));refine blk_put (cs:=#[.slice none 0 0,.slice none 0 0]) ?_ 0 _ rfl;(with_reducible repeat(first|refine kN ?_ _|refine kD ?_|refine kA ?_ _));exact BK533.out) Tryd.underlying25 rfl (by kernel_rfl)) rfl ?_
 exact ⟨_,_,eX,by first|exact Kd.R_nil _ _ _ _ _|exact Kd.N_nil _ _ _ _ _|exact Kd.V_nil _ _ _ _ _|exact Kd.Q_nil _ _ _ _ _|exact Kd.S_nil _ _ _ _ _,by first|exact Kd.R_nil _ _ _ _ _|exact Kd.N_nil _ _ _ _ _|exact Kd.V_nil _ _ _ _ _|exact Kd.Q_nil _ _ _ _ _|exact Kd.S_nil _ _ _ _ _,bX2 HB.out GE532.out GE533.out⟩
 }

/-! ### i_UnshearSurface: function 69 -/
def i_UnshearSurface.f (k:Nat) (l0_0:List Int) (l0_1:List Int):Option (List Int × List Int × Bool):=(i_SurfaceOk.f k l0_0 l0_1).bind fun t546=>(if t546=true then ((i_copyInts.f l0_0).bind fun t547=>((i_ThenPerm.f k l0_0 l0_1).bind fun t550=>(some (t547,t550,true)))) else (some (([]:List Int),([]:List Int),false)))
def i_UnshearSurface.T3 : Bool × List (List Nat × List Nat):=(true,[([],[]),([0],[0]),([1],[1]),([],[]),([3],[3]),([],[]),([5],[5]),([4,6,2],[4,6]),([2,7],[2,7]),([8,7,0,1,2,3,4,5,6,7,8],[8]),([9,0,1,2,3,4,5,6,7,8,9],[])])
def i_UnshearSurface.B3 : List Nat:=[0,1,3,0,8,0,32,127,255,511,1023]
theorem i_UnshearSurface.tab3 : rtab .any (opsOf Tryd.f69 3)=i_UnshearSurface.T3:=by kernel_rfl
theorem i_UnshearSurface.bits3 : waitsOk i_UnshearSurface.T3.2 i_UnshearSurface.B3=true:=by kernel_rfl
theorem i_UnshearSurface.calls (k:Nat) (A0_0:Option Addr) (c0_0:Nat) (l0_0:List Int) (A0_1:Option Addr) (c0_1:Nat) (l0_1:List Int) (r1:List Int) (r2:List Int) (r3:Bool) (w:World) (hr0_0:Kd.C (Kd.int .i64) w A0_0 l0_0.length l0_0) (hc0_0:l0_0.length≤c0_0) (hr0_1:Kd.C (Kd.int .i64) w A0_1 l0_1.length l0_1) (hc0_1:l0_1.length≤c0_1) (h:i_UnshearSurface.f k l0_0 l0_1=some (r1,r2,r3)) :
  Calls Tryd.prog 69 #[.agg #[.slice A0_0 l0_0.length c0_0,.slice A0_1 l0_1.length c0_1]] w fun e w'=>∃ v0_ v1_:Value,e = .returned (.tuple #[.agg #[v0_,v1_],.bool r3])∧Kd.R (Kd.int .i64) 3 w' w.heap.size (fun k_=>some k_≠(v1_:Value).ownBlock) v0_ r1∧Kd.R (Kd.int .i64) 3 w' w.heap.size (fun k_=>some k_≠(v0_:Value).ownBlock) v1_ r2∧Below w.heap.size w w':=by
 have hu25:=Tryd.underlying25
 have HR0_0:=aM hr0_0
 have HC0_0:=aM hc0_0
 clear hr0_0 hc0_0
 have HR0_1:=aM hr0_1
 have HC0_1:=aM hc0_1
 clear hr0_1 hc0_1
 have HB:=aM (Below.refl w.heap.size w)
 have H:((i_SurfaceOk.f k l0_0 l0_1).bind fun t546=>(if t546=true then ((i_copyInts.f l0_0).bind fun t547=>((i_ThenPerm.f k l0_0 l0_1).bind fun t550=>(some (t547,t550,true)))) else (some (([]:List Int),([]:List Int),false))))=some (r1,r2,r3):=h
 clear h
 replace H:=oB H
 obtain ⟨t546,A20,H⟩:=H
 have A2:=aM A20
 clear A20
 by_cases c3:t546=true
 {
 subst c3
 have H1:((i_copyInts.f l0_0).bind fun t547=>((i_ThenPerm.f k l0_0 l0_1).bind fun t550=>(some (t547,t550,true))))=some (r1,r2,r3):=by rw [if_pos rfl] at H;exact H
 clear H
 have H:=H1
 clear H1
 replace H:=oB H
 obtain ⟨t547,A40,H⟩:=H
 have A4:=aM A40
 clear A40
 replace H:=oB H
 obtain ⟨t550,A50,H⟩:=H
 have A5:=aM A50
 clear A50
 simp only [Option.some.injEq,Prod.mk.injEq] at H
 obtain ⟨rfl,rfl,rfl⟩:=H
 go_enter Tryd.func69,Tryd.ntmps69
 try go_wp2_with (first|((with_reducible refine gate_dst (N:=1) rfl ?_);refine bEv (cs:=#[.slice A0_0 l0_0.length c0_0,.slice A0_1 l0_1.length c0_1]) (t:=25) ?_;intro gb544 hg w6 hbox hb;have BK544:=aM (hbox);have GW544:=aM ((szX (below_size (bX HB.out)) hg:w.heap.size≤gb544));have GE544:=GW544;replace HB:=aM (below_step (bX HB.out) hb);clear hb hbox hg)|((with_reducible refine gate_dst (N:=2) rfl ?_);refine bEv (cs:=#[.slice none 0 0,.slice none 0 0]) (t:=25) ?_;intro gb545 hg w7 hbox hb;have BK545:=aM (hbox);have GW545:=aM ((szX (below_size (bX1 HB.out GE544.out)) hg:w.heap.size≤gb545));have GE545:=GW545;replace HB:=aM (below_step (bX1 HB.out GE544.out) hb);have NB544_545:=aM (neX BK544.out hg);have NB545_544:=aM (nfX BK544.out hg);replace BK544:=aM (bbX BK544.out hb);clear hb hbox hg;have hnb8:=NB544_545.out;have hnc8:=NB545_544.out;obtain ⟨hcz9_0,hcz9_1,hfz9_0,hfz9_1⟩:=f2Z BK544.out)|((with_reducible refine gate_callee (f:=22) rfl ?_);refine goesL_ (some 5) rfl rfl Tryd.func22 (by kernel_rfl) rfl #[.agg #[.slice A0_0 l0_0.length c0_0,.slice A0_1 l0_1.length c0_1]] rfl aX ?_;(with_reducible refine(i_SurfaceOk.calls k _ _ l0_0 _ _ l0_1 true _ ?side1 ?side2 ?side3 ?side4 A2.out).mono ?_);(case side1=>exact cX (Kd.C_below HR0_0.out HB.out));(case side2=>exact HC0_0.out);(case side3=>exact cX (Kd.C_below HR0_1.out HB.out));(case side4=>exact HC0_1.out);rintro e w10 ⟨rfl,hb⟩;refine ⟨_,rfl,?_⟩;replace BK544:=aM (bbX BK544.out hb);replace BK545:=aM (bbX BK545.out hb);replace HB:=aM (below_step (bX2 HB.out GE544.out GE545.out) hb);(try clear hb);(try clear hk)))
 replace BK544:=aM (blk_drew BK544.out)
 replace BK545:=aM (blk_drew BK545.out)
 replace HB:=aM (below_drew1 HB.out)
 refine start_ (n:=11) (S:=fun w'=>w'.cell? ⟨gb544,0,none⟩=some (.slice A0_0 l0_0.length c0_0)∧w'.cell? ⟨gb544,1,none⟩=some (.slice A0_1 l0_1.length c0_1)) (ds:=[]) #[ff,ff,ff,ff,ff,ff,ff,ff,ff,ff,ff] (by kernel_rfl) rfl rfl ⟨cz20 BK544.out,cz21 BK544.out⟩ (fun hHeld => ?_);refine with_tabW i_UnshearSurface.tab3 i_UnshearSurface.bits3 (fun HT_ HW_ => ?_)
 generalize w10.drew=w11 at BK544 BK545 HB hHeld ⊢
 refine pX 0 8 (fl 11 1) rfl rfl HT_.out ?_
 refine pX 3 11 (fl 11 9) rfl rfl HT_.out ?_
 refine pX 5 13 (fl 11 41) rfl rfl HT_.out ?_
 refine tX2 1 9 (fl 11 43) rfl rfl HT_.out HW_.out hHeld ?_
 refine tX2 4 12 (fl 11 59) rfl rfl HT_.out HW_.out hHeld ?_
 refine tX2 6 14 (fl 11 123) rfl rfl HT_.out HW_.out hHeld ?_
 refine one_ (i:=2) (N:=some 10) #[tt,tt,tt,tt,tt,tt,tt,ff,ff,ff,ff] rfl rfl (one_of HT_.out (by kernel_rfl)) (by decide) (fun K hK => ?_)
 refine goes_ Tryd.func67 (by kernel_rfl) rfl #[.slice A0_0 l0_0.length c0_0] (by rfl) rfl rfl aX ?_
 with_reducible refine(i_copyInts.calls _ _ l0_0 t547 _ ?side1 ?side2 A4.out).mono ?_
 (case side1=>exact cX (Kd.C_below HR0_0.out HB.out))
 (case side2=>exact HC0_0.out)
 rintro e w12 ⟨v548,rfl,ho0,hb⟩
 refine ⟨_,rfl,?_⟩
 have HO549:=aM (Kd.R_lower ho0 (below_size (bX2 HB.out GE544.out GE545.out)))
 replace BK544:=aM (bbX BK544.out hb)
 replace BK545:=aM (bbX BK545.out hb)
 replace HB:=aM (below_step (bX2 HB.out GE544.out GE545.out) hb)
 (try clear hb)
 (try clear hk)
 (try clear ho0)
 refine hK.out _ _ ⟨cz20 BK544.out,cz21 BK544.out⟩ (fun hHeld => ?_)
 clear hK K
 refine norm_ (a':=?_) ?_ ?_
 rotate_left
 {
 show Act.put _ (some 10) _=_
 simp only [Act.put,zA,zB,zC,i64_w,i32_w]
 rfl
 }
 refine one_ (i:=7) (N:=some 15) #[tt,tt,tt,tt,tt,tt,tt,tt,ff,ff,ff] rfl rfl (one_of HT_.out (by kernel_rfl)) (by decide) (fun K hK => ?_)
 refine goes_ Tryd.func54 (by kernel_rfl) rfl #[.slice A0_0 l0_0.length c0_0,.slice A0_1 l0_1.length c0_1] (by rfl) rfl rfl aX ?_
 with_reducible refine(i_ThenPerm.calls k _ _ l0_0 _ _ l0_1 t550 _ ?side1 ?side2 ?side3 ?side4 A5.out).mono ?_
 (case side1=>exact cX (Kd.C_below HR0_0.out HB.out))
 (case side2=>exact HC0_0.out)
 (case side3=>exact cX (Kd.C_below HR0_1.out HB.out))
 (case side4=>exact HC0_1.out)
 rintro e w13 ⟨v551,rfl,ho0,hb⟩
 refine ⟨_,rfl,?_⟩
 have HO552:=aM (Kd.R_lower (Kd.R_new' ho0 (Kd.R_lt (rX HO549.out))) (below_size (bX2 HB.out GE544.out GE545.out)))
 replace HO549:=aM (Kd.R_elder' (rX HO549.out) (Kd.R_base ho0) hb)
 replace BK544:=aM (bbX BK544.out hb)
 replace BK545:=aM (bbX BK545.out hb)
 replace HB:=aM (below_step (bX2 HB.out GE544.out GE545.out) hb)
 (try clear hb)
 (try clear hk)
 (try clear ho0)
 obtain ⟨Ao14,co14,eo14⟩:=Kd.R_slice HO552.out
 (first|subst eo14|(injection eo14 with f1_ f2_ f3_;have f4_:=f1_.symm;have f5_:=f3_.symm;clear f1_ f2_ f3_;subst f4_;subst f5_))
 obtain ⟨Ao15,co15,eo15⟩:=Kd.R_slice HO549.out
 (first|subst eo15|(injection eo15 with f1_ f2_ f3_;have f4_:=f1_.symm;have f5_:=f3_.symm;clear f1_ f2_ f3_;subst f4_;subst f5_))
 refine hK.out _ _ ⟨cz20 BK544.out,cz21 BK544.out⟩ (fun hHeld => ?_)
 clear hK K
 refine norm_ (a':=?_) ?_ ?_
 rotate_left
 {
 show Act.put _ (some 15) _=_
 simp only [Act.put,zA,zB,zC,i64_w,i32_w]
 rfl
 }
 refine pX 8 16 (fl 11 511) rfl rfl HT_.out ?_
 refine one_ (i:=9) (N:=none) #[tt,tt,tt,tt,tt,tt,tt,tt,tt,tt,ff] rfl rfl (one_of HT_.out (by kernel_rfl)) (by decide) (fun K hK => ?_)
 have hs16:w13.cell? ⟨gb545,0,none⟩=some (.slice none 0 0):=cz20 BK545.out
 have hfs16:=blk_frozen BK545.out 0
 have hns16_0:=NB544_545.out
 have hms16_0:=NB545_544.out
 have hs17:w13.cell? ⟨gb545,1,none⟩=some (.slice none 0 0):=cz21 BK545.out
 have hfs17:=blk_frozen BK545.out 1
 have hns17_0:=NB544_545.out
 have hms17_0:=NB545_544.out
 refine skip_ (w1:=?_) (by rfl) rfl ?_ ?_
 rotate_left
 {
 go_simp
 rfl
 }
 refine hK.out _ _ ⟨((cell_far (p:=⟨gb545,_,none⟩) NB544_545.out _).trans (((cell_far (p:=⟨gb545,_,none⟩) NB544_545.out _).trans (hHeld.1)))),((cell_far (p:=⟨gb545,_,none⟩) NB544_545.out _).trans (((cell_far (p:=⟨gb545,_,none⟩) NB544_545.out _).trans (hHeld.2))))⟩ (fun hHeld => ?_)
 clear hK K
 refine pX 10 3 (fl 11 2047) rfl rfl HT_.out ?_
 refine done_ (done_of HT_.out (by kernel_rfl)) ?_
 try go_wp2
 refine bodyPost_ret (results_ct rfl _ _ gb545 25 #[.slice Ao15 t547.length co15,.slice Ao14 t550.length co14] (0,0) _ rfl (by(with_reducible repeat(first|refine kN ?_ _|refine kD ?_|refine kA ?_ _));refine blk_put (cs:=#[.slice Ao15 t547.length co15,.slice none 0 0]) ?_ 1 _ rfl;(with_reducible repeat(first|refine kN ?_ _|refine kD ?_|refine kA ?_ _));refine blk_put (cs:=#[.slice none 0 0,.slice none 0 0]) ?_ 0 _ rfl;(with_reducible repeat(first|refine kN ?_ _|refine kD ?_|refine kA ?_ _));exact BK545.out) Tryd.underlying25 rfl (by kernel_rfl)) rfl ?_
 exact ⟨_,_,eX,by(with_reducible repeat(first|apply rA|apply rN|apply rD));exact Kd.R_mono (Kd.R_far (p:=⟨gb545,1,none⟩) (Kd.R_far (p:=⟨gb545,0,none⟩) (Kd.R_types HO549.out BK545.out (by decide)) (fun _ hk=>hk.2) (.slice Ao15 t547.length co15)) (fun _ hk=>hk.2) (.slice Ao14 t550.length co14)) (fun _ hk=>hk.1.2),by(with_reducible repeat(first|apply rA|apply rN|apply rD));exact Kd.R_mono (Kd.R_far (p:=⟨gb545,1,none⟩) (Kd.R_far (p:=⟨gb545,0,none⟩) (Kd.R_types HO552.out BK545.out (by decide)) (fun _ hk=>hk.2) (.slice Ao15 t547.length co15)) (fun _ hk=>hk.2) (.slice Ao14 t550.length co14)) (fun _ hk=>hk.1.2),bX2 HB.out GE544.out GE545.out⟩
 }
 {
 replace c3:=Bool.eq_false_iff.mpr c3
 subst c3
 have H1:(some (([]:List Int),([]:List Int),false))=some (r1,r2,r3):=by rw [if_neg (show ¬ (false=true) by decide)] at H;exact H
 clear H
 have H:=H1
 clear H1
 simp only [Option.some.injEq,Prod.mk.injEq] at H
 obtain ⟨rfl,rfl,rfl⟩:=H
 go_enter Tryd.func69,Tryd.ntmps69
 go_wp2_with (first|((with_reducible refine gate_dst (N:=1) rfl ?_);refine bEv (cs:=#[.slice A0_0 l0_0.length c0_0,.slice A0_1 l0_1.length c0_1]) (t:=25) ?_;intro gb544 hg w18 hbox hb;have BK544:=aM (hbox);have GW544:=aM ((szX (below_size (bX HB.out)) hg:w.heap.size≤gb544));have GE544:=GW544;replace HB:=aM (below_step (bX HB.out) hb);clear hb hbox hg)|((with_reducible refine gate_dst (N:=2) rfl ?_);refine bEv (cs:=#[.slice none 0 0,.slice none 0 0]) (t:=25) ?_;intro gb545 hg w19 hbox hb;have BK545:=aM (hbox);have GW545:=aM ((szX (below_size (bX1 HB.out GE544.out)) hg:w.heap.size≤gb545));have GE545:=GW545;replace HB:=aM (below_step (bX1 HB.out GE544.out) hb);have NB544_545:=aM (neX BK544.out hg);have NB545_544:=aM (nfX BK544.out hg);replace BK544:=aM (bbX BK544.out hb);clear hb hbox hg;have hnb20:=NB544_545.out;have hnc20:=NB545_544.out;obtain ⟨hcz21_0,hcz21_1,hfz21_0,hfz21_1⟩:=f2Z BK544.out)|((with_reducible refine gate_callee (f:=22) rfl ?_);refine goesL_ (some 5) rfl rfl Tryd.func22 (by kernel_rfl) rfl #[.agg #[.slice A0_0 l0_0.length c0_0,.slice A0_1 l0_1.length c0_1]] rfl aX ?_;(with_reducible refine(i_SurfaceOk.calls k _ _ l0_0 _ _ l0_1 false _ ?side1 ?side2 ?side3 ?side4 A2.out).mono ?_);(case side1=>exact cX (Kd.C_below HR0_0.out HB.out));(case side2=>exact HC0_0.out);(case side3=>exact cX (Kd.C_below HR0_1.out HB.out));(case side4=>exact HC0_1.out);rintro e w22 ⟨rfl,hb⟩;refine ⟨_,rfl,?_⟩;replace BK544:=aM (bbX BK544.out hb);replace BK545:=aM (bbX BK545.out hb);replace HB:=aM (below_step (bX2 HB.out GE544.out GE545.out) hb);(try clear hb);(try clear hk);obtain ⟨hcz23_0,hcz23_1,hfz23_0,hfz23_1⟩:=f2Z BK545.out))
 refine bodyPost_ret (results_ct rfl _ _ gb545 25 #[.slice none 0 0,.slice none 0 0] (0,0) _ rfl (by(with_reducible repeat(first|refine kN ?_ _|refine kD ?_|refine kA ?_ _));refine blk_put (cs:=#[.slice none 0 0,.slice none 0 0]) ?_ 1 _ rfl;(with_reducible repeat(first|refine kN ?_ _|refine kD ?_|refine kA ?_ _));refine blk_put (cs:=#[.slice none 0 0,.slice none 0 0]) ?_ 0 _ rfl;(with_reducible repeat(first|refine kN ?_ _|refine kD ?_|refine kA ?_ _));exact BK545.out) Tryd.underlying25 rfl (by kernel_rfl)) rfl ?_
 exact ⟨_,_,eX,by first|exact Kd.R_nil _ _ _ _ _|exact Kd.N_nil _ _ _ _ _|exact Kd.V_nil _ _ _ _ _|exact Kd.Q_nil _ _ _ _ _|exact Kd.S_nil _ _ _ _ _,by first|exact Kd.R_nil _ _ _ _ _|exact Kd.N_nil _ _ _ _ _|exact Kd.V_nil _ _ _ _ _|exact Kd.Q_nil _ _ _ _ _|exact Kd.S_nil _ _ _ _ _,bX2 HB.out GE544.out GE545.out⟩
 }

/-! ### i_TurnSurface: function 70 -/
def i_TurnSurface.f (k:Nat) (l0_0:List Int) (l0_1:List Int):Option (List Int × List Int × Bool):=(i_SurfaceOk.f k l0_0 l0_1).bind fun t555=>(if t555=true then ((i_InversePerm.f k l0_1).bind fun t556=>((i_copyInts.f l0_0).bind fun t559=>(some (t556,t559,true)))) else (some (([]:List Int),([]:List Int),false)))
def i_TurnSurface.T3 : Bool × List (List Nat × List Nat):=(true,[([],[]),([0],[0]),([1],[1]),([],[]),([3],[3]),([4,2],[4]),([2,5],[2,5]),([6,5,0,1,2,3,4,5,6],[6]),([7,0,1,2,3,4,5,6,7],[])])
def i_TurnSurface.B3 : List Nat:=[0,1,3,0,8,31,63,127,255]
theorem i_TurnSurface.tab3 : rtab .any (opsOf Tryd.f70 3)=i_TurnSurface.T3:=by kernel_rfl
theorem i_TurnSurface.bits3 : waitsOk i_TurnSurface.T3.2 i_TurnSurface.B3=true:=by kernel_rfl
theorem i_TurnSurface.calls (k:Nat) (A0_0:Option Addr) (c0_0:Nat) (l0_0:List Int) (A0_1:Option Addr) (c0_1:Nat) (l0_1:List Int) (r1:List Int) (r2:List Int) (r3:Bool) (w:World) (hr0_0:Kd.C (Kd.int .i64) w A0_0 l0_0.length l0_0) (hc0_0:l0_0.length≤c0_0) (hr0_1:Kd.C (Kd.int .i64) w A0_1 l0_1.length l0_1) (hc0_1:l0_1.length≤c0_1) (h:i_TurnSurface.f k l0_0 l0_1=some (r1,r2,r3)) :
  Calls Tryd.prog 70 #[.agg #[.slice A0_0 l0_0.length c0_0,.slice A0_1 l0_1.length c0_1]] w fun e w'=>∃ v0_ v1_:Value,e = .returned (.tuple #[.agg #[v0_,v1_],.bool r3])∧Kd.R (Kd.int .i64) 3 w' w.heap.size (fun k_=>some k_≠(v1_:Value).ownBlock) v0_ r1∧Kd.R (Kd.int .i64) 3 w' w.heap.size (fun k_=>some k_≠(v0_:Value).ownBlock) v1_ r2∧Below w.heap.size w w':=by
 have hu25:=Tryd.underlying25
 have HR0_0:=aM hr0_0
 have HC0_0:=aM hc0_0
 clear hr0_0 hc0_0
 have HR0_1:=aM hr0_1
 have HC0_1:=aM hc0_1
 clear hr0_1 hc0_1
 have HB:=aM (Below.refl w.heap.size w)
 have H:((i_SurfaceOk.f k l0_0 l0_1).bind fun t555=>(if t555=true then ((i_InversePerm.f k l0_1).bind fun t556=>((i_copyInts.f l0_0).bind fun t559=>(some (t556,t559,true)))) else (some (([]:List Int),([]:List Int),false))))=some (r1,r2,r3):=h
 clear h
 replace H:=oB H
 obtain ⟨t555,A20,H⟩:=H
 have A2:=aM A20
 clear A20
 by_cases c3:t555=true
 {
 subst c3
 have H1:((i_InversePerm.f k l0_1).bind fun t556=>((i_copyInts.f l0_0).bind fun t559=>(some (t556,t559,true))))=some (r1,r2,r3):=by rw [if_pos rfl] at H;exact H
 clear H
 have H:=H1
 clear H1
 replace H:=oB H
 obtain ⟨t556,A40,H⟩:=H
 have A4:=aM A40
 clear A40
 replace H:=oB H
 obtain ⟨t559,A50,H⟩:=H
 have A5:=aM A50
 clear A50
 simp only [Option.some.injEq,Prod.mk.injEq] at H
 obtain ⟨rfl,rfl,rfl⟩:=H
 go_enter Tryd.func70,Tryd.ntmps70
 try go_wp2_with (first|((with_reducible refine gate_dst (N:=1) rfl ?_);refine bEv (cs:=#[.slice A0_0 l0_0.length c0_0,.slice A0_1 l0_1.length c0_1]) (t:=25) ?_;intro gb553 hg w6 hbox hb;have BK553:=aM (hbox);have GW553:=aM ((szX (below_size (bX HB.out)) hg:w.heap.size≤gb553));have GE553:=GW553;replace HB:=aM (below_step (bX HB.out) hb);clear hb hbox hg)|((with_reducible refine gate_dst (N:=2) rfl ?_);refine bEv (cs:=#[.slice none 0 0,.slice none 0 0]) (t:=25) ?_;intro gb554 hg w7 hbox hb;have BK554:=aM (hbox);have GW554:=aM ((szX (below_size (bX1 HB.out GE553.out)) hg:w.heap.size≤gb554));have GE554:=GW554;replace HB:=aM (below_step (bX1 HB.out GE553.out) hb);have NB553_554:=aM (neX BK553.out hg);have NB554_553:=aM (nfX BK553.out hg);replace BK553:=aM (bbX BK553.out hb);clear hb hbox hg;have hnb8:=NB553_554.out;have hnc8:=NB554_553.out;obtain ⟨hcz9_0,hcz9_1,hfz9_0,hfz9_1⟩:=f2Z BK553.out)|((with_reducible refine gate_callee (f:=22) rfl ?_);refine goesL_ (some 5) rfl rfl Tryd.func22 (by kernel_rfl) rfl #[.agg #[.slice A0_0 l0_0.length c0_0,.slice A0_1 l0_1.length c0_1]] rfl aX ?_;(with_reducible refine(i_SurfaceOk.calls k _ _ l0_0 _ _ l0_1 true _ ?side1 ?side2 ?side3 ?side4 A2.out).mono ?_);(case side1=>exact cX (Kd.C_below HR0_0.out HB.out));(case side2=>exact HC0_0.out);(case side3=>exact cX (Kd.C_below HR0_1.out HB.out));(case side4=>exact HC0_1.out);rintro e w10 ⟨rfl,hb⟩;refine ⟨_,rfl,?_⟩;replace BK553:=aM (bbX BK553.out hb);replace BK554:=aM (bbX BK554.out hb);replace HB:=aM (below_step (bX2 HB.out GE553.out GE554.out) hb);(try clear hb);(try clear hk)))
 replace BK553:=aM (blk_drew BK553.out)
 replace BK554:=aM (blk_drew BK554.out)
 replace HB:=aM (below_drew1 HB.out)
 refine start_ (n:=9) (S:=fun w'=>w'.cell? ⟨gb553,0,none⟩=some (.slice A0_0 l0_0.length c0_0)∧w'.cell? ⟨gb553,1,none⟩=some (.slice A0_1 l0_1.length c0_1)) (ds:=[]) #[ff,ff,ff,ff,ff,ff,ff,ff,ff] (by kernel_rfl) rfl rfl ⟨cz20 BK553.out,cz21 BK553.out⟩ (fun hHeld => ?_);refine with_tabW i_TurnSurface.tab3 i_TurnSurface.bits3 (fun HT_ HW_ => ?_)
 generalize w10.drew=w11 at BK553 BK554 HB hHeld ⊢
 refine pX 0 8 (fl 9 1) rfl rfl HT_.out ?_
 refine pX 3 11 (fl 9 9) rfl rfl HT_.out ?_
 refine tX2 1 9 (fl 9 11) rfl rfl HT_.out HW_.out hHeld ?_
 refine tX2 4 12 (fl 9 27) rfl rfl HT_.out HW_.out hHeld ?_
 refine one_ (i:=2) (N:=some 10) #[tt,tt,tt,tt,tt,ff,ff,ff,ff] rfl rfl (one_of HT_.out (by kernel_rfl)) (by decide) (fun K hK => ?_)
 refine goes_ Tryd.func30 (by kernel_rfl) rfl #[.slice A0_1 l0_1.length c0_1] (by rfl) rfl rfl aX ?_
 with_reducible refine(i_InversePerm.calls k _ _ l0_1 t556 _ ?side1 ?side2 A4.out).mono ?_
 (case side1=>exact cX (Kd.C_below HR0_1.out HB.out))
 (case side2=>exact HC0_1.out)
 rintro e w12 ⟨v557,rfl,ho0,hb⟩
 refine ⟨_,rfl,?_⟩
 have HO558:=aM (Kd.R_lower ho0 (below_size (bX2 HB.out GE553.out GE554.out)))
 replace BK553:=aM (bbX BK553.out hb)
 replace BK554:=aM (bbX BK554.out hb)
 replace HB:=aM (below_step (bX2 HB.out GE553.out GE554.out) hb)
 (try clear hb)
 (try clear hk)
 (try clear ho0)
 refine hK.out _ _ ⟨cz20 BK553.out,cz21 BK553.out⟩ (fun hHeld => ?_)
 clear hK K
 refine norm_ (a':=?_) ?_ ?_
 rotate_left
 {
 show Act.put _ (some 10) _=_
 simp only [Act.put,zA,zB,zC,i64_w,i32_w]
 rfl
 }
 refine one_ (i:=5) (N:=some 13) #[tt,tt,tt,tt,tt,tt,ff,ff,ff] rfl rfl (one_of HT_.out (by kernel_rfl)) (by decide) (fun K hK => ?_)
 refine goes_ Tryd.func67 (by kernel_rfl) rfl #[.slice A0_0 l0_0.length c0_0] (by rfl) rfl rfl aX ?_
 with_reducible refine(i_copyInts.calls _ _ l0_0 t559 _ ?side1 ?side2 A5.out).mono ?_
 (case side1=>exact cX (Kd.C_below HR0_0.out HB.out))
 (case side2=>exact HC0_0.out)
 rintro e w13 ⟨v560,rfl,ho0,hb⟩
 refine ⟨_,rfl,?_⟩
 have HO561:=aM (Kd.R_lower (Kd.R_new' ho0 (Kd.R_lt (rX HO558.out))) (below_size (bX2 HB.out GE553.out GE554.out)))
 replace HO558:=aM (Kd.R_elder' (rX HO558.out) (Kd.R_base ho0) hb)
 replace BK553:=aM (bbX BK553.out hb)
 replace BK554:=aM (bbX BK554.out hb)
 replace HB:=aM (below_step (bX2 HB.out GE553.out GE554.out) hb)
 (try clear hb)
 (try clear hk)
 (try clear ho0)
 obtain ⟨Ao14,co14,eo14⟩:=Kd.R_slice HO561.out
 (first|subst eo14|(injection eo14 with f1_ f2_ f3_;have f4_:=f1_.symm;have f5_:=f3_.symm;clear f1_ f2_ f3_;subst f4_;subst f5_))
 obtain ⟨Ao15,co15,eo15⟩:=Kd.R_slice HO558.out
 (first|subst eo15|(injection eo15 with f1_ f2_ f3_;have f4_:=f1_.symm;have f5_:=f3_.symm;clear f1_ f2_ f3_;subst f4_;subst f5_))
 refine hK.out _ _ ⟨cz20 BK553.out,cz21 BK553.out⟩ (fun hHeld => ?_)
 clear hK K
 refine norm_ (a':=?_) ?_ ?_
 rotate_left
 {
 show Act.put _ (some 13) _=_
 simp only [Act.put,zA,zB,zC,i64_w,i32_w]
 rfl
 }
 refine pX 6 14 (fl 9 127) rfl rfl HT_.out ?_
 refine one_ (i:=7) (N:=none) #[tt,tt,tt,tt,tt,tt,tt,tt,ff] rfl rfl (one_of HT_.out (by kernel_rfl)) (by decide) (fun K hK => ?_)
 have hs16:w13.cell? ⟨gb554,0,none⟩=some (.slice none 0 0):=cz20 BK554.out
 have hfs16:=blk_frozen BK554.out 0
 have hns16_0:=NB553_554.out
 have hms16_0:=NB554_553.out
 have hs17:w13.cell? ⟨gb554,1,none⟩=some (.slice none 0 0):=cz21 BK554.out
 have hfs17:=blk_frozen BK554.out 1
 have hns17_0:=NB553_554.out
 have hms17_0:=NB554_553.out
 refine skip_ (w1:=?_) (by rfl) rfl ?_ ?_
 rotate_left
 {
 go_simp
 rfl
 }
 refine hK.out _ _ ⟨((cell_far (p:=⟨gb554,_,none⟩) NB553_554.out _).trans (((cell_far (p:=⟨gb554,_,none⟩) NB553_554.out _).trans (hHeld.1)))),((cell_far (p:=⟨gb554,_,none⟩) NB553_554.out _).trans (((cell_far (p:=⟨gb554,_,none⟩) NB553_554.out _).trans (hHeld.2))))⟩ (fun hHeld => ?_)
 clear hK K
 refine pX 8 3 (fl 9 511) rfl rfl HT_.out ?_
 refine done_ (done_of HT_.out (by kernel_rfl)) ?_
 try go_wp2
 refine bodyPost_ret (results_ct rfl _ _ gb554 25 #[.slice Ao15 t556.length co15,.slice Ao14 t559.length co14] (0,0) _ rfl (by(with_reducible repeat(first|refine kN ?_ _|refine kD ?_|refine kA ?_ _));refine blk_put (cs:=#[.slice Ao15 t556.length co15,.slice none 0 0]) ?_ 1 _ rfl;(with_reducible repeat(first|refine kN ?_ _|refine kD ?_|refine kA ?_ _));refine blk_put (cs:=#[.slice none 0 0,.slice none 0 0]) ?_ 0 _ rfl;(with_reducible repeat(first|refine kN ?_ _|refine kD ?_|refine kA ?_ _));exact BK554.out) Tryd.underlying25 rfl (by kernel_rfl)) rfl ?_
 exact ⟨_,_,eX,by(with_reducible repeat(first|apply rA|apply rN|apply rD));exact Kd.R_mono (Kd.R_far (p:=⟨gb554,1,none⟩) (Kd.R_far (p:=⟨gb554,0,none⟩) (Kd.R_types HO558.out BK554.out (by decide)) (fun _ hk=>hk.2) (.slice Ao15 t556.length co15)) (fun _ hk=>hk.2) (.slice Ao14 t559.length co14)) (fun _ hk=>hk.1.2),by(with_reducible repeat(first|apply rA|apply rN|apply rD));exact Kd.R_mono (Kd.R_far (p:=⟨gb554,1,none⟩) (Kd.R_far (p:=⟨gb554,0,none⟩) (Kd.R_types HO561.out BK554.out (by decide)) (fun _ hk=>hk.2) (.slice Ao15 t556.length co15)) (fun _ hk=>hk.2) (.slice Ao14 t559.length co14)) (fun _ hk=>hk.1.2),bX2 HB.out GE553.out GE554.out⟩
 }
 {
 replace c3:=Bool.eq_false_iff.mpr c3
 subst c3
 have H1:(some (([]:List Int),([]:List Int),false))=some (r1,r2,r3):=by rw [if_neg (show ¬ (false=true) by decide)] at H;exact H
 clear H
 have H:=H1
 clear H1
 simp only [Option.some.injEq,Prod.mk.injEq] at H
 obtain ⟨rfl,rfl,rfl⟩:=H
 go_enter Tryd.func70,Tryd.ntmps70
 go_wp2_with (first|((with_reducible refine gate_dst (N:=1) rfl ?_);refine bEv (cs:=#[.slice A0_0 l0_0.length c0_0,.slice A0_1 l0_1.length c0_1]) (t:=25) ?_;intro gb553 hg w18 hbox hb;have BK553:=aM (hbox);have GW553:=aM ((szX (below_size (bX HB.out)) hg:w.heap.size≤gb553));have GE553:=GW553;replace HB:=aM (below_step (bX HB.out) hb);clear hb hbox hg)|((with_reducible refine gate_dst (N:=2) rfl ?_);refine bEv (cs:=#[.slice none 0 0,.slice none 0 0]) (t:=25) ?_;intro gb554 hg w19 hbox hb;have BK554:=aM (hbox);have GW554:=aM ((szX (below_size (bX1 HB.out GE553.out)) hg:w.heap.size≤gb554));have GE554:=GW554;replace HB:=aM (below_step (bX1 HB.out GE553.out) hb);have NB553_554:=aM (neX BK553.out hg);have NB554_553:=aM (nfX BK553.out hg);replace BK553:=aM (bbX BK553.out hb);clear hb hbox hg;have hnb20:=NB553_554.out;have hnc20:=NB554_553.out;obtain ⟨hcz21_0,hcz21_1,hfz21_0,hfz21_1⟩:=f2Z BK553.out)|((with_reducible refine gate_callee (f:=22) rfl ?_);refine goesL_ (some 5) rfl rfl Tryd.func22 (by kernel_rfl) rfl #[.agg #[.slice A0_0 l0_0.length c0_0,.slice A0_1 l0_1.length c0_1]] rfl aX ?_;(with_reducible refine(i_SurfaceOk.calls k _ _ l0_0 _ _ l0_1 false _ ?side1 ?side2 ?side3 ?side4 A2.out).mono ?_);(case side1=>exact cX (Kd.C_below HR0_0.out HB.out));(case side2=>exact HC0_0.out);(case side3=>exact cX (Kd.C_below HR0_1.out HB.out));(case side4=>exact HC0_1.out);rintro e w22 ⟨rfl,hb⟩;refine ⟨_,rfl,?_⟩;replace BK553:=aM (bbX BK553.out hb);replace BK554:=aM (bbX BK554.out hb);replace HB:=aM (below_step (bX2 HB.out GE553.out GE554.out) hb);(try clear hb);(try clear hk);obtain ⟨hcz23_0,hcz23_1,hfz23_0,hfz23_1⟩:=f2Z BK554.out))
 refine bodyPost_ret (results_ct rfl _ _ gb554 25 #[.slice none 0 0,.slice none 0 0] (0,0) _ rfl (by(with_reducible repeat(first|refine kN ?_ _|refine kD ?_|refine kA ?_ _));refine blk_put (cs:=#[.slice none 0 0,.slice none 0 0]) ?_ 1 _ rfl;(with_reducible repeat(first|refine kN ?_ _|refine kD ?_|refine kA ?_ _));refine blk_put (cs:=#[.slice none 0 0,.slice none 0 0]) ?_ 0 _ rfl;(with_reducible repeat(first|refine kN ?_ _|refine kD ?_|refine kA ?_ _));exact BK554.out) Tryd.underlying25 rfl (by kernel_rfl)) rfl ?_
 exact ⟨_,_,eX,by first|exact Kd.R_nil _ _ _ _ _|exact Kd.N_nil _ _ _ _ _|exact Kd.V_nil _ _ _ _ _|exact Kd.Q_nil _ _ _ _ _|exact Kd.S_nil _ _ _ _ _,by first|exact Kd.R_nil _ _ _ _ _|exact Kd.N_nil _ _ _ _ _|exact Kd.V_nil _ _ _ _ _|exact Kd.Q_nil _ _ _ _ _|exact Kd.S_nil _ _ _ _ _,bX2 HB.out GE553.out GE554.out⟩
 }

/-! ### i_UnturnSurface: function 71 -/
def i_UnturnSurface.f (k:Nat) (l0_0:List Int) (l0_1:List Int):Option (List Int × List Int × Bool):=(i_SurfaceOk.f k l0_0 l0_1).bind fun t564=>(if t564=true then ((i_copyInts.f l0_1).bind fun t565=>((i_InversePerm.f k l0_0).bind fun t568=>(some (t565,t568,true)))) else (some (([]:List Int),([]:List Int),false)))
def i_UnturnSurface.T3 : Bool × List (List Nat × List Nat):=(true,[([],[]),([0],[0]),([1],[1]),([],[]),([3],[3]),([4,2],[4]),([2,5],[2,5]),([6,5,0,1,2,3,4,5,6],[6]),([7,0,1,2,3,4,5,6,7],[])])
def i_UnturnSurface.B3 : List Nat:=[0,1,3,0,8,31,63,127,255]
theorem i_UnturnSurface.tab3 : rtab .any (opsOf Tryd.f71 3)=i_UnturnSurface.T3:=by kernel_rfl
theorem i_UnturnSurface.bits3 : waitsOk i_UnturnSurface.T3.2 i_UnturnSurface.B3=true:=by kernel_rfl
theorem i_UnturnSurface.calls (k:Nat) (A0_0:Option Addr) (c0_0:Nat) (l0_0:List Int) (A0_1:Option Addr) (c0_1:Nat) (l0_1:List Int) (r1:List Int) (r2:List Int) (r3:Bool) (w:World) (hr0_0:Kd.C (Kd.int .i64) w A0_0 l0_0.length l0_0) (hc0_0:l0_0.length≤c0_0) (hr0_1:Kd.C (Kd.int .i64) w A0_1 l0_1.length l0_1) (hc0_1:l0_1.length≤c0_1) (h:i_UnturnSurface.f k l0_0 l0_1=some (r1,r2,r3)) :
  Calls Tryd.prog 71 #[.agg #[.slice A0_0 l0_0.length c0_0,.slice A0_1 l0_1.length c0_1]] w fun e w'=>∃ v0_ v1_:Value,e = .returned (.tuple #[.agg #[v0_,v1_],.bool r3])∧Kd.R (Kd.int .i64) 3 w' w.heap.size (fun k_=>some k_≠(v1_:Value).ownBlock) v0_ r1∧Kd.R (Kd.int .i64) 3 w' w.heap.size (fun k_=>some k_≠(v0_:Value).ownBlock) v1_ r2∧Below w.heap.size w w':=by
 have hu25:=Tryd.underlying25
 have HR0_0:=aM hr0_0
 have HC0_0:=aM hc0_0
 clear hr0_0 hc0_0
 have HR0_1:=aM hr0_1
 have HC0_1:=aM hc0_1
 clear hr0_1 hc0_1
 have HB:=aM (Below.refl w.heap.size w)
 have H:((i_SurfaceOk.f k l0_0 l0_1).bind fun t564=>(if t564=true then ((i_copyInts.f l0_1).bind fun t565=>((i_InversePerm.f k l0_0).bind fun t568=>(some (t565,t568,true)))) else (some (([]:List Int),([]:List Int),false))))=some (r1,r2,r3):=h
 clear h
 replace H:=oB H
 obtain ⟨t564,A20,H⟩:=H
 have A2:=aM A20
 clear A20
 by_cases c3:t564=true
 {
 subst c3
 have H1:((i_copyInts.f l0_1).bind fun t565=>((i_InversePerm.f k l0_0).bind fun t568=>(some (t565,t568,true))))=some (r1,r2,r3):=by rw [if_pos rfl] at H;exact H
 clear H
 have H:=H1
 clear H1
 replace H:=oB H
 obtain ⟨t565,A40,H⟩:=H
 have A4:=aM A40
 clear A40
 replace H:=oB H
 obtain ⟨t568,A50,H⟩:=H
 have A5:=aM A50
 clear A50
 simp only [Option.some.injEq,Prod.mk.injEq] at H
 obtain ⟨rfl,rfl,rfl⟩:=H
 go_enter Tryd.func71,Tryd.ntmps71
 try go_wp2_with (first|((with_reducible refine gate_dst (N:=1) rfl ?_);refine bEv (cs:=#[.slice A0_0 l0_0.length c0_0,.slice A0_1 l0_1.length c0_1]) (t:=25) ?_;intro gb562 hg w6 hbox hb;have BK562:=aM (hbox);have GW562:=aM ((szX (below_size (bX HB.out)) hg:w.heap.size≤gb562));have GE562:=GW562;replace HB:=aM (below_step (bX HB.out) hb);clear hb hbox hg)|((with_reducible refine gate_dst (N:=2) rfl ?_);refine bEv (cs:=#[.slice none 0 0,.slice none 0 0]) (t:=25) ?_;intro gb563 hg w7 hbox hb;have BK563:=aM (hbox);have GW563:=aM ((szX (below_size (bX1 HB.out GE562.out)) hg:w.heap.size≤gb563));have GE563:=GW563;replace HB:=aM (below_step (bX1 HB.out GE562.out) hb);have NB562_563:=aM (neX BK562.out hg);have NB563_562:=aM (nfX BK562.out hg);replace BK562:=aM (bbX BK562.out hb);clear hb hbox hg;have hnb8:=NB562_563.out;have hnc8:=NB563_562.out;obtain ⟨hcz9_0,hcz9_1,hfz9_0,hfz9_1⟩:=f2Z BK562.out)|((with_reducible refine gate_callee (f:=22) rfl ?_);refine goesL_ (some 5) rfl rfl Tryd.func22 (by kernel_rfl) rfl #[.agg #[.slice A0_0 l0_0.length c0_0,.slice A0_1 l0_1.length c0_1]] rfl aX ?_;(with_reducible refine(i_SurfaceOk.calls k _ _ l0_0 _ _ l0_1 true _ ?side1 ?side2 ?side3 ?side4 A2.out).mono ?_);(case side1=>exact cX (Kd.C_below HR0_0.out HB.out));(case side2=>exact HC0_0.out);(case side3=>exact cX (Kd.C_below HR0_1.out HB.out));(case side4=>exact HC0_1.out);rintro e w10 ⟨rfl,hb⟩;refine ⟨_,rfl,?_⟩;replace BK562:=aM (bbX BK562.out hb);replace BK563:=aM (bbX BK563.out hb);replace HB:=aM (below_step (bX2 HB.out GE562.out GE563.out) hb);(try clear hb);(try clear hk)))
 replace BK562:=aM (blk_drew BK562.out)
 replace BK563:=aM (blk_drew BK563.out)
 replace HB:=aM (below_drew1 HB.out)
 refine start_ (n:=9) (S:=fun w'=>w'.cell? ⟨gb562,0,none⟩=some (.slice A0_0 l0_0.length c0_0)∧w'.cell? ⟨gb562,1,none⟩=some (.slice A0_1 l0_1.length c0_1)) (ds:=[]) #[ff,ff,ff,ff,ff,ff,ff,ff,ff] (by kernel_rfl) rfl rfl ⟨cz20 BK562.out,cz21 BK562.out⟩ (fun hHeld => ?_);refine with_tabW i_UnturnSurface.tab3 i_UnturnSurface.bits3 (fun HT_ HW_ => ?_)
 generalize w10.drew=w11 at BK562 BK563 HB hHeld ⊢
 refine pX 0 8 (fl 9 1) rfl rfl HT_.out ?_
 refine pX 3 11 (fl 9 9) rfl rfl HT_.out ?_
 refine tX2 1 9 (fl 9 11) rfl rfl HT_.out HW_.out hHeld ?_
 refine tX2 4 12 (fl 9 27) rfl rfl HT_.out HW_.out hHeld ?_
 refine one_ (i:=2) (N:=some 10) #[tt,tt,tt,tt,tt,ff,ff,ff,ff] rfl rfl (one_of HT_.out (by kernel_rfl)) (by decide) (fun K hK => ?_)
 refine goes_ Tryd.func67 (by kernel_rfl) rfl #[.slice A0_1 l0_1.length c0_1] (by rfl) rfl rfl aX ?_
 with_reducible refine(i_copyInts.calls _ _ l0_1 t565 _ ?side1 ?side2 A4.out).mono ?_
 (case side1=>exact cX (Kd.C_below HR0_1.out HB.out))
 (case side2=>exact HC0_1.out)
 rintro e w12 ⟨v566,rfl,ho0,hb⟩
 refine ⟨_,rfl,?_⟩
 have HO567:=aM (Kd.R_lower ho0 (below_size (bX2 HB.out GE562.out GE563.out)))
 replace BK562:=aM (bbX BK562.out hb)
 replace BK563:=aM (bbX BK563.out hb)
 replace HB:=aM (below_step (bX2 HB.out GE562.out GE563.out) hb)
 (try clear hb)
 (try clear hk)
 (try clear ho0)
 refine hK.out _ _ ⟨cz20 BK562.out,cz21 BK562.out⟩ (fun hHeld => ?_)
 clear hK K
 refine norm_ (a':=?_) ?_ ?_
 rotate_left
 {
 show Act.put _ (some 10) _=_
 simp only [Act.put,zA,zB,zC,i64_w,i32_w]
 rfl
 }
 refine one_ (i:=5) (N:=some 13) #[tt,tt,tt,tt,tt,tt,ff,ff,ff] rfl rfl (one_of HT_.out (by kernel_rfl)) (by decide) (fun K hK => ?_)
 refine goes_ Tryd.func30 (by kernel_rfl) rfl #[.slice A0_0 l0_0.length c0_0] (by rfl) rfl rfl aX ?_
 with_reducible refine(i_InversePerm.calls k _ _ l0_0 t568 _ ?side1 ?side2 A5.out).mono ?_
 (case side1=>exact cX (Kd.C_below HR0_0.out HB.out))
 (case side2=>exact HC0_0.out)
 rintro e w13 ⟨v569,rfl,ho0,hb⟩
 refine ⟨_,rfl,?_⟩
 have HO570:=aM (Kd.R_lower (Kd.R_new' ho0 (Kd.R_lt (rX HO567.out))) (below_size (bX2 HB.out GE562.out GE563.out)))
 replace HO567:=aM (Kd.R_elder' (rX HO567.out) (Kd.R_base ho0) hb)
 replace BK562:=aM (bbX BK562.out hb)
 replace BK563:=aM (bbX BK563.out hb)
 replace HB:=aM (below_step (bX2 HB.out GE562.out GE563.out) hb)
 (try clear hb)
 (try clear hk)
 (try clear ho0)
 obtain ⟨Ao14,co14,eo14⟩:=Kd.R_slice HO570.out
 (first|subst eo14|(injection eo14 with f1_ f2_ f3_;have f4_:=f1_.symm;have f5_:=f3_.symm;clear f1_ f2_ f3_;subst f4_;subst f5_))
 obtain ⟨Ao15,co15,eo15⟩:=Kd.R_slice HO567.out
 (first|subst eo15|(injection eo15 with f1_ f2_ f3_;have f4_:=f1_.symm;have f5_:=f3_.symm;clear f1_ f2_ f3_;subst f4_;subst f5_))
 refine hK.out _ _ ⟨cz20 BK562.out,cz21 BK562.out⟩ (fun hHeld => ?_)
 clear hK K
 refine norm_ (a':=?_) ?_ ?_
 rotate_left
 {
 show Act.put _ (some 13) _=_
 simp only [Act.put,zA,zB,zC,i64_w,i32_w]
 rfl
 }
 refine pX 6 14 (fl 9 127) rfl rfl HT_.out ?_
 refine one_ (i:=7) (N:=none) #[tt,tt,tt,tt,tt,tt,tt,tt,ff] rfl rfl (one_of HT_.out (by kernel_rfl)) (by decide) (fun K hK => ?_)
 have hs16:w13.cell? ⟨gb563,0,none⟩=some (.slice none 0 0):=cz20 BK563.out
 have hfs16:=blk_frozen BK563.out 0
 have hns16_0:=NB562_563.out
 have hms16_0:=NB563_562.out
 have hs17:w13.cell? ⟨gb563,1,none⟩=some (.slice none 0 0):=cz21 BK563.out
 have hfs17:=blk_frozen BK563.out 1
 have hns17_0:=NB562_563.out
 have hms17_0:=NB563_562.out
 refine skip_ (w1:=?_) (by rfl) rfl ?_ ?_
 rotate_left
 {
 go_simp
 rfl
 }
 refine hK.out _ _ ⟨((cell_far (p:=⟨gb563,_,none⟩) NB562_563.out _).trans (((cell_far (p:=⟨gb563,_,none⟩) NB562_563.out _).trans (hHeld.1)))),((cell_far (p:=⟨gb563,_,none⟩) NB562_563.out _).trans (((cell_far (p:=⟨gb563,_,none⟩) NB562_563.out _).trans (hHeld.2))))⟩ (fun hHeld => ?_)
 clear hK K
 refine pX 8 3 (fl 9 511) rfl rfl HT_.out ?_
 refine done_ (done_of HT_.out (by kernel_rfl)) ?_
 try go_wp2
 refine bodyPost_ret (results_ct rfl _ _ gb563 25 #[.slice Ao15 t565.length co15,.slice Ao14 t568.length co14] (0,0) _ rfl (by(with_reducible repeat(first|refine kN ?_ _|refine kD ?_|refine kA ?_ _));refine blk_put (cs:=#[.slice Ao15 t565.length co15,.slice none 0 0]) ?_ 1 _ rfl;(with_reducible repeat(first|refine kN ?_ _|refine kD ?_|refine kA ?_ _));refine blk_put (cs:=#[.slice none 0 0,.slice none 0 0]) ?_ 0 _ rfl;(with_reducible repeat(first|refine kN ?_ _|refine kD ?_|refine kA ?_ _));exact BK563.out) Tryd.underlying25 rfl (by kernel_rfl)) rfl ?_
 exact ⟨_,_,eX,by(with_reducible repeat(first|apply rA|apply rN|apply rD));exact Kd.R_mono (Kd.R_far (p:=⟨gb563,1,none⟩) (Kd.R_far (p:=⟨gb563,0,none⟩) (Kd.R_types HO567.out BK563.out (by decide)) (fun _ hk=>hk.2) (.slice Ao15 t565.length co15)) (fun _ hk=>hk.2) (.slice Ao14 t568.length co14)) (fun _ hk=>hk.1.2),by(with_reducible repeat(first|apply rA|apply rN|apply rD));exact Kd.R_mono (Kd.R_far (p:=⟨gb563,1,none⟩) (Kd.R_far (p:=⟨gb563,0,none⟩) (Kd.R_types HO570.out BK563.out (by decide)) (fun _ hk=>hk.2) (.slice Ao15 t565.length co15)) (fun _ hk=>hk.2) (.slice Ao14 t568.length co14)) (fun _ hk=>hk.1.2),bX2 HB.out GE562.out GE563.out⟩
 }
 {
 replace c3:=Bool.eq_false_iff.mpr c3
 subst c3
 have H1:(some (([]:List Int),([]:List Int),false))=some (r1,r2,r3):=by rw [if_neg (show ¬ (false=true) by decide)] at H;exact H
 clear H
 have H:=H1
 clear H1
 simp only [Option.some.injEq,Prod.mk.injEq] at H
 obtain ⟨rfl,rfl,rfl⟩:=H
 go_enter Tryd.func71,Tryd.ntmps71
 go_wp2_with (first|((with_reducible refine gate_dst (N:=1) rfl ?_);refine bEv (cs:=#[.slice A0_0 l0_0.length c0_0,.slice A0_1 l0_1.length c0_1]) (t:=25) ?_;intro gb562 hg w18 hbox hb;have BK562:=aM (hbox);have GW562:=aM ((szX (below_size (bX HB.out)) hg:w.heap.size≤gb562));have GE562:=GW562;replace HB:=aM (below_step (bX HB.out) hb);clear hb hbox hg)|((with_reducible refine gate_dst (N:=2) rfl ?_);refine bEv (cs:=#[.slice none 0 0,.slice none 0 0]) (t:=25) ?_;intro gb563 hg w19 hbox hb;have BK563:=aM (hbox);have GW563:=aM ((szX (below_size (bX1 HB.out GE562.out)) hg:w.heap.size≤gb563));have GE563:=GW563;replace HB:=aM (below_step (bX1 HB.out GE562.out) hb);have NB562_563:=aM (neX BK562.out hg);have NB563_562:=aM (nfX BK562.out hg);replace BK562:=aM (bbX BK562.out hb);clear hb hbox hg;have hnb20:=NB562_563.out;have hnc20:=NB563_562.out;obtain ⟨hcz21_0,hcz21_1,hfz21_0,hfz21_1⟩:=f2Z BK562.out)|((with_reducible refine gate_callee (f:=22) rfl ?_);refine goesL_ (some 5) rfl rfl Tryd.func22 (by kernel_rfl) rfl #[.agg #[.slice A0_0 l0_0.length c0_0,.slice A0_1 l0_1.length c0_1]] rfl aX ?_;(with_reducible refine(i_SurfaceOk.calls k _ _ l0_0 _ _ l0_1 false _ ?side1 ?side2 ?side3 ?side4 A2.out).mono ?_);(case side1=>exact cX (Kd.C_below HR0_0.out HB.out));(case side2=>exact HC0_0.out);(case side3=>exact cX (Kd.C_below HR0_1.out HB.out));(case side4=>exact HC0_1.out);rintro e w22 ⟨rfl,hb⟩;refine ⟨_,rfl,?_⟩;replace BK562:=aM (bbX BK562.out hb);replace BK563:=aM (bbX BK563.out hb);replace HB:=aM (below_step (bX2 HB.out GE562.out GE563.out) hb);(try clear hb);(try clear hk);obtain ⟨hcz23_0,hcz23_1,hfz23_0,hfz23_1⟩:=f2Z BK563.out))
 refine bodyPost_ret (results_ct rfl _ _ gb563 25 #[.slice none 0 0,.slice none 0 0] (0,0) _ rfl (by(with_reducible repeat(first|refine kN ?_ _|refine kD ?_|refine kA ?_ _));refine blk_put (cs:=#[.slice none 0 0,.slice none 0 0]) ?_ 1 _ rfl;(with_reducible repeat(first|refine kN ?_ _|refine kD ?_|refine kA ?_ _));refine blk_put (cs:=#[.slice none 0 0,.slice none 0 0]) ?_ 0 _ rfl;(with_reducible repeat(first|refine kN ?_ _|refine kD ?_|refine kA ?_ _));exact BK563.out) Tryd.underlying25 rfl (by kernel_rfl)) rfl ?_
 exact ⟨_,_,eX,by first|exact Kd.R_nil _ _ _ _ _|exact Kd.N_nil _ _ _ _ _|exact Kd.V_nil _ _ _ _ _|exact Kd.Q_nil _ _ _ _ _|exact Kd.S_nil _ _ _ _ _,by first|exact Kd.R_nil _ _ _ _ _|exact Kd.N_nil _ _ _ _ _|exact Kd.V_nil _ _ _ _ _|exact Kd.Q_nil _ _ _ _ _|exact Kd.S_nil _ _ _ _ _,bX2 HB.out GE562.out GE563.out⟩
 }

/-! ### i_letterSurface: function 60 -/
def i_letterSurface.f (k:Nat) (l0_0:List Int) (l0_1:List Int) (a1:Int):Option (List Int × List Int):=if a1=84 then ((i_ShearSurface.f k l0_0 l0_1).bind fun bt574=>(some (bt574.1,bt574.2.1))) else (if a1=116 then ((i_UnshearSurface.f k l0_0 l0_1).bind fun bt581=>(some (bt581.1,bt581.2.1))) else (if a1=83 then ((i_TurnSurface.f k l0_0 l0_1).bind fun bt588=>(some (bt588.1,bt588.2.1))) else (if a1=115 then ((i_UnturnSurface.f k l0_0 l0_1).bind fun bt595=>(some (bt595.1,bt595.2.1))) else (some (([]:List Int),([]:List Int))))))
theorem i_letterSurface.calls (k:Nat) (A0_0:Option Addr) (c0_0:Nat) (l0_0:List Int) (A0_1:Option Addr) (c0_1:Nat) (l0_1:List Int) (a1:Int) (r1:List Int) (r2:List Int) (w:World) (hr0_0:Kd.C (Kd.int .i64) w A0_0 l0_0.length l0_0) (hc0_0:l0_0.length≤c0_0) (hr0_1:Kd.C (Kd.int .i64) w A0_1 l0_1.length l0_1) (hc0_1:l0_1.length≤c0_1) (h:i_letterSurface.f k l0_0 l0_1 a1=some (r1,r2)) :
  Calls Tryd.prog 60 #[.agg #[.slice A0_0 l0_0.length c0_0,.slice A0_1 l0_1.length c0_1],.int .u8 a1] w fun e w'=>∃ v0_ v1_:Value,e = .returned (.agg #[v0_,v1_])∧Kd.R (Kd.int .i64) 3 w' w.heap.size (fun k_=>some k_≠(v1_:Value).ownBlock) v0_ r1∧Kd.R (Kd.int .i64) 3 w' w.heap.size (fun k_=>some k_≠(v0_:Value).ownBlock) v1_ r2∧Below w.heap.size w w':=by
 have hu25:=Tryd.underlying25
 have HR0_0:=aM hr0_0
 have HC0_0:=aM hc0_0
 clear hr0_0 hc0_0
 have HR0_1:=aM hr0_1
 have HC0_1:=aM hc0_1
 clear hr0_1 hc0_1
 have HB:=aM (Below.refl w.heap.size w)
 have H:(if a1=84 then ((i_ShearSurface.f k l0_0 l0_1).bind fun bt574=>(some (bt574.1,bt574.2.1))) else (if a1=116 then ((i_UnshearSurface.f k l0_0 l0_1).bind fun bt581=>(some (bt581.1,bt581.2.1))) else (if a1=83 then ((i_TurnSurface.f k l0_0 l0_1).bind fun bt588=>(some (bt588.1,bt588.2.1))) else (if a1=115 then ((i_UnturnSurface.f k l0_0 l0_1).bind fun bt595=>(some (bt595.1,bt595.2.1))) else (some (([]:List Int),([]:List Int)))))))=some (r1,r2):=h
 clear h
 by_cases c3:a1=84
 {
 rw [if_pos c3] at H
 have c3b0:(a1 == 84)=true:=beq_iff_eq.mpr c3
 have c3b1:(a1 != 84)=false:=bne_eq_false_iff_eq.mpr c3
 clear c3
 replace H:=oB H
 obtain ⟨⟨t574,t577,t580⟩,A40,H⟩:=H
 replace H:(some (t574,t577))=some (r1,r2):=H
 have A4:=aM A40
 clear A40
 simp only [Option.some.injEq,Prod.mk.injEq] at H
 obtain ⟨rfl,rfl⟩:=H
 go_enter Tryd.func60,Tryd.ntmps60
 go_wp2_with (first|((with_reducible refine gate_dst (N:=2) rfl ?_);refine bEv (cs:=#[.slice A0_0 l0_0.length c0_0,.slice A0_1 l0_1.length c0_1]) (t:=25) ?_;intro gb571 hg w5 hbox hb;have BK571:=aM (hbox);have GW571:=aM ((szX (below_size (bX HB.out)) hg:w.heap.size≤gb571));have GE571:=GW571;replace HB:=aM (below_step (bX HB.out) hb);clear hb hbox hg)|((with_reducible refine gate_dst (N:=4) rfl ?_);refine bEv (cs:=#[.slice none 0 0,.slice none 0 0]) (t:=25) ?_;intro gb572 hg w6 hbox hb;have BK572:=aM (hbox);have GW572:=aM ((szX (below_size (bX1 HB.out GE571.out)) hg:w.heap.size≤gb572));have GE572:=GW572;replace HB:=aM (below_step (bX1 HB.out GE571.out) hb);have NB571_572:=aM (neX BK571.out hg);have NB572_571:=aM (nfX BK571.out hg);replace BK571:=aM (bbX BK571.out hb);clear hb hbox hg)|((with_reducible refine gate_dst (N:=5) rfl ?_);refine bEv (cs:=#[.slice none 0 0,.slice none 0 0]) (t:=25) ?_;intro gb573 hg w7 hbox hb;have BK573:=aM (hbox);have GW573:=aM ((szX (below_size (bX2 HB.out GE571.out GE572.out)) hg:w.heap.size≤gb573));have GE573:=GW573;replace HB:=aM (below_step (bX2 HB.out GE571.out GE572.out) hb);have NB571_573:=aM (neX BK571.out hg);have NB573_571:=aM (nfX BK571.out hg);replace BK571:=aM (bbX BK571.out hb);have NB572_573:=aM (neX BK572.out hg);have NB573_572:=aM (nfX BK572.out hg);replace BK572:=aM (bbX BK572.out hb);clear hb hbox hg;have hnb8:=NB573_571.out;have hnc8:=NB571_573.out;have hnb9:=NB573_572.out;have hnc9:=NB572_573.out;obtain ⟨hcz10_0,hcz10_1,hfz10_0,hfz10_1⟩:=f2Z BK573.out;have hnb11:=NB571_572.out;have hnc11:=NB572_571.out;obtain ⟨hcz12_0,hcz12_1,hfz12_0,hfz12_1⟩:=f2Z BK571.out)|((with_reducible refine gate_callee (f:=68) rfl ?_);refine goesL_ (some 12) rfl rfl Tryd.func68 (by kernel_rfl) rfl #[.agg #[.slice A0_0 l0_0.length c0_0,.slice A0_1 l0_1.length c0_1]] rfl aX ?_;(with_reducible refine(i_ShearSurface.calls k _ _ l0_0 _ _ l0_1 t574 t577 t580 _ ?side1 ?side2 ?side3 ?side4 A4.out).mono ?_);(case side1=>exact Kd.C_below HR0_0.out (bX3 HB.out GE571.out GE572.out GE573.out));(case side2=>exact HC0_0.out);(case side3=>exact Kd.C_below HR0_1.out (bX3 HB.out GE571.out GE572.out GE573.out));(case side4=>exact HC0_1.out);rintro e w13 ⟨v575,v578,rfl,ho0,ho1,hb⟩;refine ⟨_,rfl,?_⟩;have HO576:=aM (Kd.R_lower ho0 (below_size (bX3 HB.out GE571.out GE572.out GE573.out)));have HO579:=aM (Kd.R_lower ho1 (below_size (bX3 HB.out GE571.out GE572.out GE573.out)));replace BK571:=aM (blk_below (g:=gb571) (o:=.cells #[.slice A0_0 l0_0.length c0_0,.slice A0_1 l0_1.length c0_1] 25 (0,0)) (by(with_reducible repeat(first|refine kN ?_ _|refine kD ?_|refine kA ?_ _));refine blk_far ?_ NB571_573.out _;(with_reducible repeat(first|refine kN ?_ _|refine kD ?_|refine kA ?_ _));refine blk_far ?_ NB571_573.out _;(with_reducible repeat(first|refine kN ?_ _|refine kD ?_|refine kA ?_ _));exact BK571.out) hb);replace BK572:=aM (blk_below (g:=gb572) (o:=.cells #[.slice none 0 0,.slice none 0 0] 25 (0,0)) (by(with_reducible repeat(first|refine kN ?_ _|refine kD ?_|refine kA ?_ _));refine blk_far ?_ NB572_573.out _;(with_reducible repeat(first|refine kN ?_ _|refine kD ?_|refine kA ?_ _));refine blk_far ?_ NB572_573.out _;(with_reducible repeat(first|refine kN ?_ _|refine kD ?_|refine kA ?_ _));exact BK572.out) hb);replace BK573:=aM (blk_below (g:=gb573) (o:=.cells #[.slice none 0 0,.slice none 0 0] 25 (0,0)) (by(with_reducible repeat(first|refine kN ?_ _|refine kD ?_|refine kA ?_ _));refine blk_put (cs:=#[.slice none 0 0,.slice none 0 0]) ?_ 1 _ rfl;(with_reducible repeat(first|refine kN ?_ _|refine kD ?_|refine kA ?_ _));refine blk_put (cs:=#[.slice none 0 0,.slice none 0 0]) ?_ 0 _ rfl;(with_reducible repeat(first|refine kN ?_ _|refine kD ?_|refine kA ?_ _));exact BK573.out) hb);replace HB:=aM (below_step (bX3 HB.out GE571.out GE572.out GE573.out) hb);(try clear hb);(try clear hk);(try clear ho0);(try clear ho1);obtain ⟨Ao14,co14,eo14⟩:=Kd.R_slice HO576.out;subst eo14;obtain ⟨hcz15_0,hcz15_1,hfz15_0,hfz15_1⟩:=f2Z BK573.out;obtain ⟨Ao16,co16,eo16⟩:=Kd.R_slice HO579.out;subst eo16;obtain ⟨hcz17_0,hcz17_1,hfz17_0,hfz17_1⟩:=f2Z BK572.out))
 refine bodyPost_ret (results_cell_row rfl _ _ gb572 25 #[.slice Ao14 t574.length co14,.slice Ao16 t577.length co16] (0,0) _ rfl (by(with_reducible repeat(first|refine kN ?_ _|refine kD ?_|refine kA ?_ _));refine blk_put (cs:=#[.slice Ao14 t574.length co14,.slice none 0 0]) ?_ 1 _ rfl;(with_reducible repeat(first|refine kN ?_ _|refine kD ?_|refine kA ?_ _));refine blk_put (cs:=#[.slice none 0 0,.slice none 0 0]) ?_ 0 _ rfl;(with_reducible repeat(first|refine kN ?_ _|refine kD ?_|refine kA ?_ _));refine blk_far ?_ NB572_573.out _;(with_reducible repeat(first|refine kN ?_ _|refine kD ?_|refine kA ?_ _));refine blk_far ?_ NB572_573.out _;(with_reducible repeat(first|refine kN ?_ _|refine kD ?_|refine kA ?_ _));exact BK572.out) Tryd.underlying25 rfl (by kernel_rfl)) rfl ?_
 exact ⟨_,_,eX,by(with_reducible repeat(first|apply rA|apply rN|apply rD));exact Kd.R_mono (Kd.R_far (p:=⟨gb572,1,none⟩) (Kd.R_far (p:=⟨gb572,0,none⟩) (Kd.R_far (p:=⟨gb573,1,none⟩) (Kd.R_far (p:=⟨gb573,0,none⟩) (Kd.R_types (Kd.R_types HO576.out BK573.out (by decide)) BK572.out (by decide)) (fun _ hk=>hk.1.2) (.slice Ao14 t574.length co14)) (fun _ hk=>hk.1.2) (.slice Ao16 t577.length co16)) (fun _ hk=>hk.2) (.slice Ao14 t574.length co14)) (fun _ hk=>hk.2) (.slice Ao16 t577.length co16)) (fun _ hk=>hk.1.1),by(with_reducible repeat(first|apply rA|apply rN|apply rD));exact Kd.R_mono (Kd.R_far (p:=⟨gb572,1,none⟩) (Kd.R_far (p:=⟨gb572,0,none⟩) (Kd.R_far (p:=⟨gb573,1,none⟩) (Kd.R_far (p:=⟨gb573,0,none⟩) (Kd.R_types (Kd.R_types HO579.out BK573.out (by decide)) BK572.out (by decide)) (fun _ hk=>hk.1.2) (.slice Ao14 t574.length co14)) (fun _ hk=>hk.1.2) (.slice Ao16 t577.length co16)) (fun _ hk=>hk.2) (.slice Ao14 t574.length co14)) (fun _ hk=>hk.2) (.slice Ao16 t577.length co16)) (fun _ hk=>hk.1.1),bX3 HB.out GE571.out GE572.out GE573.out⟩
 }
 {
 rw [if_neg c3] at H
 have c3b0:(a1 == 84)=false:=beq_eq_false_iff_ne.mpr c3
 have c3b1:(a1 != 84)=true:=bne_iff_ne.mpr c3
 by_cases c18:a1=116
 {
 rw [if_pos c18] at H
 have c18b0:(a1 == 116)=true:=beq_iff_eq.mpr c18
 have c18b1:(a1 != 116)=false:=bne_eq_false_iff_eq.mpr c18
 clear c18
 replace H:=oB H
 obtain ⟨⟨t581,t584,t587⟩,A190,H⟩:=H
 replace H:(some (t581,t584))=some (r1,r2):=H
 have A19:=aM A190
 clear A190
 simp only [Option.some.injEq,Prod.mk.injEq] at H
 obtain ⟨rfl,rfl⟩:=H
 go_enter Tryd.func60,Tryd.ntmps60
 go_wp2_with (first|((with_reducible refine gate_dst (N:=2) rfl ?_);refine bEv (cs:=#[.slice A0_0 l0_0.length c0_0,.slice A0_1 l0_1.length c0_1]) (t:=25) ?_;intro gb571 hg w20 hbox hb;have BK571:=aM (hbox);have GW571:=aM ((szX (below_size (bX HB.out)) hg:w.heap.size≤gb571));have GE571:=GW571;replace HB:=aM (below_step (bX HB.out) hb);clear hb hbox hg)|((with_reducible refine gate_dst (N:=4) rfl ?_);refine bEv (cs:=#[.slice none 0 0,.slice none 0 0]) (t:=25) ?_;intro gb572 hg w21 hbox hb;have BK572:=aM (hbox);have GW572:=aM ((szX (below_size (bX1 HB.out GE571.out)) hg:w.heap.size≤gb572));have GE572:=GW572;replace HB:=aM (below_step (bX1 HB.out GE571.out) hb);have NB571_572:=aM (neX BK571.out hg);have NB572_571:=aM (nfX BK571.out hg);replace BK571:=aM (bbX BK571.out hb);clear hb hbox hg)|((with_reducible refine gate_dst (N:=5) rfl ?_);refine bEv (cs:=#[.slice none 0 0,.slice none 0 0]) (t:=25) ?_;intro gb573 hg w22 hbox hb;have BK573:=aM (hbox);have GW573:=aM ((szX (below_size (bX2 HB.out GE571.out GE572.out)) hg:w.heap.size≤gb573));have GE573:=GW573;replace HB:=aM (below_step (bX2 HB.out GE571.out GE572.out) hb);have NB571_573:=aM (neX BK571.out hg);have NB573_571:=aM (nfX BK571.out hg);replace BK571:=aM (bbX BK571.out hb);have NB572_573:=aM (neX BK572.out hg);have NB573_572:=aM (nfX BK572.out hg);replace BK572:=aM (bbX BK572.out hb);clear hb hbox hg;have hnb23:=NB573_571.out;have hnc23:=NB571_573.out;have hnb24:=NB573_572.out;have hnc24:=NB572_573.out;obtain ⟨hcz25_0,hcz25_1,hfz25_0,hfz25_1⟩:=f2Z BK573.out;have hnb26:=NB571_572.out;have hnc26:=NB572_571.out;obtain ⟨hcz27_0,hcz27_1,hfz27_0,hfz27_1⟩:=f2Z BK571.out)|((with_reducible refine gate_callee (f:=69) rfl ?_);refine goesL_ (some 19) rfl rfl Tryd.func69 (by kernel_rfl) rfl #[.agg #[.slice A0_0 l0_0.length c0_0,.slice A0_1 l0_1.length c0_1]] rfl aX ?_;(with_reducible refine(i_UnshearSurface.calls k _ _ l0_0 _ _ l0_1 t581 t584 t587 _ ?side1 ?side2 ?side3 ?side4 A19.out).mono ?_);(case side1=>exact Kd.C_below HR0_0.out (bX3 HB.out GE571.out GE572.out GE573.out));(case side2=>exact HC0_0.out);(case side3=>exact Kd.C_below HR0_1.out (bX3 HB.out GE571.out GE572.out GE573.out));(case side4=>exact HC0_1.out);rintro e w28 ⟨v582,v585,rfl,ho0,ho1,hb⟩;refine ⟨_,rfl,?_⟩;have HO583:=aM (Kd.R_lower ho0 (below_size (bX3 HB.out GE571.out GE572.out GE573.out)));have HO586:=aM (Kd.R_lower ho1 (below_size (bX3 HB.out GE571.out GE572.out GE573.out)));replace BK571:=aM (blk_below (g:=gb571) (o:=.cells #[.slice A0_0 l0_0.length c0_0,.slice A0_1 l0_1.length c0_1] 25 (0,0)) (by(with_reducible repeat(first|refine kN ?_ _|refine kD ?_|refine kA ?_ _));refine blk_far ?_ NB571_573.out _;(with_reducible repeat(first|refine kN ?_ _|refine kD ?_|refine kA ?_ _));refine blk_far ?_ NB571_573.out _;(with_reducible repeat(first|refine kN ?_ _|refine kD ?_|refine kA ?_ _));exact BK571.out) hb);replace BK572:=aM (blk_below (g:=gb572) (o:=.cells #[.slice none 0 0,.slice none 0 0] 25 (0,0)) (by(with_reducible repeat(first|refine kN ?_ _|refine kD ?_|refine kA ?_ _));refine blk_far ?_ NB572_573.out _;(with_reducible repeat(first|refine kN ?_ _|refine kD ?_|refine kA ?_ _));refine blk_far ?_ NB572_573.out _;(with_reducible repeat(first|refine kN ?_ _|refine kD ?_|refine kA ?_ _));exact BK572.out) hb);replace BK573:=aM (blk_below (g:=gb573) (o:=.cells #[.slice none 0 0,.slice none 0 0] 25 (0,0)) (by(with_reducible repeat(first|refine kN ?_ _|refine kD ?_|refine kA ?_ _));refine blk_put (cs:=#[.slice none 0 0,.slice none 0 0]) ?_ 1 _ rfl;(with_reducible repeat(first|refine kN ?_ _|refine kD ?_|refine kA ?_ _));refine blk_put (cs:=#[.slice none 0 0,.slice none 0 0]) ?_ 0 _ rfl;(with_reducible repeat(first|refine kN ?_ _|refine kD ?_|refine kA ?_ _));exact BK573.out) hb);replace HB:=aM (below_step (bX3 HB.out GE571.out GE572.out GE573.out) hb);(try clear hb);(try clear hk);(try clear ho0);(try clear ho1);obtain ⟨Ao29,co29,eo29⟩:=Kd.R_slice HO583.out;subst eo29;obtain ⟨hcz30_0,hcz30_1,hfz30_0,hfz30_1⟩:=f2Z BK573.out;obtain ⟨Ao31,co31,eo31⟩:=Kd.R_slice HO586.out;subst eo31;obtain ⟨hcz32_0,hcz32_1,hfz32_0,hfz32_1⟩:=f2Z BK572.out))
 refine bodyPost_ret (results_cell_row rfl _ _ gb572 25 #[.slice Ao29 t581.length co29,.slice Ao31 t584.length co31] (0,0) _ rfl (by(with_reducible repeat(first|refine kN ?_ _|refine kD ?_|refine kA ?_ _));refine blk_put (cs:=#[.slice Ao29 t581.length co29,.slice none 0 0]) ?_ 1 _ rfl;(with_reducible repeat(first|refine kN ?_ _|refine kD ?_|refine kA ?_ _));refine blk_put (cs:=#[.slice none 0 0,.slice none 0 0]) ?_ 0 _ rfl;(with_reducible repeat(first|refine kN ?_ _|refine kD ?_|refine kA ?_ _));refine blk_far ?_ NB572_573.out _;(with_reducible repeat(first|refine kN ?_ _|refine kD ?_|refine kA ?_ _));refine blk_far ?_ NB572_573.out _;(with_reducible repeat(first|refine kN ?_ _|refine kD ?_|refine kA ?_ _));exact BK572.out) Tryd.underlying25 rfl (by kernel_rfl)) rfl ?_
 exact ⟨_,_,eX,by(with_reducible repeat(first|apply rA|apply rN|apply rD));exact Kd.R_mono (Kd.R_far (p:=⟨gb572,1,none⟩) (Kd.R_far (p:=⟨gb572,0,none⟩) (Kd.R_far (p:=⟨gb573,1,none⟩) (Kd.R_far (p:=⟨gb573,0,none⟩) (Kd.R_types (Kd.R_types HO583.out BK573.out (by decide)) BK572.out (by decide)) (fun _ hk=>hk.1.2) (.slice Ao29 t581.length co29)) (fun _ hk=>hk.1.2) (.slice Ao31 t584.length co31)) (fun _ hk=>hk.2) (.slice Ao29 t581.length co29)) (fun _ hk=>hk.2) (.slice Ao31 t584.length co31)) (fun _ hk=>hk.1.1),by(with_reducible repeat(first|apply rA|apply rN|apply rD));exact Kd.R_mono (Kd.R_far (p:=⟨gb572,1,none⟩) (Kd.R_far (p:=⟨gb572,0,none⟩) (Kd.R_far (p:=⟨gb573,1,none⟩) (Kd.R_far (p:=⟨gb573,0,none⟩) (Kd.R_types (Kd.R_types HO586.out BK573.out (by decide)) BK572.out (by decide)) (fun _ hk=>hk.1.2) (.slice Ao29 t581.length co29)) (fun _ hk=>hk.1.2) (.slice Ao31 t584.length co31)) (fun _ hk=>hk.2) (.slice Ao29 t581.length co29)) (fun _ hk=>hk.2) (.slice Ao31 t584.length co31)) (fun _ hk=>hk.1.1),bX3 HB.out GE571.out GE572.out GE573.out⟩
 }
 {
 rw [if_neg c18] at H
 have c18b0:(a1 == 116)=false:=beq_eq_false_iff_ne.mpr c18
 have c18b1:(a1 != 116)=true:=bne_iff_ne.mpr c18
 by_cases c33:a1=83
 {
 rw [if_pos c33] at H
 have c33b0:(a1 == 83)=true:=beq_iff_eq.mpr c33
 have c33b1:(a1 != 83)=false:=bne_eq_false_iff_eq.mpr c33
 clear c33
 replace H:=oB H
 obtain ⟨⟨t588,t591,t594⟩,A340,H⟩:=H
 replace H:(some (t588,t591))=some (r1,r2):=H
 have A34:=aM A340
 clear A340
 simp only [Option.some.injEq,Prod.mk.injEq] at H
 obtain ⟨rfl,rfl⟩:=H
 go_enter Tryd.func60,Tryd.ntmps60
 go_wp2_with (first|((with_reducible refine gate_dst (N:=2) rfl ?_);refine bEv (cs:=#[.slice A0_0 l0_0.length c0_0,.slice A0_1 l0_1.length c0_1]) (t:=25) ?_;intro gb571 hg w35 hbox hb;have BK571:=aM (hbox);have GW571:=aM ((szX (below_size (bX HB.out)) hg:w.heap.size≤gb571));have GE571:=GW571;replace HB:=aM (below_step (bX HB.out) hb);clear hb hbox hg)|((with_reducible refine gate_dst (N:=4) rfl ?_);refine bEv (cs:=#[.slice none 0 0,.slice none 0 0]) (t:=25) ?_;intro gb572 hg w36 hbox hb;have BK572:=aM (hbox);have GW572:=aM ((szX (below_size (bX1 HB.out GE571.out)) hg:w.heap.size≤gb572));have GE572:=GW572;replace HB:=aM (below_step (bX1 HB.out GE571.out) hb);have NB571_572:=aM (neX BK571.out hg);have NB572_571:=aM (nfX BK571.out hg);replace BK571:=aM (bbX BK571.out hb);clear hb hbox hg)|((with_reducible refine gate_dst (N:=5) rfl ?_);refine bEv (cs:=#[.slice none 0 0,.slice none 0 0]) (t:=25) ?_;intro gb573 hg w37 hbox hb;have BK573:=aM (hbox);have GW573:=aM ((szX (below_size (bX2 HB.out GE571.out GE572.out)) hg:w.heap.size≤gb573));have GE573:=GW573;replace HB:=aM (below_step (bX2 HB.out GE571.out GE572.out) hb);have NB571_573:=aM (neX BK571.out hg);have NB573_571:=aM (nfX BK571.out hg);replace BK571:=aM (bbX BK571.out hb);have NB572_573:=aM (neX BK572.out hg);have NB573_572:=aM (nfX BK572.out hg);replace BK572:=aM (bbX BK572.out hb);clear hb hbox hg;have hnb38:=NB573_571.out;have hnc38:=NB571_573.out;have hnb39:=NB573_572.out;have hnc39:=NB572_573.out;obtain ⟨hcz40_0,hcz40_1,hfz40_0,hfz40_1⟩:=f2Z BK573.out;have hnb41:=NB571_572.out;have hnc41:=NB572_571.out;obtain ⟨hcz42_0,hcz42_1,hfz42_0,hfz42_1⟩:=f2Z BK571.out)|((with_reducible refine gate_callee (f:=70) rfl ?_);refine goesL_ (some 26) rfl rfl Tryd.func70 (by kernel_rfl) rfl #[.agg #[.slice A0_0 l0_0.length c0_0,.slice A0_1 l0_1.length c0_1]] rfl aX ?_;(with_reducible refine(i_TurnSurface.calls k _ _ l0_0 _ _ l0_1 t588 t591 t594 _ ?side1 ?side2 ?side3 ?side4 A34.out).mono ?_);(case side1=>exact Kd.C_below HR0_0.out (bX3 HB.out GE571.out GE572.out GE573.out));(case side2=>exact HC0_0.out);(case side3=>exact Kd.C_below HR0_1.out (bX3 HB.out GE571.out GE572.out GE573.out));(case side4=>exact HC0_1.out);rintro e w43 ⟨v589,v592,rfl,ho0,ho1,hb⟩;refine ⟨_,rfl,?_⟩;have HO590:=aM (Kd.R_lower ho0 (below_size (bX3 HB.out GE571.out GE572.out GE573.out)));have HO593:=aM (Kd.R_lower ho1 (below_size (bX3 HB.out GE571.out GE572.out GE573.out)));replace BK571:=aM (blk_below (g:=gb571) (o:=.cells #[.slice A0_0 l0_0.length c0_0,.slice A0_1 l0_1.length c0_1] 25 (0,0)) (by(with_reducible repeat(first|refine kN ?_ _|refine kD ?_|refine kA ?_ _));refine blk_far ?_ NB571_573.out _;(with_reducible repeat(first|refine kN ?_ _|refine kD ?_|refine kA ?_ _));refine blk_far ?_ NB571_573.out _;(with_reducible repeat(first|refine kN ?_ _|refine kD ?_|refine kA ?_ _));exact BK571.out) hb);replace BK572:=aM (blk_below (g:=gb572) (o:=.cells #[.slice none 0 0,.slice none 0 0] 25 (0,0)) (by(with_reducible repeat(first|refine kN ?_ _|refine kD ?_|refine kA ?_ _));refine blk_far ?_ NB572_573.out _;(with_reducible repeat(first|refine kN ?_ _|refine kD ?_|refine kA ?_ _));refine blk_far ?_ NB572_573.out _;(with_reducible repeat(first|refine kN ?_ _|refine kD ?_|refine kA ?_ _));exact BK572.out) hb);replace BK573:=aM (blk_below (g:=gb573) (o:=.cells #[.slice none 0 0,.slice none 0 0] 25 (0,0)) (by(with_reducible repeat(first|refine kN ?_ _|refine kD ?_|refine kA ?_ _));refine blk_put (cs:=#[.slice none 0 0,.slice none 0 0]) ?_ 1 _ rfl;(with_reducible repeat(first|refine kN ?_ _|refine kD ?_|refine kA ?_ _));refine blk_put (cs:=#[.slice none 0 0,.slice none 0 0]) ?_ 0 _ rfl;(with_reducible repeat(first|refine kN ?_ _|refine kD ?_|refine kA ?_ _));exact BK573.out) hb);replace HB:=aM (below_step (bX3 HB.out GE571.out GE572.out GE573.out) hb);(try clear hb);(try clear hk);(try clear ho0);(try clear ho1);obtain ⟨Ao44,co44,eo44⟩:=Kd.R_slice HO590.out;subst eo44;obtain ⟨hcz45_0,hcz45_1,hfz45_0,hfz45_1⟩:=f2Z BK573.out;obtain ⟨Ao46,co46,eo46⟩:=Kd.R_slice HO593.out;subst eo46;obtain ⟨hcz47_0,hcz47_1,hfz47_0,hfz47_1⟩:=f2Z BK572.out))
 refine bodyPost_ret (results_cell_row rfl _ _ gb572 25 #[.slice Ao44 t588.length co44,.slice Ao46 t591.length co46] (0,0) _ rfl (by(with_reducible repeat(first|refine kN ?_ _|refine kD ?_|refine kA ?_ _));refine blk_put (cs:=#[.slice Ao44 t588.length co44,.slice none 0 0]) ?_ 1 _ rfl;(with_reducible repeat(first|refine kN ?_ _|refine kD ?_|refine kA ?_ _));refine blk_put (cs:=#[.slice none 0 0,.slice none 0 0]) ?_ 0 _ rfl;(with_reducible repeat(first|refine kN ?_ _|refine kD ?_|refine kA ?_ _));refine blk_far ?_ NB572_573.out _;(with_reducible repeat(first|refine kN ?_ _|refine kD ?_|refine kA ?_ _));refine blk_far ?_ NB572_573.out _;(with_reducible repeat(first|refine kN ?_ _|refine kD ?_|refine kA ?_ _));exact BK572.out) Tryd.underlying25 rfl (by kernel_rfl)) rfl ?_
 exact ⟨_,_,eX,by(with_reducible repeat(first|apply rA|apply rN|apply rD));exact Kd.R_mono (Kd.R_far (p:=⟨gb572,1,none⟩) (Kd.R_far (p:=⟨gb572,0,none⟩) (Kd.R_far (p:=⟨gb573,1,none⟩) (Kd.R_far (p:=⟨gb573,0,none⟩) (Kd.R_types (Kd.R_types HO590.out BK573.out (by decide)) BK572.out (by decide)) (fun _ hk=>hk.1.2) (.slice Ao44 t588.length co44)) (fun _ hk=>hk.1.2) (.slice Ao46 t591.length co46)) (fun _ hk=>hk.2) (.slice Ao44 t588.length co44)) (fun _ hk=>hk.2) (.slice Ao46 t591.length co46)) (fun _ hk=>hk.1.1),by(with_reducible repeat(first|apply rA|apply rN|apply rD));exact Kd.R_mono (Kd.R_far (p:=⟨gb572,1,none⟩) (Kd.R_far (p:=⟨gb572,0,none⟩) (Kd.R_far (p:=⟨gb573,1,none⟩) (Kd.R_far (p:=⟨gb573,0,none⟩) (Kd.R_types (Kd.R_types HO593.out BK573.out (by decide)) BK572.out (by decide)) (fun _ hk=>hk.1.2) (.slice Ao44 t588.length co44)) (fun _ hk=>hk.1.2) (.slice Ao46 t591.length co46)) (fun _ hk=>hk.2) (.slice Ao44 t588.length co44)) (fun _ hk=>hk.2) (.slice Ao46 t591.length co46)) (fun _ hk=>hk.1.1),bX3 HB.out GE571.out GE572.out GE573.out⟩
 }
 {
 rw [if_neg c33] at H
 have c33b0:(a1 == 83)=false:=beq_eq_false_iff_ne.mpr c33
 have c33b1:(a1 != 83)=true:=bne_iff_ne.mpr c33
 by_cases c48:a1=115
 {
 rw [if_pos c48] at H
 have c48b0:(a1 == 115)=true:=beq_iff_eq.mpr c48
 have c48b1:(a1 != 115)=false:=bne_eq_false_iff_eq.mpr c48
 clear c48
 replace H:=oB H
 obtain ⟨⟨t595,t598,t601⟩,A490,H⟩:=H
 replace H:(some (t595,t598))=some (r1,r2):=H
 have A49:=aM A490
 clear A490
 simp only [Option.some.injEq,Prod.mk.injEq] at H
 obtain ⟨rfl,rfl⟩:=H
 go_enter Tryd.func60,Tryd.ntmps60
 go_wp2_with (first|((with_reducible refine gate_dst (N:=2) rfl ?_);refine bEv (cs:=#[.slice A0_0 l0_0.length c0_0,.slice A0_1 l0_1.length c0_1]) (t:=25) ?_;intro gb571 hg w50 hbox hb;have BK571:=aM (hbox);have GW571:=aM ((szX (below_size (bX HB.out)) hg:w.heap.size≤gb571));have GE571:=GW571;replace HB:=aM (below_step (bX HB.out) hb);clear hb hbox hg)|((with_reducible refine gate_dst (N:=4) rfl ?_);refine bEv (cs:=#[.slice none 0 0,.slice none 0 0]) (t:=25) ?_;intro gb572 hg w51 hbox hb;have BK572:=aM (hbox);have GW572:=aM ((szX (below_size (bX1 HB.out GE571.out)) hg:w.heap.size≤gb572));have GE572:=GW572;replace HB:=aM (below_step (bX1 HB.out GE571.out) hb);have NB571_572:=aM (neX BK571.out hg);have NB572_571:=aM (nfX BK571.out hg);replace BK571:=aM (bbX BK571.out hb);clear hb hbox hg)|((with_reducible refine gate_dst (N:=5) rfl ?_);refine bEv (cs:=#[.slice none 0 0,.slice none 0 0]) (t:=25) ?_;intro gb573 hg w52 hbox hb;have BK573:=aM (hbox);have GW573:=aM ((szX (below_size (bX2 HB.out GE571.out GE572.out)) hg:w.heap.size≤gb573));have GE573:=GW573;replace HB:=aM (below_step (bX2 HB.out GE571.out GE572.out) hb);have NB571_573:=aM (neX BK571.out hg);have NB573_571:=aM (nfX BK571.out hg);replace BK571:=aM (bbX BK571.out hb);have NB572_573:=aM (neX BK572.out hg);have NB573_572:=aM (nfX BK572.out hg);replace BK572:=aM (bbX BK572.out hb);clear hb hbox hg;have hnb53:=NB573_571.out;have hnc53:=NB571_573.out;have hnb54:=NB573_572.out;have hnc54:=NB572_573.out;obtain ⟨hcz55_0,hcz55_1,hfz55_0,hfz55_1⟩:=f2Z BK573.out;have hnb56:=NB571_572.out;have hnc56:=NB572_571.out;obtain ⟨hcz57_0,hcz57_1,hfz57_0,hfz57_1⟩:=f2Z BK571.out)|((with_reducible refine gate_callee (f:=71) rfl ?_);refine goesL_ (some 33) rfl rfl Tryd.func71 (by kernel_rfl) rfl #[.agg #[.slice A0_0 l0_0.length c0_0,.slice A0_1 l0_1.length c0_1]] rfl aX ?_;(with_reducible refine(i_UnturnSurface.calls k _ _ l0_0 _ _ l0_1 t595 t598 t601 _ ?side1 ?side2 ?side3 ?side4 A49.out).mono ?_);(case side1=>exact Kd.C_below HR0_0.out (bX3 HB.out GE571.out GE572.out GE573.out));(case side2=>exact HC0_0.out);(case side3=>exact Kd.C_below HR0_1.out (bX3 HB.out GE571.out GE572.out GE573.out));(case side4=>exact HC0_1.out);rintro e w58 ⟨v596,v599,rfl,ho0,ho1,hb⟩;refine ⟨_,rfl,?_⟩;have HO597:=aM (Kd.R_lower ho0 (below_size (bX3 HB.out GE571.out GE572.out GE573.out)));have HO600:=aM (Kd.R_lower ho1 (below_size (bX3 HB.out GE571.out GE572.out GE573.out)));replace BK571:=aM (blk_below (g:=gb571) (o:=.cells #[.slice A0_0 l0_0.length c0_0,.slice A0_1 l0_1.length c0_1] 25 (0,0)) (by(with_reducible repeat(first|refine kN ?_ _|refine kD ?_|refine kA ?_ _));refine blk_far ?_ NB571_573.out _;(with_reducible repeat(first|refine kN ?_ _|refine kD ?_|refine kA ?_ _));refine blk_far ?_ NB571_573.out _;(with_reducible repeat(first|refine kN ?_ _|refine kD ?_|refine kA ?_ _));exact BK571.out) hb);replace BK572:=aM (blk_below (g:=gb572) (o:=.cells #[.slice none 0 0,.slice none 0 0] 25 (0,0)) (by(with_reducible repeat(first|refine kN ?_ _|refine kD ?_|refine kA ?_ _));refine blk_far ?_ NB572_573.out _;(with_reducible repeat(first|refine kN ?_ _|refine kD ?_|refine kA ?_ _));refine blk_far ?_ NB572_573.out _;(with_reducible repeat(first|refine kN ?_ _|refine kD ?_|refine kA ?_ _));exact BK572.out) hb);replace BK573:=aM (blk_below (g:=gb573) (o:=.cells #[.slice none 0 0,.slice none 0 0] 25 (0,0)) (by(with_reducible repeat(first|refine kN ?_ _|refine kD ?_|refine kA ?_ _));refine blk_put (cs:=#[.slice none 0 0,.slice none 0 0]) ?_ 1 _ rfl;(with_reducible repeat(first|refine kN ?_ _|refine kD ?_|refine kA ?_ _));refine blk_put (cs:=#[.slice none 0 0,.slice none 0 0]) ?_ 0 _ rfl;(with_reducible repeat(first|refine kN ?_ _|refine kD ?_|refine kA ?_ _));exact BK573.out) hb);replace HB:=aM (below_step (bX3 HB.out GE571.out GE572.out GE573.out) hb);(try clear hb);(try clear hk);(try clear ho0);(try clear ho1);obtain ⟨Ao59,co59,eo59⟩:=Kd.R_slice HO597.out;subst eo59;obtain ⟨hcz60_0,hcz60_1,hfz60_0,hfz60_1⟩:=f2Z BK573.out;obtain ⟨Ao61,co61,eo61⟩:=Kd.R_slice HO600.out;subst eo61;obtain ⟨hcz62_0,hcz62_1,hfz62_0,hfz62_1⟩:=f2Z BK572.out))
 refine bodyPost_ret (results_cell_row rfl _ _ gb572 25 #[.slice Ao59 t595.length co59,.slice Ao61 t598.length co61] (0,0) _ rfl (by(with_reducible repeat(first|refine kN ?_ _|refine kD ?_|refine kA ?_ _));refine blk_put (cs:=#[.slice Ao59 t595.length co59,.slice none 0 0]) ?_ 1 _ rfl;(with_reducible repeat(first|refine kN ?_ _|refine kD ?_|refine kA ?_ _));refine blk_put (cs:=#[.slice none 0 0,.slice none 0 0]) ?_ 0 _ rfl;(with_reducible repeat(first|refine kN ?_ _|refine kD ?_|refine kA ?_ _));refine blk_far ?_ NB572_573.out _;(with_reducible repeat(first|refine kN ?_ _|refine kD ?_|refine kA ?_ _));refine blk_far ?_ NB572_573.out _;(with_reducible repeat(first|refine kN ?_ _|refine kD ?_|refine kA ?_ _));exact BK572.out) Tryd.underlying25 rfl (by kernel_rfl)) rfl ?_
 exact ⟨_,_,eX,by(with_reducible repeat(first|apply rA|apply rN|apply rD));exact Kd.R_mono (Kd.R_far (p:=⟨gb572,1,none⟩) (Kd.R_far (p:=⟨gb572,0,none⟩) (Kd.R_far (p:=⟨gb573,1,none⟩) (Kd.R_far (p:=⟨gb573,0,none⟩) (Kd.R_types (Kd.R_types HO597.out BK573.out (by decide)) BK572.out (by decide)) (fun _ hk=>hk.1.2) (.slice Ao59 t595.length co59)) (fun _ hk=>hk.1.2) (.slice Ao61 t598.length co61)) (fun _ hk=>hk.2) (.slice Ao59 t595.length co59)) (fun _ hk=>hk.2) (.slice Ao61 t598.length co61)) (fun _ hk=>hk.1.1),by(with_reducible repeat(first|apply rA|apply rN|apply rD));exact Kd.R_mono (Kd.R_far (p:=⟨gb572,1,none⟩) (Kd.R_far (p:=⟨gb572,0,none⟩) (Kd.R_far (p:=⟨gb573,1,none⟩) (Kd.R_far (p:=⟨gb573,0,none⟩) (Kd.R_types (Kd.R_types HO600.out BK573.out (by decide)) BK572.out (by decide)) (fun _ hk=>hk.1.2) (.slice Ao59 t595.length co59)) (fun _ hk=>hk.1.2) (.slice Ao61 t598.length co61)) (fun _ hk=>hk.2) (.slice Ao59 t595.length co59)) (fun _ hk=>hk.2) (.slice Ao61 t598.length co61)) (fun _ hk=>hk.1.1),bX3 HB.out GE571.out GE572.out GE573.out⟩
 }
 {
 rw [if_neg c48] at H
 have c48b0:(a1 == 115)=false:=beq_eq_false_iff_ne.mpr c48
 have c48b1:(a1 != 115)=true:=bne_iff_ne.mpr c48
 simp only [Option.some.injEq,Prod.mk.injEq] at H
 obtain ⟨rfl,rfl⟩:=H
 go_enter Tryd.func60,Tryd.ntmps60
 go_wp2_with (first|((with_reducible refine gate_dst (N:=2) rfl ?_);refine bEv (cs:=#[.slice A0_0 l0_0.length c0_0,.slice A0_1 l0_1.length c0_1]) (t:=25) ?_;intro gb571 hg w63 hbox hb;have BK571:=aM (hbox);have GW571:=aM ((szX (below_size (bX HB.out)) hg:w.heap.size≤gb571));have GE571:=GW571;replace HB:=aM (below_step (bX HB.out) hb);clear hb hbox hg)|((with_reducible refine gate_dst (N:=4) rfl ?_);refine bEv (cs:=#[.slice none 0 0,.slice none 0 0]) (t:=25) ?_;intro gb572 hg w64 hbox hb;have BK572:=aM (hbox);have GW572:=aM ((szX (below_size (bX1 HB.out GE571.out)) hg:w.heap.size≤gb572));have GE572:=GW572;replace HB:=aM (below_step (bX1 HB.out GE571.out) hb);have NB571_572:=aM (neX BK571.out hg);have NB572_571:=aM (nfX BK571.out hg);replace BK571:=aM (bbX BK571.out hb);clear hb hbox hg)|((with_reducible refine gate_dst (N:=5) rfl ?_);refine bEv (cs:=#[.slice none 0 0,.slice none 0 0]) (t:=25) ?_;intro gb573 hg w65 hbox hb;have BK573:=aM (hbox);have GW573:=aM ((szX (below_size (bX2 HB.out GE571.out GE572.out)) hg:w.heap.size≤gb573));have GE573:=GW573;replace HB:=aM (below_step (bX2 HB.out GE571.out GE572.out) hb);have NB571_573:=aM (neX BK571.out hg);have NB573_571:=aM (nfX BK571.out hg);replace BK571:=aM (bbX BK571.out hb);have NB572_573:=aM (neX BK572.out hg);have NB573_572:=aM (nfX BK572.out hg);replace BK572:=aM (bbX BK572.out hb);clear hb hbox hg;have hnb66:=NB573_571.out;have hnc66:=NB571_573.out;have hnb67:=NB573_572.out;have hnc67:=NB572_573.out;obtain ⟨hcz68_0,hcz68_1,hfz68_0,hfz68_1⟩:=f2Z BK573.out;have hnb69:=NB572_571.out;have hnc69:=NB571_572.out;obtain ⟨hcz70_0,hcz70_1,hfz70_0,hfz70_1⟩:=f2Z BK572.out))
 refine bodyPost_ret (results_cell_row rfl _ _ gb572 25 #[.slice none 0 0,.slice none 0 0] (0,0) _ rfl (by(with_reducible repeat(first|refine kN ?_ _|refine kD ?_|refine kA ?_ _));refine blk_put (cs:=#[.slice none 0 0,.slice none 0 0]) ?_ 1 _ rfl;(with_reducible repeat(first|refine kN ?_ _|refine kD ?_|refine kA ?_ _));refine blk_put (cs:=#[.slice none 0 0,.slice none 0 0]) ?_ 0 _ rfl;(with_reducible repeat(first|refine kN ?_ _|refine kD ?_|refine kA ?_ _));refine blk_far ?_ NB572_573.out _;(with_reducible repeat(first|refine kN ?_ _|refine kD ?_|refine kA ?_ _));refine blk_far ?_ NB572_573.out _;(with_reducible repeat(first|refine kN ?_ _|refine kD ?_|refine kA ?_ _));exact BK572.out) Tryd.underlying25 rfl (by kernel_rfl)) rfl ?_
 exact ⟨_,_,eX,by first|exact Kd.R_nil _ _ _ _ _|exact Kd.N_nil _ _ _ _ _|exact Kd.V_nil _ _ _ _ _|exact Kd.Q_nil _ _ _ _ _|exact Kd.S_nil _ _ _ _ _,by first|exact Kd.R_nil _ _ _ _ _|exact Kd.N_nil _ _ _ _ _|exact Kd.V_nil _ _ _ _ _|exact Kd.Q_nil _ _ _ _ _|exact Kd.S_nil _ _ _ _ _,bX3 HB.out GE571.out GE572.out GE573.out⟩
 }
 }
 }
 }

end Go.Proofs.YthhdgeafdnikcaaDoor.S
