-- PRINTED by print.py (a twelfth state) out of the translation. Not trusted: Lean checks it.
import Derived.Test.YtmhjcbcjpidegaaS0
import Derived.Test.YtmhjcbcjpidegaaS5
import Derived.Test.YtmhjcbcjpidegaaS6
namespace Go.Proofs.Ytmhjcbcjpidegaa.S
set_option maxHeartbeats 8000000
set_option maxRecDepth 100000
open Go.RowKit Go.Proofs.YtmhjcbcjpidegaaW.PrintWords Go.Proofs.YtmhjcbcjpidegaaW.PrintLast Go.Proofs.YtmhjcbcjpidegaaW.PrintMore
attribute [local go_sem] max2_int min2_int max_two min_two max_three min_three max_four min_four   -- for this text's walks alone
set_option linter.unusedVariables false
set_option linter.unusedSimpArgs false

/-! ### spec_l05Shear: function 64 -/
def spec_l05Shear.f (k:Nat) (l0_0:List Int) (l0_1:List Int):Option (List Int × List Int):=(some (([]:List Int):List Int)).bind fun y398=>(if y398.length+l0_0.length<17592186044416 then ((spec_l02Inverse.f k l0_0).bind fun t404=>((spec_l02Then.f k t404 l0_1).bind fun t407=>(some ((y398 ++ l0_0),t407)))) else (none))
def spec_l05Shear.T1 : Bool × List (List Nat × List Nat):=(true,[([],[]),([],[]),([1],[1]),([0,2],[0,2]),([],[]),([4],[4]),([5,3],[5]),([],[]),([7],[7]),([6,8,6],[6,8]),([3,9],[3,9]),([10,9,0,1,2,3,4,5,6,7,8,9,10],[10])])
def spec_l05Shear.B1 : List Nat:=[0,0,2,7,0,16,63,0,128,511,1023,2047]
theorem spec_l05Shear.tab1 : rtab .any (opsOf Try.f64 1)=spec_l05Shear.T1:=by kernel_rfl
theorem spec_l05Shear.bits1 : waitsOk spec_l05Shear.T1.2 spec_l05Shear.B1=true:=by kernel_rfl
theorem spec_l05Shear.calls (k:Nat) (A0_0:Option Addr) (c0_0:Nat) (l0_0:List Int) (A0_1:Option Addr) (c0_1:Nat) (l0_1:List Int) (r1:List Int) (r2:List Int) (w:World) (hr0_0:Kd.C (Kd.int .i64) w A0_0 l0_0.length l0_0) (hc0_0:l0_0.length≤c0_0) (hr0_1:Kd.C (Kd.int .i64) w A0_1 l0_1.length l0_1) (hc0_1:l0_1.length≤c0_1) (h:spec_l05Shear.f k l0_0 l0_1=some (r1,r2)) :
  Calls Try.prog 64 #[.agg #[.slice A0_0 l0_0.length c0_0,.slice A0_1 l0_1.length c0_1]] w fun e w'=>∃ v0_ v1_:Value,e = .returned (.agg #[v0_,v1_])∧Kd.R (Kd.int .i64) 3 w' w.heap.size (fun k_=>some k_≠(v1_:Value).ownBlock) v0_ r1∧Kd.R (Kd.int .i64) 3 w' w.heap.size (fun k_=>some k_≠(v0_:Value).ownBlock) v1_ r2∧Below w.heap.size w w':=by
 have hu27:=Try.underlying27
 have HR0_0:=aM hr0_0
 have HC0_0:=aM hc0_0
 clear hr0_0 hc0_0
 have HR0_1:=aM hr0_1
 have HC0_1:=aM hc0_1
 clear hr0_1 hc0_1
 have HB:=aM (Below.refl w.heap.size w)
 have H:((some (([]:List Int):List Int)).bind fun y398=>(if y398.length+l0_0.length<17592186044416 then ((spec_l02Inverse.f k l0_0).bind fun t404=>((spec_l02Then.f k t404 l0_1).bind fun t407=>(some ((y398 ++ l0_0),t407)))) else (none)))=some (r1,r2):=h
 clear h
 obtain ⟨y398,hy398⟩:∃ y_:List Int,y_=(([]:List Int)):=⟨_,rfl⟩
 replace H:(if y398.length+l0_0.length<17592186044416 then ((spec_l02Inverse.f k l0_0).bind fun t404=>((spec_l02Then.f k t404 l0_1).bind fun t407=>(some ((y398 ++ l0_0),t407)))) else (none))=some (r1,r2):=by first|(rw [hy398];with_reducible exact H)|(have H2_:=(Option.bind_some _ _).symm.trans H;rw [hy398];with_reducible exact H2_)|(have H2_:=(Option.bind_some _ _).symm.trans H;with_reducible exact H2_)|with_reducible exact H|(rw [hy398];exact H)|exact H
 have Ny398:=aM hy398
 clear hy398
 by_cases c2:y398.length+l0_0.length<17592186044416
 {
 rw [if_pos c2] at H
 have LMc2:=aM c2
 clear c2
 obtain ⟨y401,hy401⟩:∃ y_:List Int,y_=(y398 ++ l0_0):=⟨_,rfl⟩
 replace H:((spec_l02Inverse.f k l0_0).bind fun t404=>((spec_l02Then.f k t404 l0_1).bind fun t407=>(some (y401,t407))))=some (r1,r2):=by first|(rw [hy401];with_reducible exact H)|(have H2_:=(Option.bind_some _ _).symm.trans H;rw [hy401];with_reducible exact H2_)|(have H2_:=(Option.bind_some _ _).symm.trans H;with_reducible exact H2_)|with_reducible exact H|(rw [hy401];exact H)|exact H
 have Ny401:=aM hy401
 clear hy401
 replace H:=oB H
 obtain ⟨t404,A30,H⟩:=H
 have A3:=aM A30
 clear A30
 replace H:=oB H
 obtain ⟨t407,A40,H⟩:=H
 have A4:=aM A40
 clear A40
 simp only [Option.some.injEq,Prod.mk.injEq] at H
 obtain ⟨rfl,rfl⟩:=H
 go_enter Try.func64,Try.ntmps64
 try go_wp2_with (first|((with_reducible refine gate_dst (N:=1) rfl ?_);refine bEv (cs:=#[.slice A0_0 l0_0.length c0_0,.slice A0_1 l0_1.length c0_1]) (t:=27) ?_;intro gb396 hg w5 hbox hb;have BK396:=aM (hbox);have GW396:=aM ((szX (below_size (bX HB.out)) hg:w.heap.size≤gb396));have GE396:=GW396;replace HB:=aM (below_step (bX HB.out) hb);clear hb hbox hg)|((with_reducible refine gate_dst (N:=2) rfl ?_);refine bEv (cs:=#[.slice none 0 0,.slice none 0 0]) (t:=27) ?_;intro gb397 hg w6 hbox hb;have BK397:=aM (hbox);have GW397:=aM ((szX (below_size (bX1 HB.out GE396.out)) hg:w.heap.size≤gb397));have GE397:=GW397;replace HB:=aM (below_step (bX1 HB.out GE396.out) hb);have NB396_397:=aM (neX BK396.out hg);have NB397_396:=aM (nfX BK396.out hg);replace BK396:=aM (bbX BK396.out hb);clear hb hbox hg))
 replace BK396:=aM (blk_drew BK396.out)
 replace BK397:=aM (blk_drew BK397.out)
 replace HB:=aM (below_drew1 HB.out)
 refine start_ (n:=12) (S:=fun w'=>w'.cell? ⟨gb396,0,none⟩=some (.slice A0_0 l0_0.length c0_0)∧w'.cell? ⟨gb396,1,none⟩=some (.slice A0_1 l0_1.length c0_1)) (ds:=[]) #[ff,ff,ff,ff,ff,ff,ff,ff,ff,ff,ff,ff] (by kernel_rfl) rfl rfl ⟨cz20 BK396.out,cz21 BK396.out⟩ (fun hHeld => ?_);refine with_tabW spec_l05Shear.tab1 spec_l05Shear.bits1 (fun HT_ HW_ => ?_)
 generalize w6.drew=w7 at BK396 BK397 HB hHeld ⊢
 refine pX 1 4 (fl 12 2) rfl rfl HT_.out ?_
 refine pX 4 7 (fl 12 18) rfl rfl HT_.out ?_
 refine pX 7 10 (fl 12 146) rfl rfl HT_.out ?_
 refine tX2 2 5 (fl 12 150) rfl rfl HT_.out HW_.out hHeld ?_
 refine tX2 5 8 (fl 12 182) rfl rfl HT_.out HW_.out hHeld ?_
 refine tX2 8 11 (fl 12 438) rfl rfl HT_.out HW_.out hHeld ?_
 refine one_ (i:=0) (N:=some 3) #[tt,tt,tt,ff,tt,tt,ff,tt,tt,ff,ff,ff] rfl rfl (one_of HT_.out (by kernel_rfl)) (by decide) (fun K hK => ?_)
 refine Kd.R_lit_step (Kd.int .i64) _ 3 ?hg (N:=3) ?hd (xs:=([]:List Int)) (inner:=[]) (ok:=fun _=>True) (okp:=fun _=>True) ?hr ?hp (fun _ hk=>hk) trivial (Below.refl _ _) (Nat.le_refl _) (by simp) ?_;(case hd=>rfl);(case hg=>rfl);(case hr=>first|(go_simp;done)|(go_simp;rfl));(case hp=>exact(Reps.none _ _))
 intro v399 w8 ho9 hb hg_ hnew_
 clear hg_ hnew_
 (first|rw [← Ny398.out] at ho9|(simp only [Int.reduceToNat] at ho9;rw [← Ny398.out] at ho9))
 have HO400:=aM (Kd.R_lower ho9 (below_size (bX2 HB.out GE396.out GE397.out)))
 replace BK396:=aM (bbX BK396.out hb)
 replace BK397:=aM (bbX BK397.out hb)
 replace HB:=aM (below_step (bX2 HB.out GE396.out GE397.out) hb)
 clear hb ho9
 refine hK.out _ _ ⟨cz20 BK396.out,cz21 BK396.out⟩ (fun hHeld => ?_)
 clear hK K
 refine norm_ (a':=?_) ?_ ?_
 rotate_left
 {
 show Act.put _ (some 3) _=_
 simp only [Act.put,zA,zB,zC,i64_w,i32_w]
 rfl
 }
 refine one_ (i:=3) (N:=some 6) #[tt,tt,tt,tt,tt,tt,ff,tt,tt,ff,ff,ff] rfl rfl (one_of HT_.out (by kernel_rfl)) (by decide) (fun K hK => ?_)
 refine Kd.R_append_rows_step (Kd.int .i64) (w0:=w) w.heap.size (by rfl) (.tmp 3) (.tmp 5) 22 3 (.int .i64 0) 8 rfl Try.underlying22 info3 rfl (by decide) (by omega) v399 y398 l0_0 _ _ _ (fun _=>True) (fun _=>False) rfl rfl ?aO ?aR (fun _ _ h=>h) (fun _ h=>h.elim) ?aF ?aB ?aS ?aL ?_
 (case aR=>exact cX (Kd.C_below HR0_0.out HB.out))
 (case aB=>exact(bX2 HB.out GE396.out GE397.out))
 (case aF=>exact(fun _ _=>trivial))
 (case aO=>exact(rX HO400.out))
 (case aS=>exact(below_size (bX2 HB.out GE396.out GE397.out)))
 (case aL=>have:=LMc2.out;omega)
 intro v402 w10 ho hb hg hat
 rw [← Ny401.out] at ho
 replace BK396:=aM (bgX BK396.out hg (Kd.R_ne HO400.out BK396.out (by decide)))
 replace BK397:=aM (bgX BK397.out hg (Kd.R_ne HO400.out BK397.out (by decide)))
 replace HB:=aM (hb)
 have HO403:=aM (ho)
 clear HO400 ho hb hg hat
 refine hK.out _ _ ⟨cz20 BK396.out,cz21 BK396.out⟩ (fun hHeld => ?_)
 clear hK K
 refine norm_ (a':=?_) ?_ ?_
 rotate_left
 {
 show Act.put _ (some 6) _=_
 simp only [Act.put,zA,zB,zC,i64_w,i32_w]
 rfl
 }
 refine one_ (i:=6) (N:=some 9) #[tt,tt,tt,tt,tt,tt,tt,tt,tt,ff,ff,ff] rfl rfl (one_of HT_.out (by kernel_rfl)) (by decide) (fun K hK => ?_)
 refine goes_ Try.func100 (by kernel_rfl) rfl #[.slice A0_0 l0_0.length c0_0] (by rfl) rfl rfl aX ?_
 with_reducible refine(spec_l02Inverse.calls k _ _ l0_0 t404 _ ?side1 ?side2 A3.out).mono ?_
 (case side1=>exact cX (Kd.C_below HR0_0.out HB.out))
 (case side2=>exact HC0_0.out)
 rintro e w11 ⟨v405,rfl,ho0,hb⟩
 refine ⟨_,rfl,?_⟩
 have HO406:=aM (Kd.R_lower (Kd.R_new' ho0 (Kd.R_lt (rX HO403.out))) (below_size (bX2 HB.out GE396.out GE397.out)))
 replace HO403:=aM (Kd.R_elder' (rX HO403.out) (Kd.R_base ho0) hb)
 replace BK396:=aM (bbX BK396.out hb)
 replace BK397:=aM (bbX BK397.out hb)
 replace HB:=aM (below_step (bX2 HB.out GE396.out GE397.out) hb)
 (try clear hb)
 (try clear hk)
 (try clear ho0)
 obtain ⟨Ao12,co12,eo12⟩:=Kd.R_slice HO406.out
 (first|subst eo12|(injection eo12 with f1_ f2_ f3_;have f4_:=f1_.symm;have f5_:=f3_.symm;clear f1_ f2_ f3_;subst f4_;subst f5_))
 refine hK.out _ _ ⟨cz20 BK396.out,cz21 BK396.out⟩ (fun hHeld => ?_)
 clear hK K
 refine norm_ (a':=?_) ?_ ?_
 rotate_left
 {
 show Act.put _ (some 9) _=_
 simp only [Act.put,zA,zB,zC,i64_w,i32_w]
 rfl
 }
 refine one_ (i:=9) (N:=some 12) #[tt,tt,tt,tt,tt,tt,tt,tt,tt,tt,ff,ff] rfl rfl (one_of HT_.out (by kernel_rfl)) (by decide) (fun K hK => ?_)
 refine goes_ Try.func102 (by kernel_rfl) rfl #[.slice Ao12 t404.length co12,.slice A0_1 l0_1.length c0_1] (by rfl) rfl rfl aX ?_
 with_reducible refine(spec_l02Then.calls k _ _ t404 _ _ l0_1 t407 _ ?side1 ?side2 ?side3 ?side4 A4.out).mono ?_
 (case side1=>exact cX (Kd.R_reads' HO406.out).2.2)
 (case side2=>exact(Kd.R_reads' HO406.out).2.1)
 (case side3=>exact cX (Kd.C_below HR0_1.out HB.out))
 (case side4=>exact HC0_1.out)
 rintro e w13 ⟨v408,rfl,ho0,hb⟩
 refine ⟨_,rfl,?_⟩
 have HO409:=aM (Kd.R_lower (Kd.R_new' (Kd.R_new' ho0 (Kd.R_lt (rX HO403.out))) (Kd.R_lt (rX HO406.out))) (below_size (bX2 HB.out GE396.out GE397.out)))
 replace HO403:=aM (Kd.R_elder' (rX HO403.out) (Kd.R_base ho0) hb)
 replace HO406:=aM (Kd.R_elder' (rX HO406.out) (Kd.R_base ho0) hb)
 replace BK396:=aM (bbX BK396.out hb)
 replace BK397:=aM (bbX BK397.out hb)
 replace HB:=aM (below_step (bX2 HB.out GE396.out GE397.out) hb)
 (try clear hb)
 (try clear hk)
 (try clear ho0)
 obtain ⟨Ao14,co14,eo14⟩:=Kd.R_slice HO409.out
 (first|subst eo14|(injection eo14 with f1_ f2_ f3_;have f4_:=f1_.symm;have f5_:=f3_.symm;clear f1_ f2_ f3_;subst f4_;subst f5_))
 obtain ⟨Ao15,co15,eo15⟩:=Kd.R_slice HO403.out
 (first|subst eo15|(injection eo15 with f1_ f2_ f3_;have f4_:=f1_.symm;have f5_:=f3_.symm;clear f1_ f2_ f3_;subst f4_;subst f5_))
 refine hK.out _ _ ⟨cz20 BK396.out,cz21 BK396.out⟩ (fun hHeld => ?_)
 clear hK K
 refine norm_ (a':=?_) ?_ ?_
 rotate_left
 {
 show Act.put _ (some 12) _=_
 simp only [Act.put,zA,zB,zC,i64_w,i32_w]
 rfl
 }
 refine pX 10 13 (fl 12 2047) rfl rfl HT_.out ?_
 refine one_ (i:=11) (N:=none) #[tt,tt,tt,tt,tt,tt,tt,tt,tt,tt,tt,tt] rfl rfl (one_of HT_.out (by kernel_rfl)) (by decide) (fun K hK => ?_)
 have hs16:w13.cell? ⟨gb397,0,none⟩=some (.slice none 0 0):=cz20 BK397.out
 have hfs16:=blk_frozen BK397.out 0
 have hns16_0:=NB396_397.out
 have hms16_0:=NB397_396.out
 have hs17:w13.cell? ⟨gb397,1,none⟩=some (.slice none 0 0):=cz21 BK397.out
 have hfs17:=blk_frozen BK397.out 1
 have hns17_0:=NB396_397.out
 have hms17_0:=NB397_396.out
 refine skip_ (w1:=?_) (by rfl) rfl ?_ ?_
 rotate_left
 {
 go_simp
 rfl
 }
 refine hK.out _ _ ⟨((cell_far (p:=⟨gb397,_,none⟩) NB396_397.out _).trans (((cell_far (p:=⟨gb397,_,none⟩) NB396_397.out _).trans (hHeld.1)))),((cell_far (p:=⟨gb397,_,none⟩) NB396_397.out _).trans (((cell_far (p:=⟨gb397,_,none⟩) NB396_397.out _).trans (hHeld.2))))⟩ (fun hHeld => ?_)
 clear hK K
 refine done_ (done_of HT_.out (by kernel_rfl)) ?_
 try go_wp2
 refine bodyPost_ret (results_cell_row rfl _ _ gb397 27 #[.slice Ao15 y401.length co15,.slice Ao14 t407.length co14] (0,0) _ rfl (by(with_reducible repeat(first|refine kN ?_ _|refine kD ?_|refine kA ?_ _));refine blk_put (cs:=#[.slice Ao15 y401.length co15,.slice none 0 0]) ?_ 1 _ rfl;(with_reducible repeat(first|refine kN ?_ _|refine kD ?_|refine kA ?_ _));refine blk_put (cs:=#[.slice none 0 0,.slice none 0 0]) ?_ 0 _ rfl;(with_reducible repeat(first|refine kN ?_ _|refine kD ?_|refine kA ?_ _));exact BK397.out) Try.underlying27 rfl (by kernel_rfl)) rfl ?_
 exact ⟨_,_,eX,by(with_reducible repeat(first|apply rA|apply rN|apply rD));exact Kd.R_mono (Kd.R_far (p:=⟨gb397,1,none⟩) (Kd.R_far (p:=⟨gb397,0,none⟩) (Kd.R_types HO403.out BK397.out (by decide)) (fun _ hk=>hk.2) (.slice Ao15 y401.length co15)) (fun _ hk=>hk.2) (.slice Ao14 t407.length co14)) (fun _ hk=>hk.1.2),by(with_reducible repeat(first|apply rA|apply rN|apply rD));exact Kd.R_mono (Kd.R_far (p:=⟨gb397,1,none⟩) (Kd.R_far (p:=⟨gb397,0,none⟩) (Kd.R_types HO409.out BK397.out (by decide)) (fun _ hk=>hk.2) (.slice Ao15 y401.length co15)) (fun _ hk=>hk.2) (.slice Ao14 t407.length co14)) (fun _ hk=>hk.1.1.2),bX2 HB.out GE396.out GE397.out⟩
 }
 {
 rw [if_neg c2] at H
 exact absurd H (by simp)
 }

/-! ### spec_l05Unshear: function 65 -/
def spec_l05Unshear.f (k:Nat) (l0_0:List Int) (l0_1:List Int):Option (List Int × List Int):=(some (([]:List Int):List Int)).bind fun y412=>(if y412.length+l0_0.length<17592186044416 then ((spec_l02Then.f k l0_0 l0_1).bind fun t418=>(some ((y412 ++ l0_0),t418))) else (none))
def spec_l05Unshear.T1 : Bool × List (List Nat × List Nat):=(true,[([],[]),([],[]),([1],[1]),([0,2],[0,2]),([],[]),([4],[4]),([],[]),([6],[6]),([5,7,3],[5,7]),([3,8],[3,8]),([9,8,0,1,2,3,4,5,6,7,8,9],[9])])
def spec_l05Unshear.B1 : List Nat:=[0,0,2,7,0,16,0,64,255,511,1023]
theorem spec_l05Unshear.tab1 : rtab .any (opsOf Try.f65 1)=spec_l05Unshear.T1:=by kernel_rfl
theorem spec_l05Unshear.bits1 : waitsOk spec_l05Unshear.T1.2 spec_l05Unshear.B1=true:=by kernel_rfl
theorem spec_l05Unshear.calls (k:Nat) (A0_0:Option Addr) (c0_0:Nat) (l0_0:List Int) (A0_1:Option Addr) (c0_1:Nat) (l0_1:List Int) (r1:List Int) (r2:List Int) (w:World) (hr0_0:Kd.C (Kd.int .i64) w A0_0 l0_0.length l0_0) (hc0_0:l0_0.length≤c0_0) (hr0_1:Kd.C (Kd.int .i64) w A0_1 l0_1.length l0_1) (hc0_1:l0_1.length≤c0_1) (h:spec_l05Unshear.f k l0_0 l0_1=some (r1,r2)) :
  Calls Try.prog 65 #[.agg #[.slice A0_0 l0_0.length c0_0,.slice A0_1 l0_1.length c0_1]] w fun e w'=>∃ v0_ v1_:Value,e = .returned (.agg #[v0_,v1_])∧Kd.R (Kd.int .i64) 3 w' w.heap.size (fun k_=>some k_≠(v1_:Value).ownBlock) v0_ r1∧Kd.R (Kd.int .i64) 3 w' w.heap.size (fun k_=>some k_≠(v0_:Value).ownBlock) v1_ r2∧Below w.heap.size w w':=by
 have hu27:=Try.underlying27
 have HR0_0:=aM hr0_0
 have HC0_0:=aM hc0_0
 clear hr0_0 hc0_0
 have HR0_1:=aM hr0_1
 have HC0_1:=aM hc0_1
 clear hr0_1 hc0_1
 have HB:=aM (Below.refl w.heap.size w)
 have H:((some (([]:List Int):List Int)).bind fun y412=>(if y412.length+l0_0.length<17592186044416 then ((spec_l02Then.f k l0_0 l0_1).bind fun t418=>(some ((y412 ++ l0_0),t418))) else (none)))=some (r1,r2):=h
 clear h
 obtain ⟨y412,hy412⟩:∃ y_:List Int,y_=(([]:List Int)):=⟨_,rfl⟩
 replace H:(if y412.length+l0_0.length<17592186044416 then ((spec_l02Then.f k l0_0 l0_1).bind fun t418=>(some ((y412 ++ l0_0),t418))) else (none))=some (r1,r2):=by first|(rw [hy412];with_reducible exact H)|(have H2_:=(Option.bind_some _ _).symm.trans H;rw [hy412];with_reducible exact H2_)|(have H2_:=(Option.bind_some _ _).symm.trans H;with_reducible exact H2_)|with_reducible exact H|(rw [hy412];exact H)|exact H
 have Ny412:=aM hy412
 clear hy412
 by_cases c2:y412.length+l0_0.length<17592186044416
 {
 rw [if_pos c2] at H
 have LMc2:=aM c2
 clear c2
 obtain ⟨y415,hy415⟩:∃ y_:List Int,y_=(y412 ++ l0_0):=⟨_,rfl⟩
 replace H:((spec_l02Then.f k l0_0 l0_1).bind fun t418=>(some (y415,t418)))=some (r1,r2):=by first|(rw [hy415];with_reducible exact H)|(have H2_:=(Option.bind_some _ _).symm.trans H;rw [hy415];with_reducible exact H2_)|(have H2_:=(Option.bind_some _ _).symm.trans H;with_reducible exact H2_)|with_reducible exact H|(rw [hy415];exact H)|exact H
 have Ny415:=aM hy415
 clear hy415
 replace H:=oB H
 obtain ⟨t418,A30,H⟩:=H
 have A3:=aM A30
 clear A30
 simp only [Option.some.injEq,Prod.mk.injEq] at H
 obtain ⟨rfl,rfl⟩:=H
 go_enter Try.func65,Try.ntmps65
 try go_wp2_with (first|((with_reducible refine gate_dst (N:=1) rfl ?_);refine bEv (cs:=#[.slice A0_0 l0_0.length c0_0,.slice A0_1 l0_1.length c0_1]) (t:=27) ?_;intro gb410 hg w4 hbox hb;have BK410:=aM (hbox);have GW410:=aM ((szX (below_size (bX HB.out)) hg:w.heap.size≤gb410));have GE410:=GW410;replace HB:=aM (below_step (bX HB.out) hb);clear hb hbox hg)|((with_reducible refine gate_dst (N:=2) rfl ?_);refine bEv (cs:=#[.slice none 0 0,.slice none 0 0]) (t:=27) ?_;intro gb411 hg w5 hbox hb;have BK411:=aM (hbox);have GW411:=aM ((szX (below_size (bX1 HB.out GE410.out)) hg:w.heap.size≤gb411));have GE411:=GW411;replace HB:=aM (below_step (bX1 HB.out GE410.out) hb);have NB410_411:=aM (neX BK410.out hg);have NB411_410:=aM (nfX BK410.out hg);replace BK410:=aM (bbX BK410.out hb);clear hb hbox hg))
 replace BK410:=aM (blk_drew BK410.out)
 replace BK411:=aM (blk_drew BK411.out)
 replace HB:=aM (below_drew1 HB.out)
 refine start_ (n:=11) (S:=fun w'=>w'.cell? ⟨gb410,0,none⟩=some (.slice A0_0 l0_0.length c0_0)∧w'.cell? ⟨gb410,1,none⟩=some (.slice A0_1 l0_1.length c0_1)) (ds:=[]) #[ff,ff,ff,ff,ff,ff,ff,ff,ff,ff,ff] (by kernel_rfl) rfl rfl ⟨cz20 BK410.out,cz21 BK410.out⟩ (fun hHeld => ?_);refine with_tabW spec_l05Unshear.tab1 spec_l05Unshear.bits1 (fun HT_ HW_ => ?_)
 generalize w5.drew=w6 at BK410 BK411 HB hHeld ⊢
 refine pX 1 4 (fl 11 2) rfl rfl HT_.out ?_
 refine pX 4 7 (fl 11 18) rfl rfl HT_.out ?_
 refine pX 6 9 (fl 11 82) rfl rfl HT_.out ?_
 refine tX2 2 5 (fl 11 86) rfl rfl HT_.out HW_.out hHeld ?_
 refine tX2 5 8 (fl 11 118) rfl rfl HT_.out HW_.out hHeld ?_
 refine tX2 7 10 (fl 11 246) rfl rfl HT_.out HW_.out hHeld ?_
 refine one_ (i:=0) (N:=some 3) #[tt,tt,tt,ff,tt,tt,tt,tt,ff,ff,ff] rfl rfl (one_of HT_.out (by kernel_rfl)) (by decide) (fun K hK => ?_)
 refine Kd.R_lit_step (Kd.int .i64) _ 3 ?hg (N:=3) ?hd (xs:=([]:List Int)) (inner:=[]) (ok:=fun _=>True) (okp:=fun _=>True) ?hr ?hp (fun _ hk=>hk) trivial (Below.refl _ _) (Nat.le_refl _) (by simp) ?_;(case hd=>rfl);(case hg=>rfl);(case hr=>first|(go_simp;done)|(go_simp;rfl));(case hp=>exact(Reps.none _ _))
 intro v413 w7 ho8 hb hg_ hnew_
 clear hg_ hnew_
 (first|rw [← Ny412.out] at ho8|(simp only [Int.reduceToNat] at ho8;rw [← Ny412.out] at ho8))
 have HO414:=aM (Kd.R_lower ho8 (below_size (bX2 HB.out GE410.out GE411.out)))
 replace BK410:=aM (bbX BK410.out hb)
 replace BK411:=aM (bbX BK411.out hb)
 replace HB:=aM (below_step (bX2 HB.out GE410.out GE411.out) hb)
 clear hb ho8
 refine hK.out _ _ ⟨cz20 BK410.out,cz21 BK410.out⟩ (fun hHeld => ?_)
 clear hK K
 refine norm_ (a':=?_) ?_ ?_
 rotate_left
 {
 show Act.put _ (some 3) _=_
 simp only [Act.put,zA,zB,zC,i64_w,i32_w]
 rfl
 }
 refine one_ (i:=3) (N:=some 6) #[tt,tt,tt,tt,tt,tt,tt,tt,ff,ff,ff] rfl rfl (one_of HT_.out (by kernel_rfl)) (by decide) (fun K hK => ?_)
 refine Kd.R_append_rows_step (Kd.int .i64) (w0:=w) w.heap.size (by rfl) (.tmp 3) (.tmp 5) 22 3 (.int .i64 0) 8 rfl Try.underlying22 info3 rfl (by decide) (by omega) v413 y412 l0_0 _ _ _ (fun _=>True) (fun _=>False) rfl rfl ?aO ?aR (fun _ _ h=>h) (fun _ h=>h.elim) ?aF ?aB ?aS ?aL ?_
 (case aR=>exact cX (Kd.C_below HR0_0.out HB.out))
 (case aB=>exact(bX2 HB.out GE410.out GE411.out))
 (case aF=>exact(fun _ _=>trivial))
 (case aO=>exact(rX HO414.out))
 (case aS=>exact(below_size (bX2 HB.out GE410.out GE411.out)))
 (case aL=>have:=LMc2.out;omega)
 intro v416 w9 ho hb hg hat
 rw [← Ny415.out] at ho
 replace BK410:=aM (bgX BK410.out hg (Kd.R_ne HO414.out BK410.out (by decide)))
 replace BK411:=aM (bgX BK411.out hg (Kd.R_ne HO414.out BK411.out (by decide)))
 replace HB:=aM (hb)
 have HO417:=aM (ho)
 clear HO414 ho hb hg hat
 refine hK.out _ _ ⟨cz20 BK410.out,cz21 BK410.out⟩ (fun hHeld => ?_)
 clear hK K
 refine norm_ (a':=?_) ?_ ?_
 rotate_left
 {
 show Act.put _ (some 6) _=_
 simp only [Act.put,zA,zB,zC,i64_w,i32_w]
 rfl
 }
 refine one_ (i:=8) (N:=some 11) #[tt,tt,tt,tt,tt,tt,tt,tt,tt,ff,ff] rfl rfl (one_of HT_.out (by kernel_rfl)) (by decide) (fun K hK => ?_)
 refine goes_ Try.func102 (by kernel_rfl) rfl #[.slice A0_0 l0_0.length c0_0,.slice A0_1 l0_1.length c0_1] (by rfl) rfl rfl aX ?_
 with_reducible refine(spec_l02Then.calls k _ _ l0_0 _ _ l0_1 t418 _ ?side1 ?side2 ?side3 ?side4 A3.out).mono ?_
 (case side1=>exact cX (Kd.C_below HR0_0.out HB.out))
 (case side2=>exact HC0_0.out)
 (case side3=>exact cX (Kd.C_below HR0_1.out HB.out))
 (case side4=>exact HC0_1.out)
 rintro e w10 ⟨v419,rfl,ho0,hb⟩
 refine ⟨_,rfl,?_⟩
 have HO420:=aM (Kd.R_lower (Kd.R_new' ho0 (Kd.R_lt (rX HO417.out))) (below_size (bX2 HB.out GE410.out GE411.out)))
 replace HO417:=aM (Kd.R_elder' (rX HO417.out) (Kd.R_base ho0) hb)
 replace BK410:=aM (bbX BK410.out hb)
 replace BK411:=aM (bbX BK411.out hb)
 replace HB:=aM (below_step (bX2 HB.out GE410.out GE411.out) hb)
 (try clear hb)
 (try clear hk)
 (try clear ho0)
 obtain ⟨Ao11,co11,eo11⟩:=Kd.R_slice HO420.out
 (first|subst eo11|(injection eo11 with f1_ f2_ f3_;have f4_:=f1_.symm;have f5_:=f3_.symm;clear f1_ f2_ f3_;subst f4_;subst f5_))
 obtain ⟨Ao12,co12,eo12⟩:=Kd.R_slice HO417.out
 (first|subst eo12|(injection eo12 with f1_ f2_ f3_;have f4_:=f1_.symm;have f5_:=f3_.symm;clear f1_ f2_ f3_;subst f4_;subst f5_))
 refine hK.out _ _ ⟨cz20 BK410.out,cz21 BK410.out⟩ (fun hHeld => ?_)
 clear hK K
 refine norm_ (a':=?_) ?_ ?_
 rotate_left
 {
 show Act.put _ (some 11) _=_
 simp only [Act.put,zA,zB,zC,i64_w,i32_w]
 rfl
 }
 refine pX 9 12 (fl 11 1023) rfl rfl HT_.out ?_
 refine one_ (i:=10) (N:=none) #[tt,tt,tt,tt,tt,tt,tt,tt,tt,tt,tt] rfl rfl (one_of HT_.out (by kernel_rfl)) (by decide) (fun K hK => ?_)
 have hs13:w10.cell? ⟨gb411,0,none⟩=some (.slice none 0 0):=cz20 BK411.out
 have hfs13:=blk_frozen BK411.out 0
 have hns13_0:=NB410_411.out
 have hms13_0:=NB411_410.out
 have hs14:w10.cell? ⟨gb411,1,none⟩=some (.slice none 0 0):=cz21 BK411.out
 have hfs14:=blk_frozen BK411.out 1
 have hns14_0:=NB410_411.out
 have hms14_0:=NB411_410.out
 refine skip_ (w1:=?_) (by rfl) rfl ?_ ?_
 rotate_left
 {
 go_simp
 rfl
 }
 refine hK.out _ _ ⟨((cell_far (p:=⟨gb411,_,none⟩) NB410_411.out _).trans (((cell_far (p:=⟨gb411,_,none⟩) NB410_411.out _).trans (hHeld.1)))),((cell_far (p:=⟨gb411,_,none⟩) NB410_411.out _).trans (((cell_far (p:=⟨gb411,_,none⟩) NB410_411.out _).trans (hHeld.2))))⟩ (fun hHeld => ?_)
 clear hK K
 refine done_ (done_of HT_.out (by kernel_rfl)) ?_
 try go_wp2
 refine bodyPost_ret (results_cell_row rfl _ _ gb411 27 #[.slice Ao12 y415.length co12,.slice Ao11 t418.length co11] (0,0) _ rfl (by(with_reducible repeat(first|refine kN ?_ _|refine kD ?_|refine kA ?_ _));refine blk_put (cs:=#[.slice Ao12 y415.length co12,.slice none 0 0]) ?_ 1 _ rfl;(with_reducible repeat(first|refine kN ?_ _|refine kD ?_|refine kA ?_ _));refine blk_put (cs:=#[.slice none 0 0,.slice none 0 0]) ?_ 0 _ rfl;(with_reducible repeat(first|refine kN ?_ _|refine kD ?_|refine kA ?_ _));exact BK411.out) Try.underlying27 rfl (by kernel_rfl)) rfl ?_
 exact ⟨_,_,eX,by(with_reducible repeat(first|apply rA|apply rN|apply rD));exact Kd.R_mono (Kd.R_far (p:=⟨gb411,1,none⟩) (Kd.R_far (p:=⟨gb411,0,none⟩) (Kd.R_types HO417.out BK411.out (by decide)) (fun _ hk=>hk.2) (.slice Ao12 y415.length co12)) (fun _ hk=>hk.2) (.slice Ao11 t418.length co11)) (fun _ hk=>hk.1.2),by(with_reducible repeat(first|apply rA|apply rN|apply rD));exact Kd.R_mono (Kd.R_far (p:=⟨gb411,1,none⟩) (Kd.R_far (p:=⟨gb411,0,none⟩) (Kd.R_types HO420.out BK411.out (by decide)) (fun _ hk=>hk.2) (.slice Ao12 y415.length co12)) (fun _ hk=>hk.2) (.slice Ao11 t418.length co11)) (fun _ hk=>hk.1.2),bX2 HB.out GE410.out GE411.out⟩
 }
 {
 rw [if_neg c2] at H
 exact absurd H (by simp)
 }

/-! ### spec_l05Turn: function 66 -/
def spec_l05Turn.f (k:Nat) (l0_0:List Int) (l0_1:List Int):Option (List Int × List Int):=(spec_l02Inverse.f k l0_1).bind fun t423=>((some (([]:List Int):List Int)).bind fun y426=>(if y426.length+l0_0.length<17592186044416 then (some (t423,(y426 ++ l0_0))) else (none)))
def spec_l05Turn.T1 : Bool × List (List Nat × List Nat):=(true,[([],[]),([0],[0]),([1],[1]),([],[]),([],[]),([4],[4]),([3,5,2],[3,5]),([2,6],[2,6]),([7,6,0,1,2,3,4,5,6,7],[7])])
def spec_l05Turn.B1 : List Nat:=[0,1,3,0,0,16,63,127,255]
theorem spec_l05Turn.tab1 : rtab .any (opsOf Try.f66 1)=spec_l05Turn.T1:=by kernel_rfl
theorem spec_l05Turn.bits1 : waitsOk spec_l05Turn.T1.2 spec_l05Turn.B1=true:=by kernel_rfl
theorem spec_l05Turn.calls (k:Nat) (A0_0:Option Addr) (c0_0:Nat) (l0_0:List Int) (A0_1:Option Addr) (c0_1:Nat) (l0_1:List Int) (r1:List Int) (r2:List Int) (w:World) (hr0_0:Kd.C (Kd.int .i64) w A0_0 l0_0.length l0_0) (hc0_0:l0_0.length≤c0_0) (hr0_1:Kd.C (Kd.int .i64) w A0_1 l0_1.length l0_1) (hc0_1:l0_1.length≤c0_1) (h:spec_l05Turn.f k l0_0 l0_1=some (r1,r2)) :
  Calls Try.prog 66 #[.agg #[.slice A0_0 l0_0.length c0_0,.slice A0_1 l0_1.length c0_1]] w fun e w'=>∃ v0_ v1_:Value,e = .returned (.agg #[v0_,v1_])∧Kd.R (Kd.int .i64) 3 w' w.heap.size (fun k_=>some k_≠(v1_:Value).ownBlock) v0_ r1∧Kd.R (Kd.int .i64) 3 w' w.heap.size (fun k_=>some k_≠(v0_:Value).ownBlock) v1_ r2∧Below w.heap.size w w':=by
 have hu27:=Try.underlying27
 have HR0_0:=aM hr0_0
 have HC0_0:=aM hc0_0
 clear hr0_0 hc0_0
 have HR0_1:=aM hr0_1
 have HC0_1:=aM hc0_1
 clear hr0_1 hc0_1
 have HB:=aM (Below.refl w.heap.size w)
 have H:((spec_l02Inverse.f k l0_1).bind fun t423=>((some (([]:List Int):List Int)).bind fun y426=>(if y426.length+l0_0.length<17592186044416 then (some (t423,(y426 ++ l0_0))) else (none))))=some (r1,r2):=h
 clear h
 replace H:=oB H
 obtain ⟨t423,A20,H⟩:=H
 have A2:=aM A20
 clear A20
 obtain ⟨y426,hy426⟩:∃ y_:List Int,y_=(([]:List Int)):=⟨_,rfl⟩
 replace H:(if y426.length+l0_0.length<17592186044416 then (some (t423,(y426 ++ l0_0))) else (none))=some (r1,r2):=by first|(rw [hy426];with_reducible exact H)|(have H2_:=(Option.bind_some _ _).symm.trans H;rw [hy426];with_reducible exact H2_)|(have H2_:=(Option.bind_some _ _).symm.trans H;with_reducible exact H2_)|with_reducible exact H|(rw [hy426];exact H)|exact H
 have Ny426:=aM hy426
 clear hy426
 by_cases c3:y426.length+l0_0.length<17592186044416
 {
 rw [if_pos c3] at H
 have LMc3:=aM c3
 clear c3
 obtain ⟨y429,hy429⟩:∃ y_:List Int,y_=(y426 ++ l0_0):=⟨_,rfl⟩
 replace H:(some (t423,y429))=some (r1,r2):=by first|(rw [hy429];with_reducible exact H)|(have H2_:=(Option.bind_some _ _).symm.trans H;rw [hy429];with_reducible exact H2_)|(have H2_:=(Option.bind_some _ _).symm.trans H;with_reducible exact H2_)|with_reducible exact H|(rw [hy429];exact H)|exact H
 have Ny429:=aM hy429
 clear hy429
 simp only [Option.some.injEq,Prod.mk.injEq] at H
 obtain ⟨rfl,rfl⟩:=H
 go_enter Try.func66,Try.ntmps66
 try go_wp2_with (first|((with_reducible refine gate_dst (N:=1) rfl ?_);refine bEv (cs:=#[.slice A0_0 l0_0.length c0_0,.slice A0_1 l0_1.length c0_1]) (t:=27) ?_;intro gb421 hg w4 hbox hb;have BK421:=aM (hbox);have GW421:=aM ((szX (below_size (bX HB.out)) hg:w.heap.size≤gb421));have GE421:=GW421;replace HB:=aM (below_step (bX HB.out) hb);clear hb hbox hg)|((with_reducible refine gate_dst (N:=2) rfl ?_);refine bEv (cs:=#[.slice none 0 0,.slice none 0 0]) (t:=27) ?_;intro gb422 hg w5 hbox hb;have BK422:=aM (hbox);have GW422:=aM ((szX (below_size (bX1 HB.out GE421.out)) hg:w.heap.size≤gb422));have GE422:=GW422;replace HB:=aM (below_step (bX1 HB.out GE421.out) hb);have NB421_422:=aM (neX BK421.out hg);have NB422_421:=aM (nfX BK421.out hg);replace BK421:=aM (bbX BK421.out hb);clear hb hbox hg))
 replace BK421:=aM (blk_drew BK421.out)
 replace BK422:=aM (blk_drew BK422.out)
 replace HB:=aM (below_drew1 HB.out)
 refine start_ (n:=9) (S:=fun w'=>w'.cell? ⟨gb421,0,none⟩=some (.slice A0_0 l0_0.length c0_0)∧w'.cell? ⟨gb421,1,none⟩=some (.slice A0_1 l0_1.length c0_1)) (ds:=[]) #[ff,ff,ff,ff,ff,ff,ff,ff,ff] (by kernel_rfl) rfl rfl ⟨cz20 BK421.out,cz21 BK421.out⟩ (fun hHeld => ?_);refine with_tabW spec_l05Turn.tab1 spec_l05Turn.bits1 (fun HT_ HW_ => ?_)
 generalize w5.drew=w6 at BK421 BK422 HB hHeld ⊢
 refine pX 0 3 (fl 9 1) rfl rfl HT_.out ?_
 refine pX 4 7 (fl 9 17) rfl rfl HT_.out ?_
 refine tX2 1 4 (fl 9 19) rfl rfl HT_.out HW_.out hHeld ?_
 refine tX2 5 8 (fl 9 51) rfl rfl HT_.out HW_.out hHeld ?_
 refine join_ (σ:=Value × Value) 3 #[tt,tt,tt,tt,tt,tt,ff,ff,ff] (fun s_=>[(5,s_.1),(6,s_.2)]) (fun s_ w'=>(w'.cell? ⟨gb421,0,none⟩=some (.slice A0_0 l0_0.length c0_0)∧w'.cell? ⟨gb421,1,none⟩=some (.slice A0_1 l0_1.length c0_1))∧(Kd.R (Kd.int .i64) 3 w' w.heap.size (fun k_=>some k_≠(s_.2:Value).ownBlock) s_.1 t423)∧(Kd.R (Kd.int .i64) 3 w' w.heap.size (fun k_=>some k_≠(s_.1:Value).ownBlock) s_.2 y426)∧(w'.heap[gb421]? = some (.cells #[.slice A0_0 l0_0.length c0_0,.slice A0_1 l0_1.length c0_1] 27 (0,0)))∧(w'.heap[gb422]? = some (.cells #[.slice none 0 0,.slice none 0 0] 27 (0,0)))∧(Below w.heap.size w w')) ?_ ?_
 rotate_left
 {
 intro hCont
 refine two_ (i:=2) (j:=3) (Ni:=some 5) (Nj:=some 6) #[tt,tt,tt,ff,tt,tt,ff,ff,ff] #[tt,tt,ff,tt,tt,tt,ff,ff,ff] rfl rfl rfl rfl (two_of HT_.out (by kernel_rfl)) (by decide) (by decide) (fun K hK => ?_) (fun K hK => ?_)
 {
 skip
 refine goes_ Try.func100 (by kernel_rfl) rfl #[.slice A0_1 l0_1.length c0_1] (by rfl) rfl rfl aX ?_
 with_reducible refine(spec_l02Inverse.calls k _ _ l0_1 t423 _ ?side1 ?side2 A2.out).mono ?_
 (case side1=>exact cX (Kd.C_below HR0_1.out HB.out))
 (case side2=>exact HC0_1.out)
 rintro e w7 ⟨v424,rfl,ho0,hb⟩
 refine ⟨_,rfl,?_⟩
 have HO425:=aM (Kd.R_lower ho0 (below_size (bX2 HB.out GE421.out GE422.out)))
 replace BK421:=aM (bbX BK421.out hb)
 replace BK422:=aM (bbX BK422.out hb)
 replace HB:=aM (below_step (bX2 HB.out GE421.out GE422.out) hb)
 (try clear hb)
 (try clear hk)
 (try clear ho0)
 refine hK.out _ _ ⟨cz20 BK421.out,cz21 BK421.out⟩ (fun hHeld => ?_)
 clear hK K
 refine norm_ (a':=?_) ?_ ?_
 rotate_left
 {
 show Act.put _ (some 5) _=_
 simp only [Act.put,zA,zB,zC,i64_w,i32_w]
 rfl
 }
 refine one_ (i:=3) (N:=some 6) #[tt,tt,tt,tt,tt,tt,ff,ff,ff] rfl rfl (one_of HT_.out (by kernel_rfl)) (by decide) (fun K hK => ?_)
 refine Kd.R_lit_step (Kd.int .i64) _ 3 ?hg (N:=6) ?hd (xs:=([]:List Int)) (inner:=[]) (ok:=fun _=>True) (okp:=fun _=>True) ?hr ?hp (fun _ hk=>hk) trivial (Below.refl _ _) (Nat.le_refl _) (by simp) ?_;(case hd=>rfl);(case hg=>rfl);(case hr=>first|(go_simp;done)|(go_simp;rfl));(case hp=>exact(Reps.none _ _))
 intro v427 w8 ho9 hb hg_ hnew_
 clear hg_ hnew_
 (first|rw [← Ny426.out] at ho9|(simp only [Int.reduceToNat] at ho9;rw [← Ny426.out] at ho9))
 have HO428:=aM (Kd.R_lower (Kd.R_new' ho9 (Kd.R_lt (rX HO425.out))) (below_size (bX2 HB.out GE421.out GE422.out)))
 replace HO425:=aM (Kd.R_elder' (rX HO425.out) (Kd.R_base ho9) hb)
 replace BK421:=aM (bbX BK421.out hb)
 replace BK422:=aM (bbX BK422.out hb)
 replace HB:=aM (below_step (bX2 HB.out GE421.out GE422.out) hb)
 clear hb ho9
 refine hK.out _ _ ⟨cz20 BK421.out,cz21 BK421.out⟩ (fun hHeld => ?_)
 clear hK K
 refine norm_ (a':=?_) ?_ ?_
 rotate_left
 {
 show Act.put _ (some 6) _=_
 simp only [Act.put,zA,zB,zC,i64_w,i32_w]
 rfl
 }
 exact norm_ (by simp only [putAll,Act.put,List.setIfInBounds_toArray,List.set_cons_zero,List.set_cons_succ]) (hCont (v424,v427) _ ⟨hHeld,(rM HO425.out (fun _ hk=>hk.2)),(rM HO428.out (fun _ hk=>hk.2)),(kX BK421.out),(kX BK422.out),(bX2 HB.out GE421.out GE422.out)⟩)
 }
 {
 skip
 refine Kd.R_lit_step (Kd.int .i64) _ 3 ?hg (N:=6) ?hd (xs:=([]:List Int)) (inner:=[]) (ok:=fun _=>True) (okp:=fun _=>True) ?hr ?hp (fun _ hk=>hk) trivial (Below.refl _ _) (Nat.le_refl _) (by simp) ?_;(case hd=>rfl);(case hg=>rfl);(case hr=>first|(go_simp;done)|(go_simp;rfl));(case hp=>exact(Reps.none _ _))
 intro v427 w7 ho8 hb hg_ hnew_
 clear hg_ hnew_
 (first|rw [← Ny426.out] at ho8|(simp only [Int.reduceToNat] at ho8;rw [← Ny426.out] at ho8))
 have HO428:=aM (Kd.R_lower ho8 (below_size (bX2 HB.out GE421.out GE422.out)))
 replace BK421:=aM (bbX BK421.out hb)
 replace BK422:=aM (bbX BK422.out hb)
 replace HB:=aM (below_step (bX2 HB.out GE421.out GE422.out) hb)
 clear hb ho8
 refine hK.out _ _ ⟨cz20 BK421.out,cz21 BK421.out⟩ (fun hHeld => ?_)
 clear hK K
 refine norm_ (a':=?_) ?_ ?_
 rotate_left
 {
 show Act.put _ (some 6) _=_
 simp only [Act.put,zA,zB,zC,i64_w,i32_w]
 rfl
 }
 refine one_ (i:=2) (N:=some 5) #[tt,tt,tt,tt,tt,tt,ff,ff,ff] rfl rfl (one_of HT_.out (by kernel_rfl)) (by decide) (fun K hK => ?_)
 refine goes_ Try.func100 (by kernel_rfl) rfl #[.slice A0_1 l0_1.length c0_1] (by rfl) rfl rfl aX ?_
 with_reducible refine(spec_l02Inverse.calls k _ _ l0_1 t423 _ ?side1 ?side2 A2.out).mono ?_
 (case side1=>exact cX (Kd.C_below HR0_1.out HB.out))
 (case side2=>exact HC0_1.out)
 rintro e w9 ⟨v424,rfl,ho0,hb⟩
 refine ⟨_,rfl,?_⟩
 have HO425:=aM (Kd.R_lower (Kd.R_new' ho0 (Kd.R_lt (rX HO428.out))) (below_size (bX2 HB.out GE421.out GE422.out)))
 replace HO428:=aM (Kd.R_elder' (rX HO428.out) (Kd.R_base ho0) hb)
 replace BK421:=aM (bbX BK421.out hb)
 replace BK422:=aM (bbX BK422.out hb)
 replace HB:=aM (below_step (bX2 HB.out GE421.out GE422.out) hb)
 (try clear hb)
 (try clear hk)
 (try clear ho0)
 refine hK.out _ _ ⟨cz20 BK421.out,cz21 BK421.out⟩ (fun hHeld => ?_)
 clear hK K
 refine norm_ (a':=?_) ?_ ?_
 rotate_left
 {
 show Act.put _ (some 5) _=_
 simp only [Act.put,zA,zB,zC,i64_w,i32_w]
 rfl
 }
 exact norm_ (by simp only [putAll,Act.put,List.setIfInBounds_toArray,List.set_cons_zero,List.set_cons_succ]) (hCont (v424,v427) _ ⟨hHeld,(rM HO425.out (fun _ hk=>hk.2)),(rM HO428.out (fun _ hk=>hk.2)),(kX BK421.out),(kX BK422.out),(bX2 HB.out GE421.out GE422.out)⟩)
 }
 }
 rintro ⟨v424,v427⟩ w10 ⟨hS_,h0_,h1_,h2_,h3_,h4_⟩
 have n0_:Aside0 (Kd.R (Kd.int .i64) 3 w10 w.heap.size (fun k_=>some k_≠(v427:Value).ownBlock) v424 t423):=⟨h0_⟩
 have n1_:Aside0 (Kd.R (Kd.int .i64) 3 w10 w.heap.size (fun k_=>some k_≠(v424:Value).ownBlock) v427 y426):=⟨h1_⟩
 have n2_:Aside0 (w10.heap[gb421]? = some (.cells #[.slice A0_0 l0_0.length c0_0,.slice A0_1 l0_1.length c0_1] 27 (0,0))):=⟨h2_⟩
 have n3_:Aside0 (w10.heap[gb422]? = some (.cells #[.slice none 0 0,.slice none 0 0] 27 (0,0))):=⟨h3_⟩
 have n4_:Aside0 (Below w.heap.size w w10):=⟨h4_⟩
 clear BK421 BK422 HB h0_ h1_ h2_ h3_ h4_
 have HO425:=n0_
 have HO428:=n1_
 have BK421:=n2_
 have BK422:=n3_
 have HB:=n4_
 clear n0_ n1_ n2_ n3_ n4_
 have hHeld:w10.cell? ⟨gb421,0,none⟩=some (.slice A0_0 l0_0.length c0_0)∧w10.cell? ⟨gb421,1,none⟩=some (.slice A0_1 l0_1.length c0_1):=hS_
 refine norm_ (a':=?_) ?_ ?_
 rotate_left
 {
 simp only [putAll,Act.put,List.setIfInBounds_toArray,List.set_cons_zero,List.set_cons_succ]
 rfl
 }
 refine one_ (i:=6) (N:=some 9) #[tt,tt,tt,tt,tt,tt,tt,ff,ff] rfl rfl (one_of HT_.out (by kernel_rfl)) (by decide) (fun K hK => ?_)
 refine Kd.R_append_rows_step (Kd.int .i64) (w0:=w) w.heap.size (by rfl) (.tmp 6) (.tmp 8) 22 3 (.int .i64 0) 8 rfl Try.underlying22 info3 rfl (by decide) (by omega) v427 y426 l0_0 _ _ _ (fun k_=>some k_≠(v424:Value).ownBlock) (fun _=>False) rfl rfl ?aO ?aR (fun _ _ h=>h) (fun _ h=>h.elim) ?aF ?aB ?aS ?aL ?_
 (case aR=>exact cX (Kd.C_below HR0_0.out HB.out))
 (case aB=>exact(bX2 HB.out GE421.out GE422.out))
 (case aF=>exact(fun k_ hk=>Kd.fresh' (Kd.R_lt (rX HO425.out)) k_ hk))
 (case aO=>exact(rX HO428.out))
 (case aS=>exact(below_size (bX2 HB.out GE421.out GE422.out)))
 (case aL=>have:=LMc3.out;omega)
 intro v430 w11 ho hb hg hat
 rw [← Ny429.out] at ho
 replace BK421:=aM (bgX BK421.out hg (Kd.R_ne HO428.out BK421.out (by decide)))
 replace BK422:=aM (bgX BK422.out hg (Kd.R_ne HO428.out BK422.out (by decide)))
 replace HO425:=aM (Kd.R_after (ok:=(fun _=>True)) (rM HO425.out (fun _ hk=>⟨trivial,hk⟩)) hg hat)
 replace HB:=aM (hb)
 have HO431:=aM (ho)
 clear HO428 ho hb hg hat
 obtain ⟨Ao12,co12,eo12⟩:=Kd.R_slice HO431.out
 (first|subst eo12|(injection eo12 with f1_ f2_ f3_;have f4_:=f1_.symm;have f5_:=f3_.symm;clear f1_ f2_ f3_;subst f4_;subst f5_))
 obtain ⟨Ao13,co13,eo13⟩:=Kd.R_slice HO425.out
 (first|subst eo13|(injection eo13 with f1_ f2_ f3_;have f4_:=f1_.symm;have f5_:=f3_.symm;clear f1_ f2_ f3_;subst f4_;subst f5_))
 refine hK.out _ _ ⟨cz20 BK421.out,cz21 BK421.out⟩ (fun hHeld => ?_)
 clear hK K
 refine norm_ (a':=?_) ?_ ?_
 rotate_left
 {
 show Act.put _ (some 9) _=_
 simp only [Act.put,zA,zB,zC,i64_w,i32_w]
 rfl
 }
 refine pX 7 10 (fl 9 255) rfl rfl HT_.out ?_
 refine one_ (i:=8) (N:=none) #[tt,tt,tt,tt,tt,tt,tt,tt,tt] rfl rfl (one_of HT_.out (by kernel_rfl)) (by decide) (fun K hK => ?_)
 have hs14:w11.cell? ⟨gb422,0,none⟩=some (.slice none 0 0):=cz20 BK422.out
 have hfs14:=blk_frozen BK422.out 0
 have hns14_0:=NB421_422.out
 have hms14_0:=NB422_421.out
 have hs15:w11.cell? ⟨gb422,1,none⟩=some (.slice none 0 0):=cz21 BK422.out
 have hfs15:=blk_frozen BK422.out 1
 have hns15_0:=NB421_422.out
 have hms15_0:=NB422_421.out
 refine skip_ (w1:=?_) (by rfl) rfl ?_ ?_
 rotate_left
 {
 go_simp
 rfl
 }
 refine hK.out _ _ ⟨((cell_far (p:=⟨gb422,_,none⟩) NB421_422.out _).trans (((cell_far (p:=⟨gb422,_,none⟩) NB421_422.out _).trans (hHeld.1)))),((cell_far (p:=⟨gb422,_,none⟩) NB421_422.out _).trans (((cell_far (p:=⟨gb422,_,none⟩) NB421_422.out _).trans (hHeld.2))))⟩ (fun hHeld => ?_)
 clear hK K
 refine done_ (done_of HT_.out (by kernel_rfl)) ?_
 try go_wp2
 refine bodyPost_ret (results_cell_row rfl _ _ gb422 27 #[.slice Ao13 t423.length co13,.slice Ao12 y429.length co12] (0,0) _ rfl (by(with_reducible repeat(first|refine kN ?_ _|refine kD ?_|refine kA ?_ _));refine blk_put (cs:=#[.slice Ao13 t423.length co13,.slice none 0 0]) ?_ 1 _ rfl;(with_reducible repeat(first|refine kN ?_ _|refine kD ?_|refine kA ?_ _));refine blk_put (cs:=#[.slice none 0 0,.slice none 0 0]) ?_ 0 _ rfl;(with_reducible repeat(first|refine kN ?_ _|refine kD ?_|refine kA ?_ _));exact BK422.out) Try.underlying27 rfl (by kernel_rfl)) rfl ?_
 exact ⟨_,_,eX,by(with_reducible repeat(first|apply rA|apply rN|apply rD));exact Kd.R_mono (Kd.R_far (p:=⟨gb422,1,none⟩) (Kd.R_far (p:=⟨gb422,0,none⟩) (Kd.R_types HO425.out BK422.out (by decide)) (fun _ hk=>hk.2) (.slice Ao13 t423.length co13)) (fun _ hk=>hk.2) (.slice Ao12 y429.length co12)) (fun _ hk=>hk.1.2),by(with_reducible repeat(first|apply rA|apply rN|apply rD));exact Kd.R_mono (Kd.R_far (p:=⟨gb422,1,none⟩) (Kd.R_far (p:=⟨gb422,0,none⟩) (Kd.R_types HO431.out BK422.out (by decide)) (fun _ hk=>hk.2) (.slice Ao13 t423.length co13)) (fun _ hk=>hk.2) (.slice Ao12 y429.length co12)) (fun _ hk=>hk.1),bX2 HB.out GE421.out GE422.out⟩
 }
 {
 rw [if_neg c3] at H
 exact absurd H (by simp)
 }

/-! ### spec_l05Unturn: function 67 -/
def spec_l05Unturn.f (k:Nat) (l0_0:List Int) (l0_1:List Int):Option (List Int × List Int):=(some (([]:List Int):List Int)).bind fun y434=>(if y434.length+l0_1.length<17592186044416 then ((spec_l02Inverse.f k l0_0).bind fun t440=>(some ((y434 ++ l0_1),t440))) else (none))
def spec_l05Unturn.T1 : Bool × List (List Nat × List Nat):=(true,[([],[]),([],[]),([1],[1]),([0,2],[0,2]),([],[]),([4],[4]),([5,3],[5]),([3,6],[3,6]),([7,6,0,1,2,3,4,5,6,7],[7])])
def spec_l05Unturn.B1 : List Nat:=[0,0,2,7,0,16,63,127,255]
theorem spec_l05Unturn.tab1 : rtab .any (opsOf Try.f67 1)=spec_l05Unturn.T1:=by kernel_rfl
theorem spec_l05Unturn.bits1 : waitsOk spec_l05Unturn.T1.2 spec_l05Unturn.B1=true:=by kernel_rfl
theorem spec_l05Unturn.calls (k:Nat) (A0_0:Option Addr) (c0_0:Nat) (l0_0:List Int) (A0_1:Option Addr) (c0_1:Nat) (l0_1:List Int) (r1:List Int) (r2:List Int) (w:World) (hr0_0:Kd.C (Kd.int .i64) w A0_0 l0_0.length l0_0) (hc0_0:l0_0.length≤c0_0) (hr0_1:Kd.C (Kd.int .i64) w A0_1 l0_1.length l0_1) (hc0_1:l0_1.length≤c0_1) (h:spec_l05Unturn.f k l0_0 l0_1=some (r1,r2)) :
  Calls Try.prog 67 #[.agg #[.slice A0_0 l0_0.length c0_0,.slice A0_1 l0_1.length c0_1]] w fun e w'=>∃ v0_ v1_:Value,e = .returned (.agg #[v0_,v1_])∧Kd.R (Kd.int .i64) 3 w' w.heap.size (fun k_=>some k_≠(v1_:Value).ownBlock) v0_ r1∧Kd.R (Kd.int .i64) 3 w' w.heap.size (fun k_=>some k_≠(v0_:Value).ownBlock) v1_ r2∧Below w.heap.size w w':=by
 have hu27:=Try.underlying27
 have HR0_0:=aM hr0_0
 have HC0_0:=aM hc0_0
 clear hr0_0 hc0_0
 have HR0_1:=aM hr0_1
 have HC0_1:=aM hc0_1
 clear hr0_1 hc0_1
 have HB:=aM (Below.refl w.heap.size w)
 have H:((some (([]:List Int):List Int)).bind fun y434=>(if y434.length+l0_1.length<17592186044416 then ((spec_l02Inverse.f k l0_0).bind fun t440=>(some ((y434 ++ l0_1),t440))) else (none)))=some (r1,r2):=h
 clear h
 obtain ⟨y434,hy434⟩:∃ y_:List Int,y_=(([]:List Int)):=⟨_,rfl⟩
 replace H:(if y434.length+l0_1.length<17592186044416 then ((spec_l02Inverse.f k l0_0).bind fun t440=>(some ((y434 ++ l0_1),t440))) else (none))=some (r1,r2):=by first|(rw [hy434];with_reducible exact H)|(have H2_:=(Option.bind_some _ _).symm.trans H;rw [hy434];with_reducible exact H2_)|(have H2_:=(Option.bind_some _ _).symm.trans H;with_reducible exact H2_)|with_reducible exact H|(rw [hy434];exact H)|exact H
 have Ny434:=aM hy434
 clear hy434
 by_cases c2:y434.length+l0_1.length<17592186044416
 {
 rw [if_pos c2] at H
 have LMc2:=aM c2
 clear c2
 obtain ⟨y437,hy437⟩:∃ y_:List Int,y_=(y434 ++ l0_1):=⟨_,rfl⟩
 replace H:((spec_l02Inverse.f k l0_0).bind fun t440=>(some (y437,t440)))=some (r1,r2):=by first|(rw [hy437];with_reducible exact H)|(have H2_:=(Option.bind_some _ _).symm.trans H;rw [hy437];with_reducible exact H2_)|(have H2_:=(Option.bind_some _ _).symm.trans H;with_reducible exact H2_)|with_reducible exact H|(rw [hy437];exact H)|exact H
 have Ny437:=aM hy437
 clear hy437
 replace H:=oB H
 obtain ⟨t440,A30,H⟩:=H
 have A3:=aM A30
 clear A30
 simp only [Option.some.injEq,Prod.mk.injEq] at H
 obtain ⟨rfl,rfl⟩:=H
 go_enter Try.func67,Try.ntmps67
 try go_wp2_with (first|((with_reducible refine gate_dst (N:=1) rfl ?_);refine bEv (cs:=#[.slice A0_0 l0_0.length c0_0,.slice A0_1 l0_1.length c0_1]) (t:=27) ?_;intro gb432 hg w4 hbox hb;have BK432:=aM (hbox);have GW432:=aM ((szX (below_size (bX HB.out)) hg:w.heap.size≤gb432));have GE432:=GW432;replace HB:=aM (below_step (bX HB.out) hb);clear hb hbox hg)|((with_reducible refine gate_dst (N:=2) rfl ?_);refine bEv (cs:=#[.slice none 0 0,.slice none 0 0]) (t:=27) ?_;intro gb433 hg w5 hbox hb;have BK433:=aM (hbox);have GW433:=aM ((szX (below_size (bX1 HB.out GE432.out)) hg:w.heap.size≤gb433));have GE433:=GW433;replace HB:=aM (below_step (bX1 HB.out GE432.out) hb);have NB432_433:=aM (neX BK432.out hg);have NB433_432:=aM (nfX BK432.out hg);replace BK432:=aM (bbX BK432.out hb);clear hb hbox hg))
 replace BK432:=aM (blk_drew BK432.out)
 replace BK433:=aM (blk_drew BK433.out)
 replace HB:=aM (below_drew1 HB.out)
 refine start_ (n:=9) (S:=fun w'=>w'.cell? ⟨gb432,0,none⟩=some (.slice A0_0 l0_0.length c0_0)∧w'.cell? ⟨gb432,1,none⟩=some (.slice A0_1 l0_1.length c0_1)) (ds:=[]) #[ff,ff,ff,ff,ff,ff,ff,ff,ff] (by kernel_rfl) rfl rfl ⟨cz20 BK432.out,cz21 BK432.out⟩ (fun hHeld => ?_);refine with_tabW spec_l05Unturn.tab1 spec_l05Unturn.bits1 (fun HT_ HW_ => ?_)
 generalize w5.drew=w6 at BK432 BK433 HB hHeld ⊢
 refine pX 1 4 (fl 9 2) rfl rfl HT_.out ?_
 refine pX 4 7 (fl 9 18) rfl rfl HT_.out ?_
 refine tX2 2 5 (fl 9 22) rfl rfl HT_.out HW_.out hHeld ?_
 refine tX2 5 8 (fl 9 54) rfl rfl HT_.out HW_.out hHeld ?_
 refine one_ (i:=0) (N:=some 3) #[tt,tt,tt,ff,tt,tt,ff,ff,ff] rfl rfl (one_of HT_.out (by kernel_rfl)) (by decide) (fun K hK => ?_)
 refine Kd.R_lit_step (Kd.int .i64) _ 3 ?hg (N:=3) ?hd (xs:=([]:List Int)) (inner:=[]) (ok:=fun _=>True) (okp:=fun _=>True) ?hr ?hp (fun _ hk=>hk) trivial (Below.refl _ _) (Nat.le_refl _) (by simp) ?_;(case hd=>rfl);(case hg=>rfl);(case hr=>first|(go_simp;done)|(go_simp;rfl));(case hp=>exact(Reps.none _ _))
 intro v435 w7 ho8 hb hg_ hnew_
 clear hg_ hnew_
 (first|rw [← Ny434.out] at ho8|(simp only [Int.reduceToNat] at ho8;rw [← Ny434.out] at ho8))
 have HO436:=aM (Kd.R_lower ho8 (below_size (bX2 HB.out GE432.out GE433.out)))
 replace BK432:=aM (bbX BK432.out hb)
 replace BK433:=aM (bbX BK433.out hb)
 replace HB:=aM (below_step (bX2 HB.out GE432.out GE433.out) hb)
 clear hb ho8
 refine hK.out _ _ ⟨cz20 BK432.out,cz21 BK432.out⟩ (fun hHeld => ?_)
 clear hK K
 refine norm_ (a':=?_) ?_ ?_
 rotate_left
 {
 show Act.put _ (some 3) _=_
 simp only [Act.put,zA,zB,zC,i64_w,i32_w]
 rfl
 }
 refine one_ (i:=3) (N:=some 6) #[tt,tt,tt,tt,tt,tt,ff,ff,ff] rfl rfl (one_of HT_.out (by kernel_rfl)) (by decide) (fun K hK => ?_)
 refine Kd.R_append_rows_step (Kd.int .i64) (w0:=w) w.heap.size (by rfl) (.tmp 3) (.tmp 5) 22 3 (.int .i64 0) 8 rfl Try.underlying22 info3 rfl (by decide) (by omega) v435 y434 l0_1 _ _ _ (fun _=>True) (fun _=>False) rfl rfl ?aO ?aR (fun _ _ h=>h) (fun _ h=>h.elim) ?aF ?aB ?aS ?aL ?_
 (case aR=>exact cX (Kd.C_below HR0_1.out HB.out))
 (case aB=>exact(bX2 HB.out GE432.out GE433.out))
 (case aF=>exact(fun _ _=>trivial))
 (case aO=>exact(rX HO436.out))
 (case aS=>exact(below_size (bX2 HB.out GE432.out GE433.out)))
 (case aL=>have:=LMc2.out;omega)
 intro v438 w9 ho hb hg hat
 rw [← Ny437.out] at ho
 replace BK432:=aM (bgX BK432.out hg (Kd.R_ne HO436.out BK432.out (by decide)))
 replace BK433:=aM (bgX BK433.out hg (Kd.R_ne HO436.out BK433.out (by decide)))
 replace HB:=aM (hb)
 have HO439:=aM (ho)
 clear HO436 ho hb hg hat
 refine hK.out _ _ ⟨cz20 BK432.out,cz21 BK432.out⟩ (fun hHeld => ?_)
 clear hK K
 refine norm_ (a':=?_) ?_ ?_
 rotate_left
 {
 show Act.put _ (some 6) _=_
 simp only [Act.put,zA,zB,zC,i64_w,i32_w]
 rfl
 }
 refine one_ (i:=6) (N:=some 9) #[tt,tt,tt,tt,tt,tt,tt,ff,ff] rfl rfl (one_of HT_.out (by kernel_rfl)) (by decide) (fun K hK => ?_)
 refine goes_ Try.func100 (by kernel_rfl) rfl #[.slice A0_0 l0_0.length c0_0] (by rfl) rfl rfl aX ?_
 with_reducible refine(spec_l02Inverse.calls k _ _ l0_0 t440 _ ?side1 ?side2 A3.out).mono ?_
 (case side1=>exact cX (Kd.C_below HR0_0.out HB.out))
 (case side2=>exact HC0_0.out)
 rintro e w10 ⟨v441,rfl,ho0,hb⟩
 refine ⟨_,rfl,?_⟩
 have HO442:=aM (Kd.R_lower (Kd.R_new' ho0 (Kd.R_lt (rX HO439.out))) (below_size (bX2 HB.out GE432.out GE433.out)))
 replace HO439:=aM (Kd.R_elder' (rX HO439.out) (Kd.R_base ho0) hb)
 replace BK432:=aM (bbX BK432.out hb)
 replace BK433:=aM (bbX BK433.out hb)
 replace HB:=aM (below_step (bX2 HB.out GE432.out GE433.out) hb)
 (try clear hb)
 (try clear hk)
 (try clear ho0)
 obtain ⟨Ao11,co11,eo11⟩:=Kd.R_slice HO442.out
 (first|subst eo11|(injection eo11 with f1_ f2_ f3_;have f4_:=f1_.symm;have f5_:=f3_.symm;clear f1_ f2_ f3_;subst f4_;subst f5_))
 obtain ⟨Ao12,co12,eo12⟩:=Kd.R_slice HO439.out
 (first|subst eo12|(injection eo12 with f1_ f2_ f3_;have f4_:=f1_.symm;have f5_:=f3_.symm;clear f1_ f2_ f3_;subst f4_;subst f5_))
 refine hK.out _ _ ⟨cz20 BK432.out,cz21 BK432.out⟩ (fun hHeld => ?_)
 clear hK K
 refine norm_ (a':=?_) ?_ ?_
 rotate_left
 {
 show Act.put _ (some 9) _=_
 simp only [Act.put,zA,zB,zC,i64_w,i32_w]
 rfl
 }
 refine pX 7 10 (fl 9 255) rfl rfl HT_.out ?_
 refine one_ (i:=8) (N:=none) #[tt,tt,tt,tt,tt,tt,tt,tt,tt] rfl rfl (one_of HT_.out (by kernel_rfl)) (by decide) (fun K hK => ?_)
 have hs13:w10.cell? ⟨gb433,0,none⟩=some (.slice none 0 0):=cz20 BK433.out
 have hfs13:=blk_frozen BK433.out 0
 have hns13_0:=NB432_433.out
 have hms13_0:=NB433_432.out
 have hs14:w10.cell? ⟨gb433,1,none⟩=some (.slice none 0 0):=cz21 BK433.out
 have hfs14:=blk_frozen BK433.out 1
 have hns14_0:=NB432_433.out
 have hms14_0:=NB433_432.out
 refine skip_ (w1:=?_) (by rfl) rfl ?_ ?_
 rotate_left
 {
 go_simp
 rfl
 }
 refine hK.out _ _ ⟨((cell_far (p:=⟨gb433,_,none⟩) NB432_433.out _).trans (((cell_far (p:=⟨gb433,_,none⟩) NB432_433.out _).trans (hHeld.1)))),((cell_far (p:=⟨gb433,_,none⟩) NB432_433.out _).trans (((cell_far (p:=⟨gb433,_,none⟩) NB432_433.out _).trans (hHeld.2))))⟩ (fun hHeld => ?_)
 clear hK K
 refine done_ (done_of HT_.out (by kernel_rfl)) ?_
 try go_wp2
 refine bodyPost_ret (results_cell_row rfl _ _ gb433 27 #[.slice Ao12 y437.length co12,.slice Ao11 t440.length co11] (0,0) _ rfl (by(with_reducible repeat(first|refine kN ?_ _|refine kD ?_|refine kA ?_ _));refine blk_put (cs:=#[.slice Ao12 y437.length co12,.slice none 0 0]) ?_ 1 _ rfl;(with_reducible repeat(first|refine kN ?_ _|refine kD ?_|refine kA ?_ _));refine blk_put (cs:=#[.slice none 0 0,.slice none 0 0]) ?_ 0 _ rfl;(with_reducible repeat(first|refine kN ?_ _|refine kD ?_|refine kA ?_ _));exact BK433.out) Try.underlying27 rfl (by kernel_rfl)) rfl ?_
 exact ⟨_,_,eX,by(with_reducible repeat(first|apply rA|apply rN|apply rD));exact Kd.R_mono (Kd.R_far (p:=⟨gb433,1,none⟩) (Kd.R_far (p:=⟨gb433,0,none⟩) (Kd.R_types HO439.out BK433.out (by decide)) (fun _ hk=>hk.2) (.slice Ao12 y437.length co12)) (fun _ hk=>hk.2) (.slice Ao11 t440.length co11)) (fun _ hk=>hk.1.2),by(with_reducible repeat(first|apply rA|apply rN|apply rD));exact Kd.R_mono (Kd.R_far (p:=⟨gb433,1,none⟩) (Kd.R_far (p:=⟨gb433,0,none⟩) (Kd.R_types HO442.out BK433.out (by decide)) (fun _ hk=>hk.2) (.slice Ao12 y437.length co12)) (fun _ hk=>hk.2) (.slice Ao11 t440.length co11)) (fun _ hk=>hk.1.2),bX2 HB.out GE432.out GE433.out⟩
 }
 {
 rw [if_neg c2] at H
 exact absurd H (by simp)
 }

/-! ### spec_l05Letter: function 43 -/
def spec_l05Letter.f (k:Nat) (l0_0:List Int) (l0_1:List Int) (a1:Int):Option (List Int × List Int):=if a1=84 then ((spec_l05Shear.f k l0_0 l0_1).bind fun bt445=>(some (bt445.1,bt445.2))) else (if a1=116 then ((spec_l05Unshear.f k l0_0 l0_1).bind fun bt451=>(some (bt451.1,bt451.2))) else (if a1=83 then ((spec_l05Turn.f k l0_0 l0_1).bind fun bt457=>(some (bt457.1,bt457.2))) else ((spec_l05Unturn.f k l0_0 l0_1).bind fun bt463=>(some (bt463.1,bt463.2)))))
theorem spec_l05Letter.calls (k:Nat) (A0_0:Option Addr) (c0_0:Nat) (l0_0:List Int) (A0_1:Option Addr) (c0_1:Nat) (l0_1:List Int) (a1:Int) (r1:List Int) (r2:List Int) (w:World) (hr0_0:Kd.C (Kd.int .i64) w A0_0 l0_0.length l0_0) (hc0_0:l0_0.length≤c0_0) (hr0_1:Kd.C (Kd.int .i64) w A0_1 l0_1.length l0_1) (hc0_1:l0_1.length≤c0_1) (h:spec_l05Letter.f k l0_0 l0_1 a1=some (r1,r2)) :
  Calls Try.prog 43 #[.agg #[.slice A0_0 l0_0.length c0_0,.slice A0_1 l0_1.length c0_1],.int .u8 a1] w fun e w'=>∃ v0_ v1_:Value,e = .returned (.agg #[v0_,v1_])∧Kd.R (Kd.int .i64) 3 w' w.heap.size (fun k_=>some k_≠(v1_:Value).ownBlock) v0_ r1∧Kd.R (Kd.int .i64) 3 w' w.heap.size (fun k_=>some k_≠(v0_:Value).ownBlock) v1_ r2∧Below w.heap.size w w':=by
 have hu27:=Try.underlying27
 have HR0_0:=aM hr0_0
 have HC0_0:=aM hc0_0
 clear hr0_0 hc0_0
 have HR0_1:=aM hr0_1
 have HC0_1:=aM hc0_1
 clear hr0_1 hc0_1
 have HB:=aM (Below.refl w.heap.size w)
 have H:(if a1=84 then ((spec_l05Shear.f k l0_0 l0_1).bind fun bt445=>(some (bt445.1,bt445.2))) else (if a1=116 then ((spec_l05Unshear.f k l0_0 l0_1).bind fun bt451=>(some (bt451.1,bt451.2))) else (if a1=83 then ((spec_l05Turn.f k l0_0 l0_1).bind fun bt457=>(some (bt457.1,bt457.2))) else ((spec_l05Unturn.f k l0_0 l0_1).bind fun bt463=>(some (bt463.1,bt463.2))))))=some (r1,r2):=h
 clear h
 by_cases c3:a1=84
 {
 rw [if_pos c3] at H
 have c3b0:(a1 == 84)=true:=beq_iff_eq.mpr c3
 have c3b1:(a1 != 84)=false:=bne_eq_false_iff_eq.mpr c3
 clear c3
 replace H:=oB H
 obtain ⟨⟨t445,t448⟩,A40,H⟩:=H
 replace H:(some (t445,t448))=some (r1,r2):=H
 have A4:=aM A40
 clear A40
 simp only [Option.some.injEq,Prod.mk.injEq] at H
 obtain ⟨rfl,rfl⟩:=H
 go_enter Try.func43,Try.ntmps43
 go_wp2_with (first|((with_reducible refine gate_dst (N:=2) rfl ?_);refine bEv (cs:=#[.slice A0_0 l0_0.length c0_0,.slice A0_1 l0_1.length c0_1]) (t:=27) ?_;intro gb443 hg w5 hbox hb;have BK443:=aM (hbox);have GW443:=aM ((szX (below_size (bX HB.out)) hg:w.heap.size≤gb443));have GE443:=GW443;replace HB:=aM (below_step (bX HB.out) hb);clear hb hbox hg)|((with_reducible refine gate_dst (N:=4) rfl ?_);refine bEv (cs:=#[.slice none 0 0,.slice none 0 0]) (t:=27) ?_;intro gb444 hg w6 hbox hb;have BK444:=aM (hbox);have GW444:=aM ((szX (below_size (bX1 HB.out GE443.out)) hg:w.heap.size≤gb444));have GE444:=GW444;replace HB:=aM (below_step (bX1 HB.out GE443.out) hb);have NB443_444:=aM (neX BK443.out hg);have NB444_443:=aM (nfX BK443.out hg);replace BK443:=aM (bbX BK443.out hb);clear hb hbox hg;have hnb7:=NB443_444.out;have hnc7:=NB444_443.out;obtain ⟨hcz8_0,hcz8_1,hfz8_0,hfz8_1⟩:=f2Z BK443.out)|((with_reducible refine gate_callee (f:=64) rfl ?_);refine goesL_ (some 9) rfl rfl Try.func64 (by kernel_rfl) rfl #[.agg #[.slice A0_0 l0_0.length c0_0,.slice A0_1 l0_1.length c0_1]] rfl aX ?_;(with_reducible refine(spec_l05Shear.calls k _ _ l0_0 _ _ l0_1 t445 t448 _ ?side1 ?side2 ?side3 ?side4 A4.out).mono ?_);(case side1=>exact cX (Kd.C_below HR0_0.out HB.out));(case side2=>exact HC0_0.out);(case side3=>exact cX (Kd.C_below HR0_1.out HB.out));(case side4=>exact HC0_1.out);rintro e w9 ⟨v446,v449,rfl,ho0,ho1,hb⟩;refine ⟨_,rfl,?_⟩;have HO447:=aM (Kd.R_lower ho0 (below_size (bX2 HB.out GE443.out GE444.out)));have HO450:=aM (Kd.R_lower ho1 (below_size (bX2 HB.out GE443.out GE444.out)));replace BK443:=aM (bbX BK443.out hb);replace BK444:=aM (bbX BK444.out hb);replace HB:=aM (below_step (bX2 HB.out GE443.out GE444.out) hb);(try clear hb);(try clear hk);(try clear ho0);(try clear ho1);obtain ⟨Ao10,co10,eo10⟩:=Kd.R_slice HO447.out;subst eo10;obtain ⟨hcz11_0,hcz11_1,hfz11_0,hfz11_1⟩:=f2Z BK444.out;obtain ⟨Ao12,co12,eo12⟩:=Kd.R_slice HO450.out;subst eo12))
 refine bodyPost_ret (results_cell_row rfl _ _ gb444 27 #[.slice Ao10 t445.length co10,.slice Ao12 t448.length co12] (0,0) _ rfl (by(with_reducible repeat(first|refine kN ?_ _|refine kD ?_|refine kA ?_ _));refine blk_put (cs:=#[.slice Ao10 t445.length co10,.slice none 0 0]) ?_ 1 _ rfl;(with_reducible repeat(first|refine kN ?_ _|refine kD ?_|refine kA ?_ _));refine blk_put (cs:=#[.slice none 0 0,.slice none 0 0]) ?_ 0 _ rfl;(with_reducible repeat(first|refine kN ?_ _|refine kD ?_|refine kA ?_ _));exact BK444.out) Try.underlying27 rfl (by kernel_rfl)) rfl ?_
 exact ⟨_,_,eX,by(with_reducible repeat(first|apply rA|apply rN|apply rD));exact Kd.R_mono (Kd.R_far (p:=⟨gb444,1,none⟩) (Kd.R_far (p:=⟨gb444,0,none⟩) (Kd.R_types HO447.out BK444.out (by decide)) (fun _ hk=>hk.2) (.slice Ao10 t445.length co10)) (fun _ hk=>hk.2) (.slice Ao12 t448.length co12)) (fun _ hk=>hk.1),by(with_reducible repeat(first|apply rA|apply rN|apply rD));exact Kd.R_mono (Kd.R_far (p:=⟨gb444,1,none⟩) (Kd.R_far (p:=⟨gb444,0,none⟩) (Kd.R_types HO450.out BK444.out (by decide)) (fun _ hk=>hk.2) (.slice Ao10 t445.length co10)) (fun _ hk=>hk.2) (.slice Ao12 t448.length co12)) (fun _ hk=>hk.1),bX2 HB.out GE443.out GE444.out⟩
 }
 {
 rw [if_neg c3] at H
 have c3b0:(a1 == 84)=false:=beq_eq_false_iff_ne.mpr c3
 have c3b1:(a1 != 84)=true:=bne_iff_ne.mpr c3
 by_cases c13:a1=116
 {
 rw [if_pos c13] at H
 have c13b0:(a1 == 116)=true:=beq_iff_eq.mpr c13
 have c13b1:(a1 != 116)=false:=bne_eq_false_iff_eq.mpr c13
 clear c13
 replace H:=oB H
 obtain ⟨⟨t451,t454⟩,A140,H⟩:=H
 replace H:(some (t451,t454))=some (r1,r2):=H
 have A14:=aM A140
 clear A140
 simp only [Option.some.injEq,Prod.mk.injEq] at H
 obtain ⟨rfl,rfl⟩:=H
 go_enter Try.func43,Try.ntmps43
 go_wp2_with (first|((with_reducible refine gate_dst (N:=2) rfl ?_);refine bEv (cs:=#[.slice A0_0 l0_0.length c0_0,.slice A0_1 l0_1.length c0_1]) (t:=27) ?_;intro gb443 hg w15 hbox hb;have BK443:=aM (hbox);have GW443:=aM ((szX (below_size (bX HB.out)) hg:w.heap.size≤gb443));have GE443:=GW443;replace HB:=aM (below_step (bX HB.out) hb);clear hb hbox hg)|((with_reducible refine gate_dst (N:=4) rfl ?_);refine bEv (cs:=#[.slice none 0 0,.slice none 0 0]) (t:=27) ?_;intro gb444 hg w16 hbox hb;have BK444:=aM (hbox);have GW444:=aM ((szX (below_size (bX1 HB.out GE443.out)) hg:w.heap.size≤gb444));have GE444:=GW444;replace HB:=aM (below_step (bX1 HB.out GE443.out) hb);have NB443_444:=aM (neX BK443.out hg);have NB444_443:=aM (nfX BK443.out hg);replace BK443:=aM (bbX BK443.out hb);clear hb hbox hg;have hnb17:=NB443_444.out;have hnc17:=NB444_443.out;obtain ⟨hcz18_0,hcz18_1,hfz18_0,hfz18_1⟩:=f2Z BK443.out)|((with_reducible refine gate_callee (f:=65) rfl ?_);refine goesL_ (some 13) rfl rfl Try.func65 (by kernel_rfl) rfl #[.agg #[.slice A0_0 l0_0.length c0_0,.slice A0_1 l0_1.length c0_1]] rfl aX ?_;(with_reducible refine(spec_l05Unshear.calls k _ _ l0_0 _ _ l0_1 t451 t454 _ ?side1 ?side2 ?side3 ?side4 A14.out).mono ?_);(case side1=>exact cX (Kd.C_below HR0_0.out HB.out));(case side2=>exact HC0_0.out);(case side3=>exact cX (Kd.C_below HR0_1.out HB.out));(case side4=>exact HC0_1.out);rintro e w19 ⟨v452,v455,rfl,ho0,ho1,hb⟩;refine ⟨_,rfl,?_⟩;have HO453:=aM (Kd.R_lower ho0 (below_size (bX2 HB.out GE443.out GE444.out)));have HO456:=aM (Kd.R_lower ho1 (below_size (bX2 HB.out GE443.out GE444.out)));replace BK443:=aM (bbX BK443.out hb);replace BK444:=aM (bbX BK444.out hb);replace HB:=aM (below_step (bX2 HB.out GE443.out GE444.out) hb);(try clear hb);(try clear hk);(try clear ho0);(try clear ho1);obtain ⟨Ao20,co20,eo20⟩:=Kd.R_slice HO453.out;subst eo20;obtain ⟨hcz21_0,hcz21_1,hfz21_0,hfz21_1⟩:=f2Z BK444.out;obtain ⟨Ao22,co22,eo22⟩:=Kd.R_slice HO456.out;subst eo22))
 refine bodyPost_ret (results_cell_row rfl _ _ gb444 27 #[.slice Ao20 t451.length co20,.slice Ao22 t454.length co22] (0,0) _ rfl (by(with_reducible repeat(first|refine kN ?_ _|refine kD ?_|refine kA ?_ _));refine blk_put (cs:=#[.slice Ao20 t451.length co20,.slice none 0 0]) ?_ 1 _ rfl;(with_reducible repeat(first|refine kN ?_ _|refine kD ?_|refine kA ?_ _));refine blk_put (cs:=#[.slice none 0 0,.slice none 0 0]) ?_ 0 _ rfl;(with_reducible repeat(first|refine kN ?_ _|refine kD ?_|refine kA ?_ _));exact BK444.out) Try.underlying27 rfl (by kernel_rfl)) rfl ?_
 exact ⟨_,_,eX,by(with_reducible repeat(first|apply rA|apply rN|apply rD));exact Kd.R_mono (Kd.R_far (p:=⟨gb444,1,none⟩) (Kd.R_far (p:=⟨gb444,0,none⟩) (Kd.R_types HO453.out BK444.out (by decide)) (fun _ hk=>hk.2) (.slice Ao20 t451.length co20)) (fun _ hk=>hk.2) (.slice Ao22 t454.length co22)) (fun _ hk=>hk.1),by(with_reducible repeat(first|apply rA|apply rN|apply rD));exact Kd.R_mono (Kd.R_far (p:=⟨gb444,1,none⟩) (Kd.R_far (p:=⟨gb444,0,none⟩) (Kd.R_types HO456.out BK444.out (by decide)) (fun _ hk=>hk.2) (.slice Ao20 t451.length co20)) (fun _ hk=>hk.2) (.slice Ao22 t454.length co22)) (fun _ hk=>hk.1),bX2 HB.out GE443.out GE444.out⟩
 }
 {
 rw [if_neg c13] at H
 have c13b0:(a1 == 116)=false:=beq_eq_false_iff_ne.mpr c13
 have c13b1:(a1 != 116)=true:=bne_iff_ne.mpr c13
 by_cases c23:a1=83
 {
 rw [if_pos c23] at H
 have c23b0:(a1 == 83)=true:=beq_iff_eq.mpr c23
 have c23b1:(a1 != 83)=false:=bne_eq_false_iff_eq.mpr c23
 clear c23
 replace H:=oB H
 obtain ⟨⟨t457,t460⟩,A240,H⟩:=H
 replace H:(some (t457,t460))=some (r1,r2):=H
 have A24:=aM A240
 clear A240
 simp only [Option.some.injEq,Prod.mk.injEq] at H
 obtain ⟨rfl,rfl⟩:=H
 go_enter Try.func43,Try.ntmps43
 go_wp2_with (first|((with_reducible refine gate_dst (N:=2) rfl ?_);refine bEv (cs:=#[.slice A0_0 l0_0.length c0_0,.slice A0_1 l0_1.length c0_1]) (t:=27) ?_;intro gb443 hg w25 hbox hb;have BK443:=aM (hbox);have GW443:=aM ((szX (below_size (bX HB.out)) hg:w.heap.size≤gb443));have GE443:=GW443;replace HB:=aM (below_step (bX HB.out) hb);clear hb hbox hg)|((with_reducible refine gate_dst (N:=4) rfl ?_);refine bEv (cs:=#[.slice none 0 0,.slice none 0 0]) (t:=27) ?_;intro gb444 hg w26 hbox hb;have BK444:=aM (hbox);have GW444:=aM ((szX (below_size (bX1 HB.out GE443.out)) hg:w.heap.size≤gb444));have GE444:=GW444;replace HB:=aM (below_step (bX1 HB.out GE443.out) hb);have NB443_444:=aM (neX BK443.out hg);have NB444_443:=aM (nfX BK443.out hg);replace BK443:=aM (bbX BK443.out hb);clear hb hbox hg;have hnb27:=NB443_444.out;have hnc27:=NB444_443.out;obtain ⟨hcz28_0,hcz28_1,hfz28_0,hfz28_1⟩:=f2Z BK443.out)|((with_reducible refine gate_callee (f:=66) rfl ?_);refine goesL_ (some 17) rfl rfl Try.func66 (by kernel_rfl) rfl #[.agg #[.slice A0_0 l0_0.length c0_0,.slice A0_1 l0_1.length c0_1]] rfl aX ?_;(with_reducible refine(spec_l05Turn.calls k _ _ l0_0 _ _ l0_1 t457 t460 _ ?side1 ?side2 ?side3 ?side4 A24.out).mono ?_);(case side1=>exact cX (Kd.C_below HR0_0.out HB.out));(case side2=>exact HC0_0.out);(case side3=>exact cX (Kd.C_below HR0_1.out HB.out));(case side4=>exact HC0_1.out);rintro e w29 ⟨v458,v461,rfl,ho0,ho1,hb⟩;refine ⟨_,rfl,?_⟩;have HO459:=aM (Kd.R_lower ho0 (below_size (bX2 HB.out GE443.out GE444.out)));have HO462:=aM (Kd.R_lower ho1 (below_size (bX2 HB.out GE443.out GE444.out)));replace BK443:=aM (bbX BK443.out hb);replace BK444:=aM (bbX BK444.out hb);replace HB:=aM (below_step (bX2 HB.out GE443.out GE444.out) hb);(try clear hb);(try clear hk);(try clear ho0);(try clear ho1);obtain ⟨Ao30,co30,eo30⟩:=Kd.R_slice HO459.out;subst eo30;obtain ⟨hcz31_0,hcz31_1,hfz31_0,hfz31_1⟩:=f2Z BK444.out;obtain ⟨Ao32,co32,eo32⟩:=Kd.R_slice HO462.out;subst eo32))
 refine bodyPost_ret (results_cell_row rfl _ _ gb444 27 #[.slice Ao30 t457.length co30,.slice Ao32 t460.length co32] (0,0) _ rfl (by(with_reducible repeat(first|refine kN ?_ _|refine kD ?_|refine kA ?_ _));refine blk_put (cs:=#[.slice Ao30 t457.length co30,.slice none 0 0]) ?_ 1 _ rfl;(with_reducible repeat(first|refine kN ?_ _|refine kD ?_|refine kA ?_ _));refine blk_put (cs:=#[.slice none 0 0,.slice none 0 0]) ?_ 0 _ rfl;(with_reducible repeat(first|refine kN ?_ _|refine kD ?_|refine kA ?_ _));exact BK444.out) Try.underlying27 rfl (by kernel_rfl)) rfl ?_
 exact ⟨_,_,eX,by(with_reducible repeat(first|apply rA|apply rN|apply rD));exact Kd.R_mono (Kd.R_far (p:=⟨gb444,1,none⟩) (Kd.R_far (p:=⟨gb444,0,none⟩) (Kd.R_types HO459.out BK444.out (by decide)) (fun _ hk=>hk.2) (.slice Ao30 t457.length co30)) (fun _ hk=>hk.2) (.slice Ao32 t460.length co32)) (fun _ hk=>hk.1),by(with_reducible repeat(first|apply rA|apply rN|apply rD));exact Kd.R_mono (Kd.R_far (p:=⟨gb444,1,none⟩) (Kd.R_far (p:=⟨gb444,0,none⟩) (Kd.R_types HO462.out BK444.out (by decide)) (fun _ hk=>hk.2) (.slice Ao30 t457.length co30)) (fun _ hk=>hk.2) (.slice Ao32 t460.length co32)) (fun _ hk=>hk.1),bX2 HB.out GE443.out GE444.out⟩
 }
 {
 rw [if_neg c23] at H
 have c23b0:(a1 == 83)=false:=beq_eq_false_iff_ne.mpr c23
 have c23b1:(a1 != 83)=true:=bne_iff_ne.mpr c23
 replace H:=oB H
 obtain ⟨⟨t463,t466⟩,A330,H⟩:=H
 replace H:(some (t463,t466))=some (r1,r2):=H
 have A33:=aM A330
 clear A330
 simp only [Option.some.injEq,Prod.mk.injEq] at H
 obtain ⟨rfl,rfl⟩:=H
 go_enter Try.func43,Try.ntmps43
 go_wp2_with (first|((with_reducible refine gate_dst (N:=2) rfl ?_);refine bEv (cs:=#[.slice A0_0 l0_0.length c0_0,.slice A0_1 l0_1.length c0_1]) (t:=27) ?_;intro gb443 hg w34 hbox hb;have BK443:=aM (hbox);have GW443:=aM ((szX (below_size (bX HB.out)) hg:w.heap.size≤gb443));have GE443:=GW443;replace HB:=aM (below_step (bX HB.out) hb);clear hb hbox hg)|((with_reducible refine gate_dst (N:=4) rfl ?_);refine bEv (cs:=#[.slice none 0 0,.slice none 0 0]) (t:=27) ?_;intro gb444 hg w35 hbox hb;have BK444:=aM (hbox);have GW444:=aM ((szX (below_size (bX1 HB.out GE443.out)) hg:w.heap.size≤gb444));have GE444:=GW444;replace HB:=aM (below_step (bX1 HB.out GE443.out) hb);have NB443_444:=aM (neX BK443.out hg);have NB444_443:=aM (nfX BK443.out hg);replace BK443:=aM (bbX BK443.out hb);clear hb hbox hg;have hnb36:=NB443_444.out;have hnc36:=NB444_443.out;obtain ⟨hcz37_0,hcz37_1,hfz37_0,hfz37_1⟩:=f2Z BK443.out)|((with_reducible refine gate_callee (f:=67) rfl ?_);refine goesL_ (some 19) rfl rfl Try.func67 (by kernel_rfl) rfl #[.agg #[.slice A0_0 l0_0.length c0_0,.slice A0_1 l0_1.length c0_1]] rfl aX ?_;(with_reducible refine(spec_l05Unturn.calls k _ _ l0_0 _ _ l0_1 t463 t466 _ ?side1 ?side2 ?side3 ?side4 A33.out).mono ?_);(case side1=>exact cX (Kd.C_below HR0_0.out HB.out));(case side2=>exact HC0_0.out);(case side3=>exact cX (Kd.C_below HR0_1.out HB.out));(case side4=>exact HC0_1.out);rintro e w38 ⟨v464,v467,rfl,ho0,ho1,hb⟩;refine ⟨_,rfl,?_⟩;have HO465:=aM (Kd.R_lower ho0 (below_size (bX2 HB.out GE443.out GE444.out)));have HO468:=aM (Kd.R_lower ho1 (below_size (bX2 HB.out GE443.out GE444.out)));replace BK443:=aM (bbX BK443.out hb);replace BK444:=aM (bbX BK444.out hb);replace HB:=aM (below_step (bX2 HB.out GE443.out GE444.out) hb);(try clear hb);(try clear hk);(try clear ho0);(try clear ho1);obtain ⟨Ao39,co39,eo39⟩:=Kd.R_slice HO465.out;subst eo39;obtain ⟨hcz40_0,hcz40_1,hfz40_0,hfz40_1⟩:=f2Z BK444.out;obtain ⟨Ao41,co41,eo41⟩:=Kd.R_slice HO468.out;subst eo41))
 refine bodyPost_ret (results_cell_row rfl _ _ gb444 27 #[.slice Ao39 t463.length co39,.slice Ao41 t466.length co41] (0,0) _ rfl (by(with_reducible repeat(first|refine kN ?_ _|refine kD ?_|refine kA ?_ _));refine blk_put (cs:=#[.slice Ao39 t463.length co39,.slice none 0 0]) ?_ 1 _ rfl;(with_reducible repeat(first|refine kN ?_ _|refine kD ?_|refine kA ?_ _));refine blk_put (cs:=#[.slice none 0 0,.slice none 0 0]) ?_ 0 _ rfl;(with_reducible repeat(first|refine kN ?_ _|refine kD ?_|refine kA ?_ _));exact BK444.out) Try.underlying27 rfl (by kernel_rfl)) rfl ?_
 exact ⟨_,_,eX,by(with_reducible repeat(first|apply rA|apply rN|apply rD));exact Kd.R_mono (Kd.R_far (p:=⟨gb444,1,none⟩) (Kd.R_far (p:=⟨gb444,0,none⟩) (Kd.R_types HO465.out BK444.out (by decide)) (fun _ hk=>hk.2) (.slice Ao39 t463.length co39)) (fun _ hk=>hk.2) (.slice Ao41 t466.length co41)) (fun _ hk=>hk.1),by(with_reducible repeat(first|apply rA|apply rN|apply rD));exact Kd.R_mono (Kd.R_far (p:=⟨gb444,1,none⟩) (Kd.R_far (p:=⟨gb444,0,none⟩) (Kd.R_types HO468.out BK444.out (by decide)) (fun _ hk=>hk.2) (.slice Ao39 t463.length co39)) (fun _ hk=>hk.2) (.slice Ao41 t466.length co41)) (fun _ hk=>hk.1),bX2 HB.out GE443.out GE444.out⟩
 }
 }
 }

end Go.Proofs.Ytmhjcbcjpidegaa.S
