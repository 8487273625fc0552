-- PRINTED by print.py (a twelfth state) out of the translation. Not trusted: Lean checks it.
import Derived.Test.YtpieaniigkgmoaaGreatDoorS0
import Derived.Test.YtpieaniigkgmoaaGreatDoorS1
import Derived.Test.YtpieaniigkgmoaaGreatDoorS2
namespace Go.Proofs.YtpieaniigkgmoaaGreatDoor.S
set_option maxHeartbeats 8000000
set_option maxRecDepth 100000
open Go.RowKit Go.Proofs.YtpieaniigkgmoaaGreatDoorW.PrintWords Go.Proofs.YtpieaniigkgmoaaGreatDoorW.PrintLast Go.Proofs.YtpieaniigkgmoaaGreatDoorW.PrintMore
attribute [local go_sem] max2_int min2_int max_two min_two max_three min_three max_four min_four   -- for this text's walks alone
set_option linter.unusedVariables false
set_option linter.unusedSimpArgs false

/-! ### spec_l05Shear: function 38 -/
def spec_l05Shear.f (k:Nat) (l0_0:List Int) (l0_1:List Int):Option (List Int × List Int):=(some (([]:List Int):List Int)).bind fun y205=>(if y205.length+l0_0.length<17592186044416 then ((spec_l02Inverse.f k l0_0).bind fun t211=>((spec_l02Then.f k t211 l0_1).bind fun t214=>(some ((y205 ++ l0_0),t214)))) else (none))
def spec_l05Shear.T1 : Bool × List (List Nat × List Nat):=(true,[([],[]),([],[]),([1],[1]),([0,2],[0,2]),([],[]),([4],[4]),([5,3],[5]),([],[]),([7],[7]),([6,8,6],[6,8]),([3,9],[3,9]),([10,9,0,1,2,3,4,5,6,7,8,9,10],[10])])
def spec_l05Shear.B1 : List Nat:=[0,0,2,7,0,16,63,0,128,511,1023,2047]
theorem spec_l05Shear.tab1 : rtab .any (opsOf Tryz.f38 1)=spec_l05Shear.T1:=by kernel_rfl
theorem spec_l05Shear.bits1 : waitsOk spec_l05Shear.T1.2 spec_l05Shear.B1=true:=by kernel_rfl
theorem spec_l05Shear.calls (k:Nat) (A0_0:Option Addr) (c0_0:Nat) (l0_0:List Int) (A0_1:Option Addr) (c0_1:Nat) (l0_1:List Int) (r1:List Int) (r2:List Int) (w:World) (hr0_0:Kd.C (Kd.int .i64) w A0_0 l0_0.length l0_0) (hc0_0:l0_0.length≤c0_0) (hr0_1:Kd.C (Kd.int .i64) w A0_1 l0_1.length l0_1) (hc0_1:l0_1.length≤c0_1) (h:spec_l05Shear.f k l0_0 l0_1=some (r1,r2)) :
  Calls Tryz.prog 38 #[.agg #[.slice A0_0 l0_0.length c0_0,.slice A0_1 l0_1.length c0_1]] w fun e w'=>∃ v0_ v1_:Value,e = .returned (.agg #[v0_,v1_])∧Kd.R (Kd.int .i64) 3 w' w.heap.size (fun k_=>some k_≠(v1_:Value).ownBlock) v0_ r1∧Kd.R (Kd.int .i64) 3 w' w.heap.size (fun k_=>some k_≠(v0_:Value).ownBlock) v1_ r2∧Below w.heap.size w w':=by
 have hu27:=Tryz.underlying27
 have HR0_0:=aM hr0_0
 have HC0_0:=aM hc0_0
 clear hr0_0 hc0_0
 have HR0_1:=aM hr0_1
 have HC0_1:=aM hc0_1
 clear hr0_1 hc0_1
 have HB:=aM (Below.refl w.heap.size w)
 have H:((some (([]:List Int):List Int)).bind fun y205=>(if y205.length+l0_0.length<17592186044416 then ((spec_l02Inverse.f k l0_0).bind fun t211=>((spec_l02Then.f k t211 l0_1).bind fun t214=>(some ((y205 ++ l0_0),t214)))) else (none)))=some (r1,r2):=h
 clear h
 obtain ⟨y205,hy205⟩:∃ y_:List Int,y_=(([]:List Int)):=⟨_,rfl⟩
 replace H:(if y205.length+l0_0.length<17592186044416 then ((spec_l02Inverse.f k l0_0).bind fun t211=>((spec_l02Then.f k t211 l0_1).bind fun t214=>(some ((y205 ++ l0_0),t214)))) else (none))=some (r1,r2):=by first|(rw [hy205];with_reducible exact H)|(have H2_:=(Option.bind_some _ _).symm.trans H;rw [hy205];with_reducible exact H2_)|(have H2_:=(Option.bind_some _ _).symm.trans H;with_reducible exact H2_)|with_reducible exact H|(rw [hy205];exact H)|exact H
 have Ny205:=aM hy205
 clear hy205
 by_cases c2:y205.length+l0_0.length<17592186044416
 {
 rw [if_pos c2] at H
 have LMc2:=aM c2
 clear c2
 obtain ⟨y208,hy208⟩:∃ y_:List Int,y_=(y205 ++ l0_0):=⟨_,rfl⟩
 replace H:((spec_l02Inverse.f k l0_0).bind fun t211=>((spec_l02Then.f k t211 l0_1).bind fun t214=>(some (y208,t214))))=some (r1,r2):=by first|(rw [hy208];with_reducible exact H)|(have H2_:=(Option.bind_some _ _).symm.trans H;rw [hy208];with_reducible exact H2_)|(have H2_:=(Option.bind_some _ _).symm.trans H;with_reducible exact H2_)|with_reducible exact H|(rw [hy208];exact H)|exact H
 have Ny208:=aM hy208
 clear hy208
 replace H:=oB H
 obtain ⟨t211,A30,H⟩:=H
 have A3:=aM A30
 clear A30
 replace H:=oB H
 obtain ⟨t214,A40,H⟩:=H
 have A4:=aM A40
 clear A40
 simp only [Option.some.injEq,Prod.mk.injEq] at H
 obtain ⟨rfl,rfl⟩:=H
 go_enter Tryz.func38,Tryz.ntmps38
 try go_wp2_with (first|((with_reducible refine gate_dst (N:=1) rfl ?_);refine bEv (cs:=#[.slice A0_0 l0_0.length c0_0,.slice A0_1 l0_1.length c0_1]) (t:=27) ?_;intro gb203 hg w5 hbox hb;have BK203:=aM (hbox);have GW203:=aM ((szX (below_size (bX HB.out)) hg:w.heap.size≤gb203));have GE203:=GW203;replace HB:=aM (below_step (bX HB.out) hb);clear hb hbox hg)|((with_reducible refine gate_dst (N:=2) rfl ?_);refine bEv (cs:=#[.slice none 0 0,.slice none 0 0]) (t:=27) ?_;intro gb204 hg w6 hbox hb;have BK204:=aM (hbox);have GW204:=aM ((szX (below_size (bX1 HB.out GE203.out)) hg:w.heap.size≤gb204));have GE204:=GW204;replace HB:=aM (below_step (bX1 HB.out GE203.out) hb);have NB203_204:=aM (neX BK203.out hg);have NB204_203:=aM (nfX BK203.out hg);replace BK203:=aM (bbX BK203.out hb);clear hb hbox hg))
 replace BK203:=aM (blk_drew BK203.out)
 replace BK204:=aM (blk_drew BK204.out)
 replace HB:=aM (below_drew1 HB.out)
 refine start_ (n:=12) (S:=fun w'=>w'.cell? ⟨gb203,0,none⟩=some (.slice A0_0 l0_0.length c0_0)∧w'.cell? ⟨gb203,1,none⟩=some (.slice A0_1 l0_1.length c0_1)) (ds:=[]) #[ff,ff,ff,ff,ff,ff,ff,ff,ff,ff,ff,ff] (by kernel_rfl) rfl rfl ⟨cz20 BK203.out,cz21 BK203.out⟩ (fun hHeld => ?_);refine with_tabW spec_l05Shear.tab1 spec_l05Shear.bits1 (fun HT_ HW_ => ?_)
 generalize w6.drew=w7 at BK203 BK204 HB hHeld ⊢
 refine pX 1 4 (fl 12 2) rfl rfl HT_.out ?_
 refine pX 4 7 (fl 12 18) rfl rfl HT_.out ?_
 refine pX 7 10 (fl 12 146) rfl rfl HT_.out ?_
 refine tX2 2 5 (fl 12 150) rfl rfl HT_.out HW_.out hHeld ?_
 refine tX2 5 8 (fl 12 182) rfl rfl HT_.out HW_.out hHeld ?_
 refine tX2 8 11 (fl 12 438) rfl rfl HT_.out HW_.out hHeld ?_
 refine one_ (i:=0) (N:=some 3) #[tt,tt,tt,ff,tt,tt,ff,tt,tt,ff,ff,ff] rfl rfl (one_of HT_.out (by kernel_rfl)) (by decide) (fun K hK => ?_)
 refine Kd.R_lit_step (Kd.int .i64) _ 3 ?hg (N:=3) ?hd (xs:=([]:List Int)) (inner:=[]) (ok:=fun _=>True) (okp:=fun _=>True) ?hr ?hp (fun _ hk=>hk) trivial (Below.refl _ _) (Nat.le_refl _) (by simp) ?_;(case hd=>rfl);(case hg=>rfl);(case hr=>first|(go_simp;done)|(go_simp;rfl));(case hp=>exact(Reps.none _ _))
 intro v206 w8 ho9 hb hg_ hnew_
 clear hg_ hnew_
 (first|rw [← Ny205.out] at ho9|(simp only [Int.reduceToNat] at ho9;rw [← Ny205.out] at ho9))
 have HO207:=aM (Kd.R_lower ho9 (below_size (bX2 HB.out GE203.out GE204.out)))
 replace BK203:=aM (bbX BK203.out hb)
 replace BK204:=aM (bbX BK204.out hb)
 replace HB:=aM (below_step (bX2 HB.out GE203.out GE204.out) hb)
 clear hb ho9
 refine hK.out _ _ ⟨cz20 BK203.out,cz21 BK203.out⟩ (fun hHeld => ?_)
 clear hK K
 refine norm_ (a':=?_) ?_ ?_
 rotate_left
 {
 show Act.put _ (some 3) _=_
 simp only [Act.put,zA,zB,zC,i64_w,i32_w]
 rfl
 }
 refine one_ (i:=3) (N:=some 6) #[tt,tt,tt,tt,tt,tt,ff,tt,tt,ff,ff,ff] rfl rfl (one_of HT_.out (by kernel_rfl)) (by decide) (fun K hK => ?_)
 refine Kd.R_append_rows_step (Kd.int .i64) (w0:=w) w.heap.size (by rfl) (.tmp 3) (.tmp 5) 22 3 (.int .i64 0) 8 rfl Tryz.underlying22 info3 rfl (by decide) (by omega) v206 y205 l0_0 _ _ _ (fun _=>True) (fun _=>False) rfl rfl ?aO ?aR (fun _ _ h=>h) (fun _ h=>h.elim) ?aF ?aB ?aS ?aL ?_
 (case aR=>exact cX (Kd.C_below HR0_0.out HB.out))
 (case aB=>exact(bX2 HB.out GE203.out GE204.out))
 (case aF=>exact(fun _ _=>trivial))
 (case aO=>exact(rX HO207.out))
 (case aS=>exact(below_size (bX2 HB.out GE203.out GE204.out)))
 (case aL=>have:=LMc2.out;omega)
 intro v209 w10 ho hb hg hat
 rw [← Ny208.out] at ho
 replace BK203:=aM (bgX BK203.out hg (Kd.R_ne HO207.out BK203.out (by decide)))
 replace BK204:=aM (bgX BK204.out hg (Kd.R_ne HO207.out BK204.out (by decide)))
 replace HB:=aM (hb)
 have HO210:=aM (ho)
 clear HO207 ho hb hg hat
 refine hK.out _ _ ⟨cz20 BK203.out,cz21 BK203.out⟩ (fun hHeld => ?_)
 clear hK K
 refine norm_ (a':=?_) ?_ ?_
 rotate_left
 {
 show Act.put _ (some 6) _=_
 simp only [Act.put,zA,zB,zC,i64_w,i32_w]
 rfl
 }
 refine one_ (i:=6) (N:=some 9) #[tt,tt,tt,tt,tt,tt,tt,tt,tt,ff,ff,ff] rfl rfl (one_of HT_.out (by kernel_rfl)) (by decide) (fun K hK => ?_)
 refine goes_ Tryz.func56 (by kernel_rfl) rfl #[.slice A0_0 l0_0.length c0_0] (by rfl) rfl rfl aX ?_
 with_reducible refine(spec_l02Inverse.calls k _ _ l0_0 t211 _ ?side1 ?side2 A3.out).mono ?_
 (case side1=>exact cX (Kd.C_below HR0_0.out HB.out))
 (case side2=>exact HC0_0.out)
 rintro e w11 ⟨v212,rfl,ho0,hb⟩
 refine ⟨_,rfl,?_⟩
 have HO213:=aM (Kd.R_lower (Kd.R_new' ho0 (Kd.R_lt (rX HO210.out))) (below_size (bX2 HB.out GE203.out GE204.out)))
 replace HO210:=aM (Kd.R_elder' (rX HO210.out) (Kd.R_base ho0) hb)
 replace BK203:=aM (bbX BK203.out hb)
 replace BK204:=aM (bbX BK204.out hb)
 replace HB:=aM (below_step (bX2 HB.out GE203.out GE204.out) hb)
 (try clear hb)
 (try clear hk)
 (try clear ho0)
 obtain ⟨Ao12,co12,eo12⟩:=Kd.R_slice HO213.out
 (first|subst eo12|(injection eo12 with f1_ f2_ f3_;have f4_:=f1_.symm;have f5_:=f3_.symm;clear f1_ f2_ f3_;subst f4_;subst f5_))
 refine hK.out _ _ ⟨cz20 BK203.out,cz21 BK203.out⟩ (fun hHeld => ?_)
 clear hK K
 refine norm_ (a':=?_) ?_ ?_
 rotate_left
 {
 show Act.put _ (some 9) _=_
 simp only [Act.put,zA,zB,zC,i64_w,i32_w]
 rfl
 }
 refine one_ (i:=9) (N:=some 12) #[tt,tt,tt,tt,tt,tt,tt,tt,tt,tt,ff,ff] rfl rfl (one_of HT_.out (by kernel_rfl)) (by decide) (fun K hK => ?_)
 refine goes_ Tryz.func55 (by kernel_rfl) rfl #[.slice Ao12 t211.length co12,.slice A0_1 l0_1.length c0_1] (by rfl) rfl rfl aX ?_
 with_reducible refine(spec_l02Then.calls k _ _ t211 _ _ l0_1 t214 _ ?side1 ?side2 ?side3 ?side4 A4.out).mono ?_
 (case side1=>exact cX (Kd.R_reads' HO213.out).2.2)
 (case side2=>exact(Kd.R_reads' HO213.out).2.1)
 (case side3=>exact cX (Kd.C_below HR0_1.out HB.out))
 (case side4=>exact HC0_1.out)
 rintro e w13 ⟨v215,rfl,ho0,hb⟩
 refine ⟨_,rfl,?_⟩
 have HO216:=aM (Kd.R_lower (Kd.R_new' (Kd.R_new' ho0 (Kd.R_lt (rX HO210.out))) (Kd.R_lt (rX HO213.out))) (below_size (bX2 HB.out GE203.out GE204.out)))
 replace HO210:=aM (Kd.R_elder' (rX HO210.out) (Kd.R_base ho0) hb)
 replace HO213:=aM (Kd.R_elder' (rX HO213.out) (Kd.R_base ho0) hb)
 replace BK203:=aM (bbX BK203.out hb)
 replace BK204:=aM (bbX BK204.out hb)
 replace HB:=aM (below_step (bX2 HB.out GE203.out GE204.out) hb)
 (try clear hb)
 (try clear hk)
 (try clear ho0)
 obtain ⟨Ao14,co14,eo14⟩:=Kd.R_slice HO216.out
 (first|subst eo14|(injection eo14 with f1_ f2_ f3_;have f4_:=f1_.symm;have f5_:=f3_.symm;clear f1_ f2_ f3_;subst f4_;subst f5_))
 obtain ⟨Ao15,co15,eo15⟩:=Kd.R_slice HO210.out
 (first|subst eo15|(injection eo15 with f1_ f2_ f3_;have f4_:=f1_.symm;have f5_:=f3_.symm;clear f1_ f2_ f3_;subst f4_;subst f5_))
 refine hK.out _ _ ⟨cz20 BK203.out,cz21 BK203.out⟩ (fun hHeld => ?_)
 clear hK K
 refine norm_ (a':=?_) ?_ ?_
 rotate_left
 {
 show Act.put _ (some 12) _=_
 simp only [Act.put,zA,zB,zC,i64_w,i32_w]
 rfl
 }
 refine pX 10 13 (fl 12 2047) rfl rfl HT_.out ?_
 refine one_ (i:=11) (N:=none) #[tt,tt,tt,tt,tt,tt,tt,tt,tt,tt,tt,tt] rfl rfl (one_of HT_.out (by kernel_rfl)) (by decide) (fun K hK => ?_)
 have hs16:w13.cell? ⟨gb204,0,none⟩=some (.slice none 0 0):=cz20 BK204.out
 have hfs16:=blk_frozen BK204.out 0
 have hns16_0:=NB203_204.out
 have hms16_0:=NB204_203.out
 have hs17:w13.cell? ⟨gb204,1,none⟩=some (.slice none 0 0):=cz21 BK204.out
 have hfs17:=blk_frozen BK204.out 1
 have hns17_0:=NB203_204.out
 have hms17_0:=NB204_203.out
 refine skip_ (w1:=?_) (by rfl) rfl ?_ ?_
 rotate_left
 {
 go_simp
 rfl
 }
 refine hK.out _ _ ⟨((cell_far (p:=⟨gb204,_,none⟩) NB203_204.out _).trans (((cell_far (p:=⟨gb204,_,none⟩) NB203_204.out _).trans (hHeld.1)))),((cell_far (p:=⟨gb204,_,none⟩) NB203_204.out _).trans (((cell_far (p:=⟨gb204,_,none⟩) NB203_204.out _).trans (hHeld.2))))⟩ (fun hHeld => ?_)
 clear hK K
 refine done_ (done_of HT_.out (by kernel_rfl)) ?_
 try go_wp2
 refine bodyPost_ret (results_cell_row rfl _ _ gb204 27 #[.slice Ao15 y208.length co15,.slice Ao14 t214.length co14] (0,0) _ rfl (by(with_reducible repeat(first|refine kN ?_ _|refine kD ?_|refine kA ?_ _));refine blk_put (cs:=#[.slice Ao15 y208.length co15,.slice none 0 0]) ?_ 1 _ rfl;(with_reducible repeat(first|refine kN ?_ _|refine kD ?_|refine kA ?_ _));refine blk_put (cs:=#[.slice none 0 0,.slice none 0 0]) ?_ 0 _ rfl;(with_reducible repeat(first|refine kN ?_ _|refine kD ?_|refine kA ?_ _));exact BK204.out) Tryz.underlying27 rfl (by kernel_rfl)) rfl ?_
 exact ⟨_,_,eX,by(with_reducible repeat(first|apply rA|apply rN|apply rD));exact Kd.R_mono (Kd.R_far (p:=⟨gb204,1,none⟩) (Kd.R_far (p:=⟨gb204,0,none⟩) (Kd.R_types HO210.out BK204.out (by decide)) (fun _ hk=>hk.2) (.slice Ao15 y208.length co15)) (fun _ hk=>hk.2) (.slice Ao14 t214.length co14)) (fun _ hk=>hk.1.2),by(with_reducible repeat(first|apply rA|apply rN|apply rD));exact Kd.R_mono (Kd.R_far (p:=⟨gb204,1,none⟩) (Kd.R_far (p:=⟨gb204,0,none⟩) (Kd.R_types HO216.out BK204.out (by decide)) (fun _ hk=>hk.2) (.slice Ao15 y208.length co15)) (fun _ hk=>hk.2) (.slice Ao14 t214.length co14)) (fun _ hk=>hk.1.1.2),bX2 HB.out GE203.out GE204.out⟩
 }
 {
 rw [if_neg c2] at H
 exact absurd H (by simp)
 }

/-! ### spec_l05Unshear: function 79 -/
def spec_l05Unshear.f (k:Nat) (l0_0:List Int) (l0_1:List Int):Option (List Int × List Int):=(some (([]:List Int):List Int)).bind fun y219=>(if y219.length+l0_0.length<17592186044416 then ((spec_l02Then.f k l0_0 l0_1).bind fun t225=>(some ((y219 ++ l0_0),t225))) else (none))
def spec_l05Unshear.T1 : Bool × List (List Nat × List Nat):=(true,[([],[]),([],[]),([1],[1]),([0,2],[0,2]),([],[]),([4],[4]),([],[]),([6],[6]),([5,7,3],[5,7]),([3,8],[3,8]),([9,8,0,1,2,3,4,5,6,7,8,9],[9])])
def spec_l05Unshear.B1 : List Nat:=[0,0,2,7,0,16,0,64,255,511,1023]
theorem spec_l05Unshear.tab1 : rtab .any (opsOf Tryz.f79 1)=spec_l05Unshear.T1:=by kernel_rfl
theorem spec_l05Unshear.bits1 : waitsOk spec_l05Unshear.T1.2 spec_l05Unshear.B1=true:=by kernel_rfl
theorem spec_l05Unshear.calls (k:Nat) (A0_0:Option Addr) (c0_0:Nat) (l0_0:List Int) (A0_1:Option Addr) (c0_1:Nat) (l0_1:List Int) (r1:List Int) (r2:List Int) (w:World) (hr0_0:Kd.C (Kd.int .i64) w A0_0 l0_0.length l0_0) (hc0_0:l0_0.length≤c0_0) (hr0_1:Kd.C (Kd.int .i64) w A0_1 l0_1.length l0_1) (hc0_1:l0_1.length≤c0_1) (h:spec_l05Unshear.f k l0_0 l0_1=some (r1,r2)) :
  Calls Tryz.prog 79 #[.agg #[.slice A0_0 l0_0.length c0_0,.slice A0_1 l0_1.length c0_1]] w fun e w'=>∃ v0_ v1_:Value,e = .returned (.agg #[v0_,v1_])∧Kd.R (Kd.int .i64) 3 w' w.heap.size (fun k_=>some k_≠(v1_:Value).ownBlock) v0_ r1∧Kd.R (Kd.int .i64) 3 w' w.heap.size (fun k_=>some k_≠(v0_:Value).ownBlock) v1_ r2∧Below w.heap.size w w':=by
 have hu27:=Tryz.underlying27
 have HR0_0:=aM hr0_0
 have HC0_0:=aM hc0_0
 clear hr0_0 hc0_0
 have HR0_1:=aM hr0_1
 have HC0_1:=aM hc0_1
 clear hr0_1 hc0_1
 have HB:=aM (Below.refl w.heap.size w)
 have H:((some (([]:List Int):List Int)).bind fun y219=>(if y219.length+l0_0.length<17592186044416 then ((spec_l02Then.f k l0_0 l0_1).bind fun t225=>(some ((y219 ++ l0_0),t225))) else (none)))=some (r1,r2):=h
 clear h
 obtain ⟨y219,hy219⟩:∃ y_:List Int,y_=(([]:List Int)):=⟨_,rfl⟩
 replace H:(if y219.length+l0_0.length<17592186044416 then ((spec_l02Then.f k l0_0 l0_1).bind fun t225=>(some ((y219 ++ l0_0),t225))) else (none))=some (r1,r2):=by first|(rw [hy219];with_reducible exact H)|(have H2_:=(Option.bind_some _ _).symm.trans H;rw [hy219];with_reducible exact H2_)|(have H2_:=(Option.bind_some _ _).symm.trans H;with_reducible exact H2_)|with_reducible exact H|(rw [hy219];exact H)|exact H
 have Ny219:=aM hy219
 clear hy219
 by_cases c2:y219.length+l0_0.length<17592186044416
 {
 rw [if_pos c2] at H
 have LMc2:=aM c2
 clear c2
 obtain ⟨y222,hy222⟩:∃ y_:List Int,y_=(y219 ++ l0_0):=⟨_,rfl⟩
 replace H:((spec_l02Then.f k l0_0 l0_1).bind fun t225=>(some (y222,t225)))=some (r1,r2):=by first|(rw [hy222];with_reducible exact H)|(have H2_:=(Option.bind_some _ _).symm.trans H;rw [hy222];with_reducible exact H2_)|(have H2_:=(Option.bind_some _ _).symm.trans H;with_reducible exact H2_)|with_reducible exact H|(rw [hy222];exact H)|exact H
 have Ny222:=aM hy222
 clear hy222
 replace H:=oB H
 obtain ⟨t225,A30,H⟩:=H
 have A3:=aM A30
 clear A30
 simp only [Option.some.injEq,Prod.mk.injEq] at H
 obtain ⟨rfl,rfl⟩:=H
 go_enter Tryz.func79,Tryz.ntmps79
 try go_wp2_with (first|((with_reducible refine gate_dst (N:=1) rfl ?_);refine bEv (cs:=#[.slice A0_0 l0_0.length c0_0,.slice A0_1 l0_1.length c0_1]) (t:=27) ?_;intro gb217 hg w4 hbox hb;have BK217:=aM (hbox);have GW217:=aM ((szX (below_size (bX HB.out)) hg:w.heap.size≤gb217));have GE217:=GW217;replace HB:=aM (below_step (bX HB.out) hb);clear hb hbox hg)|((with_reducible refine gate_dst (N:=2) rfl ?_);refine bEv (cs:=#[.slice none 0 0,.slice none 0 0]) (t:=27) ?_;intro gb218 hg w5 hbox hb;have BK218:=aM (hbox);have GW218:=aM ((szX (below_size (bX1 HB.out GE217.out)) hg:w.heap.size≤gb218));have GE218:=GW218;replace HB:=aM (below_step (bX1 HB.out GE217.out) hb);have NB217_218:=aM (neX BK217.out hg);have NB218_217:=aM (nfX BK217.out hg);replace BK217:=aM (bbX BK217.out hb);clear hb hbox hg))
 replace BK217:=aM (blk_drew BK217.out)
 replace BK218:=aM (blk_drew BK218.out)
 replace HB:=aM (below_drew1 HB.out)
 refine start_ (n:=11) (S:=fun w'=>w'.cell? ⟨gb217,0,none⟩=some (.slice A0_0 l0_0.length c0_0)∧w'.cell? ⟨gb217,1,none⟩=some (.slice A0_1 l0_1.length c0_1)) (ds:=[]) #[ff,ff,ff,ff,ff,ff,ff,ff,ff,ff,ff] (by kernel_rfl) rfl rfl ⟨cz20 BK217.out,cz21 BK217.out⟩ (fun hHeld => ?_);refine with_tabW spec_l05Unshear.tab1 spec_l05Unshear.bits1 (fun HT_ HW_ => ?_)
 generalize w5.drew=w6 at BK217 BK218 HB hHeld ⊢
 refine pX 1 4 (fl 11 2) rfl rfl HT_.out ?_
 refine pX 4 7 (fl 11 18) rfl rfl HT_.out ?_
 refine pX 6 9 (fl 11 82) rfl rfl HT_.out ?_
 refine tX2 2 5 (fl 11 86) rfl rfl HT_.out HW_.out hHeld ?_
 refine tX2 5 8 (fl 11 118) rfl rfl HT_.out HW_.out hHeld ?_
 refine tX2 7 10 (fl 11 246) rfl rfl HT_.out HW_.out hHeld ?_
 refine one_ (i:=0) (N:=some 3) #[tt,tt,tt,ff,tt,tt,tt,tt,ff,ff,ff] rfl rfl (one_of HT_.out (by kernel_rfl)) (by decide) (fun K hK => ?_)
 refine Kd.R_lit_step (Kd.int .i64) _ 3 ?hg (N:=3) ?hd (xs:=([]:List Int)) (inner:=[]) (ok:=fun _=>True) (okp:=fun _=>True) ?hr ?hp (fun _ hk=>hk) trivial (Below.refl _ _) (Nat.le_refl _) (by simp) ?_;(case hd=>rfl);(case hg=>rfl);(case hr=>first|(go_simp;done)|(go_simp;rfl));(case hp=>exact(Reps.none _ _))
 intro v220 w7 ho8 hb hg_ hnew_
 clear hg_ hnew_
 (first|rw [← Ny219.out] at ho8|(simp only [Int.reduceToNat] at ho8;rw [← Ny219.out] at ho8))
 have HO221:=aM (Kd.R_lower ho8 (below_size (bX2 HB.out GE217.out GE218.out)))
 replace BK217:=aM (bbX BK217.out hb)
 replace BK218:=aM (bbX BK218.out hb)
 replace HB:=aM (below_step (bX2 HB.out GE217.out GE218.out) hb)
 clear hb ho8
 refine hK.out _ _ ⟨cz20 BK217.out,cz21 BK217.out⟩ (fun hHeld => ?_)
 clear hK K
 refine norm_ (a':=?_) ?_ ?_
 rotate_left
 {
 show Act.put _ (some 3) _=_
 simp only [Act.put,zA,zB,zC,i64_w,i32_w]
 rfl
 }
 refine one_ (i:=3) (N:=some 6) #[tt,tt,tt,tt,tt,tt,tt,tt,ff,ff,ff] rfl rfl (one_of HT_.out (by kernel_rfl)) (by decide) (fun K hK => ?_)
 refine Kd.R_append_rows_step (Kd.int .i64) (w0:=w) w.heap.size (by rfl) (.tmp 3) (.tmp 5) 22 3 (.int .i64 0) 8 rfl Tryz.underlying22 info3 rfl (by decide) (by omega) v220 y219 l0_0 _ _ _ (fun _=>True) (fun _=>False) rfl rfl ?aO ?aR (fun _ _ h=>h) (fun _ h=>h.elim) ?aF ?aB ?aS ?aL ?_
 (case aR=>exact cX (Kd.C_below HR0_0.out HB.out))
 (case aB=>exact(bX2 HB.out GE217.out GE218.out))
 (case aF=>exact(fun _ _=>trivial))
 (case aO=>exact(rX HO221.out))
 (case aS=>exact(below_size (bX2 HB.out GE217.out GE218.out)))
 (case aL=>have:=LMc2.out;omega)
 intro v223 w9 ho hb hg hat
 rw [← Ny222.out] at ho
 replace BK217:=aM (bgX BK217.out hg (Kd.R_ne HO221.out BK217.out (by decide)))
 replace BK218:=aM (bgX BK218.out hg (Kd.R_ne HO221.out BK218.out (by decide)))
 replace HB:=aM (hb)
 have HO224:=aM (ho)
 clear HO221 ho hb hg hat
 refine hK.out _ _ ⟨cz20 BK217.out,cz21 BK217.out⟩ (fun hHeld => ?_)
 clear hK K
 refine norm_ (a':=?_) ?_ ?_
 rotate_left
 {
 show Act.put _ (some 6) _=_
 simp only [Act.put,zA,zB,zC,i64_w,i32_w]
 rfl
 }
 refine one_ (i:=8) (N:=some 11) #[tt,tt,tt,tt,tt,tt,tt,tt,tt,ff,ff] rfl rfl (one_of HT_.out (by kernel_rfl)) (by decide) (fun K hK => ?_)
 refine goes_ Tryz.func55 (by kernel_rfl) rfl #[.slice A0_0 l0_0.length c0_0,.slice A0_1 l0_1.length c0_1] (by rfl) rfl rfl aX ?_
 with_reducible refine(spec_l02Then.calls k _ _ l0_0 _ _ l0_1 t225 _ ?side1 ?side2 ?side3 ?side4 A3.out).mono ?_
 (case side1=>exact cX (Kd.C_below HR0_0.out HB.out))
 (case side2=>exact HC0_0.out)
 (case side3=>exact cX (Kd.C_below HR0_1.out HB.out))
 (case side4=>exact HC0_1.out)
 rintro e w10 ⟨v226,rfl,ho0,hb⟩
 refine ⟨_,rfl,?_⟩
 have HO227:=aM (Kd.R_lower (Kd.R_new' ho0 (Kd.R_lt (rX HO224.out))) (below_size (bX2 HB.out GE217.out GE218.out)))
 replace HO224:=aM (Kd.R_elder' (rX HO224.out) (Kd.R_base ho0) hb)
 replace BK217:=aM (bbX BK217.out hb)
 replace BK218:=aM (bbX BK218.out hb)
 replace HB:=aM (below_step (bX2 HB.out GE217.out GE218.out) hb)
 (try clear hb)
 (try clear hk)
 (try clear ho0)
 obtain ⟨Ao11,co11,eo11⟩:=Kd.R_slice HO227.out
 (first|subst eo11|(injection eo11 with f1_ f2_ f3_;have f4_:=f1_.symm;have f5_:=f3_.symm;clear f1_ f2_ f3_;subst f4_;subst f5_))
 obtain ⟨Ao12,co12,eo12⟩:=Kd.R_slice HO224.out
 (first|subst eo12|(injection eo12 with f1_ f2_ f3_;have f4_:=f1_.symm;have f5_:=f3_.symm;clear f1_ f2_ f3_;subst f4_;subst f5_))
 refine hK.out _ _ ⟨cz20 BK217.out,cz21 BK217.out⟩ (fun hHeld => ?_)
 clear hK K
 refine norm_ (a':=?_) ?_ ?_
 rotate_left
 {
 show Act.put _ (some 11) _=_
 simp only [Act.put,zA,zB,zC,i64_w,i32_w]
 rfl
 }
 refine pX 9 12 (fl 11 1023) rfl rfl HT_.out ?_
 refine one_ (i:=10) (N:=none) #[tt,tt,tt,tt,tt,tt,tt,tt,tt,tt,tt] rfl rfl (one_of HT_.out (by kernel_rfl)) (by decide) (fun K hK => ?_)
 have hs13:w10.cell? ⟨gb218,0,none⟩=some (.slice none 0 0):=cz20 BK218.out
 have hfs13:=blk_frozen BK218.out 0
 have hns13_0:=NB217_218.out
 have hms13_0:=NB218_217.out
 have hs14:w10.cell? ⟨gb218,1,none⟩=some (.slice none 0 0):=cz21 BK218.out
 have hfs14:=blk_frozen BK218.out 1
 have hns14_0:=NB217_218.out
 have hms14_0:=NB218_217.out
 refine skip_ (w1:=?_) (by rfl) rfl ?_ ?_
 rotate_left
 {
 go_simp
 rfl
 }
 refine hK.out _ _ ⟨((cell_far (p:=⟨gb218,_,none⟩) NB217_218.out _).trans (((cell_far (p:=⟨gb218,_,none⟩) NB217_218.out _).trans (hHeld.1)))),((cell_far (p:=⟨gb218,_,none⟩) NB217_218.out _).trans (((cell_far (p:=⟨gb218,_,none⟩) NB217_218.out _).trans (hHeld.2))))⟩ (fun hHeld => ?_)
 clear hK K
 refine done_ (done_of HT_.out (by kernel_rfl)) ?_
 try go_wp2
 refine bodyPost_ret (results_cell_row rfl _ _ gb218 27 #[.slice Ao12 y222.length co12,.slice Ao11 t225.length co11] (0,0) _ rfl (by(with_reducible repeat(first|refine kN ?_ _|refine kD ?_|refine kA ?_ _));refine blk_put (cs:=#[.slice Ao12 y222.length co12,.slice none 0 0]) ?_ 1 _ rfl;(with_reducible repeat(first|refine kN ?_ _|refine kD ?_|refine kA ?_ _));refine blk_put (cs:=#[.slice none 0 0,.slice none 0 0]) ?_ 0 _ rfl;(with_reducible repeat(first|refine kN ?_ _|refine kD ?_|refine kA ?_ _));exact BK218.out) Tryz.underlying27 rfl (by kernel_rfl)) rfl ?_
 exact ⟨_,_,eX,by(with_reducible repeat(first|apply rA|apply rN|apply rD));exact Kd.R_mono (Kd.R_far (p:=⟨gb218,1,none⟩) (Kd.R_far (p:=⟨gb218,0,none⟩) (Kd.R_types HO224.out BK218.out (by decide)) (fun _ hk=>hk.2) (.slice Ao12 y222.length co12)) (fun _ hk=>hk.2) (.slice Ao11 t225.length co11)) (fun _ hk=>hk.1.2),by(with_reducible repeat(first|apply rA|apply rN|apply rD));exact Kd.R_mono (Kd.R_far (p:=⟨gb218,1,none⟩) (Kd.R_far (p:=⟨gb218,0,none⟩) (Kd.R_types HO227.out BK218.out (by decide)) (fun _ hk=>hk.2) (.slice Ao12 y222.length co12)) (fun _ hk=>hk.2) (.slice Ao11 t225.length co11)) (fun _ hk=>hk.1.2),bX2 HB.out GE217.out GE218.out⟩
 }
 {
 rw [if_neg c2] at H
 exact absurd H (by simp)
 }

/-! ### spec_l05Turn: function 80 -/
def spec_l05Turn.f (k:Nat) (l0_0:List Int) (l0_1:List Int):Option (List Int × List Int):=(spec_l02Inverse.f k l0_1).bind fun t230=>((some (([]:List Int):List Int)).bind fun y233=>(if y233.length+l0_0.length<17592186044416 then (some (t230,(y233 ++ l0_0))) else (none)))
def spec_l05Turn.T1 : Bool × List (List Nat × List Nat):=(true,[([],[]),([0],[0]),([1],[1]),([],[]),([],[]),([4],[4]),([3,5,2],[3,5]),([2,6],[2,6]),([7,6,0,1,2,3,4,5,6,7],[7])])
def spec_l05Turn.B1 : List Nat:=[0,1,3,0,0,16,63,127,255]
theorem spec_l05Turn.tab1 : rtab .any (opsOf Tryz.f80 1)=spec_l05Turn.T1:=by kernel_rfl
theorem spec_l05Turn.bits1 : waitsOk spec_l05Turn.T1.2 spec_l05Turn.B1=true:=by kernel_rfl
theorem spec_l05Turn.calls (k:Nat) (A0_0:Option Addr) (c0_0:Nat) (l0_0:List Int) (A0_1:Option Addr) (c0_1:Nat) (l0_1:List Int) (r1:List Int) (r2:List Int) (w:World) (hr0_0:Kd.C (Kd.int .i64) w A0_0 l0_0.length l0_0) (hc0_0:l0_0.length≤c0_0) (hr0_1:Kd.C (Kd.int .i64) w A0_1 l0_1.length l0_1) (hc0_1:l0_1.length≤c0_1) (h:spec_l05Turn.f k l0_0 l0_1=some (r1,r2)) :
  Calls Tryz.prog 80 #[.agg #[.slice A0_0 l0_0.length c0_0,.slice A0_1 l0_1.length c0_1]] w fun e w'=>∃ v0_ v1_:Value,e = .returned (.agg #[v0_,v1_])∧Kd.R (Kd.int .i64) 3 w' w.heap.size (fun k_=>some k_≠(v1_:Value).ownBlock) v0_ r1∧Kd.R (Kd.int .i64) 3 w' w.heap.size (fun k_=>some k_≠(v0_:Value).ownBlock) v1_ r2∧Below w.heap.size w w':=by
 have hu27:=Tryz.underlying27
 have HR0_0:=aM hr0_0
 have HC0_0:=aM hc0_0
 clear hr0_0 hc0_0
 have HR0_1:=aM hr0_1
 have HC0_1:=aM hc0_1
 clear hr0_1 hc0_1
 have HB:=aM (Below.refl w.heap.size w)
 have H:((spec_l02Inverse.f k l0_1).bind fun t230=>((some (([]:List Int):List Int)).bind fun y233=>(if y233.length+l0_0.length<17592186044416 then (some (t230,(y233 ++ l0_0))) else (none))))=some (r1,r2):=h
 clear h
 replace H:=oB H
 obtain ⟨t230,A20,H⟩:=H
 have A2:=aM A20
 clear A20
 obtain ⟨y233,hy233⟩:∃ y_:List Int,y_=(([]:List Int)):=⟨_,rfl⟩
 replace H:(if y233.length+l0_0.length<17592186044416 then (some (t230,(y233 ++ l0_0))) else (none))=some (r1,r2):=by first|(rw [hy233];with_reducible exact H)|(have H2_:=(Option.bind_some _ _).symm.trans H;rw [hy233];with_reducible exact H2_)|(have H2_:=(Option.bind_some _ _).symm.trans H;with_reducible exact H2_)|with_reducible exact H|(rw [hy233];exact H)|exact H
 have Ny233:=aM hy233
 clear hy233
 by_cases c3:y233.length+l0_0.length<17592186044416
 {
 rw [if_pos c3] at H
 have LMc3:=aM c3
 clear c3
 obtain ⟨y236,hy236⟩:∃ y_:List Int,y_=(y233 ++ l0_0):=⟨_,rfl⟩
 replace H:(some (t230,y236))=some (r1,r2):=by first|(rw [hy236];with_reducible exact H)|(have H2_:=(Option.bind_some _ _).symm.trans H;rw [hy236];with_reducible exact H2_)|(have H2_:=(Option.bind_some _ _).symm.trans H;with_reducible exact H2_)|with_reducible exact H|(rw [hy236];exact H)|exact H
 have Ny236:=aM hy236
 clear hy236
 simp only [Option.some.injEq,Prod.mk.injEq] at H
 obtain ⟨rfl,rfl⟩:=H
 go_enter Tryz.func80,Tryz.ntmps80
 try go_wp2_with (first|((with_reducible refine gate_dst (N:=1) rfl ?_);refine bEv (cs:=#[.slice A0_0 l0_0.length c0_0,.slice A0_1 l0_1.length c0_1]) (t:=27) ?_;intro gb228 hg w4 hbox hb;have BK228:=aM (hbox);have GW228:=aM ((szX (below_size (bX HB.out)) hg:w.heap.size≤gb228));have GE228:=GW228;replace HB:=aM (below_step (bX HB.out) hb);clear hb hbox hg)|((with_reducible refine gate_dst (N:=2) rfl ?_);refine bEv (cs:=#[.slice none 0 0,.slice none 0 0]) (t:=27) ?_;intro gb229 hg w5 hbox hb;have BK229:=aM (hbox);have GW229:=aM ((szX (below_size (bX1 HB.out GE228.out)) hg:w.heap.size≤gb229));have GE229:=GW229;replace HB:=aM (below_step (bX1 HB.out GE228.out) hb);have NB228_229:=aM (neX BK228.out hg);have NB229_228:=aM (nfX BK228.out hg);replace BK228:=aM (bbX BK228.out hb);clear hb hbox hg))
 replace BK228:=aM (blk_drew BK228.out)
 replace BK229:=aM (blk_drew BK229.out)
 replace HB:=aM (below_drew1 HB.out)
 refine start_ (n:=9) (S:=fun w'=>w'.cell? ⟨gb228,0,none⟩=some (.slice A0_0 l0_0.length c0_0)∧w'.cell? ⟨gb228,1,none⟩=some (.slice A0_1 l0_1.length c0_1)) (ds:=[]) #[ff,ff,ff,ff,ff,ff,ff,ff,ff] (by kernel_rfl) rfl rfl ⟨cz20 BK228.out,cz21 BK228.out⟩ (fun hHeld => ?_);refine with_tabW spec_l05Turn.tab1 spec_l05Turn.bits1 (fun HT_ HW_ => ?_)
 generalize w5.drew=w6 at BK228 BK229 HB hHeld ⊢
 refine pX 0 3 (fl 9 1) rfl rfl HT_.out ?_
 refine pX 4 7 (fl 9 17) rfl rfl HT_.out ?_
 refine tX2 1 4 (fl 9 19) rfl rfl HT_.out HW_.out hHeld ?_
 refine tX2 5 8 (fl 9 51) rfl rfl HT_.out HW_.out hHeld ?_
 refine join_ (σ:=Value × Value) 3 #[tt,tt,tt,tt,tt,tt,ff,ff,ff] (fun s_=>[(5,s_.1),(6,s_.2)]) (fun s_ w'=>(w'.cell? ⟨gb228,0,none⟩=some (.slice A0_0 l0_0.length c0_0)∧w'.cell? ⟨gb228,1,none⟩=some (.slice A0_1 l0_1.length c0_1))∧(Kd.R (Kd.int .i64) 3 w' w.heap.size (fun k_=>some k_≠(s_.2:Value).ownBlock) s_.1 t230)∧(Kd.R (Kd.int .i64) 3 w' w.heap.size (fun k_=>some k_≠(s_.1:Value).ownBlock) s_.2 y233)∧(w'.heap[gb228]? = some (.cells #[.slice A0_0 l0_0.length c0_0,.slice A0_1 l0_1.length c0_1] 27 (0,0)))∧(w'.heap[gb229]? = some (.cells #[.slice none 0 0,.slice none 0 0] 27 (0,0)))∧(Below w.heap.size w w')) ?_ ?_
 rotate_left
 {
 intro hCont
 refine two_ (i:=2) (j:=3) (Ni:=some 5) (Nj:=some 6) #[tt,tt,tt,ff,tt,tt,ff,ff,ff] #[tt,tt,ff,tt,tt,tt,ff,ff,ff] rfl rfl rfl rfl (two_of HT_.out (by kernel_rfl)) (by decide) (by decide) (fun K hK => ?_) (fun K hK => ?_)
 {
 skip
 refine goes_ Tryz.func56 (by kernel_rfl) rfl #[.slice A0_1 l0_1.length c0_1] (by rfl) rfl rfl aX ?_
 with_reducible refine(spec_l02Inverse.calls k _ _ l0_1 t230 _ ?side1 ?side2 A2.out).mono ?_
 (case side1=>exact cX (Kd.C_below HR0_1.out HB.out))
 (case side2=>exact HC0_1.out)
 rintro e w7 ⟨v231,rfl,ho0,hb⟩
 refine ⟨_,rfl,?_⟩
 have HO232:=aM (Kd.R_lower ho0 (below_size (bX2 HB.out GE228.out GE229.out)))
 replace BK228:=aM (bbX BK228.out hb)
 replace BK229:=aM (bbX BK229.out hb)
 replace HB:=aM (below_step (bX2 HB.out GE228.out GE229.out) hb)
 (try clear hb)
 (try clear hk)
 (try clear ho0)
 refine hK.out _ _ ⟨cz20 BK228.out,cz21 BK228.out⟩ (fun hHeld => ?_)
 clear hK K
 refine norm_ (a':=?_) ?_ ?_
 rotate_left
 {
 show Act.put _ (some 5) _=_
 simp only [Act.put,zA,zB,zC,i64_w,i32_w]
 rfl
 }
 refine one_ (i:=3) (N:=some 6) #[tt,tt,tt,tt,tt,tt,ff,ff,ff] rfl rfl (one_of HT_.out (by kernel_rfl)) (by decide) (fun K hK => ?_)
 refine Kd.R_lit_step (Kd.int .i64) _ 3 ?hg (N:=6) ?hd (xs:=([]:List Int)) (inner:=[]) (ok:=fun _=>True) (okp:=fun _=>True) ?hr ?hp (fun _ hk=>hk) trivial (Below.refl _ _) (Nat.le_refl _) (by simp) ?_;(case hd=>rfl);(case hg=>rfl);(case hr=>first|(go_simp;done)|(go_simp;rfl));(case hp=>exact(Reps.none _ _))
 intro v234 w8 ho9 hb hg_ hnew_
 clear hg_ hnew_
 (first|rw [← Ny233.out] at ho9|(simp only [Int.reduceToNat] at ho9;rw [← Ny233.out] at ho9))
 have HO235:=aM (Kd.R_lower (Kd.R_new' ho9 (Kd.R_lt (rX HO232.out))) (below_size (bX2 HB.out GE228.out GE229.out)))
 replace HO232:=aM (Kd.R_elder' (rX HO232.out) (Kd.R_base ho9) hb)
 replace BK228:=aM (bbX BK228.out hb)
 replace BK229:=aM (bbX BK229.out hb)
 replace HB:=aM (below_step (bX2 HB.out GE228.out GE229.out) hb)
 clear hb ho9
 refine hK.out _ _ ⟨cz20 BK228.out,cz21 BK228.out⟩ (fun hHeld => ?_)
 clear hK K
 refine norm_ (a':=?_) ?_ ?_
 rotate_left
 {
 show Act.put _ (some 6) _=_
 simp only [Act.put,zA,zB,zC,i64_w,i32_w]
 rfl
 }
 exact norm_ (by simp only [putAll,Act.put,List.setIfInBounds_toArray,List.set_cons_zero,List.set_cons_succ]) (hCont (v231,v234) _ ⟨hHeld,(rM HO232.out (fun _ hk=>hk.2)),(rM HO235.out (fun _ hk=>hk.2)),(kX BK228.out),(kX BK229.out),(bX2 HB.out GE228.out GE229.out)⟩)
 }
 {
 skip
 refine Kd.R_lit_step (Kd.int .i64) _ 3 ?hg (N:=6) ?hd (xs:=([]:List Int)) (inner:=[]) (ok:=fun _=>True) (okp:=fun _=>True) ?hr ?hp (fun _ hk=>hk) trivial (Below.refl _ _) (Nat.le_refl _) (by simp) ?_;(case hd=>rfl);(case hg=>rfl);(case hr=>first|(go_simp;done)|(go_simp;rfl));(case hp=>exact(Reps.none _ _))
 intro v234 w7 ho8 hb hg_ hnew_
 clear hg_ hnew_
 (first|rw [← Ny233.out] at ho8|(simp only [Int.reduceToNat] at ho8;rw [← Ny233.out] at ho8))
 have HO235:=aM (Kd.R_lower ho8 (below_size (bX2 HB.out GE228.out GE229.out)))
 replace BK228:=aM (bbX BK228.out hb)
 replace BK229:=aM (bbX BK229.out hb)
 replace HB:=aM (below_step (bX2 HB.out GE228.out GE229.out) hb)
 clear hb ho8
 refine hK.out _ _ ⟨cz20 BK228.out,cz21 BK228.out⟩ (fun hHeld => ?_)
 clear hK K
 refine norm_ (a':=?_) ?_ ?_
 rotate_left
 {
 show Act.put _ (some 6) _=_
 simp only [Act.put,zA,zB,zC,i64_w,i32_w]
 rfl
 }
 refine one_ (i:=2) (N:=some 5) #[tt,tt,tt,tt,tt,tt,ff,ff,ff] rfl rfl (one_of HT_.out (by kernel_rfl)) (by decide) (fun K hK => ?_)
 refine goes_ Tryz.func56 (by kernel_rfl) rfl #[.slice A0_1 l0_1.length c0_1] (by rfl) rfl rfl aX ?_
 with_reducible refine(spec_l02Inverse.calls k _ _ l0_1 t230 _ ?side1 ?side2 A2.out).mono ?_
 (case side1=>exact cX (Kd.C_below HR0_1.out HB.out))
 (case side2=>exact HC0_1.out)
 rintro e w9 ⟨v231,rfl,ho0,hb⟩
 refine ⟨_,rfl,?_⟩
 have HO232:=aM (Kd.R_lower (Kd.R_new' ho0 (Kd.R_lt (rX HO235.out))) (below_size (bX2 HB.out GE228.out GE229.out)))
 replace HO235:=aM (Kd.R_elder' (rX HO235.out) (Kd.R_base ho0) hb)
 replace BK228:=aM (bbX BK228.out hb)
 replace BK229:=aM (bbX BK229.out hb)
 replace HB:=aM (below_step (bX2 HB.out GE228.out GE229.out) hb)
 (try clear hb)
 (try clear hk)
 (try clear ho0)
 refine hK.out _ _ ⟨cz20 BK228.out,cz21 BK228.out⟩ (fun hHeld => ?_)
 clear hK K
 refine norm_ (a':=?_) ?_ ?_
 rotate_left
 {
 show Act.put _ (some 5) _=_
 simp only [Act.put,zA,zB,zC,i64_w,i32_w]
 rfl
 }
 exact norm_ (by simp only [putAll,Act.put,List.setIfInBounds_toArray,List.set_cons_zero,List.set_cons_succ]) (hCont (v231,v234) _ ⟨hHeld,(rM HO232.out (fun _ hk=>hk.2)),(rM HO235.out (fun _ hk=>hk.2)),(kX BK228.out),(kX BK229.out),(bX2 HB.out GE228.out GE229.out)⟩)
 }
 }
 rintro ⟨v231,v234⟩ w10 ⟨hS_,h0_,h1_,h2_,h3_,h4_⟩
 have n0_:Aside0 (Kd.R (Kd.int .i64) 3 w10 w.heap.size (fun k_=>some k_≠(v234:Value).ownBlock) v231 t230):=⟨h0_⟩
 have n1_:Aside0 (Kd.R (Kd.int .i64) 3 w10 w.heap.size (fun k_=>some k_≠(v231:Value).ownBlock) v234 y233):=⟨h1_⟩
 have n2_:Aside0 (w10.heap[gb228]? = some (.cells #[.slice A0_0 l0_0.length c0_0,.slice A0_1 l0_1.length c0_1] 27 (0,0))):=⟨h2_⟩
 have n3_:Aside0 (w10.heap[gb229]? = some (.cells #[.slice none 0 0,.slice none 0 0] 27 (0,0))):=⟨h3_⟩
 have n4_:Aside0 (Below w.heap.size w w10):=⟨h4_⟩
 clear BK228 BK229 HB h0_ h1_ h2_ h3_ h4_
 have HO232:=n0_
 have HO235:=n1_
 have BK228:=n2_
 have BK229:=n3_
 have HB:=n4_
 clear n0_ n1_ n2_ n3_ n4_
 have hHeld:w10.cell? ⟨gb228,0,none⟩=some (.slice A0_0 l0_0.length c0_0)∧w10.cell? ⟨gb228,1,none⟩=some (.slice A0_1 l0_1.length c0_1):=hS_
 refine norm_ (a':=?_) ?_ ?_
 rotate_left
 {
 simp only [putAll,Act.put,List.setIfInBounds_toArray,List.set_cons_zero,List.set_cons_succ]
 rfl
 }
 refine one_ (i:=6) (N:=some 9) #[tt,tt,tt,tt,tt,tt,tt,ff,ff] rfl rfl (one_of HT_.out (by kernel_rfl)) (by decide) (fun K hK => ?_)
 refine Kd.R_append_rows_step (Kd.int .i64) (w0:=w) w.heap.size (by rfl) (.tmp 6) (.tmp 8) 22 3 (.int .i64 0) 8 rfl Tryz.underlying22 info3 rfl (by decide) (by omega) v234 y233 l0_0 _ _ _ (fun k_=>some k_≠(v231:Value).ownBlock) (fun _=>False) rfl rfl ?aO ?aR (fun _ _ h=>h) (fun _ h=>h.elim) ?aF ?aB ?aS ?aL ?_
 (case aR=>exact cX (Kd.C_below HR0_0.out HB.out))
 (case aB=>exact(bX2 HB.out GE228.out GE229.out))
 (case aF=>exact(fun k_ hk=>Kd.fresh' (Kd.R_lt (rX HO232.out)) k_ hk))
 (case aO=>exact(rX HO235.out))
 (case aS=>exact(below_size (bX2 HB.out GE228.out GE229.out)))
 (case aL=>have:=LMc3.out;omega)
 intro v237 w11 ho hb hg hat
 rw [← Ny236.out] at ho
 replace BK228:=aM (bgX BK228.out hg (Kd.R_ne HO235.out BK228.out (by decide)))
 replace BK229:=aM (bgX BK229.out hg (Kd.R_ne HO235.out BK229.out (by decide)))
 replace HO232:=aM (Kd.R_after (ok:=(fun _=>True)) (rM HO232.out (fun _ hk=>⟨trivial,hk⟩)) hg hat)
 replace HB:=aM (hb)
 have HO238:=aM (ho)
 clear HO235 ho hb hg hat
 obtain ⟨Ao12,co12,eo12⟩:=Kd.R_slice HO238.out
 (first|subst eo12|(injection eo12 with f1_ f2_ f3_;have f4_:=f1_.symm;have f5_:=f3_.symm;clear f1_ f2_ f3_;subst f4_;subst f5_))
 obtain ⟨Ao13,co13,eo13⟩:=Kd.R_slice HO232.out
 (first|subst eo13|(injection eo13 with f1_ f2_ f3_;have f4_:=f1_.symm;have f5_:=f3_.symm;clear f1_ f2_ f3_;subst f4_;subst f5_))
 refine hK.out _ _ ⟨cz20 BK228.out,cz21 BK228.out⟩ (fun hHeld => ?_)
 clear hK K
 refine norm_ (a':=?_) ?_ ?_
 rotate_left
 {
 show Act.put _ (some 9) _=_
 simp only [Act.put,zA,zB,zC,i64_w,i32_w]
 rfl
 }
 refine pX 7 10 (fl 9 255) rfl rfl HT_.out ?_
 refine one_ (i:=8) (N:=none) #[tt,tt,tt,tt,tt,tt,tt,tt,tt] rfl rfl (one_of HT_.out (by kernel_rfl)) (by decide) (fun K hK => ?_)
 have hs14:w11.cell? ⟨gb229,0,none⟩=some (.slice none 0 0):=cz20 BK229.out
 have hfs14:=blk_frozen BK229.out 0
 have hns14_0:=NB228_229.out
 have hms14_0:=NB229_228.out
 have hs15:w11.cell? ⟨gb229,1,none⟩=some (.slice none 0 0):=cz21 BK229.out
 have hfs15:=blk_frozen BK229.out 1
 have hns15_0:=NB228_229.out
 have hms15_0:=NB229_228.out
 refine skip_ (w1:=?_) (by rfl) rfl ?_ ?_
 rotate_left
 {
 go_simp
 rfl
 }
 refine hK.out _ _ ⟨((cell_far (p:=⟨gb229,_,none⟩) NB228_229.out _).trans (((cell_far (p:=⟨gb229,_,none⟩) NB228_229.out _).trans (hHeld.1)))),((cell_far (p:=⟨gb229,_,none⟩) NB228_229.out _).trans (((cell_far (p:=⟨gb229,_,none⟩) NB228_229.out _).trans (hHeld.2))))⟩ (fun hHeld => ?_)
 clear hK K
 refine done_ (done_of HT_.out (by kernel_rfl)) ?_
 try go_wp2
 refine bodyPost_ret (results_cell_row rfl _ _ gb229 27 #[.slice Ao13 t230.length co13,.slice Ao12 y236.length co12] (0,0) _ rfl (by(with_reducible repeat(first|refine kN ?_ _|refine kD ?_|refine kA ?_ _));refine blk_put (cs:=#[.slice Ao13 t230.length co13,.slice none 0 0]) ?_ 1 _ rfl;(with_reducible repeat(first|refine kN ?_ _|refine kD ?_|refine kA ?_ _));refine blk_put (cs:=#[.slice none 0 0,.slice none 0 0]) ?_ 0 _ rfl;(with_reducible repeat(first|refine kN ?_ _|refine kD ?_|refine kA ?_ _));exact BK229.out) Tryz.underlying27 rfl (by kernel_rfl)) rfl ?_
 exact ⟨_,_,eX,by(with_reducible repeat(first|apply rA|apply rN|apply rD));exact Kd.R_mono (Kd.R_far (p:=⟨gb229,1,none⟩) (Kd.R_far (p:=⟨gb229,0,none⟩) (Kd.R_types HO232.out BK229.out (by decide)) (fun _ hk=>hk.2) (.slice Ao13 t230.length co13)) (fun _ hk=>hk.2) (.slice Ao12 y236.length co12)) (fun _ hk=>hk.1.2),by(with_reducible repeat(first|apply rA|apply rN|apply rD));exact Kd.R_mono (Kd.R_far (p:=⟨gb229,1,none⟩) (Kd.R_far (p:=⟨gb229,0,none⟩) (Kd.R_types HO238.out BK229.out (by decide)) (fun _ hk=>hk.2) (.slice Ao13 t230.length co13)) (fun _ hk=>hk.2) (.slice Ao12 y236.length co12)) (fun _ hk=>hk.1),bX2 HB.out GE228.out GE229.out⟩
 }
 {
 rw [if_neg c3] at H
 exact absurd H (by simp)
 }

/-! ### spec_l05Unturn: function 81 -/
def spec_l05Unturn.f (k:Nat) (l0_0:List Int) (l0_1:List Int):Option (List Int × List Int):=(some (([]:List Int):List Int)).bind fun y241=>(if y241.length+l0_1.length<17592186044416 then ((spec_l02Inverse.f k l0_0).bind fun t247=>(some ((y241 ++ l0_1),t247))) else (none))
def spec_l05Unturn.T1 : Bool × List (List Nat × List Nat):=(true,[([],[]),([],[]),([1],[1]),([0,2],[0,2]),([],[]),([4],[4]),([5,3],[5]),([3,6],[3,6]),([7,6,0,1,2,3,4,5,6,7],[7])])
def spec_l05Unturn.B1 : List Nat:=[0,0,2,7,0,16,63,127,255]
theorem spec_l05Unturn.tab1 : rtab .any (opsOf Tryz.f81 1)=spec_l05Unturn.T1:=by kernel_rfl
theorem spec_l05Unturn.bits1 : waitsOk spec_l05Unturn.T1.2 spec_l05Unturn.B1=true:=by kernel_rfl
theorem spec_l05Unturn.calls (k:Nat) (A0_0:Option Addr) (c0_0:Nat) (l0_0:List Int) (A0_1:Option Addr) (c0_1:Nat) (l0_1:List Int) (r1:List Int) (r2:List Int) (w:World) (hr0_0:Kd.C (Kd.int .i64) w A0_0 l0_0.length l0_0) (hc0_0:l0_0.length≤c0_0) (hr0_1:Kd.C (Kd.int .i64) w A0_1 l0_1.length l0_1) (hc0_1:l0_1.length≤c0_1) (h:spec_l05Unturn.f k l0_0 l0_1=some (r1,r2)) :
  Calls Tryz.prog 81 #[.agg #[.slice A0_0 l0_0.length c0_0,.slice A0_1 l0_1.length c0_1]] w fun e w'=>∃ v0_ v1_:Value,e = .returned (.agg #[v0_,v1_])∧Kd.R (Kd.int .i64) 3 w' w.heap.size (fun k_=>some k_≠(v1_:Value).ownBlock) v0_ r1∧Kd.R (Kd.int .i64) 3 w' w.heap.size (fun k_=>some k_≠(v0_:Value).ownBlock) v1_ r2∧Below w.heap.size w w':=by
 have hu27:=Tryz.underlying27
 have HR0_0:=aM hr0_0
 have HC0_0:=aM hc0_0
 clear hr0_0 hc0_0
 have HR0_1:=aM hr0_1
 have HC0_1:=aM hc0_1
 clear hr0_1 hc0_1
 have HB:=aM (Below.refl w.heap.size w)
 have H:((some (([]:List Int):List Int)).bind fun y241=>(if y241.length+l0_1.length<17592186044416 then ((spec_l02Inverse.f k l0_0).bind fun t247=>(some ((y241 ++ l0_1),t247))) else (none)))=some (r1,r2):=h
 clear h
 obtain ⟨y241,hy241⟩:∃ y_:List Int,y_=(([]:List Int)):=⟨_,rfl⟩
 replace H:(if y241.length+l0_1.length<17592186044416 then ((spec_l02Inverse.f k l0_0).bind fun t247=>(some ((y241 ++ l0_1),t247))) else (none))=some (r1,r2):=by first|(rw [hy241];with_reducible exact H)|(have H2_:=(Option.bind_some _ _).symm.trans H;rw [hy241];with_reducible exact H2_)|(have H2_:=(Option.bind_some _ _).symm.trans H;with_reducible exact H2_)|with_reducible exact H|(rw [hy241];exact H)|exact H
 have Ny241:=aM hy241
 clear hy241
 by_cases c2:y241.length+l0_1.length<17592186044416
 {
 rw [if_pos c2] at H
 have LMc2:=aM c2
 clear c2
 obtain ⟨y244,hy244⟩:∃ y_:List Int,y_=(y241 ++ l0_1):=⟨_,rfl⟩
 replace H:((spec_l02Inverse.f k l0_0).bind fun t247=>(some (y244,t247)))=some (r1,r2):=by first|(rw [hy244];with_reducible exact H)|(have H2_:=(Option.bind_some _ _).symm.trans H;rw [hy244];with_reducible exact H2_)|(have H2_:=(Option.bind_some _ _).symm.trans H;with_reducible exact H2_)|with_reducible exact H|(rw [hy244];exact H)|exact H
 have Ny244:=aM hy244
 clear hy244
 replace H:=oB H
 obtain ⟨t247,A30,H⟩:=H
 have A3:=aM A30
 clear A30
 simp only [Option.some.injEq,Prod.mk.injEq] at H
 obtain ⟨rfl,rfl⟩:=H
 go_enter Tryz.func81,Tryz.ntmps81
 try go_wp2_with (first|((with_reducible refine gate_dst (N:=1) rfl ?_);refine bEv (cs:=#[.slice A0_0 l0_0.length c0_0,.slice A0_1 l0_1.length c0_1]) (t:=27) ?_;intro gb239 hg w4 hbox hb;have BK239:=aM (hbox);have GW239:=aM ((szX (below_size (bX HB.out)) hg:w.heap.size≤gb239));have GE239:=GW239;replace HB:=aM (below_step (bX HB.out) hb);clear hb hbox hg)|((with_reducible refine gate_dst (N:=2) rfl ?_);refine bEv (cs:=#[.slice none 0 0,.slice none 0 0]) (t:=27) ?_;intro gb240 hg w5 hbox hb;have BK240:=aM (hbox);have GW240:=aM ((szX (below_size (bX1 HB.out GE239.out)) hg:w.heap.size≤gb240));have GE240:=GW240;replace HB:=aM (below_step (bX1 HB.out GE239.out) hb);have NB239_240:=aM (neX BK239.out hg);have NB240_239:=aM (nfX BK239.out hg);replace BK239:=aM (bbX BK239.out hb);clear hb hbox hg))
 replace BK239:=aM (blk_drew BK239.out)
 replace BK240:=aM (blk_drew BK240.out)
 replace HB:=aM (below_drew1 HB.out)
 refine start_ (n:=9) (S:=fun w'=>w'.cell? ⟨gb239,0,none⟩=some (.slice A0_0 l0_0.length c0_0)∧w'.cell? ⟨gb239,1,none⟩=some (.slice A0_1 l0_1.length c0_1)) (ds:=[]) #[ff,ff,ff,ff,ff,ff,ff,ff,ff] (by kernel_rfl) rfl rfl ⟨cz20 BK239.out,cz21 BK239.out⟩ (fun hHeld => ?_);refine with_tabW spec_l05Unturn.tab1 spec_l05Unturn.bits1 (fun HT_ HW_ => ?_)
 generalize w5.drew=w6 at BK239 BK240 HB hHeld ⊢
 refine pX 1 4 (fl 9 2) rfl rfl HT_.out ?_
 refine pX 4 7 (fl 9 18) rfl rfl HT_.out ?_
 refine tX2 2 5 (fl 9 22) rfl rfl HT_.out HW_.out hHeld ?_
 refine tX2 5 8 (fl 9 54) rfl rfl HT_.out HW_.out hHeld ?_
 refine one_ (i:=0) (N:=some 3) #[tt,tt,tt,ff,tt,tt,ff,ff,ff] rfl rfl (one_of HT_.out (by kernel_rfl)) (by decide) (fun K hK => ?_)
 refine Kd.R_lit_step (Kd.int .i64) _ 3 ?hg (N:=3) ?hd (xs:=([]:List Int)) (inner:=[]) (ok:=fun _=>True) (okp:=fun _=>True) ?hr ?hp (fun _ hk=>hk) trivial (Below.refl _ _) (Nat.le_refl _) (by simp) ?_;(case hd=>rfl);(case hg=>rfl);(case hr=>first|(go_simp;done)|(go_simp;rfl));(case hp=>exact(Reps.none _ _))
 intro v242 w7 ho8 hb hg_ hnew_
 clear hg_ hnew_
 (first|rw [← Ny241.out] at ho8|(simp only [Int.reduceToNat] at ho8;rw [← Ny241.out] at ho8))
 have HO243:=aM (Kd.R_lower ho8 (below_size (bX2 HB.out GE239.out GE240.out)))
 replace BK239:=aM (bbX BK239.out hb)
 replace BK240:=aM (bbX BK240.out hb)
 replace HB:=aM (below_step (bX2 HB.out GE239.out GE240.out) hb)
 clear hb ho8
 refine hK.out _ _ ⟨cz20 BK239.out,cz21 BK239.out⟩ (fun hHeld => ?_)
 clear hK K
 refine norm_ (a':=?_) ?_ ?_
 rotate_left
 {
 show Act.put _ (some 3) _=_
 simp only [Act.put,zA,zB,zC,i64_w,i32_w]
 rfl
 }
 refine one_ (i:=3) (N:=some 6) #[tt,tt,tt,tt,tt,tt,ff,ff,ff] rfl rfl (one_of HT_.out (by kernel_rfl)) (by decide) (fun K hK => ?_)
 refine Kd.R_append_rows_step (Kd.int .i64) (w0:=w) w.heap.size (by rfl) (.tmp 3) (.tmp 5) 22 3 (.int .i64 0) 8 rfl Tryz.underlying22 info3 rfl (by decide) (by omega) v242 y241 l0_1 _ _ _ (fun _=>True) (fun _=>False) rfl rfl ?aO ?aR (fun _ _ h=>h) (fun _ h=>h.elim) ?aF ?aB ?aS ?aL ?_
 (case aR=>exact cX (Kd.C_below HR0_1.out HB.out))
 (case aB=>exact(bX2 HB.out GE239.out GE240.out))
 (case aF=>exact(fun _ _=>trivial))
 (case aO=>exact(rX HO243.out))
 (case aS=>exact(below_size (bX2 HB.out GE239.out GE240.out)))
 (case aL=>have:=LMc2.out;omega)
 intro v245 w9 ho hb hg hat
 rw [← Ny244.out] at ho
 replace BK239:=aM (bgX BK239.out hg (Kd.R_ne HO243.out BK239.out (by decide)))
 replace BK240:=aM (bgX BK240.out hg (Kd.R_ne HO243.out BK240.out (by decide)))
 replace HB:=aM (hb)
 have HO246:=aM (ho)
 clear HO243 ho hb hg hat
 refine hK.out _ _ ⟨cz20 BK239.out,cz21 BK239.out⟩ (fun hHeld => ?_)
 clear hK K
 refine norm_ (a':=?_) ?_ ?_
 rotate_left
 {
 show Act.put _ (some 6) _=_
 simp only [Act.put,zA,zB,zC,i64_w,i32_w]
 rfl
 }
 refine one_ (i:=6) (N:=some 9) #[tt,tt,tt,tt,tt,tt,tt,ff,ff] rfl rfl (one_of HT_.out (by kernel_rfl)) (by decide) (fun K hK => ?_)
 refine goes_ Tryz.func56 (by kernel_rfl) rfl #[.slice A0_0 l0_0.length c0_0] (by rfl) rfl rfl aX ?_
 with_reducible refine(spec_l02Inverse.calls k _ _ l0_0 t247 _ ?side1 ?side2 A3.out).mono ?_
 (case side1=>exact cX (Kd.C_below HR0_0.out HB.out))
 (case side2=>exact HC0_0.out)
 rintro e w10 ⟨v248,rfl,ho0,hb⟩
 refine ⟨_,rfl,?_⟩
 have HO249:=aM (Kd.R_lower (Kd.R_new' ho0 (Kd.R_lt (rX HO246.out))) (below_size (bX2 HB.out GE239.out GE240.out)))
 replace HO246:=aM (Kd.R_elder' (rX HO246.out) (Kd.R_base ho0) hb)
 replace BK239:=aM (bbX BK239.out hb)
 replace BK240:=aM (bbX BK240.out hb)
 replace HB:=aM (below_step (bX2 HB.out GE239.out GE240.out) hb)
 (try clear hb)
 (try clear hk)
 (try clear ho0)
 obtain ⟨Ao11,co11,eo11⟩:=Kd.R_slice HO249.out
 (first|subst eo11|(injection eo11 with f1_ f2_ f3_;have f4_:=f1_.symm;have f5_:=f3_.symm;clear f1_ f2_ f3_;subst f4_;subst f5_))
 obtain ⟨Ao12,co12,eo12⟩:=Kd.R_slice HO246.out
 (first|subst eo12|(injection eo12 with f1_ f2_ f3_;have f4_:=f1_.symm;have f5_:=f3_.symm;clear f1_ f2_ f3_;subst f4_;subst f5_))
 refine hK.out _ _ ⟨cz20 BK239.out,cz21 BK239.out⟩ (fun hHeld => ?_)
 clear hK K
 refine norm_ (a':=?_) ?_ ?_
 rotate_left
 {
 show Act.put _ (some 9) _=_
 simp only [Act.put,zA,zB,zC,i64_w,i32_w]
 rfl
 }
 refine pX 7 10 (fl 9 255) rfl rfl HT_.out ?_
 refine one_ (i:=8) (N:=none) #[tt,tt,tt,tt,tt,tt,tt,tt,tt] rfl rfl (one_of HT_.out (by kernel_rfl)) (by decide) (fun K hK => ?_)
 have hs13:w10.cell? ⟨gb240,0,none⟩=some (.slice none 0 0):=cz20 BK240.out
 have hfs13:=blk_frozen BK240.out 0
 have hns13_0:=NB239_240.out
 have hms13_0:=NB240_239.out
 have hs14:w10.cell? ⟨gb240,1,none⟩=some (.slice none 0 0):=cz21 BK240.out
 have hfs14:=blk_frozen BK240.out 1
 have hns14_0:=NB239_240.out
 have hms14_0:=NB240_239.out
 refine skip_ (w1:=?_) (by rfl) rfl ?_ ?_
 rotate_left
 {
 go_simp
 rfl
 }
 refine hK.out _ _ ⟨((cell_far (p:=⟨gb240,_,none⟩) NB239_240.out _).trans (((cell_far (p:=⟨gb240,_,none⟩) NB239_240.out _).trans (hHeld.1)))),((cell_far (p:=⟨gb240,_,none⟩) NB239_240.out _).trans (((cell_far (p:=⟨gb240,_,none⟩) NB239_240.out _).trans (hHeld.2))))⟩ (fun hHeld => ?_)
 clear hK K
 refine done_ (done_of HT_.out (by kernel_rfl)) ?_
 try go_wp2
 refine bodyPost_ret (results_cell_row rfl _ _ gb240 27 #[.slice Ao12 y244.length co12,.slice Ao11 t247.length co11] (0,0) _ rfl (by(with_reducible repeat(first|refine kN ?_ _|refine kD ?_|refine kA ?_ _));refine blk_put (cs:=#[.slice Ao12 y244.length co12,.slice none 0 0]) ?_ 1 _ rfl;(with_reducible repeat(first|refine kN ?_ _|refine kD ?_|refine kA ?_ _));refine blk_put (cs:=#[.slice none 0 0,.slice none 0 0]) ?_ 0 _ rfl;(with_reducible repeat(first|refine kN ?_ _|refine kD ?_|refine kA ?_ _));exact BK240.out) Tryz.underlying27 rfl (by kernel_rfl)) rfl ?_
 exact ⟨_,_,eX,by(with_reducible repeat(first|apply rA|apply rN|apply rD));exact Kd.R_mono (Kd.R_far (p:=⟨gb240,1,none⟩) (Kd.R_far (p:=⟨gb240,0,none⟩) (Kd.R_types HO246.out BK240.out (by decide)) (fun _ hk=>hk.2) (.slice Ao12 y244.length co12)) (fun _ hk=>hk.2) (.slice Ao11 t247.length co11)) (fun _ hk=>hk.1.2),by(with_reducible repeat(first|apply rA|apply rN|apply rD));exact Kd.R_mono (Kd.R_far (p:=⟨gb240,1,none⟩) (Kd.R_far (p:=⟨gb240,0,none⟩) (Kd.R_types HO249.out BK240.out (by decide)) (fun _ hk=>hk.2) (.slice Ao12 y244.length co12)) (fun _ hk=>hk.2) (.slice Ao11 t247.length co11)) (fun _ hk=>hk.1.2),bX2 HB.out GE239.out GE240.out⟩
 }
 {
 rw [if_neg c2] at H
 exact absurd H (by simp)
 }

/-! ### spec_l05Letter: function 50 -/
def spec_l05Letter.f (k:Nat) (l0_0:List Int) (l0_1:List Int) (a1:Int):Option (List Int × List Int):=if a1=84 then ((spec_l05Shear.f k l0_0 l0_1).bind fun bt252=>(some (bt252.1,bt252.2))) else (if a1=116 then ((spec_l05Unshear.f k l0_0 l0_1).bind fun bt258=>(some (bt258.1,bt258.2))) else (if a1=83 then ((spec_l05Turn.f k l0_0 l0_1).bind fun bt264=>(some (bt264.1,bt264.2))) else ((spec_l05Unturn.f k l0_0 l0_1).bind fun bt270=>(some (bt270.1,bt270.2)))))
theorem spec_l05Letter.calls (k:Nat) (A0_0:Option Addr) (c0_0:Nat) (l0_0:List Int) (A0_1:Option Addr) (c0_1:Nat) (l0_1:List Int) (a1:Int) (r1:List Int) (r2:List Int) (w:World) (hr0_0:Kd.C (Kd.int .i64) w A0_0 l0_0.length l0_0) (hc0_0:l0_0.length≤c0_0) (hr0_1:Kd.C (Kd.int .i64) w A0_1 l0_1.length l0_1) (hc0_1:l0_1.length≤c0_1) (h:spec_l05Letter.f k l0_0 l0_1 a1=some (r1,r2)) :
  Calls Tryz.prog 50 #[.agg #[.slice A0_0 l0_0.length c0_0,.slice A0_1 l0_1.length c0_1],.int .u8 a1] w fun e w'=>∃ v0_ v1_:Value,e = .returned (.agg #[v0_,v1_])∧Kd.R (Kd.int .i64) 3 w' w.heap.size (fun k_=>some k_≠(v1_:Value).ownBlock) v0_ r1∧Kd.R (Kd.int .i64) 3 w' w.heap.size (fun k_=>some k_≠(v0_:Value).ownBlock) v1_ r2∧Below w.heap.size w w':=by
 have hu27:=Tryz.underlying27
 have HR0_0:=aM hr0_0
 have HC0_0:=aM hc0_0
 clear hr0_0 hc0_0
 have HR0_1:=aM hr0_1
 have HC0_1:=aM hc0_1
 clear hr0_1 hc0_1
 have HB:=aM (Below.refl w.heap.size w)
 have H:(if a1=84 then ((spec_l05Shear.f k l0_0 l0_1).bind fun bt252=>(some (bt252.1,bt252.2))) else (if a1=116 then ((spec_l05Unshear.f k l0_0 l0_1).bind fun bt258=>(some (bt258.1,bt258.2))) else (if a1=83 then ((spec_l05Turn.f k l0_0 l0_1).bind fun bt264=>(some (bt264.1,bt264.2))) else ((spec_l05Unturn.f k l0_0 l0_1).bind fun bt270=>(some (bt270.1,bt270.2))))))=some (r1,r2):=h
 clear h
 by_cases c3:a1=84
 {
 rw [if_pos c3] at H
 have c3b0:(a1 == 84)=true:=beq_iff_eq.mpr c3
 have c3b1:(a1 != 84)=false:=bne_eq_false_iff_eq.mpr c3
 clear c3
 replace H:=oB H
 obtain ⟨⟨t252,t255⟩,A40,H⟩:=H
 replace H:(some (t252,t255))=some (r1,r2):=H
 have A4:=aM A40
 clear A40
 simp only [Option.some.injEq,Prod.mk.injEq] at H
 obtain ⟨rfl,rfl⟩:=H
 go_enter Tryz.func50,Tryz.ntmps50
 go_wp2_with (first|((with_reducible refine gate_dst (N:=2) rfl ?_);refine bEv (cs:=#[.slice A0_0 l0_0.length c0_0,.slice A0_1 l0_1.length c0_1]) (t:=27) ?_;intro gb250 hg w5 hbox hb;have BK250:=aM (hbox);have GW250:=aM ((szX (below_size (bX HB.out)) hg:w.heap.size≤gb250));have GE250:=GW250;replace HB:=aM (below_step (bX HB.out) hb);clear hb hbox hg)|((with_reducible refine gate_dst (N:=4) rfl ?_);refine bEv (cs:=#[.slice none 0 0,.slice none 0 0]) (t:=27) ?_;intro gb251 hg w6 hbox hb;have BK251:=aM (hbox);have GW251:=aM ((szX (below_size (bX1 HB.out GE250.out)) hg:w.heap.size≤gb251));have GE251:=GW251;replace HB:=aM (below_step (bX1 HB.out GE250.out) hb);have NB250_251:=aM (neX BK250.out hg);have NB251_250:=aM (nfX BK250.out hg);replace BK250:=aM (bbX BK250.out hb);clear hb hbox hg;have hnb7:=NB250_251.out;have hnc7:=NB251_250.out;obtain ⟨hcz8_0,hcz8_1,hfz8_0,hfz8_1⟩:=f2Z BK250.out)|((with_reducible refine gate_callee (f:=38) rfl ?_);refine goesL_ (some 9) rfl rfl Tryz.func38 (by kernel_rfl) rfl #[.agg #[.slice A0_0 l0_0.length c0_0,.slice A0_1 l0_1.length c0_1]] rfl aX ?_;(with_reducible refine(spec_l05Shear.calls k _ _ l0_0 _ _ l0_1 t252 t255 _ ?side1 ?side2 ?side3 ?side4 A4.out).mono ?_);(case side1=>exact cX (Kd.C_below HR0_0.out HB.out));(case side2=>exact HC0_0.out);(case side3=>exact cX (Kd.C_below HR0_1.out HB.out));(case side4=>exact HC0_1.out);rintro e w9 ⟨v253,v256,rfl,ho0,ho1,hb⟩;refine ⟨_,rfl,?_⟩;have HO254:=aM (Kd.R_lower ho0 (below_size (bX2 HB.out GE250.out GE251.out)));have HO257:=aM (Kd.R_lower ho1 (below_size (bX2 HB.out GE250.out GE251.out)));replace BK250:=aM (bbX BK250.out hb);replace BK251:=aM (bbX BK251.out hb);replace HB:=aM (below_step (bX2 HB.out GE250.out GE251.out) hb);(try clear hb);(try clear hk);(try clear ho0);(try clear ho1);obtain ⟨Ao10,co10,eo10⟩:=Kd.R_slice HO254.out;subst eo10;obtain ⟨hcz11_0,hcz11_1,hfz11_0,hfz11_1⟩:=f2Z BK251.out;obtain ⟨Ao12,co12,eo12⟩:=Kd.R_slice HO257.out;subst eo12))
 refine bodyPost_ret (results_cell_row rfl _ _ gb251 27 #[.slice Ao10 t252.length co10,.slice Ao12 t255.length co12] (0,0) _ rfl (by(with_reducible repeat(first|refine kN ?_ _|refine kD ?_|refine kA ?_ _));refine blk_put (cs:=#[.slice Ao10 t252.length co10,.slice none 0 0]) ?_ 1 _ rfl;(with_reducible repeat(first|refine kN ?_ _|refine kD ?_|refine kA ?_ _));refine blk_put (cs:=#[.slice none 0 0,.slice none 0 0]) ?_ 0 _ rfl;(with_reducible repeat(first|refine kN ?_ _|refine kD ?_|refine kA ?_ _));exact BK251.out) Tryz.underlying27 rfl (by kernel_rfl)) rfl ?_
 exact ⟨_,_,eX,by(with_reducible repeat(first|apply rA|apply rN|apply rD));exact Kd.R_mono (Kd.R_far (p:=⟨gb251,1,none⟩) (Kd.R_far (p:=⟨gb251,0,none⟩) (Kd.R_types HO254.out BK251.out (by decide)) (fun _ hk=>hk.2) (.slice Ao10 t252.length co10)) (fun _ hk=>hk.2) (.slice Ao12 t255.length co12)) (fun _ hk=>hk.1),by(with_reducible repeat(first|apply rA|apply rN|apply rD));exact Kd.R_mono (Kd.R_far (p:=⟨gb251,1,none⟩) (Kd.R_far (p:=⟨gb251,0,none⟩) (Kd.R_types HO257.out BK251.out (by decide)) (fun _ hk=>hk.2) (.slice Ao10 t252.length co10)) (fun _ hk=>hk.2) (.slice Ao12 t255.length co12)) (fun _ hk=>hk.1),bX2 HB.out GE250.out GE251.out⟩
 }
 {
 rw [if_neg c3] at H
 have c3b0:(a1 == 84)=false:=beq_eq_false_iff_ne.mpr c3
 have c3b1:(a1 != 84)=true:=bne_iff_ne.mpr c3
 by_cases c13:a1=116
 {
 rw [if_pos c13] at H
 have c13b0:(a1 == 116)=true:=beq_iff_eq.mpr c13
 have c13b1:(a1 != 116)=false:=bne_eq_false_iff_eq.mpr c13
 clear c13
 replace H:=oB H
 obtain ⟨⟨t258,t261⟩,A140,H⟩:=H
 replace H:(some (t258,t261))=some (r1,r2):=H
 have A14:=aM A140
 clear A140
 simp only [Option.some.injEq,Prod.mk.injEq] at H
 obtain ⟨rfl,rfl⟩:=H
 go_enter Tryz.func50,Tryz.ntmps50
 go_wp2_with (first|((with_reducible refine gate_dst (N:=2) rfl ?_);refine bEv (cs:=#[.slice A0_0 l0_0.length c0_0,.slice A0_1 l0_1.length c0_1]) (t:=27) ?_;intro gb250 hg w15 hbox hb;have BK250:=aM (hbox);have GW250:=aM ((szX (below_size (bX HB.out)) hg:w.heap.size≤gb250));have GE250:=GW250;replace HB:=aM (below_step (bX HB.out) hb);clear hb hbox hg)|((with_reducible refine gate_dst (N:=4) rfl ?_);refine bEv (cs:=#[.slice none 0 0,.slice none 0 0]) (t:=27) ?_;intro gb251 hg w16 hbox hb;have BK251:=aM (hbox);have GW251:=aM ((szX (below_size (bX1 HB.out GE250.out)) hg:w.heap.size≤gb251));have GE251:=GW251;replace HB:=aM (below_step (bX1 HB.out GE250.out) hb);have NB250_251:=aM (neX BK250.out hg);have NB251_250:=aM (nfX BK250.out hg);replace BK250:=aM (bbX BK250.out hb);clear hb hbox hg;have hnb17:=NB250_251.out;have hnc17:=NB251_250.out;obtain ⟨hcz18_0,hcz18_1,hfz18_0,hfz18_1⟩:=f2Z BK250.out)|((with_reducible refine gate_callee (f:=79) rfl ?_);refine goesL_ (some 13) rfl rfl Tryz.func79 (by kernel_rfl) rfl #[.agg #[.slice A0_0 l0_0.length c0_0,.slice A0_1 l0_1.length c0_1]] rfl aX ?_;(with_reducible refine(spec_l05Unshear.calls k _ _ l0_0 _ _ l0_1 t258 t261 _ ?side1 ?side2 ?side3 ?side4 A14.out).mono ?_);(case side1=>exact cX (Kd.C_below HR0_0.out HB.out));(case side2=>exact HC0_0.out);(case side3=>exact cX (Kd.C_below HR0_1.out HB.out));(case side4=>exact HC0_1.out);rintro e w19 ⟨v259,v262,rfl,ho0,ho1,hb⟩;refine ⟨_,rfl,?_⟩;have HO260:=aM (Kd.R_lower ho0 (below_size (bX2 HB.out GE250.out GE251.out)));have HO263:=aM (Kd.R_lower ho1 (below_size (bX2 HB.out GE250.out GE251.out)));replace BK250:=aM (bbX BK250.out hb);replace BK251:=aM (bbX BK251.out hb);replace HB:=aM (below_step (bX2 HB.out GE250.out GE251.out) hb);(try clear hb);(try clear hk);(try clear ho0);(try clear ho1);obtain ⟨Ao20,co20,eo20⟩:=Kd.R_slice HO260.out;subst eo20;obtain ⟨hcz21_0,hcz21_1,hfz21_0,hfz21_1⟩:=f2Z BK251.out;obtain ⟨Ao22,co22,eo22⟩:=Kd.R_slice HO263.out;subst eo22))
 refine bodyPost_ret (results_cell_row rfl _ _ gb251 27 #[.slice Ao20 t258.length co20,.slice Ao22 t261.length co22] (0,0) _ rfl (by(with_reducible repeat(first|refine kN ?_ _|refine kD ?_|refine kA ?_ _));refine blk_put (cs:=#[.slice Ao20 t258.length co20,.slice none 0 0]) ?_ 1 _ rfl;(with_reducible repeat(first|refine kN ?_ _|refine kD ?_|refine kA ?_ _));refine blk_put (cs:=#[.slice none 0 0,.slice none 0 0]) ?_ 0 _ rfl;(with_reducible repeat(first|refine kN ?_ _|refine kD ?_|refine kA ?_ _));exact BK251.out) Tryz.underlying27 rfl (by kernel_rfl)) rfl ?_
 exact ⟨_,_,eX,by(with_reducible repeat(first|apply rA|apply rN|apply rD));exact Kd.R_mono (Kd.R_far (p:=⟨gb251,1,none⟩) (Kd.R_far (p:=⟨gb251,0,none⟩) (Kd.R_types HO260.out BK251.out (by decide)) (fun _ hk=>hk.2) (.slice Ao20 t258.length co20)) (fun _ hk=>hk.2) (.slice Ao22 t261.length co22)) (fun _ hk=>hk.1),by(with_reducible repeat(first|apply rA|apply rN|apply rD));exact Kd.R_mono (Kd.R_far (p:=⟨gb251,1,none⟩) (Kd.R_far (p:=⟨gb251,0,none⟩) (Kd.R_types HO263.out BK251.out (by decide)) (fun _ hk=>hk.2) (.slice Ao20 t258.length co20)) (fun _ hk=>hk.2) (.slice Ao22 t261.length co22)) (fun _ hk=>hk.1),bX2 HB.out GE250.out GE251.out⟩
 }
 {
 rw [if_neg c13] at H
 have c13b0:(a1 == 116)=false:=beq_eq_false_iff_ne.mpr c13
 have c13b1:(a1 != 116)=true:=bne_iff_ne.mpr c13
 by_cases c23:a1=83
 {
 rw [if_pos c23] at H
 have c23b0:(a1 == 83)=true:=beq_iff_eq.mpr c23
 have c23b1:(a1 != 83)=false:=bne_eq_false_iff_eq.mpr c23
 clear c23
 replace H:=oB H
 obtain ⟨⟨t264,t267⟩,A240,H⟩:=H
 replace H:(some (t264,t267))=some (r1,r2):=H
 have A24:=aM A240
 clear A240
 simp only [Option.some.injEq,Prod.mk.injEq] at H
 obtain ⟨rfl,rfl⟩:=H
 go_enter Tryz.func50,Tryz.ntmps50
 go_wp2_with (first|((with_reducible refine gate_dst (N:=2) rfl ?_);refine bEv (cs:=#[.slice A0_0 l0_0.length c0_0,.slice A0_1 l0_1.length c0_1]) (t:=27) ?_;intro gb250 hg w25 hbox hb;have BK250:=aM (hbox);have GW250:=aM ((szX (below_size (bX HB.out)) hg:w.heap.size≤gb250));have GE250:=GW250;replace HB:=aM (below_step (bX HB.out) hb);clear hb hbox hg)|((with_reducible refine gate_dst (N:=4) rfl ?_);refine bEv (cs:=#[.slice none 0 0,.slice none 0 0]) (t:=27) ?_;intro gb251 hg w26 hbox hb;have BK251:=aM (hbox);have GW251:=aM ((szX (below_size (bX1 HB.out GE250.out)) hg:w.heap.size≤gb251));have GE251:=GW251;replace HB:=aM (below_step (bX1 HB.out GE250.out) hb);have NB250_251:=aM (neX BK250.out hg);have NB251_250:=aM (nfX BK250.out hg);replace BK250:=aM (bbX BK250.out hb);clear hb hbox hg;have hnb27:=NB250_251.out;have hnc27:=NB251_250.out;obtain ⟨hcz28_0,hcz28_1,hfz28_0,hfz28_1⟩:=f2Z BK250.out)|((with_reducible refine gate_callee (f:=80) rfl ?_);refine goesL_ (some 17) rfl rfl Tryz.func80 (by kernel_rfl) rfl #[.agg #[.slice A0_0 l0_0.length c0_0,.slice A0_1 l0_1.length c0_1]] rfl aX ?_;(with_reducible refine(spec_l05Turn.calls k _ _ l0_0 _ _ l0_1 t264 t267 _ ?side1 ?side2 ?side3 ?side4 A24.out).mono ?_);(case side1=>exact cX (Kd.C_below HR0_0.out HB.out));(case side2=>exact HC0_0.out);(case side3=>exact cX (Kd.C_below HR0_1.out HB.out));(case side4=>exact HC0_1.out);rintro e w29 ⟨v265,v268,rfl,ho0,ho1,hb⟩;refine ⟨_,rfl,?_⟩;have HO266:=aM (Kd.R_lower ho0 (below_size (bX2 HB.out GE250.out GE251.out)));have HO269:=aM (Kd.R_lower ho1 (below_size (bX2 HB.out GE250.out GE251.out)));replace BK250:=aM (bbX BK250.out hb);replace BK251:=aM (bbX BK251.out hb);replace HB:=aM (below_step (bX2 HB.out GE250.out GE251.out) hb);(try clear hb);(try clear hk);(try clear ho0);(try clear ho1);obtain ⟨Ao30,co30,eo30⟩:=Kd.R_slice HO266.out;subst eo30;obtain ⟨hcz31_0,hcz31_1,hfz31_0,hfz31_1⟩:=f2Z BK251.out;obtain ⟨Ao32,co32,eo32⟩:=Kd.R_slice HO269.out;subst eo32))
 refine bodyPost_ret (results_cell_row rfl _ _ gb251 27 #[.slice Ao30 t264.length co30,.slice Ao32 t267.length co32] (0,0) _ rfl (by(with_reducible repeat(first|refine kN ?_ _|refine kD ?_|refine kA ?_ _));refine blk_put (cs:=#[.slice Ao30 t264.length co30,.slice none 0 0]) ?_ 1 _ rfl;(with_reducible repeat(first|refine kN ?_ _|refine kD ?_|refine kA ?_ _));refine blk_put (cs:=#[.slice none 0 0,.slice none 0 0]) ?_ 0 _ rfl;(with_reducible repeat(first|refine kN ?_ _|refine kD ?_|refine kA ?_ _));exact BK251.out) Tryz.underlying27 rfl (by kernel_rfl)) rfl ?_
 exact ⟨_,_,eX,by(with_reducible repeat(first|apply rA|apply rN|apply rD));exact Kd.R_mono (Kd.R_far (p:=⟨gb251,1,none⟩) (Kd.R_far (p:=⟨gb251,0,none⟩) (Kd.R_types HO266.out BK251.out (by decide)) (fun _ hk=>hk.2) (.slice Ao30 t264.length co30)) (fun _ hk=>hk.2) (.slice Ao32 t267.length co32)) (fun _ hk=>hk.1),by(with_reducible repeat(first|apply rA|apply rN|apply rD));exact Kd.R_mono (Kd.R_far (p:=⟨gb251,1,none⟩) (Kd.R_far (p:=⟨gb251,0,none⟩) (Kd.R_types HO269.out BK251.out (by decide)) (fun _ hk=>hk.2) (.slice Ao30 t264.length co30)) (fun _ hk=>hk.2) (.slice Ao32 t267.length co32)) (fun _ hk=>hk.1),bX2 HB.out GE250.out GE251.out⟩
 }
 {
 rw [if_neg c23] at H
 have c23b0:(a1 == 83)=false:=beq_eq_false_iff_ne.mpr c23
 have c23b1:(a1 != 83)=true:=bne_iff_ne.mpr c23
 replace H:=oB H
 obtain ⟨⟨t270,t273⟩,A330,H⟩:=H
 replace H:(some (t270,t273))=some (r1,r2):=H
 have A33:=aM A330
 clear A330
 simp only [Option.some.injEq,Prod.mk.injEq] at H
 obtain ⟨rfl,rfl⟩:=H
 go_enter Tryz.func50,Tryz.ntmps50
 go_wp2_with (first|((with_reducible refine gate_dst (N:=2) rfl ?_);refine bEv (cs:=#[.slice A0_0 l0_0.length c0_0,.slice A0_1 l0_1.length c0_1]) (t:=27) ?_;intro gb250 hg w34 hbox hb;have BK250:=aM (hbox);have GW250:=aM ((szX (below_size (bX HB.out)) hg:w.heap.size≤gb250));have GE250:=GW250;replace HB:=aM (below_step (bX HB.out) hb);clear hb hbox hg)|((with_reducible refine gate_dst (N:=4) rfl ?_);refine bEv (cs:=#[.slice none 0 0,.slice none 0 0]) (t:=27) ?_;intro gb251 hg w35 hbox hb;have BK251:=aM (hbox);have GW251:=aM ((szX (below_size (bX1 HB.out GE250.out)) hg:w.heap.size≤gb251));have GE251:=GW251;replace HB:=aM (below_step (bX1 HB.out GE250.out) hb);have NB250_251:=aM (neX BK250.out hg);have NB251_250:=aM (nfX BK250.out hg);replace BK250:=aM (bbX BK250.out hb);clear hb hbox hg;have hnb36:=NB250_251.out;have hnc36:=NB251_250.out;obtain ⟨hcz37_0,hcz37_1,hfz37_0,hfz37_1⟩:=f2Z BK250.out)|((with_reducible refine gate_callee (f:=81) rfl ?_);refine goesL_ (some 19) rfl rfl Tryz.func81 (by kernel_rfl) rfl #[.agg #[.slice A0_0 l0_0.length c0_0,.slice A0_1 l0_1.length c0_1]] rfl aX ?_;(with_reducible refine(spec_l05Unturn.calls k _ _ l0_0 _ _ l0_1 t270 t273 _ ?side1 ?side2 ?side3 ?side4 A33.out).mono ?_);(case side1=>exact cX (Kd.C_below HR0_0.out HB.out));(case side2=>exact HC0_0.out);(case side3=>exact cX (Kd.C_below HR0_1.out HB.out));(case side4=>exact HC0_1.out);rintro e w38 ⟨v271,v274,rfl,ho0,ho1,hb⟩;refine ⟨_,rfl,?_⟩;have HO272:=aM (Kd.R_lower ho0 (below_size (bX2 HB.out GE250.out GE251.out)));have HO275:=aM (Kd.R_lower ho1 (below_size (bX2 HB.out GE250.out GE251.out)));replace BK250:=aM (bbX BK250.out hb);replace BK251:=aM (bbX BK251.out hb);replace HB:=aM (below_step (bX2 HB.out GE250.out GE251.out) hb);(try clear hb);(try clear hk);(try clear ho0);(try clear ho1);obtain ⟨Ao39,co39,eo39⟩:=Kd.R_slice HO272.out;subst eo39;obtain ⟨hcz40_0,hcz40_1,hfz40_0,hfz40_1⟩:=f2Z BK251.out;obtain ⟨Ao41,co41,eo41⟩:=Kd.R_slice HO275.out;subst eo41))
 refine bodyPost_ret (results_cell_row rfl _ _ gb251 27 #[.slice Ao39 t270.length co39,.slice Ao41 t273.length co41] (0,0) _ rfl (by(with_reducible repeat(first|refine kN ?_ _|refine kD ?_|refine kA ?_ _));refine blk_put (cs:=#[.slice Ao39 t270.length co39,.slice none 0 0]) ?_ 1 _ rfl;(with_reducible repeat(first|refine kN ?_ _|refine kD ?_|refine kA ?_ _));refine blk_put (cs:=#[.slice none 0 0,.slice none 0 0]) ?_ 0 _ rfl;(with_reducible repeat(first|refine kN ?_ _|refine kD ?_|refine kA ?_ _));exact BK251.out) Tryz.underlying27 rfl (by kernel_rfl)) rfl ?_
 exact ⟨_,_,eX,by(with_reducible repeat(first|apply rA|apply rN|apply rD));exact Kd.R_mono (Kd.R_far (p:=⟨gb251,1,none⟩) (Kd.R_far (p:=⟨gb251,0,none⟩) (Kd.R_types HO272.out BK251.out (by decide)) (fun _ hk=>hk.2) (.slice Ao39 t270.length co39)) (fun _ hk=>hk.2) (.slice Ao41 t273.length co41)) (fun _ hk=>hk.1),by(with_reducible repeat(first|apply rA|apply rN|apply rD));exact Kd.R_mono (Kd.R_far (p:=⟨gb251,1,none⟩) (Kd.R_far (p:=⟨gb251,0,none⟩) (Kd.R_types HO275.out BK251.out (by decide)) (fun _ hk=>hk.2) (.slice Ao39 t270.length co39)) (fun _ hk=>hk.2) (.slice Ao41 t273.length co41)) (fun _ hk=>hk.1),bX2 HB.out GE250.out GE251.out⟩
 }
 }
 }

end Go.Proofs.YtpieaniigkgmoaaGreatDoor.S
