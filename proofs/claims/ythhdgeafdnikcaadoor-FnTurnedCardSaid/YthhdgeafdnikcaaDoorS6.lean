-- PRINTED by print.py (a twelfth state) out of the translation. Not trusted: Lean checks it.
import Derived.Test.YthhdgeafdnikcaaDoorS0
import Derived.Test.YthhdgeafdnikcaaDoorS4
import Derived.Test.YthhdgeafdnikcaaDoorS5
namespace Go.Proofs.YthhdgeafdnikcaaDoor.S
set_option maxHeartbeats 8000000
set_option maxRecDepth 100000
open Go.RowKit Go.Proofs.YthhdgeafdnikcaaDoorW.PrintWords Go.Proofs.YthhdgeafdnikcaaDoorW.PrintLast Go.Proofs.YthhdgeafdnikcaaDoorW.PrintMore
attribute [local go_sem] max2_int min2_int max_two min_two max_three min_three max_four min_four   -- for this text's walks alone
set_option linter.unusedVariables false
set_option linter.unusedSimpArgs false

/-! ### i_namedFrom: function 27 -/
def i_namedFrom.l0 : Nat→List (S25)→Int→List Int→List Int→Option ((List (S25)))
 | 0,_,_,_,_=>none
 | k+1,x3,x4,x483000,x483001=>(i_CountSquares.f k x483000 x483001).bind fun t486=>(if x4<t486 then ((i_NamesFrom.f k x483000 x483001 x4).bind fun t487=>((i_RenameSurface.f k x483000 x483001 t487).bind fun bt490=>(if x3.length<2932031007402 then (i_namedFrom.l0 k (x3 ++ [(⟨bt490.1,bt490.2.1⟩:S25)]) (wrap64 (x4+1)) x483000 x483001) else (none)))) else (some x3))
def i_namedFrom.f (k:Nat) (l0_0:List Int) (l0_1:List Int):Option ((List (S25))):=i_namedFrom.l0 k (([]:List (S25))) 0 l0_0 l0_1
def i_namedFrom.T5 : Bool × List (List Nat × List Nat):=(true,[([],[]),([],[]),([],[]),([1,2],[1,2]),([0,3,3],[0,3]),([4],[4]),([5],[5]),([5],[5]),([],[]),([8,6,4,0,1,2,3,4,5,6,8],[6,8]),([7,9,0,1,2,3,4,5,6,7,8,9],[7])])
def i_namedFrom.B5 : List Nat:=[0,0,0,6,15,31,63,63,0,383,1023]
theorem i_namedFrom.tab5 : rtab .any (opsOf Tryd.f27 5)=i_namedFrom.T5:=by kernel_rfl
theorem i_namedFrom.bits5 : waitsOk i_namedFrom.T5.2 i_namedFrom.B5=true:=by kernel_rfl
theorem i_namedFrom.calls (k:Nat) (A0_0:Option Addr) (c0_0:Nat) (l0_0:List Int) (A0_1:Option Addr) (c0_1:Nat) (l0_1:List Int) (r:List (S25)) (w:World) (hr0_0:Kd.C (Kd.int .i64) w A0_0 l0_0.length l0_0) (hc0_0:l0_0.length≤c0_0) (hr0_1:Kd.C (Kd.int .i64) w A0_1 l0_1.length l0_1) (hc0_1:l0_1.length≤c0_1) (h:i_namedFrom.f k l0_0 l0_1=some r) :
  Calls Tryd.prog 27 #[.agg #[.slice A0_0 l0_0.length c0_0,.slice A0_1 l0_1.length c0_1]] w fun e w'=>∃ v0_:Value,e = .returned (v0_)∧Kd.S k25 25 w' w.heap.size (fun _=>True) v0_ r∧Below w.heap.size w w':=by
 have hu25:=Tryd.underlying25
 have HR0_0:=aM hr0_0
 have HC0_0:=aM hc0_0
 clear hr0_0 hc0_0
 have HR0_1:=aM hr0_1
 have HC0_1:=aM hc0_1
 clear hr0_1 hc0_1
 have HB:=aM (Below.refl w.heap.size w)
 have H:(i_namedFrom.l0 k (([]:List (S25))) 0 l0_0 l0_1)=some r:=h
 clear h
 obtain ⟨y483,hy483⟩:∃ y_:List (S25),y_=(([]:List (S25))):=⟨_,rfl⟩
 replace H:(i_namedFrom.l0 k y483 0 l0_0 l0_1)=some r:=by first|(rw [hy483];with_reducible exact H)|(have H2_:=(Option.bind_some _ _).symm.trans H;rw [hy483];with_reducible exact H2_)|(have H2_:=(Option.bind_some _ _).symm.trans H;with_reducible exact H2_)|with_reducible exact H|(rw [hy483];exact H)|exact H
 have Ny483:=aM hy483
 clear hy483
 have H':=aM H
 clear H
 go_enter Tryd.func27,Tryd.ntmps27
 go_wp2_with (first|((with_reducible refine gate_dst (N:=1) rfl ?_);refine bEv (cs:=#[.slice A0_0 l0_0.length c0_0,.slice A0_1 l0_1.length c0_1]) (t:=25) ?_;intro gb482 hg w2 hbox hb;have BK482:=aM (hbox);have GW482:=aM ((szX (below_size (bX HB.out)) hg:w.heap.size≤gb482));have GE482:=GW482;replace HB:=aM (below_step (bX HB.out) hb);clear hb hbox hg)|((with_reducible refine gate_dst (N:=7) rfl ?_);refine Kd.S_lit k25 _ 25 ?hg (N:=7) ?hd (xs:=([]:List (S25))) (inner:=[]) (ok:=fun _=>True) (okp:=fun _=>True) ?hr ?hp (fun _ hk=>hk) trivial (Below.refl _ _) (Nat.le_refl _) (by simp) ?_;(case hd=>rfl);(case hg=>rfl);(case hr=>first|(go_simp;done)|(go_simp;rfl));(case hp=>exact(Reps.none _ _));intro v484 w3 ho4 hb hg_ hnew_;clear hg_ hnew_;(first|rw [← Ny483.out] at ho4|(simp only [Int.reduceToNat] at ho4;rw [← Ny483.out] at ho4));have HO485:=aM (Kd.S_lower (Kd.S_newB ho4 (g:=gb482) (o:=.cells #[.slice A0_0 l0_0.length c0_0,.slice A0_1 l0_1.length c0_1] 25 (0,0)) (kX BK482.out)) (below_size (bX1 HB.out GE482.out)));replace BK482:=aM (bbX BK482.out hb);replace HB:=aM (below_step (bX1 HB.out GE482.out) hb);clear hb ho4))
 go_loopg [3,4] k (fun kq v3 v4 w'=>∃ (x3_1:List (S25)) (x4_1:Int),v4 = .int .i64 x4_1∧Aside0 (i_namedFrom.l0 kq x3_1 x4_1 l0_0 l0_1=some r)∧Aside0 (kq≤k)∧Aside0 (Kd.S k25 25 w' w.heap.size (fun k_=>k_≠gb482) v3 x3_1)∧Aside0 (w'.heap[gb482]? = some (.cells #[(.slice A0_0 l0_0.length c0_0),(.slice A0_1 l0_1.length c0_1)] 25 (0,0)))∧Aside0 (Below w.heap.size w w'))
 case atStart=>exact ⟨(y483),(0),vX,H',⟨Nat.le_refl _⟩,⟨by(with_reducible repeat(first|apply Kd.S_alloc|apply Kd.S_drewN|apply Kd.S_drew));exact Kd.S_mono HO485.out (fun _ hk=>hk.2)⟩,⟨kX BK482.out⟩,⟨bX1 HB.out GE482.out⟩⟩
 case round =>
 clear H'
 obtain ⟨x3_1,x4_1,rfl,HA,HK1,HO_3,BK482,HB⟩:=hrel
 cases gk with
 | zero=>exact absurd HA.out (by simp [i_namedFrom.l0])
 | succ k1 =>
 have H:=HA.out
 clear HA
 simp only [i_namedFrom.l0] at H
 replace H:=oB H
 obtain ⟨t486,A50,H⟩:=H
 have A5:=aM A50
 clear A50
 by_cases c6:x4_1<t486
 {
 rw [if_pos c6] at H
 have c6b0:=decide_eq_true c6
 clear c6
 replace H:=oB H
 obtain ⟨t487,A70,H⟩:=H
 have A7:=aM A70
 clear A70
 replace H:=oB H
 obtain ⟨⟨t490,t493,t496⟩,A80,H⟩:=H
 replace H:(if x3_1.length<2932031007402 then (i_namedFrom.l0 k1 (x3_1 ++ [(⟨t490,t493⟩:S25)]) (wrap64 (x4_1+1)) l0_0 l0_1) else (none))=some r:=H
 have A8:=aM A80
 clear A80
 by_cases c9:x3_1.length<2932031007402
 {
 rw [if_pos c9] at H
 have LMc9:=aM c9
 clear c9
 obtain ⟨y498,hy498⟩:∃ y_:List (S25),y_=(x3_1 ++ [(⟨t490,t493⟩:S25)]):=⟨_,rfl⟩
 replace H:(i_namedFrom.l0 k1 y498 (wrap64 (x4_1+1)) l0_0 l0_1)=some r:=by first|(rw [hy498];with_reducible exact H)|(have H2_:=(Option.bind_some _ _).symm.trans H;rw [hy498];with_reducible exact H2_)|(have H2_:=(Option.bind_some _ _).symm.trans H;with_reducible exact H2_)|with_reducible exact H|(rw [hy498];exact H)|exact H
 have Ny498:=aM hy498
 clear hy498
 have H':=aM H
 clear H
 obtain ⟨hcz10_0,hcz10_1,hfz10_0,hfz10_1⟩:=f2Z BK482.out
 try go_wp2_with (first|((with_reducible refine gate_callee (f:=24) rfl ?_);refine goesL_ (some 10) rfl rfl Tryd.func24 (by kernel_rfl) rfl #[.agg #[.slice A0_0 l0_0.length c0_0,.slice A0_1 l0_1.length c0_1]] rfl aX ?_;(with_reducible refine(i_CountSquares.calls k1 _ _ l0_0 _ _ l0_1 t486 _ ?side1 ?side2 ?side3 ?side4 A5.out).mono ?_);(case side1=>exact cX (Kd.C_below HR0_0.out HB.out));(case side2=>exact HC0_0.out);(case side3=>exact cX (Kd.C_below HR0_1.out HB.out));(case side4=>exact HC0_1.out);rintro e w11 ⟨rfl,hb⟩;refine ⟨_,rfl,?_⟩;replace HO_3:=aM (Kd.S_below (sX HO_3.out) hb);replace BK482:=aM (bbX BK482.out hb);replace HB:=aM (below_step (bX1 HB.out GE482.out) hb);(try clear hb);(try clear hk)))
 replace HO_3:=aM (Kd.S_drew HO_3.out)
 replace BK482:=aM (blk_drew BK482.out)
 replace HB:=aM (below_drew1 HB.out)
 refine start_ (n:=11) (S:=fun w'=>w'.cell? ⟨gb482,0,none⟩=some (.slice A0_0 l0_0.length c0_0)∧w'.cell? ⟨gb482,1,none⟩=some (.slice A0_1 l0_1.length c0_1)) (ds:=[]) #[ff,ff,ff,ff,ff,ff,ff,ff,ff,ff,ff] (by kernel_rfl) rfl rfl ⟨cz20 BK482.out,cz21 BK482.out⟩ (fun hHeld => ?_);refine with_tabW i_namedFrom.tab5 i_namedFrom.bits5 (fun HT_ HW_ => ?_)
 generalize w11.drew=w12 at HO_3 BK482 HB hHeld ⊢
 refine pX 2 17 (fl 11 4) rfl rfl HT_.out ?_
 refine tX2 0 15 (fl 11 5) rfl rfl HT_.out HW_.out hHeld ?_
 refine tX2 1 16 (fl 11 7) rfl rfl HT_.out HW_.out hHeld ?_
 refine join_ (σ:=Value × Value × Value × Nat) 2 #[tt,tt,tt,tt,tt,tt,tt,tt,tt,ff,ff] (fun s_=>[(18,s_.1),(19,.tuple #[.agg #[s_.2.1,s_.2.2.1],.bool t496]),(5,.pointer (some ⟨s_.2.2.2,0,none⟩)),(14,.tuple #[.agg #[s_.2.1,s_.2.2.1],.bool t496]),(20,.agg #[s_.2.1,s_.2.2.1]),(21,.bool t496)]) (fun s_ w'=>(w'.cell? ⟨gb482,0,none⟩=some (.slice A0_0 l0_0.length c0_0)∧w'.cell? ⟨gb482,1,none⟩=some (.slice A0_1 l0_1.length c0_1))∧(Kd.R (Kd.int .i64) 3 w' w.heap.size (fun k_=>some k_≠(s_.2.1:Value).ownBlock∧some k_≠(s_.2.2.1:Value).ownBlock) s_.1 t487)∧(Kd.R (Kd.int .i64) 3 w' w.heap.size (fun k_=>some k_≠(s_.1:Value).ownBlock∧some k_≠(s_.2.2.1:Value).ownBlock) s_.2.1 t490)∧(Kd.R (Kd.int .i64) 3 w' w.heap.size (fun k_=>some k_≠(s_.1:Value).ownBlock∧some k_≠(s_.2.1:Value).ownBlock) s_.2.2.1 t493)∧(Kd.S k25 25 w' w.heap.size (fun k_=>some k_≠(s_.1:Value).ownBlock∧some k_≠(s_.2.1:Value).ownBlock∧some k_≠(s_.2.2.1:Value).ownBlock∧k_≠gb482∧k_≠s_.2.2.2) u3 x3_1)∧(w'.heap[gb482]? = some (.cells #[.slice A0_0 l0_0.length c0_0,.slice A0_1 l0_1.length c0_1] 25 (0,0)))∧(w'.heap[s_.2.2.2]? = some (.cells #[.slice none 0 0,.slice none 0 0] 25 (0,0)))∧(w.heap.size≤s_.2.2.2)∧(w.heap.size≤s_.2.2.2)∧(gb482≠s_.2.2.2)∧(s_.2.2.2≠gb482)∧(Below w.heap.size w w')) ?_ ?_
 rotate_left
 {
 intro hCont
 refine two_ (i:=3) (j:=8) (Ni:=some 18) (Nj:=some 5) #[tt,tt,tt,tt,ff,ff,ff,ff,ff,ff,ff] #[tt,tt,tt,ff,ff,ff,ff,ff,tt,ff,ff] rfl rfl rfl rfl (two_of HT_.out (by kernel_rfl)) (by decide) (by decide) (fun K hK => ?_) (fun K hK => ?_)
 {
 skip
 refine goes_ Tryd.func47 (by kernel_rfl) rfl #[.agg #[.slice A0_0 l0_0.length c0_0,.slice A0_1 l0_1.length c0_1],.int .i64 x4_1] (by rfl) rfl rfl aX ?_
 with_reducible refine(i_NamesFrom.calls k1 _ _ l0_0 _ _ l0_1 x4_1 t487 _ ?side1 ?side2 ?side3 ?side4 A7.out).mono ?_
 (case side1=>exact cX (Kd.C_below HR0_0.out HB.out))
 (case side2=>exact HC0_0.out)
 (case side3=>exact cX (Kd.C_below HR0_1.out HB.out))
 (case side4=>exact HC0_1.out)
 rintro e w13 ⟨v488,rfl,ho0,hb⟩
 refine ⟨_,rfl,?_⟩
 replace HO_3:=aM (Kd.S_elder' (sX HO_3.out) (Kd.R_base ho0) hb)
 have HO489:=aM (Kd.R_lower ho0 (below_size (bX1 HB.out GE482.out)))
 replace BK482:=aM (bbX BK482.out hb)
 replace HB:=aM (below_step (bX1 HB.out GE482.out) hb)
 (try clear hb)
 (try clear hk)
 (try clear ho0)
 obtain ⟨Ao14,co14,eo14⟩:=Kd.R_slice HO489.out
 (first|subst eo14|(injection eo14 with f1_ f2_ f3_;have f4_:=f1_.symm;have f5_:=f3_.symm;clear f1_ f2_ f3_;subst f4_;subst f5_))
 refine hK.out _ _ ⟨cz20 BK482.out,cz21 BK482.out⟩ (fun hHeld => ?_)
 clear hK K
 refine norm_ (a':=?_) ?_ ?_
 rotate_left
 {
 show Act.put _ (some 18) _=_
 simp only [Act.put,zA,zB,zC,i64_w,i32_w]
 rfl
 }
 refine two_ (i:=4) (j:=8) (Ni:=some 19) (Nj:=some 5) #[tt,tt,tt,tt,tt,ff,ff,ff,ff,ff,ff] #[tt,tt,tt,tt,ff,ff,ff,ff,tt,ff,ff] rfl rfl rfl rfl (two_of HT_.out (by kernel_rfl)) (by decide) (by decide) (fun K hK => ?_) (fun K hK => ?_)
 {
 skip
 refine goes_ Tryd.func46 (by kernel_rfl) rfl #[.agg #[.slice A0_0 l0_0.length c0_0,.slice A0_1 l0_1.length c0_1],.slice Ao14 t487.length co14] (by rfl) rfl rfl aX ?_
 with_reducible refine(i_RenameSurface.calls k1 _ _ l0_0 _ _ l0_1 _ _ t487 t490 t493 t496 _ ?side1 ?side2 ?side3 ?side4 ?side5 ?side6 A8.out).mono ?_
 (case side1=>exact cX (Kd.C_below HR0_0.out HB.out))
 (case side2=>exact HC0_0.out)
 (case side3=>exact cX (Kd.C_below HR0_1.out HB.out))
 (case side4=>exact HC0_1.out)
 (case side5=>exact cX (Kd.R_reads' HO489.out).2.2)
 (case side6=>exact(Kd.R_reads' HO489.out).2.1)
 rintro e w15 ⟨v491,v494,rfl,ho0,ho1,hb⟩
 refine ⟨_,rfl,?_⟩
 replace HO_3:=aM (Kd.S_mono (Kd.S_told (Kd.S_told (Kd.S_old (sX HO_3.out) hb) (Kd.R_base ho0)) (Kd.R_base ho1)) (fun _ h_=>h_.1))
 have HO492:=aM (Kd.R_lower (Kd.R_new' ho0 (Kd.R_lt (rX HO489.out))) (below_size (bX1 HB.out GE482.out)))
 have HO495:=aM (Kd.R_lower (Kd.R_new' ho1 (Kd.R_lt (rX HO489.out))) (below_size (bX1 HB.out GE482.out)))
 replace HO489:=aM (Kd.R_mono (Kd.R_told (Kd.R_told (Kd.R_old (rX HO489.out) hb) (Kd.R_base ho0)) (Kd.R_base ho1)) (fun _ h_=>h_.1))
 replace BK482:=aM (bbX BK482.out hb)
 replace HB:=aM (below_step (bX1 HB.out GE482.out) hb)
 (try clear hb)
 (try clear hk)
 (try clear ho0)
 (try clear ho1)
 refine hK.out _ _ ⟨cz20 BK482.out,cz21 BK482.out⟩ (fun hHeld => ?_)
 clear hK K
 refine norm_ (a':=?_) ?_ ?_
 rotate_left
 {
 show Act.put _ (some 19) _=_
 simp only [Act.put,zA,zB,zC,i64_w,i32_w]
 rfl
 }
 refine pX 5 14 (fl 11 63) rfl rfl HT_.out ?_
 refine pX 6 20 (fl 11 127) rfl rfl HT_.out ?_
 refine pX 7 21 (fl 11 255) rfl rfl HT_.out ?_
 refine one_ (i:=8) (N:=some 5) #[tt,tt,tt,tt,tt,tt,tt,tt,tt,ff,ff] rfl rfl (one_of HT_.out (by kernel_rfl)) (by decide) (fun K hK => ?_)
 refine box_step ?hg (N:=5) ?hd (cs:=#[.slice none 0 0,.slice none 0 0]) (t:=25) ?hr ?_;(case hd=>rfl);(case hg=>rfl);(case hr=>first|(go_simp;done)|(go_simp;rfl))
 intro gb497 hg w16 hbox hb
 replace HO_3:=aM (Kd.S_below (Kd.S_elderB (sX HO_3.out) gb497 (Nat.le_of_eq hg.symm)) hb)
 replace HO489:=aM (Kd.R_below (rX HO489.out) hb)
 replace HO492:=aM (Kd.R_below (rX HO492.out) hb)
 replace HO495:=aM (Kd.R_below (rX HO495.out) hb)
 have BK497:=aM (hbox)
 have GW497:=aM ((szX (below_size (bX1 HB.out GE482.out)) hg:w.heap.size≤gb497))
 have GE497:=GW497
 replace HB:=aM (below_step (bX1 HB.out GE482.out) hb)
 have NB482_497:=aM (neX BK482.out hg)
 have NB497_482:=aM (nfX BK482.out hg)
 replace BK482:=aM (bbX BK482.out hb)
 clear hb hbox hg
 refine hK.out _ _ ⟨cz20 BK482.out,cz21 BK482.out⟩ (fun hHeld => ?_)
 clear hK K
 refine norm_ (a':=?_) ?_ ?_
 rotate_left
 {
 show Act.put _ (some 5) _=_
 simp only [Act.put,zA,zB,zC,i64_w,i32_w]
 rfl
 }
 exact norm_ (by simp only [putAll,Act.put,List.setIfInBounds_toArray,List.set_cons_zero,List.set_cons_succ]) (hCont (.slice Ao14 t487.length co14,v491,v494,gb497) _ ⟨hHeld,(rM HO489.out (fun _ hk=>⟨hk.1.2,hk.2⟩)),(rM HO492.out (fun _ hk=>⟨hk.2,hk.1⟩)),(rM HO495.out (fun _ hk=>⟨hk.2,hk.1⟩)),(by(with_reducible repeat(first|apply Kd.S_alloc|apply Kd.S_drewN|apply Kd.S_drew));exact Kd.S_mono HO_3.out (fun _ hk=>⟨hk.1.1.1.2,⟨hk.1.1.2,⟨hk.1.2,⟨hk.1.1.1.1,hk.2⟩⟩⟩⟩)),(kX BK482.out),(kX BK497.out),GW497.out,GE497.out,NB482_497.out,NB497_482.out,(bX2 HB.out GE482.out GE497.out)⟩)
 }
 {
 skip
 refine box_step ?hg (N:=5) ?hd (cs:=#[.slice none 0 0,.slice none 0 0]) (t:=25) ?hr ?_;(case hd=>rfl);(case hg=>rfl);(case hr=>first|(go_simp;done)|(go_simp;rfl))
 intro gb497 hg w14 hbox hb
 replace HO_3:=aM (Kd.S_below (Kd.S_elderB (sX HO_3.out) gb497 (Nat.le_of_eq hg.symm)) hb)
 replace HO489:=aM (Kd.R_below (rX HO489.out) hb)
 have BK497:=aM (hbox)
 have GW497:=aM ((szX (below_size (bX1 HB.out GE482.out)) hg:w.heap.size≤gb497))
 have GE497:=GW497
 replace HB:=aM (below_step (bX1 HB.out GE482.out) hb)
 have NB482_497:=aM (neX BK482.out hg)
 have NB497_482:=aM (nfX BK482.out hg)
 replace BK482:=aM (bbX BK482.out hb)
 clear hb hbox hg
 obtain ⟨Ao15,co15,eo15⟩:=Kd.R_slice HO489.out
 (first|subst eo15|(injection eo15 with f1_ f2_ f3_;have f4_:=f1_.symm;have f5_:=f3_.symm;clear f1_ f2_ f3_;subst f4_;subst f5_))
 refine hK.out _ _ ⟨cz20 BK482.out,cz21 BK482.out⟩ (fun hHeld => ?_)
 clear hK K
 refine norm_ (a':=?_) ?_ ?_
 rotate_left
 {
 show Act.put _ (some 5) _=_
 simp only [Act.put,zA,zB,zC,i64_w,i32_w]
 rfl
 }
 refine one_ (i:=4) (N:=some 19) #[tt,tt,tt,tt,tt,ff,ff,ff,tt,ff,ff] rfl rfl (one_of HT_.out (by kernel_rfl)) (by decide) (fun K hK => ?_)
 refine goes_ Tryd.func46 (by kernel_rfl) rfl #[.agg #[.slice A0_0 l0_0.length c0_0,.slice A0_1 l0_1.length c0_1],.slice Ao15 t487.length co15] (by rfl) rfl rfl aX ?_
 with_reducible refine(i_RenameSurface.calls k1 _ _ l0_0 _ _ l0_1 _ _ t487 t490 t493 t496 _ ?side1 ?side2 ?side3 ?side4 ?side5 ?side6 A8.out).mono ?_
 (case side1=>exact cX (Kd.C_below HR0_0.out HB.out))
 (case side2=>exact HC0_0.out)
 (case side3=>exact cX (Kd.C_below HR0_1.out HB.out))
 (case side4=>exact HC0_1.out)
 (case side5=>exact cX (Kd.R_reads' HO489.out).2.2)
 (case side6=>exact(Kd.R_reads' HO489.out).2.1)
 rintro e w16 ⟨v491,v494,rfl,ho0,ho1,hb⟩
 refine ⟨_,rfl,?_⟩
 replace HO_3:=aM (Kd.S_mono (Kd.S_told (Kd.S_told (Kd.S_old (sX HO_3.out) hb) (Kd.R_base ho0)) (Kd.R_base ho1)) (fun _ h_=>h_.1))
 have HO492:=aM (Kd.R_lower (Kd.R_new' ho0 (Kd.R_lt (rX HO489.out))) (below_size (bX2 HB.out GE482.out GE497.out)))
 have HO495:=aM (Kd.R_lower (Kd.R_new' ho1 (Kd.R_lt (rX HO489.out))) (below_size (bX2 HB.out GE482.out GE497.out)))
 replace HO489:=aM (Kd.R_mono (Kd.R_told (Kd.R_told (Kd.R_old (rX HO489.out) hb) (Kd.R_base ho0)) (Kd.R_base ho1)) (fun _ h_=>h_.1))
 replace BK482:=aM (bbX BK482.out hb)
 replace BK497:=aM (bbX BK497.out hb)
 replace HB:=aM (below_step (bX2 HB.out GE482.out GE497.out) hb)
 (try clear hb)
 (try clear hk)
 (try clear ho0)
 (try clear ho1)
 refine hK.out _ _ ⟨cz20 BK482.out,cz21 BK482.out⟩ (fun hHeld => ?_)
 clear hK K
 refine norm_ (a':=?_) ?_ ?_
 rotate_left
 {
 show Act.put _ (some 19) _=_
 simp only [Act.put,zA,zB,zC,i64_w,i32_w]
 rfl
 }
 refine pX 5 14 (fl 11 319) rfl rfl HT_.out ?_
 refine pX 6 20 (fl 11 383) rfl rfl HT_.out ?_
 refine pX 7 21 (fl 11 511) rfl rfl HT_.out ?_
 exact norm_ (by simp only [putAll,Act.put,List.setIfInBounds_toArray,List.set_cons_zero,List.set_cons_succ]) (hCont (.slice Ao15 t487.length co15,v491,v494,gb497) _ ⟨hHeld,(rM HO489.out (fun _ hk=>⟨hk.1.2,hk.2⟩)),(rM HO492.out (fun _ hk=>⟨hk.2,hk.1⟩)),(rM HO495.out (fun _ hk=>⟨hk.2,hk.1⟩)),(by(with_reducible repeat(first|apply Kd.S_alloc|apply Kd.S_drewN|apply Kd.S_drew));exact Kd.S_mono HO_3.out (fun _ hk=>⟨hk.1.1.1.2,⟨hk.1.2,⟨hk.2,⟨hk.1.1.1.1,hk.1.1.2⟩⟩⟩⟩)),(kX BK482.out),(kX BK497.out),GW497.out,GE497.out,NB482_497.out,NB497_482.out,(bX2 HB.out GE482.out GE497.out)⟩)
 }
 }
 {
 skip
 refine box_step ?hg (N:=5) ?hd (cs:=#[.slice none 0 0,.slice none 0 0]) (t:=25) ?hr ?_;(case hd=>rfl);(case hg=>rfl);(case hr=>first|(go_simp;done)|(go_simp;rfl))
 intro gb497 hg w13 hbox hb
 replace HO_3:=aM (Kd.S_below (Kd.S_elderB (sX HO_3.out) gb497 (Nat.le_of_eq hg.symm)) hb)
 have BK497:=aM (hbox)
 have GW497:=aM ((szX (below_size (bX1 HB.out GE482.out)) hg:w.heap.size≤gb497))
 have GE497:=GW497
 replace HB:=aM (below_step (bX1 HB.out GE482.out) hb)
 have NB482_497:=aM (neX BK482.out hg)
 have NB497_482:=aM (nfX BK482.out hg)
 replace BK482:=aM (bbX BK482.out hb)
 clear hb hbox hg
 refine hK.out _ _ ⟨cz20 BK482.out,cz21 BK482.out⟩ (fun hHeld => ?_)
 clear hK K
 refine norm_ (a':=?_) ?_ ?_
 rotate_left
 {
 show Act.put _ (some 5) _=_
 simp only [Act.put,zA,zB,zC,i64_w,i32_w]
 rfl
 }
 refine one_ (i:=3) (N:=some 18) #[tt,tt,tt,tt,ff,ff,ff,ff,tt,ff,ff] rfl rfl (one_of HT_.out (by kernel_rfl)) (by decide) (fun K hK => ?_)
 refine goes_ Tryd.func47 (by kernel_rfl) rfl #[.agg #[.slice A0_0 l0_0.length c0_0,.slice A0_1 l0_1.length c0_1],.int .i64 x4_1] (by rfl) rfl rfl aX ?_
 with_reducible refine(i_NamesFrom.calls k1 _ _ l0_0 _ _ l0_1 x4_1 t487 _ ?side1 ?side2 ?side3 ?side4 A7.out).mono ?_
 (case side1=>exact cX (Kd.C_below HR0_0.out HB.out))
 (case side2=>exact HC0_0.out)
 (case side3=>exact cX (Kd.C_below HR0_1.out HB.out))
 (case side4=>exact HC0_1.out)
 rintro e w14 ⟨v488,rfl,ho0,hb⟩
 refine ⟨_,rfl,?_⟩
 replace HO_3:=aM (Kd.S_elder' (sX HO_3.out) (Kd.R_base ho0) hb)
 have HO489:=aM (Kd.R_lower ho0 (below_size (bX2 HB.out GE482.out GE497.out)))
 replace BK482:=aM (bbX BK482.out hb)
 replace BK497:=aM (bbX BK497.out hb)
 replace HB:=aM (below_step (bX2 HB.out GE482.out GE497.out) hb)
 (try clear hb)
 (try clear hk)
 (try clear ho0)
 obtain ⟨Ao15,co15,eo15⟩:=Kd.R_slice HO489.out
 (first|subst eo15|(injection eo15 with f1_ f2_ f3_;have f4_:=f1_.symm;have f5_:=f3_.symm;clear f1_ f2_ f3_;subst f4_;subst f5_))
 refine hK.out _ _ ⟨cz20 BK482.out,cz21 BK482.out⟩ (fun hHeld => ?_)
 clear hK K
 refine norm_ (a':=?_) ?_ ?_
 rotate_left
 {
 show Act.put _ (some 18) _=_
 simp only [Act.put,zA,zB,zC,i64_w,i32_w]
 rfl
 }
 refine one_ (i:=4) (N:=some 19) #[tt,tt,tt,tt,tt,ff,ff,ff,tt,ff,ff] rfl rfl (one_of HT_.out (by kernel_rfl)) (by decide) (fun K hK => ?_)
 refine goes_ Tryd.func46 (by kernel_rfl) rfl #[.agg #[.slice A0_0 l0_0.length c0_0,.slice A0_1 l0_1.length c0_1],.slice Ao15 t487.length co15] (by rfl) rfl rfl aX ?_
 with_reducible refine(i_RenameSurface.calls k1 _ _ l0_0 _ _ l0_1 _ _ t487 t490 t493 t496 _ ?side1 ?side2 ?side3 ?side4 ?side5 ?side6 A8.out).mono ?_
 (case side1=>exact cX (Kd.C_below HR0_0.out HB.out))
 (case side2=>exact HC0_0.out)
 (case side3=>exact cX (Kd.C_below HR0_1.out HB.out))
 (case side4=>exact HC0_1.out)
 (case side5=>exact cX (Kd.R_reads' HO489.out).2.2)
 (case side6=>exact(Kd.R_reads' HO489.out).2.1)
 rintro e w16 ⟨v491,v494,rfl,ho0,ho1,hb⟩
 refine ⟨_,rfl,?_⟩
 replace HO_3:=aM (Kd.S_mono (Kd.S_told (Kd.S_told (Kd.S_old (sX HO_3.out) hb) (Kd.R_base ho0)) (Kd.R_base ho1)) (fun _ h_=>h_.1))
 have HO492:=aM (Kd.R_lower (Kd.R_new' ho0 (Kd.R_lt (rX HO489.out))) (below_size (bX2 HB.out GE482.out GE497.out)))
 have HO495:=aM (Kd.R_lower (Kd.R_new' ho1 (Kd.R_lt (rX HO489.out))) (below_size (bX2 HB.out GE482.out GE497.out)))
 replace HO489:=aM (Kd.R_mono (Kd.R_told (Kd.R_told (Kd.R_old (rX HO489.out) hb) (Kd.R_base ho0)) (Kd.R_base ho1)) (fun _ h_=>h_.1))
 replace BK482:=aM (bbX BK482.out hb)
 replace BK497:=aM (bbX BK497.out hb)
 replace HB:=aM (below_step (bX2 HB.out GE482.out GE497.out) hb)
 (try clear hb)
 (try clear hk)
 (try clear ho0)
 (try clear ho1)
 refine hK.out _ _ ⟨cz20 BK482.out,cz21 BK482.out⟩ (fun hHeld => ?_)
 clear hK K
 refine norm_ (a':=?_) ?_ ?_
 rotate_left
 {
 show Act.put _ (some 19) _=_
 simp only [Act.put,zA,zB,zC,i64_w,i32_w]
 rfl
 }
 refine pX 5 14 (fl 11 319) rfl rfl HT_.out ?_
 refine pX 6 20 (fl 11 383) rfl rfl HT_.out ?_
 refine pX 7 21 (fl 11 511) rfl rfl HT_.out ?_
 exact norm_ (by simp only [putAll,Act.put,List.setIfInBounds_toArray,List.set_cons_zero,List.set_cons_succ]) (hCont (.slice Ao15 t487.length co15,v491,v494,gb497) _ ⟨hHeld,(rM HO489.out (fun _ hk=>⟨hk.1.2,hk.2⟩)),(rM HO492.out (fun _ hk=>⟨hk.2,hk.1⟩)),(rM HO495.out (fun _ hk=>⟨hk.2,hk.1⟩)),(by(with_reducible repeat(first|apply Kd.S_alloc|apply Kd.S_drewN|apply Kd.S_drew));exact Kd.S_mono HO_3.out (fun _ hk=>⟨hk.1.1.2,⟨hk.1.2,⟨hk.2,⟨hk.1.1.1.1,hk.1.1.1.2⟩⟩⟩⟩)),(kX BK482.out),(kX BK497.out),GW497.out,GE497.out,NB482_497.out,NB497_482.out,(bX2 HB.out GE482.out GE497.out)⟩)
 }
 }
 rintro ⟨v488,v491,v494,gb497⟩ w17 ⟨hS_,h0_,h1_,h2_,h3_,h4_,h5_,h6_,h7_,h8_,h9_,h10_⟩
 have n0_:Aside0 (Kd.R (Kd.int .i64) 3 w17 w.heap.size (fun k_=>some k_≠(v491:Value).ownBlock∧some k_≠(v494:Value).ownBlock) v488 t487):=⟨h0_⟩
 have n1_:Aside0 (Kd.R (Kd.int .i64) 3 w17 w.heap.size (fun k_=>some k_≠(v488:Value).ownBlock∧some k_≠(v494:Value).ownBlock) v491 t490):=⟨h1_⟩
 have n2_:Aside0 (Kd.R (Kd.int .i64) 3 w17 w.heap.size (fun k_=>some k_≠(v488:Value).ownBlock∧some k_≠(v491:Value).ownBlock) v494 t493):=⟨h2_⟩
 have n3_:Aside0 (Kd.S k25 25 w17 w.heap.size (fun k_=>some k_≠(v488:Value).ownBlock∧some k_≠(v491:Value).ownBlock∧some k_≠(v494:Value).ownBlock∧k_≠gb482∧k_≠gb497) u3 x3_1):=⟨h3_⟩
 have n4_:Aside0 (w17.heap[gb482]? = some (.cells #[.slice A0_0 l0_0.length c0_0,.slice A0_1 l0_1.length c0_1] 25 (0,0))):=⟨h4_⟩
 have n5_:Aside0 (w17.heap[gb497]? = some (.cells #[.slice none 0 0,.slice none 0 0] 25 (0,0))):=⟨h5_⟩
 have n6_:Aside0 (w.heap.size≤gb497):=⟨h6_⟩
 have n7_:Aside0 (w.heap.size≤gb497):=⟨h7_⟩
 have n8_:Aside0 (gb482≠gb497):=⟨h8_⟩
 have n9_:Aside0 (gb497≠gb482):=⟨h9_⟩
 have n10_:Aside0 (Below w.heap.size w w17):=⟨h10_⟩
 clear HO_3 BK482 HB h0_ h1_ h2_ h3_ h4_ h5_ h6_ h7_ h8_ h9_ h10_
 have HO489:=n0_
 have HO492:=n1_
 have HO495:=n2_
 have HO_3:=n3_
 have BK482:=n4_
 have BK497:=n5_
 have GW497:=n6_
 have GE497:=n7_
 have NB482_497:=n8_
 have NB497_482:=n9_
 have HB:=n10_
 clear n0_ n1_ n2_ n3_ n4_ n5_ n6_ n7_ n8_ n9_ n10_
 have hHeld:w17.cell? ⟨gb482,0,none⟩=some (.slice A0_0 l0_0.length c0_0)∧w17.cell? ⟨gb482,1,none⟩=some (.slice A0_1 l0_1.length c0_1):=hS_
 obtain ⟨Ao18,co18,eo18⟩:=Kd.R_slice HO492.out
 (first|subst eo18|(injection eo18 with f1_ f2_ f3_;have f4_:=f1_.symm;have f5_:=f3_.symm;clear f1_ f2_ f3_;subst f4_;subst f5_))
 obtain ⟨Ao20,co20,eo20⟩:=Kd.R_slice HO495.out
 (first|subst eo20|(injection eo20 with f1_ f2_ f3_;have f4_:=f1_.symm;have f5_:=f3_.symm;clear f1_ f2_ f3_;subst f4_;subst f5_))
 refine norm_ (a':=?_) ?_ ?_
 rotate_left
 {
 simp only [putAll,Act.put,List.setIfInBounds_toArray,List.set_cons_zero,List.set_cons_succ]
 rfl
 }
 refine one_ (i:=9) (N:=none) #[tt,tt,tt,tt,tt,tt,tt,tt,tt,tt,ff] rfl rfl (one_of HT_.out (by kernel_rfl)) (by decide) (fun K hK => ?_)
 have hs19:w17.cell? ⟨gb497,0,none⟩=some (.slice none 0 0):=cz20 BK497.out
 have hfs19:=blk_frozen BK497.out 0
 have hns19_0:=NB482_497.out
 have hms19_0:=NB497_482.out
 have hs21:w17.cell? ⟨gb497,1,none⟩=some (.slice none 0 0):=cz21 BK497.out
 have hfs21:=blk_frozen BK497.out 1
 have hns21_0:=NB482_497.out
 have hms21_0:=NB497_482.out
 refine skip_ (w1:=?_) (by rfl) rfl ?_ ?_
 rotate_left
 {
 go_simp
 rfl
 }
 refine hK.out _ _ ⟨((cell_far (p:=⟨gb497,_,none⟩) NB482_497.out _).trans (((cell_far (p:=⟨gb497,_,none⟩) NB482_497.out _).trans (hHeld.1)))),((cell_far (p:=⟨gb497,_,none⟩) NB482_497.out _).trans (((cell_far (p:=⟨gb497,_,none⟩) NB482_497.out _).trans (hHeld.2))))⟩ (fun hHeld => ?_)
 clear hK K
 refine pX 10 6 (fl 11 2047) rfl rfl HT_.out ?_
 refine done_ (done_of HT_.out (by kernel_rfl)) ?_
 have n0_:Aside0 (Kd.S k25 25 ((w17.setCell ⟨gb497,0,none⟩ (.slice Ao18 t490.length co18)).setCell ⟨gb497,1,none⟩ (.slice Ao20 t493.length co20)) w.heap.size (fun k_=>some k_≠(v488:Value).ownBlock∧some k_≠(.slice Ao18 t490.length co18:Value).ownBlock∧some k_≠(.slice Ao20 t493.length co20:Value).ownBlock∧k_≠gb482∧k_≠gb497) u3 x3_1):=⟨by(with_reducible repeat(first|apply Kd.S_alloc|apply Kd.S_drewN|apply Kd.S_drew));exact Kd.S_mono (Kd.S_far (p:=⟨gb497,1,none⟩) (Kd.S_far (p:=⟨gb497,0,none⟩) (Kd.S_mono HO_3.out (fun k_ hk=>(⟨hk,hk.2.2.2.2⟩:_∧k_≠gb497))) (fun _ hk=>hk.2) (.slice Ao18 t490.length co18)) (fun _ hk=>hk.2) (.slice Ao20 t493.length co20)) (fun _ hk=>⟨hk.1.1,⟨hk.1.2.1,⟨hk.1.2.2.1,⟨hk.1.2.2.2.1,hk.1.2.2.2.2⟩⟩⟩⟩)⟩
 have n1_:Aside0 (Kd.R (Kd.int .i64) 3 ((w17.setCell ⟨gb497,0,none⟩ (.slice Ao18 t490.length co18)).setCell ⟨gb497,1,none⟩ (.slice Ao20 t493.length co20)) w.heap.size (fun k_=>some k_≠(.slice Ao18 t490.length co18:Value).ownBlock∧some k_≠(.slice Ao20 t493.length co20:Value).ownBlock) v488 t487):=⟨by(with_reducible repeat(first|apply rA|apply rN|apply rD));exact Kd.R_mono (Kd.R_far (p:=⟨gb497,1,none⟩) (Kd.R_far (p:=⟨gb497,0,none⟩) (Kd.R_types HO489.out BK497.out (by decide)) (fun _ hk=>hk.2) (.slice Ao18 t490.length co18)) (fun _ hk=>hk.2) (.slice Ao20 t493.length co20)) (fun _ hk=>⟨hk.1.1,hk.1.2⟩)⟩
 have n2_:Aside0 (Kd.R (Kd.int .i64) 3 ((w17.setCell ⟨gb497,0,none⟩ (.slice Ao18 t490.length co18)).setCell ⟨gb497,1,none⟩ (.slice Ao20 t493.length co20)) w.heap.size (fun k_=>some k_≠(v488:Value).ownBlock∧some k_≠(.slice Ao20 t493.length co20:Value).ownBlock) (.slice Ao18 t490.length co18) t490):=⟨by(with_reducible repeat(first|apply rA|apply rN|apply rD));exact Kd.R_mono (Kd.R_far (p:=⟨gb497,1,none⟩) (Kd.R_far (p:=⟨gb497,0,none⟩) (Kd.R_types HO492.out BK497.out (by decide)) (fun _ hk=>hk.2) (.slice Ao18 t490.length co18)) (fun _ hk=>hk.2) (.slice Ao20 t493.length co20)) (fun _ hk=>⟨hk.1.1,hk.1.2⟩)⟩
 have n3_:Aside0 (Kd.R (Kd.int .i64) 3 ((w17.setCell ⟨gb497,0,none⟩ (.slice Ao18 t490.length co18)).setCell ⟨gb497,1,none⟩ (.slice Ao20 t493.length co20)) w.heap.size (fun k_=>some k_≠(v488:Value).ownBlock∧some k_≠(.slice Ao18 t490.length co18:Value).ownBlock) (.slice Ao20 t493.length co20) t493):=⟨by(with_reducible repeat(first|apply rA|apply rN|apply rD));exact Kd.R_mono (Kd.R_far (p:=⟨gb497,1,none⟩) (Kd.R_far (p:=⟨gb497,0,none⟩) (Kd.R_types HO495.out BK497.out (by decide)) (fun _ hk=>hk.2) (.slice Ao18 t490.length co18)) (fun _ hk=>hk.2) (.slice Ao20 t493.length co20)) (fun _ hk=>⟨hk.1.1,hk.1.2⟩)⟩
 have n4_:Aside0 (((w17.setCell ⟨gb497,0,none⟩ (.slice Ao18 t490.length co18)).setCell ⟨gb497,1,none⟩ (.slice Ao20 t493.length co20)).heap[gb482]? = some (.cells #[.slice A0_0 l0_0.length c0_0,.slice A0_1 l0_1.length c0_1] 25 (0,0))):=⟨by(with_reducible repeat(first|refine kN ?_ _|refine kD ?_|refine kA ?_ _));refine blk_far ?_ NB482_497.out _;(with_reducible repeat(first|refine kN ?_ _|refine kD ?_|refine kA ?_ _));refine blk_far ?_ NB482_497.out _;(with_reducible repeat(first|refine kN ?_ _|refine kD ?_|refine kA ?_ _));exact BK482.out⟩
 have n5_:Aside0 (((w17.setCell ⟨gb497,0,none⟩ (.slice Ao18 t490.length co18)).setCell ⟨gb497,1,none⟩ (.slice Ao20 t493.length co20)).heap[gb497]? = some (.cells #[.slice Ao18 t490.length co18,.slice Ao20 t493.length co20] 25 (0,0))):=⟨by(with_reducible repeat(first|refine kN ?_ _|refine kD ?_|refine kA ?_ _));refine blk_put (cs:=#[.slice Ao18 t490.length co18,.slice none 0 0]) ?_ 1 _ rfl;(with_reducible repeat(first|refine kN ?_ _|refine kD ?_|refine kA ?_ _));refine blk_put (cs:=#[.slice none 0 0,.slice none 0 0]) ?_ 0 _ rfl;(with_reducible repeat(first|refine kN ?_ _|refine kD ?_|refine kA ?_ _));exact BK497.out⟩
 have n6_:Aside0 (Below w.heap.size w ((w17.setCell ⟨gb497,0,none⟩ (.slice Ao18 t490.length co18)).setCell ⟨gb497,1,none⟩ (.slice Ao20 t493.length co20))):=⟨bX2 HB.out GE482.out GE497.out⟩
 (try clear HO_3)
 (try clear HO489)
 (try clear HO492)
 (try clear HO495)
 (try clear BK482)
 (try clear BK497)
 (try clear HB)
 generalize ((w17.setCell ⟨gb497,0,none⟩ (.slice Ao18 t490.length co18)).setCell ⟨gb497,1,none⟩ (.slice Ao20 t493.length co20))=w22 at n0_ n1_ n2_ n3_ n4_ n5_ n6_ ⊢
 have HO_3:=n0_
 have HO489:=n1_
 have HO492:=n2_
 have HO495:=n3_
 have BK482:=n4_
 have BK497:=n5_
 have HB:=n6_
 clear n0_ n1_ n2_ n3_ n4_ n5_ n6_
 have hnb23:=NB497_482.out
 have hnc23:=NB482_497.out
 obtain ⟨hcz24_0,hcz24_1,hfz24_0,hfz24_1⟩:=f2Z BK497.out
 try go_wp2_with (first|((with_reducible refine gate_builtin (b:=.append) (xs:=#[.tmp 22,.tmp 24]) rfl ?_);at_builtin;refine Kd.S_append k25 (w0:=w) w.heap.size rfl (.tmp 22) (.tmp 24) 47 25 (.agg #[(.slice none 0 0),(.slice none 0 0)]) 48 rfl Tryd.underlying47 info25 rfl (by decide) (by omega) u3 x3_1 (⟨t490,t493⟩:S25) [.slice Ao18 t490.length co18,.slice Ao20 t493.length co20] (fun k_=>some k_≠(v488:Value).ownBlock∧k_≠gb482∧k_≠gb497) (fun k_=>some k_=(.slice Ao18 t490.length co18:Value).ownBlock∨some k_=(.slice Ao20 t493.length co20:Value).ownBlock) rfl rfl ?aP (fun k_ hk_=>hk_.elim (fun h_=>((Kd.R_mono (ok':=fun k_=>((fun k_=>some k_≠(v488:Value).ownBlock∧k_≠gb482∧k_≠gb497)) k_∧some k_≠(u3:Value).ownBlock) (Kd.R_types (Kd.R_types (Kd.R_apart' (HO492.out) (Kd.S_typed HO_3.out) (by decide)) BK482.out (by decide)) BK497.out (by decide)) (fun k_ hk=>⟨⟨hk.1.1.1.1,⟨hk.1.2,hk.2⟩⟩,hk.1.1.2⟩))).1 k_ h_.symm) (fun h_=>((Kd.R_mono (ok':=fun k_=>((fun k_=>some k_≠(v488:Value).ownBlock∧k_≠gb482∧k_≠gb497)) k_∧some k_≠(u3:Value).ownBlock) (Kd.R_types (Kd.R_types (Kd.R_apart' (HO495.out) (Kd.S_typed HO_3.out) (by decide)) BK482.out (by decide)) BK497.out (by decide)) (fun k_ hk=>⟨⟨hk.1.1.1.1,⟨hk.1.2,hk.2⟩⟩,hk.1.1.2⟩))).1 k_ h_.symm)) ?aF ?aO ?aB ?aS ?aL ?_;(case aP=>exact k25_mkM _ _ _ (⟨t490,t493⟩:S25) (Kd.R_mono (Kd.R_tight rfl (Kd.R_mono (ok':=fun k_=>((fun k_=>some k_≠(v488:Value).ownBlock∧k_≠gb482∧k_≠gb497)) k_∧some k_≠(u3:Value).ownBlock) (Kd.R_types (Kd.R_types (Kd.R_apart' (HO492.out) (Kd.S_typed HO_3.out) (by decide)) BK482.out (by decide)) BK497.out (by decide)) (fun k_ hk=>⟨⟨hk.1.1.1.1,⟨hk.1.2,hk.2⟩⟩,hk.1.1.2⟩))) (fun _ h_=>Or.inl h_)) (Kd.R_mono (Kd.R_tight rfl (Kd.R_mono (ok':=fun k_=>((fun k_=>some k_≠(v488:Value).ownBlock∧k_≠gb482∧k_≠gb497)) k_∧some k_≠(u3:Value).ownBlock) (Kd.R_types (Kd.R_types (Kd.R_apart' (HO495.out) (Kd.S_typed HO_3.out) (by decide)) BK482.out (by decide)) BK497.out (by decide)) (fun k_ hk=>⟨⟨hk.1.1.1.1,⟨hk.1.2,hk.2⟩⟩,hk.1.1.2⟩))) (fun _ h_=>Or.inr (h_))));(case aB=>exact(bX2 HB.out GE482.out GE497.out));(case aF=>exact(fun k_ hk=>⟨Kd.fresh' (Kd.R_lt (rX HO489.out)) k_ hk,Kd.freshB (g:=gb482) (o:=.cells #[.slice A0_0 l0_0.length c0_0,.slice A0_1 l0_1.length c0_1] 25 (0,0)) (kX BK482.out) k_ hk,Kd.freshB (g:=gb497) (o:=.cells #[.slice Ao18 t490.length co18,.slice Ao20 t493.length co20] 25 (0,0)) (kX BK497.out) k_ hk⟩));(case aO=>exact(by(with_reducible repeat(first|apply Kd.S_alloc|apply Kd.S_drewN|apply Kd.S_drew));exact Kd.S_mono HO_3.out (fun k_ hk=>⟨⟨hk.1,⟨hk.2.2.2.1,hk.2.2.2.2⟩⟩,fun e_=>e_.elim (fun h_=>hk.2.1 h_) (fun h_=>hk.2.2.1 h_)⟩)));(case aS=>exact(below_size (bX2 HB.out GE482.out GE497.out)));(case aL=>have:=LMc9.out;omega);intro v499 w25 ho hb hg hat;rw [← Ny498.out] at ho;replace BK482:=aM (bgX BK482.out hg (Kd.S_away HO_3.out (fun _ hk=>hk.2.2.2.1)));replace HO489:=aM (Kd.R_over' (rX HO489.out) (Kd.S_typed (sX HO_3.out)) (by decide) hg);replace BK497:=aM (bgX BK497.out hg (Kd.S_away HO_3.out (fun _ hk=>hk.2.2.2.2)));replace HB:=aM (hb);have HO500:=aM (ho);clear HO_3 HO492 HO495 ho hb hg hat))
 go_roundg k1
 case measure=>have:=HK1.out;omega
 case rel=>exact ⟨(y498),(wrap64 (x4_1+1)),vX,H',⟨by have:=HK1.out;omega⟩,⟨by(with_reducible repeat(first|apply Kd.S_alloc|apply Kd.S_drewN|apply Kd.S_drew));exact Kd.S_mono HO500.out (fun _ hk=>hk.2.1)⟩,⟨kX BK482.out⟩,⟨bX2 HB.out GE482.out GE497.out⟩⟩
 }
 {
 rw [if_neg c9] at H
 exact absurd H (by simp)
 }
 }
 {
 rw [if_neg c6] at H
 have c6b0:=decide_eq_false c6
 clear c6
 obtain rfl:=Option.some.inj H
 obtain ⟨hcz26_0,hcz26_1,hfz26_0,hfz26_1⟩:=f2Z BK482.out
 go_wp2_with (first|((with_reducible refine gate_callee (f:=24) rfl ?_);refine goesL_ (some 10) rfl rfl Tryd.func24 (by kernel_rfl) rfl #[.agg #[.slice A0_0 l0_0.length c0_0,.slice A0_1 l0_1.length c0_1]] rfl aX ?_;(with_reducible refine(i_CountSquares.calls k1 _ _ l0_0 _ _ l0_1 t486 _ ?side1 ?side2 ?side3 ?side4 A5.out).mono ?_);(case side1=>exact cX (Kd.C_below HR0_0.out HB.out));(case side2=>exact HC0_0.out);(case side3=>exact cX (Kd.C_below HR0_1.out HB.out));(case side4=>exact HC0_1.out);rintro e w27 ⟨rfl,hb⟩;refine ⟨_,rfl,?_⟩;replace HO_3:=aM (Kd.S_below (sX HO_3.out) hb);replace BK482:=aM (bbX BK482.out hb);replace HB:=aM (below_step (bX1 HB.out GE482.out) hb);(try clear hb);(try clear hk)))
 go_ret
 exact ⟨_,eX,by(with_reducible repeat(first|apply Kd.S_alloc|apply Kd.S_drewN|apply Kd.S_drew));exact Kd.S_mono HO_3.out (fun _ hk=>trivial),bX1 HB.out GE482.out⟩
 }

/-! ### cmp_isNaN_int: function 77 -/
def cmp_isNaN_int.f (a0:Int):Option (Bool):=some (a0 != a0)
theorem cmp_isNaN_int.calls (a0:Int) (r:Bool) (w:World) (h:cmp_isNaN_int.f a0=some r) :
  Calls Tryd.prog 77 #[.int .i64 a0] w fun e w'=>e = .returned (.bool r)∧Drawn0 w w':=by
 have H:(some (a0 != a0))=some r:=h
 clear h
 obtain rfl:=Option.some.inj H
 go_enter Tryd.func77,Tryd.ntmps77
 go_wp2
 go_ret
 exact ⟨by first|rfl|(simp;done)|(simp [*];done),by repeat(first|exact Drawn0.refl _|apply Drawn0.step)⟩

/-! ### cmp_Compare_int: function 65 -/
def cmp_Compare_int.f (a0:Int) (a1:Int):Option (Int):=(cmp_isNaN_int.f a0).bind fun t501=>((cmp_isNaN_int.f a1).bind fun t502=>(if t501=true then (if t502=true then (some 0) else (some (-1))) else (if t502=true then (some 1) else (if a0<a1 then (some (-1)) else (if a0 > a1 then (some 1) else (some 0))))))
theorem cmp_Compare_int.calls (a0:Int) (a1:Int) (r:Int) (w:World) (h:cmp_Compare_int.f a0 a1=some r) :
  Calls Tryd.prog 65 #[.int .i64 a0,.int .i64 a1] w fun e w'=>e = .returned (.int .i64 r)∧Drawn0 w w':=by
 have H:((cmp_isNaN_int.f a0).bind fun t501=>((cmp_isNaN_int.f a1).bind fun t502=>(if t501=true then (if t502=true then (some 0) else (some (-1))) else (if t502=true then (some 1) else (if a0<a1 then (some (-1)) else (if a0 > a1 then (some 1) else (some 0)))))))=some r:=h
 clear h
 replace H:=oB H
 obtain ⟨t501,A30,H⟩:=H
 have A3:=aM A30
 clear A30
 replace H:=oB H
 obtain ⟨t502,A40,H⟩:=H
 have A4:=aM A40
 clear A40
 by_cases c5:t501=true
 {
 subst c5
 have H1:(if t502=true then (some 0) else (some (-1)))=some r:=by rw [if_pos rfl] at H;exact H
 clear H
 have H:=H1
 clear H1
 by_cases c6:t502=true
 {
 subst c6
 have H1:(some 0)=some r:=by rw [if_pos rfl] at H;exact H
 clear H
 have H:=H1
 clear H1
 obtain rfl:=Option.some.inj H
 go_enter Tryd.func65,Tryd.ntmps65
 go_wp2_with (first|((with_reducible refine gate_callee (f:=77) rfl ?_);refine goesL_ (some 8) rfl rfl Tryd.func77 (by kernel_rfl) rfl #[.int .i64 a0] rfl aX ?_;(with_reducible refine(cmp_isNaN_int.calls a0 true _ A3.out).mono ?_);rintro e w' ⟨rfl,⟨nd,rfl⟩⟩;refine ⟨_,rfl,?_⟩)|((with_reducible refine gate_callee (f:=77) rfl ?_);refine goesL_ (some 10) rfl rfl Tryd.func77 (by kernel_rfl) rfl #[.int .i64 a1] rfl aX ?_;(with_reducible refine(cmp_isNaN_int.calls a1 true _ A4.out).mono ?_);rintro e w' ⟨rfl,⟨nd,rfl⟩⟩;refine ⟨_,rfl,?_⟩))
 go_ret
 exact ⟨by first|rfl|(simp;done)|(simp [*];done),by repeat(first|exact Drawn0.refl _|apply Drawn0.step)⟩
 }
 {
 replace c6:=Bool.eq_false_iff.mpr c6
 subst c6
 have H1:(some (-1))=some r:=by rw [if_neg (show ¬ (false=true) by decide)] at H;exact H
 clear H
 have H:=H1
 clear H1
 obtain rfl:=Option.some.inj H
 go_enter Tryd.func65,Tryd.ntmps65
 go_wp2_with (first|((with_reducible refine gate_callee (f:=77) rfl ?_);refine goesL_ (some 8) rfl rfl Tryd.func77 (by kernel_rfl) rfl #[.int .i64 a0] rfl aX ?_;(with_reducible refine(cmp_isNaN_int.calls a0 true _ A3.out).mono ?_);rintro e w' ⟨rfl,⟨nd,rfl⟩⟩;refine ⟨_,rfl,?_⟩)|((with_reducible refine gate_callee (f:=77) rfl ?_);refine goesL_ (some 10) rfl rfl Tryd.func77 (by kernel_rfl) rfl #[.int .i64 a1] rfl aX ?_;(with_reducible refine(cmp_isNaN_int.calls a1 false _ A4.out).mono ?_);rintro e w' ⟨rfl,⟨nd,rfl⟩⟩;refine ⟨_,rfl,?_⟩))
 go_ret
 exact ⟨by first|rfl|(simp;done)|(simp [*];done),by repeat(first|exact Drawn0.refl _|apply Drawn0.step)⟩
 }
 }
 {
 replace c5:=Bool.eq_false_iff.mpr c5
 subst c5
 have H1:(if t502=true then (some 1) else (if a0<a1 then (some (-1)) else (if a0 > a1 then (some 1) else (some 0))))=some r:=by rw [if_neg (show ¬ (false=true) by decide)] at H;exact H
 clear H
 have H:=H1
 clear H1
 by_cases c7:t502=true
 {
 subst c7
 have H1:(some 1)=some r:=by rw [if_pos rfl] at H;exact H
 clear H
 have H:=H1
 clear H1
 obtain rfl:=Option.some.inj H
 go_enter Tryd.func65,Tryd.ntmps65
 go_wp2_with (first|((with_reducible refine gate_callee (f:=77) rfl ?_);refine goesL_ (some 8) rfl rfl Tryd.func77 (by kernel_rfl) rfl #[.int .i64 a0] rfl aX ?_;(with_reducible refine(cmp_isNaN_int.calls a0 false _ A3.out).mono ?_);rintro e w' ⟨rfl,⟨nd,rfl⟩⟩;refine ⟨_,rfl,?_⟩)|((with_reducible refine gate_callee (f:=77) rfl ?_);refine goesL_ (some 10) rfl rfl Tryd.func77 (by kernel_rfl) rfl #[.int .i64 a1] rfl aX ?_;(with_reducible refine(cmp_isNaN_int.calls a1 true _ A4.out).mono ?_);rintro e w' ⟨rfl,⟨nd,rfl⟩⟩;refine ⟨_,rfl,?_⟩))
 go_ret
 exact ⟨by first|rfl|(simp;done)|(simp [*];done),by repeat(first|exact Drawn0.refl _|apply Drawn0.step)⟩
 }
 {
 replace c7:=Bool.eq_false_iff.mpr c7
 subst c7
 have H1:(if a0<a1 then (some (-1)) else (if a0 > a1 then (some 1) else (some 0)))=some r:=by rw [if_neg (show ¬ (false=true) by decide)] at H;exact H
 clear H
 have H:=H1
 clear H1
 by_cases c8:a0<a1
 {
 rw [if_pos c8] at H
 have c8b0:=decide_eq_true c8
 clear c8
 obtain rfl:=Option.some.inj H
 go_enter Tryd.func65,Tryd.ntmps65
 go_wp2_with (first|((with_reducible refine gate_callee (f:=77) rfl ?_);refine goesL_ (some 8) rfl rfl Tryd.func77 (by kernel_rfl) rfl #[.int .i64 a0] rfl aX ?_;(with_reducible refine(cmp_isNaN_int.calls a0 false _ A3.out).mono ?_);rintro e w' ⟨rfl,⟨nd,rfl⟩⟩;refine ⟨_,rfl,?_⟩)|((with_reducible refine gate_callee (f:=77) rfl ?_);refine goesL_ (some 10) rfl rfl Tryd.func77 (by kernel_rfl) rfl #[.int .i64 a1] rfl aX ?_;(with_reducible refine(cmp_isNaN_int.calls a1 false _ A4.out).mono ?_);rintro e w' ⟨rfl,⟨nd,rfl⟩⟩;refine ⟨_,rfl,?_⟩))
 go_ret
 exact ⟨by first|rfl|(simp;done)|(simp [*];done),by repeat(first|exact Drawn0.refl _|apply Drawn0.step)⟩
 }
 {
 rw [if_neg c8] at H
 have c8b0:=decide_eq_false c8
 clear c8
 by_cases c9:a0 > a1
 {
 rw [if_pos c9] at H
 have c9b0:=decide_eq_true c9
 clear c9
 obtain rfl:=Option.some.inj H
 go_enter Tryd.func65,Tryd.ntmps65
 go_wp2_with (first|((with_reducible refine gate_callee (f:=77) rfl ?_);refine goesL_ (some 8) rfl rfl Tryd.func77 (by kernel_rfl) rfl #[.int .i64 a0] rfl aX ?_;(with_reducible refine(cmp_isNaN_int.calls a0 false _ A3.out).mono ?_);rintro e w' ⟨rfl,⟨nd,rfl⟩⟩;refine ⟨_,rfl,?_⟩)|((with_reducible refine gate_callee (f:=77) rfl ?_);refine goesL_ (some 10) rfl rfl Tryd.func77 (by kernel_rfl) rfl #[.int .i64 a1] rfl aX ?_;(with_reducible refine(cmp_isNaN_int.calls a1 false _ A4.out).mono ?_);rintro e w' ⟨rfl,⟨nd,rfl⟩⟩;refine ⟨_,rfl,?_⟩))
 go_ret
 exact ⟨by first|rfl|(simp;done)|(simp [*];done),by repeat(first|exact Drawn0.refl _|apply Drawn0.step)⟩
 }
 {
 rw [if_neg c9] at H
 have c9b0:=decide_eq_false c9
 clear c9
 obtain rfl:=Option.some.inj H
 go_enter Tryd.func65,Tryd.ntmps65
 go_wp2_with (first|((with_reducible refine gate_callee (f:=77) rfl ?_);refine goesL_ (some 8) rfl rfl Tryd.func77 (by kernel_rfl) rfl #[.int .i64 a0] rfl aX ?_;(with_reducible refine(cmp_isNaN_int.calls a0 false _ A3.out).mono ?_);rintro e w' ⟨rfl,⟨nd,rfl⟩⟩;refine ⟨_,rfl,?_⟩)|((with_reducible refine gate_callee (f:=77) rfl ?_);refine goesL_ (some 10) rfl rfl Tryd.func77 (by kernel_rfl) rfl #[.int .i64 a1] rfl aX ?_;(with_reducible refine(cmp_isNaN_int.calls a1 false _ A4.out).mono ?_);rintro e w' ⟨rfl,⟨nd,rfl⟩⟩;refine ⟨_,rfl,?_⟩))
 go_ret
 exact ⟨by first|rfl|(simp;done)|(simp [*];done),by repeat(first|exact Drawn0.refl _|apply Drawn0.step)⟩
 }
 }
 }
 }

/-! ### slices_Compare_int_int: function 55 -/
def slices_Compare_int_int.l0 : Nat→List Int→List Int→List Int→Int→Int→Option (Int)
 | 0,_,_,_,_,_=>none
 | k+1,x0,x1,x9,x10,x11=>if x11<x10 then (if 0≤x11 then (if x11<(x9.length:Int) then (if x11≥(x1.length:Int) then (some 1) else (if x11<(x1.length:Int) then ((cmp_Compare_int.f (rd x9 x11) (rd x1 x11)).bind fun t505=>(if t505=0 then (slices_Compare_int_int.l0 k x0 x1 x9 x10 (wrap64 (x11+1))) else (some t505))) else (none))) else (none)) else (none)) else (if (x0.length:Int)<(x1.length:Int) then (some (-1)) else (some 0))
def slices_Compare_int_int.f (k:Nat) (l0:List Int) (l1:List Int):Option (Int):=slices_Compare_int_int.l0 k l0 l1 l0 (l0.length:Int) 0
theorem slices_Compare_int_int.calls (k:Nat) (A0:Option Addr) (c0:Nat) (l0:List Int) (A1:Option Addr) (c1:Nat) (l1:List Int) (r:Int) (w:World) (hr0:Kd.C (Kd.int .i64) w A0 l0.length l0) (hc0:l0.length≤c0) (hr1:Kd.C (Kd.int .i64) w A1 l1.length l1) (hc1:l1.length≤c1) (h:slices_Compare_int_int.f k l0 l1=some r) :
  Calls Tryd.prog 55 #[.slice A0 l0.length c0,.slice A1 l1.length c1] w fun e w'=>e = .returned (.int .i64 r)∧Drawn0 w w':=by
 have HR0:=aM hr0
 have HC0:=aM hc0
 clear hr0 hc0
 have HR1:=aM hr1
 have HC1:=aM hc1
 clear hr1 hc1
 have H:(slices_Compare_int_int.l0 k l0 l1 l0 (l0.length:Int) 0)=some r:=h
 clear h
 have H':=aM H
 clear H
 go_enter Tryd.func55,Tryd.ntmps55
 go_wp2
 go_loopg [11] k (fun kq v11 w'=>∃ (x11_1:Int),v11 = .int .i64 x11_1∧Aside0 (slices_Compare_int_int.l0 kq l0 l1 l0 (l0.length:Int) x11_1=some r)∧Aside0 (kq≤k)∧Drawn0 w w')
 case atStart=>exact ⟨(0),vX,H',⟨Nat.le_refl _⟩,by repeat(first|exact Drawn0.refl _|apply Drawn0.step)⟩
 case round =>
 clear H'
 try clear c1
 obtain ⟨x11_1,rfl,HA,HK1,⟨m1,rfl⟩⟩:=hrel
 cases gk with
 | zero=>exact absurd HA.out (by simp [slices_Compare_int_int.l0])
 | succ k1 =>
 have H:=HA.out
 clear HA
 simp only [slices_Compare_int_int.l0] at H
 by_cases c3:x11_1<(l0.length:Int)
 {
 rw [if_pos c3] at H
 have c3b0:=decide_eq_true c3
 clear c3
 by_cases c4:0≤x11_1
 {
 rw [if_pos c4] at H
 have c4b0:=decide_eq_true c4
 clear c4
 by_cases c5:x11_1<(l0.length:Int)
 {
 rw [if_pos c5] at H
 have c5b0:=decide_eq_true c5
 clear c5
 by_cases c6:x11_1≥(l1.length:Int)
 {
 rw [if_pos c6] at H
 have c6b0:=decide_eq_true c6
 clear c6
 obtain rfl:=Option.some.inj H
 have p503:0≤(x11_1:Int):=dX
 have q503:x11_1<(l0.length:Int):=dX
 obtain ⟨ad503,e503,hx503_0⟩:=Kd.at_int HR0.out x11_1 p503 q503
 cases e503
 replace p503:=eq_true p503
 replace q503:=eq_true q503
 go_wp2
 go_ret
 exact ⟨by first|rfl|(simp;done)|(simp [*];done),by repeat(first|exact Drawn0.refl _|apply Drawn0.step)⟩
 }
 {
 rw [if_neg c6] at H
 have c6b0:=decide_eq_false c6
 clear c6
 by_cases c7:x11_1<(l1.length:Int)
 {
 rw [if_pos c7] at H
 have c7b0:=decide_eq_true c7
 clear c7
 replace H:=oB H
 obtain ⟨t505,A80,H⟩:=H
 have A8:=aM A80
 clear A80
 by_cases c9:t505=0
 {
 rw [if_pos c9] at H
 have c9b0:(t505 == 0)=true:=beq_iff_eq.mpr c9
 have c9b1:(t505 != 0)=false:=bne_eq_false_iff_eq.mpr c9
 clear c9
 have H':=aM H
 clear H
 have p503:0≤(x11_1:Int):=dX
 have q503:x11_1<(l0.length:Int):=dX
 obtain ⟨ad503,e503,hx503_0⟩:=Kd.at_int HR0.out x11_1 p503 q503
 cases e503
 replace p503:=eq_true p503
 replace q503:=eq_true q503
 have p504:0≤(x11_1:Int):=dX
 have q504:x11_1<(l1.length:Int):=dX
 obtain ⟨ad504,e504,hx504_0⟩:=Kd.at_int HR1.out x11_1 p504 q504
 cases e504
 replace p504:=eq_true p504
 replace q504:=eq_true q504
 go_wp2_with (first|((with_reducible refine gate_callee (f:=65) rfl ?_);refine goesL_ (some 26) rfl rfl Tryd.func65 (by kernel_rfl) rfl #[.int .i64 (rd l0 x11_1),.int .i64 (rd l1 x11_1)] rfl aX ?_;(with_reducible refine(cmp_Compare_int.calls (rd l0 x11_1) (rd l1 x11_1) t505 _ A8.out).mono ?_);rintro e w' ⟨rfl,⟨nd,rfl⟩⟩;refine ⟨_,rfl,?_⟩))
 go_roundg k1
 case measure=>have:=HK1.out;omega
 case rel=>exact ⟨(wrap64 (x11_1+1)),vX,H',⟨by have:=HK1.out;omega⟩,by repeat(first|exact Drawn0.refl _|apply Drawn0.step)⟩
 }
 {
 rw [if_neg c9] at H
 have c9b0:(t505 == 0)=false:=beq_eq_false_iff_ne.mpr c9
 have c9b1:(t505 != 0)=true:=bne_iff_ne.mpr c9
 obtain rfl:=Option.some.inj H
 have p503:0≤(x11_1:Int):=dX
 have q503:x11_1<(l0.length:Int):=dX
 obtain ⟨ad503,e503,hx503_0⟩:=Kd.at_int HR0.out x11_1 p503 q503
 cases e503
 replace p503:=eq_true p503
 replace q503:=eq_true q503
 have p504:0≤(x11_1:Int):=dX
 have q504:x11_1<(l1.length:Int):=dX
 obtain ⟨ad504,e504,hx504_0⟩:=Kd.at_int HR1.out x11_1 p504 q504
 cases e504
 replace p504:=eq_true p504
 replace q504:=eq_true q504
 go_wp2_with (first|((with_reducible refine gate_callee (f:=65) rfl ?_);refine goesL_ (some 26) rfl rfl Tryd.func65 (by kernel_rfl) rfl #[.int .i64 (rd l0 x11_1),.int .i64 (rd l1 x11_1)] rfl aX ?_;(with_reducible refine(cmp_Compare_int.calls (rd l0 x11_1) (rd l1 x11_1) t505 _ A8.out).mono ?_);rintro e w' ⟨rfl,⟨nd,rfl⟩⟩;refine ⟨_,rfl,?_⟩))
 go_ret
 exact ⟨by first|rfl|(simp;done)|(simp [*];done),by repeat(first|exact Drawn0.refl _|apply Drawn0.step)⟩
 }
 }
 {
 rw [if_neg c7] at H
 exact absurd H (by simp)
 }
 }
 }
 {
 rw [if_neg c5] at H
 exact absurd H (by simp)
 }
 }
 {
 rw [if_neg c4] at H
 exact absurd H (by simp)
 }
 }
 {
 rw [if_neg c3] at H
 have c3b0:=decide_eq_false c3
 clear c3
 by_cases c10:(l0.length:Int)<(l1.length:Int)
 {
 rw [if_pos c10] at H
 have c10b0:=decide_eq_true c10
 have c10b1:decide (l0.length<l1.length)=true:=decide_eq_true (Int.ofNat_lt.mp c10)
 clear c10
 obtain rfl:=Option.some.inj H
 go_wp2
 go_ret
 exact ⟨by first|rfl|(simp;done)|(simp [*];done),by repeat(first|exact Drawn0.refl _|apply Drawn0.step)⟩
 }
 {
 rw [if_neg c10] at H
 have c10b0:=decide_eq_false c10
 have c10b1:decide (l0.length<l1.length)=false:=decide_eq_false (fun h=>c10 (Int.ofNat_lt.mpr h))
 clear c10
 obtain rfl:=Option.some.inj H
 go_wp2
 go_ret
 exact ⟨by first|rfl|(simp;done)|(simp [*];done),by repeat(first|exact Drawn0.refl _|apply Drawn0.step)⟩
 }
 }

/-! ### i_compareSurfaces: function 45 -/
def i_compareSurfaces.f (k:Nat) (l0_0:List Int) (l0_1:List Int) (l1_0:List Int) (l1_1:List Int):Option (Int):=(slices_Compare_int_int.f k l0_0 l1_0).bind fun t508=>(if t508=0 then ((slices_Compare_int_int.f k l0_1 l1_1).bind fun t509=>(some t509)) else (some t508))
theorem i_compareSurfaces.calls (k:Nat) (A0_0:Option Addr) (c0_0:Nat) (l0_0:List Int) (A0_1:Option Addr) (c0_1:Nat) (l0_1:List Int) (A1_0:Option Addr) (c1_0:Nat) (l1_0:List Int) (A1_1:Option Addr) (c1_1:Nat) (l1_1:List Int) (r:Int) (w:World) (hr0_0:Kd.C (Kd.int .i64) w A0_0 l0_0.length l0_0) (hc0_0:l0_0.length≤c0_0) (hr0_1:Kd.C (Kd.int .i64) w A0_1 l0_1.length l0_1) (hc0_1:l0_1.length≤c0_1) (hr1_0:Kd.C (Kd.int .i64) w A1_0 l1_0.length l1_0) (hc1_0:l1_0.length≤c1_0) (hr1_1:Kd.C (Kd.int .i64) w A1_1 l1_1.length l1_1) (hc1_1:l1_1.length≤c1_1) (h:i_compareSurfaces.f k l0_0 l0_1 l1_0 l1_1=some r) :
  Calls Tryd.prog 45 #[.agg #[.slice A0_0 l0_0.length c0_0,.slice A0_1 l0_1.length c0_1],.agg #[.slice A1_0 l1_0.length c1_0,.slice A1_1 l1_1.length c1_1]] w fun e w'=>e = .returned (.int .i64 r)∧Below w.heap.size w w':=by
 have hu25:=Tryd.underlying25
 have HR0_0:=aM hr0_0
 have HC0_0:=aM hc0_0
 clear hr0_0 hc0_0
 have HR0_1:=aM hr0_1
 have HC0_1:=aM hc0_1
 clear hr0_1 hc0_1
 have HR1_0:=aM hr1_0
 have HC1_0:=aM hc1_0
 clear hr1_0 hc1_0
 have HR1_1:=aM hr1_1
 have HC1_1:=aM hc1_1
 clear hr1_1 hc1_1
 have HB:=aM (Below.refl w.heap.size w)
 have H:((slices_Compare_int_int.f k l0_0 l1_0).bind fun t508=>(if t508=0 then ((slices_Compare_int_int.f k l0_1 l1_1).bind fun t509=>(some t509)) else (some t508)))=some r:=h
 clear h
 replace H:=oB H
 obtain ⟨t508,A30,H⟩:=H
 have A3:=aM A30
 clear A30
 by_cases c4:t508=0
 {
 rw [if_pos c4] at H
 have c4b0:(t508 == 0)=true:=beq_iff_eq.mpr c4
 have c4b1:(t508 != 0)=false:=bne_eq_false_iff_eq.mpr c4
 clear c4
 replace H:=oB H
 obtain ⟨t509,A50,H⟩:=H
 have A5:=aM A50
 clear A50
 obtain rfl:=Option.some.inj H
 go_enter Tryd.func45,Tryd.ntmps45
 go_wp2_with (first|((with_reducible refine gate_dst (N:=2) rfl ?_);refine bEv (cs:=#[.slice A0_0 l0_0.length c0_0,.slice A0_1 l0_1.length c0_1]) (t:=25) ?_;intro gb506 hg w6 hbox hb;have BK506:=aM (hbox);have GW506:=aM ((szX (below_size (bX HB.out)) hg:w.heap.size≤gb506));have GE506:=GW506;replace HB:=aM (below_step (bX HB.out) hb);clear hb hbox hg)|((with_reducible refine gate_dst (N:=3) rfl ?_);refine bEv (cs:=#[.slice A1_0 l1_0.length c1_0,.slice A1_1 l1_1.length c1_1]) (t:=25) ?_;intro gb507 hg w7 hbox hb;have BK507:=aM (hbox);have GW507:=aM ((szX (below_size (bX1 HB.out GE506.out)) hg:w.heap.size≤gb507));have GE507:=GW507;replace HB:=aM (below_step (bX1 HB.out GE506.out) hb);have NB506_507:=aM (neX BK506.out hg);have NB507_506:=aM (nfX BK506.out hg);replace BK506:=aM (bbX BK506.out hb);clear hb hbox hg;have hnb8:=NB506_507.out;have hnc8:=NB507_506.out;obtain ⟨hcz9_0,hcz9_1,hfz9_0,hfz9_1⟩:=f2Z BK506.out;have hcz10_0:w7.cell? ⟨gb507,0,none⟩=some (.slice A1_0 l1_0.length c1_0):=(blk_cell BK507.out 0).trans rfl;have hcz10_1:w7.cell? ⟨gb507,1,none⟩=some (.slice A1_1 l1_1.length c1_1):=(blk_cell BK507.out 1).trans rfl;have hfz10_0:=blk_frozen BK507.out 0;have hfz10_1:=blk_frozen BK507.out 1)|((with_reducible refine gate_callee (f:=55) rfl ?_);refine goesL_ (some 10) rfl rfl Tryd.func55 (by kernel_rfl) rfl #[.slice A0_0 l0_0.length c0_0,.slice A1_0 l1_0.length c1_0] rfl aX ?_;(with_reducible refine(slices_Compare_int_int.calls k _ _ l0_0 _ _ l1_0 t508 _ ?side1 ?side2 ?side3 ?side4 A3.out).mono ?_);(case side1=>exact cX (Kd.C_below HR0_0.out HB.out));(case side2=>exact HC0_0.out);(case side3=>exact cX (Kd.C_below HR1_0.out HB.out));(case side4=>exact HC1_0.out);rintro e w' ⟨rfl,⟨nd,rfl⟩⟩;refine ⟨_,rfl,?_⟩)|((with_reducible refine gate_callee (f:=55) rfl ?_);refine goesL_ (some 18) rfl rfl Tryd.func55 (by kernel_rfl) rfl #[.slice A0_1 l0_1.length c0_1,.slice A1_1 l1_1.length c1_1] rfl aX ?_;(with_reducible refine(slices_Compare_int_int.calls k _ _ l0_1 _ _ l1_1 t509 _ ?side1 ?side2 ?side3 ?side4 A5.out).mono ?_);(case side1=>exact cX (Kd.C_below HR0_1.out (bX2 HB.out GE506.out GE507.out)));(case side2=>exact HC0_1.out);(case side3=>exact cX (Kd.C_below HR1_1.out (bX2 HB.out GE506.out GE507.out)));(case side4=>exact HC1_1.out);rintro e w' ⟨rfl,⟨nd,rfl⟩⟩;refine ⟨_,rfl,?_⟩))
 go_ret
 exact ⟨eX,bX2 HB.out GE506.out GE507.out⟩
 }
 {
 rw [if_neg c4] at H
 have c4b0:(t508 == 0)=false:=beq_eq_false_iff_ne.mpr c4
 have c4b1:(t508 != 0)=true:=bne_iff_ne.mpr c4
 obtain rfl:=Option.some.inj H
 go_enter Tryd.func45,Tryd.ntmps45
 go_wp2_with (first|((with_reducible refine gate_dst (N:=2) rfl ?_);refine bEv (cs:=#[.slice A0_0 l0_0.length c0_0,.slice A0_1 l0_1.length c0_1]) (t:=25) ?_;intro gb506 hg w11 hbox hb;have BK506:=aM (hbox);have GW506:=aM ((szX (below_size (bX HB.out)) hg:w.heap.size≤gb506));have GE506:=GW506;replace HB:=aM (below_step (bX HB.out) hb);clear hb hbox hg)|((with_reducible refine gate_dst (N:=3) rfl ?_);refine bEv (cs:=#[.slice A1_0 l1_0.length c1_0,.slice A1_1 l1_1.length c1_1]) (t:=25) ?_;intro gb507 hg w12 hbox hb;have BK507:=aM (hbox);have GW507:=aM ((szX (below_size (bX1 HB.out GE506.out)) hg:w.heap.size≤gb507));have GE507:=GW507;replace HB:=aM (below_step (bX1 HB.out GE506.out) hb);have NB506_507:=aM (neX BK506.out hg);have NB507_506:=aM (nfX BK506.out hg);replace BK506:=aM (bbX BK506.out hb);clear hb hbox hg;have hnb13:=NB506_507.out;have hnc13:=NB507_506.out;obtain ⟨hcz14_0,hcz14_1,hfz14_0,hfz14_1⟩:=f2Z BK506.out;have hcz15_0:w12.cell? ⟨gb507,0,none⟩=some (.slice A1_0 l1_0.length c1_0):=(blk_cell BK507.out 0).trans rfl;have hcz15_1:w12.cell? ⟨gb507,1,none⟩=some (.slice A1_1 l1_1.length c1_1):=(blk_cell BK507.out 1).trans rfl;have hfz15_0:=blk_frozen BK507.out 0;have hfz15_1:=blk_frozen BK507.out 1)|((with_reducible refine gate_callee (f:=55) rfl ?_);refine goesL_ (some 10) rfl rfl Tryd.func55 (by kernel_rfl) rfl #[.slice A0_0 l0_0.length c0_0,.slice A1_0 l1_0.length c1_0] rfl aX ?_;(with_reducible refine(slices_Compare_int_int.calls k _ _ l0_0 _ _ l1_0 t508 _ ?side1 ?side2 ?side3 ?side4 A3.out).mono ?_);(case side1=>exact cX (Kd.C_below HR0_0.out HB.out));(case side2=>exact HC0_0.out);(case side3=>exact cX (Kd.C_below HR1_0.out HB.out));(case side4=>exact HC1_0.out);rintro e w' ⟨rfl,⟨nd,rfl⟩⟩;refine ⟨_,rfl,?_⟩))
 go_ret
 exact ⟨eX,bX2 HB.out GE506.out GE507.out⟩
 }

/-! ### i_CanonOf: function 26 -/
/-! by hand -/
/-- The first of the least, from an element on. -/
def minGo (k:Nat) (m:S25):List S25→Option S25
  | []=>some m
  | x :: xs=>(i_compareSurfaces.f k x.f0 x.f1 m.f0 m.f1).bind fun c=>minGo k (if c<0 then x else m) xs
def i_CanonOf.f (k:Nat) (l0_0 l0_1:List Int):Option (List Int × List Int × Bool):=(i_namedFrom.f k l0_0 l0_1).bind fun l=>if l.length≤1000 then (if l=[] then some ([],[],false) else (minGo k (rd_T25 l 0) (l.drop 1)).bind fun s=>some (s.f0,s.f1,true)) else none
/-- A surface that is read: two rows. -/
structure SurfC (w:World) (A0 A1:Option Addr) (c0 c1:Nat) (x y:List Int):Prop where
  l0:x.length≤c0
  g0:Kd.C (Kd.int .i64) w A0 x.length x
  l1:y.length≤c1
  g1:Kd.C (Kd.int .i64) w A1 y.length y
theorem SurfC.below {w w':World} {A0 A1:Option Addr} {c0 c1:Nat} {x y:List Int} (h:SurfC w A0 A1 c0 c1 x y) (hb:Below w.heap.size w w'):SurfC w' A0 A1 c0 c1 x y:=⟨h.l0,Kd.C_below h.g0 hb,h.l1,Kd.C_below h.g1 hb⟩
/-- The same, with the blocks it lies in. -/
def SurfF (w:World) (ok:Nat→Prop) (A0 A1:Option Addr) (c0 c1:Nat) (x y:List Int):Prop:=Foot (fun W=>SurfC W A0 A1 c0 c1 x y) w ok
theorem SurfF.below {w w':World} {ok:Nat→Prop} {A0 A1:Option Addr} {c0 c1:Nat} {x y:List Int} (h:SurfF w ok A0 A1 c0 c1 x y) (hb:Below w.heap.size w w'):SurfC w' A0 A1 c0 c1 x y:=h w' (fun k _ hlt=>hb.block k hlt)
theorem SurfF.l0 {w:World} {ok:Nat→Prop} {A0 A1:Option Addr} {c0 c1:Nat} {x y:List Int} (h:SurfF w ok A0 A1 c0 c1 x y):x.length≤c0:=(Foot.now h).l0
theorem SurfF.l1 {w:World} {ok:Nat→Prop} {A0 A1:Option Addr} {c0 c1:Nat} {x y:List Int} (h:SurfF w ok A0 A1 c0 c1 x y):y.length≤c1:=(Foot.now h).l1
theorem cell_same {w W:World} {p:Addr} {b:Nat} (hp:p.block=b) (h:W.heap[b]? = w.heap[b]?):W.cell? p=w.cell? p:=by
 unfold World.cell?
 rw [hp,h]
theorem canon_add_block (a:Addr) (n:Nat):(a.add n).block=a.block:=by
 unfold Addr.add
 split <;> rfl
theorem surf_elem {w:World} {ok:Nat→Prop} {A:Option Addr} {l:List S25} (hF:Kd.F k25 w ok A l.length l) (hA:∀ a,A=some a→ok a.block∧a.block<w.heap.size) (i:Int) (h0:0≤i) (h1:i<l.length) :
    ∃ ad C0 d0 C1 d1,A=some ad∧w.cell? (ad.add (i.toNat*2))=some (.slice C0 (rd_T25 l i).f0.length d0)∧w.cell? ⟨(ad.add (i.toNat*2)).block,(ad.add (i.toNat*2)).off+1,none⟩=some (.slice C1 (rd_T25 l i).f1.length d1)∧SurfF w ok C0 C1 d0 d1 (rd_T25 l i).f0 (rd_T25 l i).f1:=by
 obtain ⟨ad,C0,d0,C1,d1,rfl,hx0,hx1,l0,g0,l1,g1⟩:=at_T25 (Kd.F_now hF) i h0 h1
 refine ⟨ad,C0,d0,C1,d1,rfl,hx0,hx1,fun W hW => ?_⟩
 obtain ⟨ad2,E0,f0,E1,f1,e2,hy0,hy1,m0,n0,m1,n1⟩:=at_T25 (hF W hW) i h0 h1
 cases e2
 have hb:=hA ad rfl
 have q:=hW _ hb.1 hb.2
 rw [cell_same (canon_add_block _ _) q,hx0] at hy0
 rw [cell_same (p:=⟨(ad.add (i.toNat*2)).block,(ad.add (i.toNat*2)).off+1,none⟩) (canon_add_block _ _) q,hx1] at hy1
 have z0:=Option.some.inj hy0
 have z1:=Option.some.inj hy1
 injection z0 with a1 a2 a3
 injection z1 with b1 b2 b3
 subst a1 a3 b1 b3
 exact ⟨m0,n0,m1,n1⟩
theorem minf_calls (k:Nat) (A0:Option Addr) (c0:Nat) (l0:List S25) (r:S25) (w:World) (ok:Nat→Prop) (hr0:Kd.F k25 w ok A0 l0.length l0) (hA:∀ a,A0=some a→ok a.block∧a.block<w.heap.size) (hn:0<l0.length) (hbig:l0.length≤1000) (h:minGo k (rd_T25 l0 0) (l0.drop 1)=some r) :
    Calls Tryd.prog 44 #[.slice A0 l0.length c0,.func (.func 45) #[] #[]] w fun e w'=>∃ B0 b0 B1 b1,e = .returned (.agg #[.slice B0 r.f0.length b0,.slice B1 r.f1.length b1])∧SurfF w ok B0 B1 b0 b1 r.f0 r.f1∧Below w.heap.size w w':=by
  have hu:=Tryd.underlying25
  have HR0:=aM hr0
  clear hr0
  have HADR:=aM hA
  clear hA
  have HA:=aM h
  clear h
  have HB:=aM (Below.refl w.heap.size w)
  obtain ⟨ad,B0,b0,B1,b1,ead,hx0,hx1,gx⟩:=surf_elem HR0.out HADR.out 0 (Int.le_refl 0) (by omega)
  cases ead
  have GX:=aM gx
  clear gx
  have hb1:decide ((l0.length:Int)<1)=false:=decide_eq_false (by omega)
  have hp0:decide ((0:Int)<(l0.length:Int))=true:=decide_eq_true (by omega)
  have hp1:(0:Int)<(l0.length:Int):=by omega
  have e0:ad.add (Int.toNat 0*2)=ad:=by cases ad;rfl
  rw [e0] at hx0 hx1
  clear e0
  have HN:=aM hn
  have HG:=aM hbig
  clear hn hbig
  generalize (rd_T25 l0 0)=m0 at *
  go_enter Tryd.func44,Tryd.ntmps44
  go_wp2_with (first
    | ((with_reducible refine gate_dst (N:=4) rfl ?_);refine bEv (cs:=#[.slice none 0 0,.slice none 0 0]) (t:=25) ?_;intro gb4 hg4 w4 hbox4 hb4;have BK4:=aM hbox4;have HB4:=aM hb4;have GB4:=aM hg4;clear hbox4 hb4 hg4;replace hx0:=(HB4.out.cell (World.block_lt_of_cell? w _ hx0)).trans hx0;replace hx1:=(HB4.out.cell (World.block_lt_of_cell? w _ hx1)).trans hx1)
    | ((with_reducible refine gate_dst (N:=5) rfl ?_);refine bEv (cs:=#[.slice none 0 0,.slice none 0 0]) (t:=25) ?_;intro gb5 hg5 w5 hbox5 hb5;have BK5:=aM hbox5;have HB5:=aM hb5;have GB5:=aM hg5;clear hbox5 hb5 hg5)
    | (refine wpList_store_row rfl 25 (.tmp 5) (.tmp 13) rfl gb5 #[.slice B0 m0.f0.length b0,.slice B1 m0.f1.length b1] rfl rfl 25 #[.slice none 0 0,.slice none 0 0] BK5.out (by kernel_rfl) rfl (by simp [Value.oneCell']) ?_))
  have H45:w.heap.size≤gb5:=by rw [GB5.out];exact below_size HB4.out
  have HG5:=aM H45
  have HG4:Aside0 (w.heap.size≤gb4):=⟨by rw [GB4.out];exact Nat.le_refl _⟩
  have HNE:Aside0 (gb4≠gb5):=⟨by have h1:=blk_lt BK4.out;have h2:=GB5.out;omega⟩
  clear H45
  have HC5:=aM (show (w5.setRow gb5 #[.slice B0 m0.f0.length b0,.slice B1 m0.f1.length b1]).heap[gb5]? = some (.cells #[.slice B0 m0.f0.length b0,.slice B1 m0.f1.length b1] 25 (0,0)) from setRow_heap w5 gb5 _ _ _ _ BK5.out)
  have HC4:=aM (show (w5.setRow gb5 #[.slice B0 m0.f0.length b0,.slice B1 m0.f1.length b1]).heap[gb4]? = some (.cells #[.slice none 0 0,.slice none 0 0] 25 (0,0)) from (setRow_other w5 gb5 gb4 _ HNE.out).trans (blk_below BK4.out HB5.out))
  have HBB:=aM (show Below w.heap.size w (w5.setRow gb5 #[.slice B0 m0.f0.length b0,.slice B1 m0.f1.length b1]) from below_setRow (below_step HB4.out HB5.out) HG5.out _)
  go_loopg [6] l0.length (fun kq v6 w'=>∃ (i:Int) (m:S25) (B0:Option Addr) (b0:Nat) (B1:Option Addr) (b1:Nat),v6 = .int .i64 i∧Aside0 (1≤i∧i≤l0.length∧(kq:Int)+i=l0.length+1)∧Aside0 (minGo k m (l0.drop i.toNat)=some r)∧Aside0 (w'.heap[gb5]? = some (.cells #[.slice B0 m.f0.length b0,.slice B1 m.f1.length b1] 25 (0,0)))∧Aside0 (w'.heap[gb4]? = some (.cells #[.slice none 0 0,.slice none 0 0] 25 (0,0)))∧Aside0 (SurfF w ok B0 B1 b0 b1 m.f0 m.f1)∧Aside0 (Below w.heap.size w w'))
  case atStart=>exact ⟨1,m0,B0,b0,B1,b1,rfl,⟨by have:=HN.out;omega⟩,HA,HC5,HC4,GX,HBB⟩
  case round =>
    clear HC5 HC4 HBB GX hx0 hx1 BK4 BK5 HB4 HB5 GB4 GB5 HA HB hp0 hp1 hb1
    obtain ⟨i,m,B0,b0,B1,b1,rfl,HI,HA,HC5,HC4,GX,HB⟩:=hrel
    obtain ⟨hi0,hi1,hik⟩:=HI.out
    clear HI
    obtain ⟨k1,rfl⟩:∃ q,gk=q+1:=⟨gk - 1,by omega⟩
    have HK:=aM hik
    clear hik
    have hcz0:wr.cell? ⟨gb5,0,none⟩=some (.slice B0 m.f0.length b0):=(blk_cell HC5.out 0).trans rfl
    have hcz1:wr.cell? ⟨gb5,1,none⟩=some (.slice B1 m.f1.length b1):=(blk_cell HC5.out 1).trans rfl
    by_cases hlt:i<(l0.length:Int)
    · have c1:decide (i<(l0.length:Int))=true:=decide_eq_true hlt
      have hi00:0≤i:=by omega
      obtain ⟨ad2,C0,d0,C1,d1,e2,hy0,hy1,gy⟩:=surf_elem HR0.out HADR.out i hi00 hlt
      cases e2
      have HY0:=aM hy0
      have HY1:=aM hy1
      have GY:=aM gy
      clear gy
      replace hy0:=(HB.out.cell (World.block_lt_of_cell? w _ hy0)).trans hy0
      replace hy1:=(HB.out.cell (World.block_lt_of_cell? w _ hy1)).trans hy1
      have hdrop:l0.drop i.toNat=rd_T25 l0 i :: l0.drop (i+1).toNat:=by
        have h1:i.toNat<l0.length:=by omega
        rw [show (i+1).toNat=i.toNat+1 by omega,List.drop_eq_getElem_cons h1]
        simp [rd_T25,List.getD,h1]
      have hgo:=HA.out
      rw [hdrop,minGo] at hgo
      clear HA hdrop
      generalize rd_T25 l0 i=x at *
      obtain ⟨c,hc,hgo⟩:=oB hgo
      have HCC:=aM hc
      have HGO:=aM hgo
      clear hc hgo
      have p0:decide (0≤i)=true:=decide_eq_true hi00
      have HW:=aM (show wrap64 (i+1)=i+1 from by have:=HG.out;unfold wrap64;omega)
      have HI0:=aM hi00
      have HI1:=aM hlt
      replace hi00:=eq_true hi00
      replace hlt:=eq_true hlt
      clear hi0 hi1
      by_cases hcl:c<0
      · have c2:decide (c<0)=true:=decide_eq_true hcl
        have HG2:=aM (show minGo k x (l0.drop (i+1).toNat)=some r from by have:=HGO.out;rwa [if_pos hcl] at this)
        clear hcl HGO
        go_wp2
        refine start_ (n:=8) (S:=fun w'=>w'.cell? (ad.add (i.toNat*2))=some (.slice C0 x.f0.length d0)∧w'.cell? ⟨(ad.add (i.toNat*2)).block,(ad.add (i.toNat*2)).off+1,none⟩=some (.slice C1 x.f1.length d1)∧w'.cell? ⟨gb5,0,none⟩=some (.slice B0 m.f0.length b0)∧w'.cell? ⟨gb5,1,none⟩=some (.slice B1 m.f1.length b1)) (ds:=[]) #[ff,ff,ff,ff,ff,ff,ff,ff] (by kernel_rfl) rfl rfl ⟨hy0,hy1,hcz0,hcz1⟩ (fun hHeld => ?_)
        replace HC5:=aM (show wr.drew.heap[gb5]? = _ from HC5.out)
        replace HC4:=aM (show wr.drew.heap[gb4]? = _ from HC4.out)
        replace HB:=aM (below_drew1 HB.out)
        clear hy0 hy1 hcz0 hcz1
        generalize wr.drew=W at HC5 HC4 HB hHeld ⊢
        refine pure_ (i:=0) (N:=some 20) (v:=?_) (a':=?_) #[tt,ff,ff,ff,ff,ff,ff,ff] rfl rfl (by kernel_rfl) (fun _ _ _ h=>h) (Or.inl ⟨by kernel_rfl,?_⟩) ?_ ?_
        rotate_left
        · intro w'
          go_simp
          with_reducible rfl
        rotate_left
        · simp only [Act.put,List.setIfInBounds_toArray,List.set_cons_zero,List.set_cons_succ,i64_w,i32_w]
          rfl
        refine pure_ (i:=1) (N:=some 21) (v:=?_) (a':=?_) #[tt,tt,ff,ff,ff,ff,ff,ff] rfl rfl (by kernel_rfl) (fun _ _ _ h=>h) (Or.inl ⟨by kernel_rfl,?_⟩) ?_ ?_
        rotate_left
        · intro w'
          go_simp
          with_reducible rfl
        rotate_left
        · simp only [Act.put,List.setIfInBounds_toArray,List.set_cons_zero,List.set_cons_succ,i64_w,i32_w]
          rfl
        refine pure_ (i:=2) (N:=some 22) (v:=?_) (a':=?_) #[tt,tt,tt,ff,ff,ff,ff,ff] rfl rfl (by kernel_rfl) (fun _ _ _ h=>h) (Or.inl ⟨by kernel_rfl,?_⟩) ?_ ?_
        rotate_left
        · intro w'
          go_simp
          with_reducible rfl
        rotate_left
        · simp only [Act.put,List.setIfInBounds_toArray,List.set_cons_zero,List.set_cons_succ,i64_w,i32_w]
          rfl
        refine pure_ (i:=3) (N:=some 23) (v:=?_) (a':=?_) #[tt,tt,tt,tt,ff,ff,ff,ff] rfl rfl (by kernel_rfl) (fun _ _ _ h=>h) (Or.inl ⟨by kernel_rfl,?_⟩) ?_ ?_
        rotate_left
        · intro w'
          go_simp
          with_reducible rfl
        rotate_left
        · simp only [Act.put,List.setIfInBounds_toArray,List.set_cons_zero,List.set_cons_succ,i64_w,i32_w]
          rfl
        refine take_ (i:=4) (N:=some 24) (v:=?_) (a':=?_) #[tt,tt,tt,tt,tt,ff,ff,ff] rfl rfl (by kernel_rfl) (fun _ _ _ h=>h) (Or.inl ⟨by kernel_rfl,?_⟩) hHeld ?_ ?_
        rotate_left
        · rintro w' ⟨s0,s1,s2,s3⟩
          go_simp
          with_reducible rfl
        rotate_left
        · simp only [Act.put,List.setIfInBounds_toArray,List.set_cons_zero,List.set_cons_succ,i64_w,i32_w]
          rfl
        refine take_ (i:=5) (N:=some 25) (v:=?_) (a':=?_) #[tt,tt,tt,tt,tt,tt,ff,ff] rfl rfl (by kernel_rfl) (fun _ _ _ h=>h) (Or.inl ⟨by kernel_rfl,?_⟩) hHeld ?_ ?_
        rotate_left
        · rintro w' ⟨s0,s1,s2,s3⟩
          go_simp
          with_reducible rfl
        rotate_left
        · simp only [Act.put,List.setIfInBounds_toArray,List.set_cons_zero,List.set_cons_succ,i64_w,i32_w]
          rfl
        refine one_ (i:=6) (N:=some 26) #[tt,tt,tt,tt,tt,tt,tt,ff] rfl rfl (by kernel_rfl) (by decide) (fun K hK => ?_)
        refine call_ 45 #[.agg #[.slice C0 x.f0.length d0,.slice C1 x.f1.length d1],.agg #[.slice B0 m.f0.length b0,.slice B1 m.f1.length b1]] (by rfl) rfl ?hrun ?_
        case hrun=>unfold execOp;simp [resolve,Deferred.ofValue,invoke,Act.eval,enters_ Tryd.func45 (by kernel_rfl) rfl]
        refine(i_compareSurfaces.calls k C0 d0 x.f0 C1 d1 x.f1 B0 b0 m.f0 B1 b1 m.f1 c _ (GY.out.below HB.out).g0 GY.out.l0 (GY.out.below HB.out).g1 GY.out.l1 (GX.out.below HB.out).g0 GX.out.l0 (GX.out.below HB.out).g1 GX.out.l1 HCC.out).mono ?_
        rintro e w6 ⟨rfl,hb⟩
        refine ⟨_,rfl,?_⟩
        have HC5':=aM (blk_below HC5.out hb)
        have HC4':=aM (blk_below HC4.out hb)
        have HB':=aM (below_step HB.out hb)
        have hy0:=(HB'.out.cell (World.block_lt_of_cell? w _ HY0.out)).trans HY0.out
        have hy1:=(HB'.out.cell (World.block_lt_of_cell? w _ HY1.out)).trans HY1.out
        clear HC5 HC4 HB hb
        refine hK.out _ _ ⟨hy0,hy1,(blk_cell HC5'.out 0).trans rfl,(blk_cell HC5'.out 1).trans rfl⟩ (fun hHeld => ?_)
        clear hK K
        refine norm_ (a':=?_) ?_ ?_
        rotate_left
        · show Act.put _ (some 26) _=_
          simp only [Act.put,List.setIfInBounds_toArray,List.set_cons_zero,List.set_cons_succ,i64_w,i32_w]
          rfl
        refine pure_ (i:=7) (N:=some 27) (v:=?_) (a':=?_) #[tt,tt,tt,tt,tt,tt,tt,tt] rfl rfl (by kernel_rfl) (fun _ _ _ h=>h) (Or.inl ⟨by kernel_rfl,?_⟩) ?_ ?_
        rotate_left
        · intro w'
          go_simp
          with_reducible rfl
        rotate_left
        · simp only [Act.put,List.setIfInBounds_toArray,List.set_cons_zero,List.set_cons_succ,i64_w,i32_w]
          rfl
        refine done_ (by kernel_rfl) ?_
        clear hHeld
        go_wp2_with (refine wpList_store_row rfl 25 (.tmp 5) (.tmp 31) rfl gb5 #[.slice C0 x.f0.length d0,.slice C1 x.f1.length d1] rfl rfl 25 #[.slice B0 m.f0.length b0,.slice B1 m.f1.length b1] HC5'.out (by kernel_rfl) rfl (by simp [Value.oneCell']) ?_)
        go_roundg k1
        case measure=>have:=HK.out;omega
        case rel=>exact ⟨i+1,x,C0,d0,C1,d1,by rw [HW.out],⟨by have:=HK.out;have:=HI1.out;have:=HI0.out;omega⟩,HG2,⟨setRow_heap _ gb5 _ _ _ _ HC5'.out⟩,⟨(setRow_other _ gb5 gb4 _ HNE.out).trans HC4'.out⟩,GY,⟨below_setRow HB'.out HG5.out _⟩⟩
      · have c2:decide (c<0)=false:=decide_eq_false hcl
        have HG2:=aM (show minGo k m (l0.drop (i+1).toNat)=some r from by have:=HGO.out;rwa [if_neg hcl] at this)
        clear hcl HGO
        go_wp2
        refine start_ (n:=8) (S:=fun w'=>w'.cell? (ad.add (i.toNat*2))=some (.slice C0 x.f0.length d0)∧w'.cell? ⟨(ad.add (i.toNat*2)).block,(ad.add (i.toNat*2)).off+1,none⟩=some (.slice C1 x.f1.length d1)∧w'.cell? ⟨gb5,0,none⟩=some (.slice B0 m.f0.length b0)∧w'.cell? ⟨gb5,1,none⟩=some (.slice B1 m.f1.length b1)) (ds:=[]) #[ff,ff,ff,ff,ff,ff,ff,ff] (by kernel_rfl) rfl rfl ⟨hy0,hy1,hcz0,hcz1⟩ (fun hHeld => ?_)
        replace HC5:=aM (show wr.drew.heap[gb5]? = _ from HC5.out)
        replace HC4:=aM (show wr.drew.heap[gb4]? = _ from HC4.out)
        replace HB:=aM (below_drew1 HB.out)
        clear hy0 hy1 hcz0 hcz1
        generalize wr.drew=W at HC5 HC4 HB hHeld ⊢
        refine pure_ (i:=0) (N:=some 20) (v:=?_) (a':=?_) #[tt,ff,ff,ff,ff,ff,ff,ff] rfl rfl (by kernel_rfl) (fun _ _ _ h=>h) (Or.inl ⟨by kernel_rfl,?_⟩) ?_ ?_
        rotate_left
        · intro w'
          go_simp
          with_reducible rfl
        rotate_left
        · simp only [Act.put,List.setIfInBounds_toArray,List.set_cons_zero,List.set_cons_succ,i64_w,i32_w]
          rfl
        refine pure_ (i:=1) (N:=some 21) (v:=?_) (a':=?_) #[tt,tt,ff,ff,ff,ff,ff,ff] rfl rfl (by kernel_rfl) (fun _ _ _ h=>h) (Or.inl ⟨by kernel_rfl,?_⟩) ?_ ?_
        rotate_left
        · intro w'
          go_simp
          with_reducible rfl
        rotate_left
        · simp only [Act.put,List.setIfInBounds_toArray,List.set_cons_zero,List.set_cons_succ,i64_w,i32_w]
          rfl
        refine pure_ (i:=2) (N:=some 22) (v:=?_) (a':=?_) #[tt,tt,tt,ff,ff,ff,ff,ff] rfl rfl (by kernel_rfl) (fun _ _ _ h=>h) (Or.inl ⟨by kernel_rfl,?_⟩) ?_ ?_
        rotate_left
        · intro w'
          go_simp
          with_reducible rfl
        rotate_left
        · simp only [Act.put,List.setIfInBounds_toArray,List.set_cons_zero,List.set_cons_succ,i64_w,i32_w]
          rfl
        refine pure_ (i:=3) (N:=some 23) (v:=?_) (a':=?_) #[tt,tt,tt,tt,ff,ff,ff,ff] rfl rfl (by kernel_rfl) (fun _ _ _ h=>h) (Or.inl ⟨by kernel_rfl,?_⟩) ?_ ?_
        rotate_left
        · intro w'
          go_simp
          with_reducible rfl
        rotate_left
        · simp only [Act.put,List.setIfInBounds_toArray,List.set_cons_zero,List.set_cons_succ,i64_w,i32_w]
          rfl
        refine take_ (i:=4) (N:=some 24) (v:=?_) (a':=?_) #[tt,tt,tt,tt,tt,ff,ff,ff] rfl rfl (by kernel_rfl) (fun _ _ _ h=>h) (Or.inl ⟨by kernel_rfl,?_⟩) hHeld ?_ ?_
        rotate_left
        · rintro w' ⟨s0,s1,s2,s3⟩
          go_simp
          with_reducible rfl
        rotate_left
        · simp only [Act.put,List.setIfInBounds_toArray,List.set_cons_zero,List.set_cons_succ,i64_w,i32_w]
          rfl
        refine take_ (i:=5) (N:=some 25) (v:=?_) (a':=?_) #[tt,tt,tt,tt,tt,tt,ff,ff] rfl rfl (by kernel_rfl) (fun _ _ _ h=>h) (Or.inl ⟨by kernel_rfl,?_⟩) hHeld ?_ ?_
        rotate_left
        · rintro w' ⟨s0,s1,s2,s3⟩
          go_simp
          with_reducible rfl
        rotate_left
        · simp only [Act.put,List.setIfInBounds_toArray,List.set_cons_zero,List.set_cons_succ,i64_w,i32_w]
          rfl
        refine one_ (i:=6) (N:=some 26) #[tt,tt,tt,tt,tt,tt,tt,ff] rfl rfl (by kernel_rfl) (by decide) (fun K hK => ?_)
        refine call_ 45 #[.agg #[.slice C0 x.f0.length d0,.slice C1 x.f1.length d1],.agg #[.slice B0 m.f0.length b0,.slice B1 m.f1.length b1]] (by rfl) rfl ?hrun ?_
        case hrun=>unfold execOp;simp [resolve,Deferred.ofValue,invoke,Act.eval,enters_ Tryd.func45 (by kernel_rfl) rfl]
        refine(i_compareSurfaces.calls k C0 d0 x.f0 C1 d1 x.f1 B0 b0 m.f0 B1 b1 m.f1 c _ (GY.out.below HB.out).g0 GY.out.l0 (GY.out.below HB.out).g1 GY.out.l1 (GX.out.below HB.out).g0 GX.out.l0 (GX.out.below HB.out).g1 GX.out.l1 HCC.out).mono ?_
        rintro e w6 ⟨rfl,hb⟩
        refine ⟨_,rfl,?_⟩
        have HC5':=aM (blk_below HC5.out hb)
        have HC4':=aM (blk_below HC4.out hb)
        have HB':=aM (below_step HB.out hb)
        have hy0:=(HB'.out.cell (World.block_lt_of_cell? w _ HY0.out)).trans HY0.out
        have hy1:=(HB'.out.cell (World.block_lt_of_cell? w _ HY1.out)).trans HY1.out
        clear HC5 HC4 HB hb
        refine hK.out _ _ ⟨hy0,hy1,(blk_cell HC5'.out 0).trans rfl,(blk_cell HC5'.out 1).trans rfl⟩ (fun hHeld => ?_)
        clear hK K
        refine norm_ (a':=?_) ?_ ?_
        rotate_left
        · show Act.put _ (some 26) _=_
          simp only [Act.put,List.setIfInBounds_toArray,List.set_cons_zero,List.set_cons_succ,i64_w,i32_w]
          rfl
        refine pure_ (i:=7) (N:=some 27) (v:=?_) (a':=?_) #[tt,tt,tt,tt,tt,tt,tt,tt] rfl rfl (by kernel_rfl) (fun _ _ _ h=>h) (Or.inl ⟨by kernel_rfl,?_⟩) ?_ ?_
        rotate_left
        · intro w'
          go_simp
          with_reducible rfl
        rotate_left
        · simp only [Act.put,List.setIfInBounds_toArray,List.set_cons_zero,List.set_cons_succ,i64_w,i32_w]
          rfl
        refine done_ (by kernel_rfl) ?_
        clear hHeld
        clear hy0 hy1
        go_wp2
        go_roundg k1
        case measure=>have:=HK.out;omega
        case rel=>exact ⟨i+1,m,B0,b0,B1,b1,by rw [HW.out],⟨by have:=HK.out;have:=HI1.out;have:=HI0.out;omega⟩,HG2,HC5',HC4',GX,HB'⟩
    · have hie:i=l0.length:=by omega
      have hr:m=r:=by
        have h:=HA.out
        rw [show l0.drop i.toNat=[] from by rw [hie];simp,minGo] at h
        exact Option.some.inj h
      subst hr
      have c1:decide (i<(l0.length:Int))=false:=decide_eq_false hlt
      clear hlt hie hi0 hi1
      go_wp2_with (refine wpList_store_row rfl 25 (.tmp 4) (.tmp 32) rfl gb4 #[.slice B0 m.f0.length b0,.slice B1 m.f1.length b1] rfl rfl 25 #[.slice none 0 0,.slice none 0 0] HC4.out (by kernel_rfl) rfl (by simp [Value.oneCell']) ?_)
      have HCF:=aM (setRow_heap wr gb4 _ #[.slice B0 m.f0.length b0,.slice B1 m.f1.length b1] _ _ HC4.out)
      refine bodyPost_ret (results_cell_row rfl _ _ gb4 25 #[.slice B0 m.f0.length b0,.slice B1 m.f1.length b1] (0,0) _ rfl HCF.out hu rfl (by kernel_rfl)) rfl ?_
      exact ⟨B0,b0,B1,b1,rfl,GX.out,below_setRow HB.out HG4.out _⟩
/-- What a row of rows' value is. -/
theorem S_sliceC {α:Type} {d:Kd α} {e base:Nat} {ok:Nat→Prop} {w:World} {v:Value} {xs:List α} (h:Kd.S d e w base ok v xs):∃ A c,v = .slice A xs.length c∧xs.length≤c∧Kd.F d w (fun k=>base≤k) A xs.length xs∧∀ a,A=some a→base≤a.block∧a.block<w.heap.size:=by
 obtain ⟨A,c,rfl⟩:=Kd.R_slice (Kd.S_R h)
 have:=Kd.R_reads' (Kd.S_R h)
 refine ⟨A,c,rfl,this.2.1,Kd.S_F (Kd.S_mono (Kd.S_bound h) (fun k hk=>hk.2.1)),fun a ha => ?_⟩
 subst ha
 exact ⟨Kd.R_base (Kd.S_R h) _ rfl,Kd.R_lt (Kd.S_R h) _ rfl⟩
theorem SurfF.setRow {w w4:World} {N g:Nat} {A0 A1:Option Addr} {c0 c1:Nat} {x y:List Int} (h:SurfF w (fun k=>N≤k) A0 A1 c0 c1 x y) (hb:Below w.heap.size w w4) (hg:g<N) (cs:Array Value):SurfC (w4.setRow g cs) A0 A1 c0 c1 x y:=h _ (fun k hk hlt=>(setRow_other w4 g k cs (by omega)).trans (hb.block k hlt))
theorem i_CanonOf.calls (k:Nat) (A0_0:Option Addr) (c0_0:Nat) (l0_0:List Int) (A0_1:Option Addr) (c0_1:Nat) (l0_1:List Int) (r1 r2:List Int) (r3:Bool) (w:World) (hs:SurfC w A0_0 A0_1 c0_0 c0_1 l0_0 l0_1) (h:i_CanonOf.f k l0_0 l0_1=some (r1,r2,r3)) :
    Calls Tryd.prog 26 #[.agg #[.slice A0_0 l0_0.length c0_0,.slice A0_1 l0_1.length c0_1]] w fun e w'=>∃ B0 b0 B1 b1,e = .returned (.tuple #[.agg #[.slice B0 r1.length b0,.slice B1 r2.length b1],.bool r3])∧SurfC w' B0 B1 b0 b1 r1 r2∧Below w.heap.size w w':=by
  have hu:=Tryd.underlying25
  have HS:=aM hs
  clear hs
  unfold i_CanonOf.f at h
  obtain ⟨l,hl,h⟩:=oB h
  have HL:=aM hl
  clear hl
  have H:=aM h
  clear h
  go_enter Tryd.func26,Tryd.ntmps26
  have HQ:∀ (W:World),Below w.heap.size w W→Calls Tryd.prog 27 #[.agg #[.slice A0_0 l0_0.length c0_0,.slice A0_1 l0_1.length c0_1]] W fun e w'=>∃ A c,e = .returned (.slice A l.length c)∧l.length≤c∧(Kd.F k25 w' (fun k=>W.heap.size≤k) A l.length l∧∀ a,A=some a→W.heap.size≤a.block∧a.block<w'.heap.size)∧Below W.heap.size W w':=fun W hW=>by
    refine(i_namedFrom.calls k _ _ l0_0 _ _ l0_1 l W (HS.out.below hW).g0 HS.out.l0 (HS.out.below hW).g1 HS.out.l1 HL.out).mono ?_
    rintro e w' ⟨v,rfl,hv,hb⟩
    obtain ⟨A,c,rfl,hc,hC⟩:=S_sliceC hv
    exact ⟨A,c,rfl,hc,hC,hb⟩
  have HQ2:=aM HQ
  clear HQ
  by_cases hz:l=[]
  · have h:=H.out
    subst hz
    rw [if_pos (by simp),if_pos rfl] at h
    simp only [Option.some.injEq,Prod.mk.injEq] at h
    obtain ⟨rfl,rfl,rfl⟩:=h
    clear H HL
    go_wp2_with (first
      | ((with_reducible refine gate_dst (N:=1) rfl ?_);refine bEv (cs:=#[.slice A0_0 l0_0.length c0_0,.slice A0_1 l0_1.length c0_1]) (t:=25) ?_;intro gb1 hg1 w1 hbox1 hb1;have BK1:=aM hbox1;have HB1:=aM hb1;clear hbox1 hb1 hg1)
      | ((with_reducible refine gate_dst (N:=2) rfl ?_);refine bEv (cs:=#[.slice none 0 0,.slice none 0 0]) (t:=25) ?_;intro gb2 hg2 w2 hbox2 hb2;have BK2:=aM hbox2;have HB2:=aM (below_step HB1.out hb2);have HG2:=aM (show w.heap.size≤gb2 by rw [hg2];exact below_size HB1.out);have BK12:=aM (blk_below BK1.out hb2);clear BK1 HB1;have hc10:w2.cell? ⟨gb1,0,none⟩=some (.slice A0_0 l0_0.length c0_0):=(blk_cell BK12.out 0).trans rfl;have hc11:w2.cell? ⟨gb1,1,none⟩=some (.slice A0_1 l0_1.length c0_1):=(blk_cell BK12.out 1).trans rfl;clear hbox2 hb2 hg2)
      | (go_at_call 27;refine(HQ2.out _ HB2.out).mono ?_;rintro e w3 ⟨A,c,rfl,hc,hC,hb⟩;have HB3:=aM (below_step HB2.out hb);have BK3:=aM (blk_below BK2.out hb);clear hc10 hc11 hb hc hC HB2 BK2)
      | (refine wpList_store_row rfl 25 (.tmp 2) (.tmp 10) rfl gb2 #[.slice none 0 0,.slice none 0 0] rfl rfl 25 #[.slice none 0 0,.slice none 0 0] BK3.out (by kernel_rfl) rfl (by simp [Value.oneCell']) ?_))
    have HCF:=aM (setRow_heap w3 gb2 _ #[.slice none 0 0,.slice none 0 0] _ _ BK3.out)
    refine bodyPost_ret (results_ct rfl _ _ gb2 25 #[.slice none 0 0,.slice none 0 0] (0,0) _ rfl HCF.out hu rfl (by kernel_rfl)) rfl ?_
    exact ⟨none,0,none,0,rfl,⟨Nat.le_refl _,Kd.C_nil _ _,Nat.le_refl _,Kd.C_nil _ _⟩,below_setRow HB3.out HG2.out _⟩
  · have h:=H.out
    by_cases hbig:l.length≤1000
    · rw [if_pos hbig,if_neg hz] at h
      obtain ⟨s,hs,h⟩:=oB h
      simp only [Option.some.injEq,Prod.mk.injEq] at h
      obtain ⟨rfl,rfl,rfl⟩:=h
      have HM:=aM hs
      clear hs H HL
      have hn:0<l.length:=List.length_pos_iff.mpr hz
      have hn0:decide ((l.length:Int)=0)=false:=decide_eq_false (by omega)
      have hn1:((l.length:Int) == 0)=false:=by simpa using hz
      have HN:=aM hn
      have HG:=aM hbig
      have hn2:(l.length=0)=False:=by simp;exact hz
      have hn3:((l.length:Int)=0)=False:=by simp;exact hz
      clear hn hbig hz
      go_wp2_with (first
        | ((with_reducible refine gate_dst (N:=1) rfl ?_);refine bEv (cs:=#[.slice A0_0 l0_0.length c0_0,.slice A0_1 l0_1.length c0_1]) (t:=25) ?_;intro gb1 hg1 w1 hbox1 hb1;have BK1:=aM hbox1;have HB1:=aM hb1;clear hbox1 hb1 hg1)
        | ((with_reducible refine gate_dst (N:=2) rfl ?_);refine bEv (cs:=#[.slice none 0 0,.slice none 0 0]) (t:=25) ?_;intro gb2 hg2 w2 hbox2 hb2;have BK2:=aM hbox2;have HB2:=aM (below_step HB1.out hb2);have HG2:=aM (show w.heap.size≤gb2 by rw [hg2];exact below_size HB1.out);have BK12:=aM (blk_below BK1.out hb2);clear BK1 HB1;have hc10:w2.cell? ⟨gb1,0,none⟩=some (.slice A0_0 l0_0.length c0_0):=(blk_cell BK12.out 0).trans rfl;have hc11:w2.cell? ⟨gb1,1,none⟩=some (.slice A0_1 l0_1.length c0_1):=(blk_cell BK12.out 1).trans rfl;clear hbox2 hb2 hg2)
        | (go_at_call 27;refine(HQ2.out _ HB2.out).mono ?_;rintro e w3 ⟨A,c,rfl,hc,hC,hb⟩;have HB3:=aM (below_step HB2.out hb);have BK3:=aM (blk_below BK2.out hb);have HC3:=aM hC;clear hc10 hc11 hb hc hC HB2)
        | (go_at_call 44;refine(minf_calls k A c l s _ _ HC3.out.1 HC3.out.2 HN.out HG.out HM.out).mono ?_;rintro e w4 ⟨B0,b0,B1,b1,rfl,hS,hb⟩;have HB4:=aM (below_step HB3.out hb);have BK4:=aM (blk_below BK3.out hb);have HS4:=aM (SurfF.setRow hS hb (show gb2<w2.heap.size from blk_lt BK2.out));clear hb hS HB3 BK3)
        | (refine wpList_store_row rfl 25 (.tmp 2) (.tmp 12) rfl gb2 #[.slice B0 s.f0.length b0,.slice B1 s.f1.length b1] rfl rfl 25 #[.slice none 0 0,.slice none 0 0] BK4.out (by kernel_rfl) rfl (by simp [Value.oneCell']) ?_))
      have HCF:=aM (setRow_heap w4 gb2 _ #[.slice B0 s.f0.length b0,.slice B1 s.f1.length b1] _ _ BK4.out)
      refine bodyPost_ret (results_ct rfl _ _ gb2 25 #[.slice B0 s.f0.length b0,.slice B1 s.f1.length b1] (0,0) _ rfl HCF.out hu rfl (by kernel_rfl)) rfl ?_
      exact ⟨B0,b0,B1,b1,rfl,HS4.out _,below_setRow HB4.out HG2.out _⟩
    · rw [if_neg hbig] at h
      exact absurd h (by simp)

/-! ### slices_Equal_int_int: function 57 -/
def slices_Equal_int_int.l0 : Nat→List Int→List Int→Int→Int→Option (Bool)
 | 0,_,_,_,_=>none
 | k+1,x0,x1,x12,x13=>if x13<x12 then (if 0≤x13 then (if x13<(x0.length:Int) then (if x13<(x1.length:Int) then (if (rd x0 x13)=(rd x1 x13) then (slices_Equal_int_int.l0 k x0 x1 x12 (wrap64 (x13+1))) else (some false)) else (none)) else (none)) else (none)) else (some true)
def slices_Equal_int_int.f (k:Nat) (l0:List Int) (l1:List Int):Option (Bool):=if (l0.length:Int)=(l1.length:Int) then (slices_Equal_int_int.l0 k l0 l1 (l0.length:Int) 0) else (some false)
theorem slices_Equal_int_int.calls (k:Nat) (A0:Option Addr) (c0:Nat) (l0:List Int) (A1:Option Addr) (c1:Nat) (l1:List Int) (r:Bool) (w:World) (hr0:Kd.C (Kd.int .i64) w A0 l0.length l0) (hc0:l0.length≤c0) (hr1:Kd.C (Kd.int .i64) w A1 l1.length l1) (hc1:l1.length≤c1) (h:slices_Equal_int_int.f k l0 l1=some r) :
  Calls Tryd.prog 57 #[.slice A0 l0.length c0,.slice A1 l1.length c1] w fun e w'=>e = .returned (.bool r)∧Drawn0 w w':=by
 have HR0:=aM hr0
 have HC0:=aM hc0
 clear hr0 hc0
 have HR1:=aM hr1
 have HC1:=aM hc1
 clear hr1 hc1
 have H:(if (l0.length:Int)=(l1.length:Int) then (slices_Equal_int_int.l0 k l0 l1 (l0.length:Int) 0) else (some false))=some r:=h
 clear h
 by_cases c3:(l0.length:Int)=(l1.length:Int)
 {
 rw [if_pos c3] at H
 have c3b0:((l0.length:Int) == (l1.length:Int))=true:=beq_iff_eq.mpr c3
 have c3b1:((l0.length:Int) != (l1.length:Int))=false:=bne_eq_false_iff_eq.mpr c3
 have c3b2:(l0.length == l1.length)=true:=by first|simpa using c3|(simp at c3 ⊢;omega)
 clear c3
 have H':=aM H
 clear H
 go_enter Tryd.func57,Tryd.ntmps57
 go_wp2
 repeat(go_quiet (fail);try go_wp2)
 go_loopg [13] k (fun kq v13 w'=>∃ (x13_1:Int),v13 = .int .i64 x13_1∧Aside0 (slices_Equal_int_int.l0 kq l0 l1 (l0.length:Int) x13_1=some r)∧Aside0 (kq≤k)∧Drawn0 w w')
 case atStart=>exact ⟨(0),vX,H',⟨Nat.le_refl _⟩,by repeat(first|exact Drawn0.refl _|apply Drawn0.step)⟩
 case round =>
 clear H'
 try clear c1
 try clear c3
 try clear c3b0
 try clear c3b1
 try clear c3b2
 obtain ⟨x13_1,rfl,HA,HK1,⟨m1,rfl⟩⟩:=hrel
 cases gk with
 | zero=>exact absurd HA.out (by simp [slices_Equal_int_int.l0])
 | succ k1 =>
 have H:=HA.out
 clear HA
 simp only [slices_Equal_int_int.l0] at H
 by_cases c4:x13_1<(l0.length:Int)
 {
 rw [if_pos c4] at H
 have c4b0:=decide_eq_true c4
 clear c4
 by_cases c5:0≤x13_1
 {
 rw [if_pos c5] at H
 have c5b0:=decide_eq_true c5
 clear c5
 by_cases c6:x13_1<(l0.length:Int)
 {
 rw [if_pos c6] at H
 have c6b0:=decide_eq_true c6
 clear c6
 by_cases c7:x13_1<(l1.length:Int)
 {
 rw [if_pos c7] at H
 have c7b0:=decide_eq_true c7
 clear c7
 by_cases c8:(rd l0 x13_1)=(rd l1 x13_1)
 {
 rw [if_pos c8] at H
 have c8b0:((rd l0 x13_1) == (rd l1 x13_1))=true:=beq_iff_eq.mpr c8
 have c8b1:((rd l0 x13_1) != (rd l1 x13_1))=false:=bne_eq_false_iff_eq.mpr c8
 clear c8
 have H':=aM H
 clear H
 have p510:0≤(x13_1:Int):=dX
 have q510:x13_1<(l0.length:Int):=dX
 obtain ⟨ad510,e510,hx510_0⟩:=Kd.at_int HR0.out x13_1 p510 q510
 cases e510
 replace p510:=eq_true p510
 replace q510:=eq_true q510
 have p511:0≤(x13_1:Int):=dX
 have q511:x13_1<(l1.length:Int):=dX
 obtain ⟨ad511,e511,hx511_0⟩:=Kd.at_int HR1.out x13_1 p511 q511
 cases e511
 replace p511:=eq_true p511
 replace q511:=eq_true q511
 go_wp2
 repeat(go_quiet (fail);try go_wp2)
 go_roundg k1
 case measure=>have:=HK1.out;omega
 case rel=>exact ⟨(wrap64 (x13_1+1)),vX,H',⟨by have:=HK1.out;omega⟩,by repeat(first|exact Drawn0.refl _|apply Drawn0.step)⟩
 }
 {
 rw [if_neg c8] at H
 have c8b0:((rd l0 x13_1) == (rd l1 x13_1))=false:=beq_eq_false_iff_ne.mpr c8
 have c8b1:((rd l0 x13_1) != (rd l1 x13_1))=true:=bne_iff_ne.mpr c8
 obtain rfl:=Option.some.inj H
 have p510:0≤(x13_1:Int):=dX
 have q510:x13_1<(l0.length:Int):=dX
 obtain ⟨ad510,e510,hx510_0⟩:=Kd.at_int HR0.out x13_1 p510 q510
 cases e510
 replace p510:=eq_true p510
 replace q510:=eq_true q510
 have p511:0≤(x13_1:Int):=dX
 have q511:x13_1<(l1.length:Int):=dX
 obtain ⟨ad511,e511,hx511_0⟩:=Kd.at_int HR1.out x13_1 p511 q511
 cases e511
 replace p511:=eq_true p511
 replace q511:=eq_true q511
 go_wp2
 repeat(go_quiet (fail);try go_wp2)
 go_ret
 exact ⟨by first|rfl|(simp;done)|(simp [*];done),by repeat(first|exact Drawn0.refl _|apply Drawn0.step)⟩
 }
 }
 {
 rw [if_neg c7] at H
 exact absurd H (by simp)
 }
 }
 {
 rw [if_neg c6] at H
 exact absurd H (by simp)
 }
 }
 {
 rw [if_neg c5] at H
 exact absurd H (by simp)
 }
 }
 {
 rw [if_neg c4] at H
 have c4b0:=decide_eq_false c4
 clear c4
 obtain rfl:=Option.some.inj H
 go_wp2
 repeat(go_quiet (fail);try go_wp2)
 go_ret
 exact ⟨by first|rfl|(simp;done)|(simp [*];done),by repeat(first|exact Drawn0.refl _|apply Drawn0.step)⟩
 }
 }
 {
 rw [if_neg c3] at H
 have c3b0:((l0.length:Int) == (l1.length:Int))=false:=beq_eq_false_iff_ne.mpr c3
 have c3b1:((l0.length:Int) != (l1.length:Int))=true:=bne_iff_ne.mpr c3
 have c3b2:(l0.length == l1.length)=false:=by first|simpa using c3|(simp at c3 ⊢;omega)
 obtain rfl:=Option.some.inj H
 go_enter Tryd.func57,Tryd.ntmps57
 go_wp2
 repeat(go_quiet (fail);try go_wp2)
 go_ret
 exact ⟨by first|rfl|(simp;done)|(simp [*];done),by repeat(first|exact Drawn0.refl _|apply Drawn0.step)⟩
 }

/-! ### i_SameList: function 48 -/
def i_SameList.f (k:Nat) (l0:List Int) (l1:List Int):Option (Bool):=(slices_Equal_int_int.f k l0 l1).bind fun t512=>(some t512)
theorem i_SameList.calls (k:Nat) (A0:Option Addr) (c0:Nat) (l0:List Int) (A1:Option Addr) (c1:Nat) (l1:List Int) (r:Bool) (w:World) (hr0:Kd.C (Kd.int .i64) w A0 l0.length l0) (hc0:l0.length≤c0) (hr1:Kd.C (Kd.int .i64) w A1 l1.length l1) (hc1:l1.length≤c1) (h:i_SameList.f k l0 l1=some r) :
  Calls Tryd.prog 48 #[.slice A0 l0.length c0,.slice A1 l1.length c1] w fun e w'=>e = .returned (.bool r)∧Drawn0 w w':=by
 have HR0:=aM hr0
 have HC0:=aM hc0
 clear hr0 hc0
 have HR1:=aM hr1
 have HC1:=aM hc1
 clear hr1 hc1
 have H:((slices_Equal_int_int.f k l0 l1).bind fun t512=>(some t512))=some r:=h
 clear h
 replace H:=oB H
 obtain ⟨t512,A30,H⟩:=H
 have A3:=aM A30
 clear A30
 obtain rfl:=Option.some.inj H
 go_enter Tryd.func48,Tryd.ntmps48
 go_wp2_with (first|((with_reducible refine gate_callee (f:=57) rfl ?_);refine goesL_ (some 7) rfl rfl Tryd.func57 (by kernel_rfl) rfl #[.slice A0 l0.length c0,.slice A1 l1.length c1] rfl (by(try simp only [List.map_toArray,List.map_cons,List.map_nil]);first|done|rfl|(simp only [List.length_drop,List.length_take];rfl)) ?_;(with_reducible refine(slices_Equal_int_int.calls k _ _ l0 _ _ l1 t512 _ ?side1 ?side2 ?side3 ?side4 A3.out).mono ?_);(case side1=>exact cX HR0.out);(case side2=>exact HC0.out);(case side3=>exact cX HR1.out);(case side4=>exact HC1.out);rintro e w' ⟨rfl,⟨nd,rfl⟩⟩;refine ⟨_,rfl,?_⟩))
 go_ret
 exact ⟨by first|rfl|(simp;done)|(simp [*];done),by repeat(first|exact Drawn0.refl _|apply Drawn0.step)⟩

/-! ### i_SameSurface: function 28 -/
def i_SameSurface.f (k:Nat) (l0_0:List Int) (l0_1:List Int) (l1_0:List Int) (l1_1:List Int):Option (Bool):=(i_SameList.f k l0_0 l1_0).bind fun t515=>(if t515=true then ((i_SameList.f k l0_1 l1_1).bind fun t516=>(some t516)) else (some false))
theorem i_SameSurface.calls (k:Nat) (A0_0:Option Addr) (c0_0:Nat) (l0_0:List Int) (A0_1:Option Addr) (c0_1:Nat) (l0_1:List Int) (A1_0:Option Addr) (c1_0:Nat) (l1_0:List Int) (A1_1:Option Addr) (c1_1:Nat) (l1_1:List Int) (r:Bool) (w:World) (hr0_0:Kd.C (Kd.int .i64) w A0_0 l0_0.length l0_0) (hc0_0:l0_0.length≤c0_0) (hr0_1:Kd.C (Kd.int .i64) w A0_1 l0_1.length l0_1) (hc0_1:l0_1.length≤c0_1) (hr1_0:Kd.C (Kd.int .i64) w A1_0 l1_0.length l1_0) (hc1_0:l1_0.length≤c1_0) (hr1_1:Kd.C (Kd.int .i64) w A1_1 l1_1.length l1_1) (hc1_1:l1_1.length≤c1_1) (h:i_SameSurface.f k l0_0 l0_1 l1_0 l1_1=some r) :
  Calls Tryd.prog 28 #[.agg #[.slice A0_0 l0_0.length c0_0,.slice A0_1 l0_1.length c0_1],.agg #[.slice A1_0 l1_0.length c1_0,.slice A1_1 l1_1.length c1_1]] w fun e w'=>e = .returned (.bool r)∧Below w.heap.size w w':=by
 have hu25:=Tryd.underlying25
 have HR0_0:=aM hr0_0
 have HC0_0:=aM hc0_0
 clear hr0_0 hc0_0
 have HR0_1:=aM hr0_1
 have HC0_1:=aM hc0_1
 clear hr0_1 hc0_1
 have HR1_0:=aM hr1_0
 have HC1_0:=aM hc1_0
 clear hr1_0 hc1_0
 have HR1_1:=aM hr1_1
 have HC1_1:=aM hc1_1
 clear hr1_1 hc1_1
 have HB:=aM (Below.refl w.heap.size w)
 have H:((i_SameList.f k l0_0 l1_0).bind fun t515=>(if t515=true then ((i_SameList.f k l0_1 l1_1).bind fun t516=>(some t516)) else (some false)))=some r:=h
 clear h
 replace H:=oB H
 obtain ⟨t515,A30,H⟩:=H
 have A3:=aM A30
 clear A30
 by_cases c4:t515=true
 {
 subst c4
 have H1:((i_SameList.f k l0_1 l1_1).bind fun t516=>(some t516))=some r:=by rw [if_pos rfl] at H;exact H
 clear H
 have H:=H1
 clear H1
 replace H:=oB H
 obtain ⟨t516,A50,H⟩:=H
 have A5:=aM A50
 clear A50
 obtain rfl:=Option.some.inj H
 go_enter Tryd.func28,Tryd.ntmps28
 go_wp2_with (first|((with_reducible refine gate_dst (N:=2) rfl ?_);refine bEv (cs:=#[.slice A0_0 l0_0.length c0_0,.slice A0_1 l0_1.length c0_1]) (t:=25) ?_;intro gb513 hg w6 hbox hb;have BK513:=aM (hbox);have GW513:=aM ((szX (below_size (bX HB.out)) hg:w.heap.size≤gb513));have GE513:=GW513;replace HB:=aM (below_step (bX HB.out) hb);clear hb hbox hg)|((with_reducible refine gate_dst (N:=3) rfl ?_);refine bEv (cs:=#[.slice A1_0 l1_0.length c1_0,.slice A1_1 l1_1.length c1_1]) (t:=25) ?_;intro gb514 hg w7 hbox hb;have BK514:=aM (hbox);have GW514:=aM ((szX (below_size (bX1 HB.out GE513.out)) hg:w.heap.size≤gb514));have GE514:=GW514;replace HB:=aM (below_step (bX1 HB.out GE513.out) hb);have NB513_514:=aM (neX BK513.out hg);have NB514_513:=aM (nfX BK513.out hg);replace BK513:=aM (bbX BK513.out hb);clear hb hbox hg;have hnb8:=NB513_514.out;have hnc8:=NB514_513.out;obtain ⟨hcz9_0,hcz9_1,hfz9_0,hfz9_1⟩:=f2Z BK513.out;have hcz10_0:w7.cell? ⟨gb514,0,none⟩=some (.slice A1_0 l1_0.length c1_0):=(blk_cell BK514.out 0).trans rfl;have hcz10_1:w7.cell? ⟨gb514,1,none⟩=some (.slice A1_1 l1_1.length c1_1):=(blk_cell BK514.out 1).trans rfl;have hfz10_0:=blk_frozen BK514.out 0;have hfz10_1:=blk_frozen BK514.out 1)|((with_reducible refine gate_callee (f:=48) rfl ?_);refine goesL_ (some 9) rfl rfl Tryd.func48 (by kernel_rfl) rfl #[.slice A0_0 l0_0.length c0_0,.slice A1_0 l1_0.length c1_0] rfl aX ?_;(with_reducible refine(i_SameList.calls k _ _ l0_0 _ _ l1_0 true _ ?side1 ?side2 ?side3 ?side4 A3.out).mono ?_);(case side1=>exact cX (Kd.C_below HR0_0.out HB.out));(case side2=>exact HC0_0.out);(case side3=>exact cX (Kd.C_below HR1_0.out HB.out));(case side4=>exact HC1_0.out);rintro e w' ⟨rfl,⟨nd,rfl⟩⟩;refine ⟨_,rfl,?_⟩)|(go_at_call 48;(with_reducible refine(i_SameList.calls k _ _ l0_1 _ _ l1_1 t516 _ ?side1 ?side2 ?side3 ?side4 A5.out).mono ?_);(case side1=>exact cX (Kd.C_below HR0_1.out (bX2 HB.out GE513.out GE514.out)));(case side2=>exact HC0_1.out);(case side3=>exact cX (Kd.C_below HR1_1.out (bX2 HB.out GE513.out GE514.out)));(case side4=>exact HC1_1.out);rintro e w' ⟨rfl,⟨nd,rfl⟩⟩))
 go_ret
 exact ⟨eX,bX2 HB.out GE513.out GE514.out⟩
 }
 {
 replace c4:=Bool.eq_false_iff.mpr c4
 subst c4
 have H1:(some false)=some r:=by rw [if_neg (show ¬ (false=true) by decide)] at H;exact H
 clear H
 have H:=H1
 clear H1
 obtain rfl:=Option.some.inj H
 go_enter Tryd.func28,Tryd.ntmps28
 go_wp2_with (first|((with_reducible refine gate_dst (N:=2) rfl ?_);refine bEv (cs:=#[.slice A0_0 l0_0.length c0_0,.slice A0_1 l0_1.length c0_1]) (t:=25) ?_;intro gb513 hg w11 hbox hb;have BK513:=aM (hbox);have GW513:=aM ((szX (below_size (bX HB.out)) hg:w.heap.size≤gb513));have GE513:=GW513;replace HB:=aM (below_step (bX HB.out) hb);clear hb hbox hg)|((with_reducible refine gate_dst (N:=3) rfl ?_);refine bEv (cs:=#[.slice A1_0 l1_0.length c1_0,.slice A1_1 l1_1.length c1_1]) (t:=25) ?_;intro gb514 hg w12 hbox hb;have BK514:=aM (hbox);have GW514:=aM ((szX (below_size (bX1 HB.out GE513.out)) hg:w.heap.size≤gb514));have GE514:=GW514;replace HB:=aM (below_step (bX1 HB.out GE513.out) hb);have NB513_514:=aM (neX BK513.out hg);have NB514_513:=aM (nfX BK513.out hg);replace BK513:=aM (bbX BK513.out hb);clear hb hbox hg;have hnb13:=NB513_514.out;have hnc13:=NB514_513.out;obtain ⟨hcz14_0,hcz14_1,hfz14_0,hfz14_1⟩:=f2Z BK513.out;have hcz15_0:w12.cell? ⟨gb514,0,none⟩=some (.slice A1_0 l1_0.length c1_0):=(blk_cell BK514.out 0).trans rfl;have hcz15_1:w12.cell? ⟨gb514,1,none⟩=some (.slice A1_1 l1_1.length c1_1):=(blk_cell BK514.out 1).trans rfl;have hfz15_0:=blk_frozen BK514.out 0;have hfz15_1:=blk_frozen BK514.out 1)|((with_reducible refine gate_callee (f:=48) rfl ?_);refine goesL_ (some 9) rfl rfl Tryd.func48 (by kernel_rfl) rfl #[.slice A0_0 l0_0.length c0_0,.slice A1_0 l1_0.length c1_0] rfl aX ?_;(with_reducible refine(i_SameList.calls k _ _ l0_0 _ _ l1_0 false _ ?side1 ?side2 ?side3 ?side4 A3.out).mono ?_);(case side1=>exact cX (Kd.C_below HR0_0.out HB.out));(case side2=>exact HC0_0.out);(case side3=>exact cX (Kd.C_below HR1_0.out HB.out));(case side4=>exact HC1_0.out);rintro e w' ⟨rfl,⟨nd,rfl⟩⟩;refine ⟨_,rfl,?_⟩))
 go_ret
 exact ⟨eX,bX2 HB.out GE513.out GE514.out⟩
 }

/-! ### i_CountSymmetries: function 7 -/
/-! by hand -/
def symGo (k:Nat) (x y:List Int):List S25→Int→Option Int
  | [],n=>some n
  | s :: l,n=>(i_SameSurface.f k s.f0 s.f1 x y).bind fun b=>symGo k x y l (if b=true then wrap64 (n+1) else n)
def i_CountSymmetries.f (k:Nat) (l0_0 l0_1:List Int):Option Int:=(i_CanonOf.f k l0_0 l0_1).bind fun c=>(i_namedFrom.f k l0_0 l0_1).bind fun l=>if l.length≤1000 then symGo k c.1 c.2.1 l 0 else none
theorem i_CountSymmetries.calls (k:Nat) (A0_0:Option Addr) (c0_0:Nat) (l0_0:List Int) (A0_1:Option Addr) (c0_1:Nat) (l0_1:List Int) (r:Int) (w:World) (hr0_0:Kd.C (Kd.int .i64) w A0_0 l0_0.length l0_0) (hc0_0:l0_0.length≤c0_0) (hr0_1:Kd.C (Kd.int .i64) w A0_1 l0_1.length l0_1) (hc0_1:l0_1.length≤c0_1) (h:i_CountSymmetries.f k l0_0 l0_1=some r) :
    Calls Tryd.prog 7 #[.agg #[.slice A0_0 l0_0.length c0_0,.slice A0_1 l0_1.length c0_1]] w fun e w'=>e = .returned (.int .i64 r)∧Below w.heap.size w w':=by
  have hu:=Tryd.underlying25
  have HS:Aside0 (SurfC w A0_0 A0_1 c0_0 c0_1 l0_0 l0_1):=⟨⟨hc0_0,hr0_0,hc0_1,hr0_1⟩⟩
  clear hr0_0 hc0_0 hr0_1 hc0_1
  unfold i_CountSymmetries.f at h
  obtain ⟨⟨q1,q2,q3⟩,hq,h⟩:=oB h
  obtain ⟨l,hl,h⟩:=oB h
  have HQ:=aM hq
  have HL:=aM hl
  clear hq hl
  by_cases hbig:l.length≤1000
  · rw [if_pos hbig] at h
    have HA:=aM h
    have HG:=aM hbig
    clear h hbig
    have HQ2:Aside0 (∀ (W:World),Below w.heap.size w W→Calls Tryd.prog 27 #[.agg #[.slice A0_0 l0_0.length c0_0,.slice A0_1 l0_1.length c0_1]] W fun e w'=>∃ A c,e = .returned (.slice A l.length c)∧l.length≤c∧(Kd.F k25 w' (fun k=>W.heap.size≤k) A l.length l∧∀ a,A=some a→W.heap.size≤a.block∧a.block<w'.heap.size)∧Below W.heap.size W w'):=⟨fun W hW=>by
      refine(i_namedFrom.calls k _ _ l0_0 _ _ l0_1 l W (HS.out.below hW).g0 HS.out.l0 (HS.out.below hW).g1 HS.out.l1 HL.out).mono ?_
      rintro e w' ⟨v,rfl,hv,hb⟩
      obtain ⟨A,c,rfl,hc,hC⟩:=S_sliceC hv
      exact ⟨A,c,rfl,hc,hC,hb⟩⟩
    go_enter Tryd.func7,Tryd.ntmps7
    go_wp2_with (first
      | ((with_reducible refine gate_dst (N:=1) rfl ?_);refine bEv (cs:=#[.slice A0_0 l0_0.length c0_0,.slice A0_1 l0_1.length c0_1]) (t:=25) ?_;intro gb1 hg1 w1 hbox1 hb1;have BK1:=aM hbox1;have HB1:=aM hb1;have HG1:=aM hg1;have hc10:w1.cell? ⟨gb1,0,none⟩=some (.slice A0_0 l0_0.length c0_0):=(blk_cell BK1.out 0).trans rfl;have hc11:w1.cell? ⟨gb1,1,none⟩=some (.slice A0_1 l0_1.length c0_1):=(blk_cell BK1.out 1).trans rfl;clear hbox1 hb1 hg1)
      | (go_at_call 26;(refine(i_CanonOf.calls k _ _ l0_0 _ _ l0_1 q1 q2 q3 w1 (HS.out.below HB1.out) HQ.out).mono ?_);rintro e w2 ⟨B0,b0,B1,b1,rfl,hS,hb⟩;have HB2:=aM (below_step HB1.out hb);have BK2:=aM (blk_below BK1.out hb);have HS2:=aM hS;clear hc10 hc11 hb hS BK1 HB1)
      | ((with_reducible refine gate_dst (N:=3) rfl ?_);refine bEv (cs:=#[.slice none 0 0,.slice none 0 0]) (t:=25) ?_;intro gb3 hg3 w3 hbox3 hb3;have BK3:=aM hbox3;have HB3:=aM (below_step HB2.out hb3);have HG3:=aM (show w.heap.size≤gb3 by rw [hg3];exact below_size HB2.out);have BK23:=aM (blk_below BK2.out hb3);have HNE:=aM (show gb1≠gb3 by have:=blk_lt BK2.out;omega);have HG23:=aM (show w2.heap.size≤gb3 by omega);have HB23:=aM hb3;clear hbox3 hb3 hg3 BK2 HB2)
      | (refine wpList_store_row rfl 25 (.tmp 3) (.tmp 11) rfl gb3 #[.slice B0 q1.length b0,.slice B1 q2.length b1] rfl rfl 25 #[.slice none 0 0,.slice none 0 0] BK3.out (by kernel_rfl) rfl (by simp [Value.oneCell']) ?_;have BK13:=aM ((setRow_other w3 gb3 gb1 #[.slice B0 q1.length b0,.slice B1 q2.length b1] HNE.out).trans BK23.out);have HB4:=aM (below_setRow HB3.out HG3.out #[.slice B0 q1.length b0,.slice B1 q2.length b1]);have HC3:=aM (setRow_heap w3 gb3 _ #[.slice B0 q1.length b0,.slice B1 q2.length b1] _ _ BK3.out);have HS4:=aM (HS2.out.below (below_setRow HB23.out HG23.out #[.slice B0 q1.length b0,.slice B1 q2.length b1]));have hc10:(w3.setRow gb3 #[.slice B0 q1.length b0,.slice B1 q2.length b1]).cell? ⟨gb1,0,none⟩=some (.slice A0_0 l0_0.length c0_0):=(blk_cell BK13.out 0).trans rfl;have hc11:(w3.setRow gb3 #[.slice B0 q1.length b0,.slice B1 q2.length b1]).cell? ⟨gb1,1,none⟩=some (.slice A0_1 l0_1.length c0_1):=(blk_cell BK13.out 1).trans rfl)
      | (go_at_call 27;(refine(HQ2.out _ HB4.out).mono ?_);rintro e w5 ⟨A,c,rfl,hc,hC,hb⟩;have HB5:=aM (below_step HB4.out hb);have HC5:=aM (blk_below HC3.out hb);have HS5:=aM (HS4.out.below hb);have HF:=aM hC;clear hc10 hc11 hb hc hC HB4 HC3 HS4))
    go_loopg [5,16] (l.length+1) (fun kq v5 v16 w'=>∃ (n i:Int),v5 = .int .i64 n∧v16 = .int .i64 i∧Aside0 (0≤i∧i≤l.length∧(kq:Int)+i=l.length+1)∧Aside0 (symGo k q1 q2 (l.drop i.toNat) n=some r)∧Aside0 (w'.heap[gb3]? = some (.cells #[.slice B0 q1.length b0,.slice B1 q2.length b1] 25 (0,0)))∧Aside0 (SurfC w' B0 B1 b0 b1 q1 q2)∧Aside0 (Below w5.heap.size w5 w')∧Aside0 (Below w.heap.size w w'))
    case atStart=>exact ⟨0,0,rfl,rfl,⟨by omega⟩,HA,HC5,HS5,⟨Below.refl _ _⟩,HB5⟩
    case round =>
      clear HA HC5 HS5 HB5
      obtain ⟨n,i,rfl,rfl,HI,HA,HC5,HS5,HW,HB⟩:=hrel
      obtain ⟨hi0,hi1,hik⟩:=HI.out
      clear HI
      obtain ⟨k1,rfl⟩:∃ q,gk=q+1:=⟨gk - 1,by omega⟩
      have HK:=aM hik
      clear hik
      by_cases hlt:i<(l.length:Int)
      · have c1:decide (i<(l.length:Int))=true:=decide_eq_true hlt
        obtain ⟨ad2,C0,d0,C1,d1,e2,hy0,hy1,gy⟩:=surf_elem HF.out.1 HF.out.2 i hi0 hlt
        cases e2
        have GY:=aM gy
        clear gy
        replace hy0:=(HW.out.cell (World.block_lt_of_cell? w5 _ hy0)).trans hy0
        replace hy1:=(HW.out.cell (World.block_lt_of_cell? w5 _ hy1)).trans hy1
        have HY0:=aM hy0
        have HY1:=aM hy1
        have hdrop:l.drop i.toNat=rd_T25 l i :: l.drop (i+1).toNat:=by
          have h1:i.toNat<l.length:=by omega
          rw [show (i+1).toNat=i.toNat+1 by omega,List.drop_eq_getElem_cons h1]
          simp [rd_T25,List.getD,h1]
        have hgo:=HA.out
        rw [hdrop,symGo] at hgo
        clear HA hdrop
        generalize rd_T25 l i=x at *
        obtain ⟨b,hb,hgo⟩:=oB hgo
        have HCC:=aM hb
        have HGO:=aM hgo
        clear hb hgo
        have p0:decide (0≤i)=true:=decide_eq_true hi0
        have HW1:=aM (show wrap64 (i+1)=i+1 from by have:=HG.out;unfold wrap64;omega)
        have HI0:=aM hi0
        have HI1:=aM hlt
        replace hi0:=eq_true hi0
        replace hlt:=eq_true hlt
        clear hi1
        have box7:∀ (W:World),Below wr.heap.size wr W→∀ gb7,gb7=W.heap.size→∀ w7:World,w7.heap[gb7]? = some (.cells #[.slice none 0 0,.slice none 0 0] 25 (0,0))→Below W.heap.size W w7→True:=fun _ _ _ _ _ _ _=>trivial
        clear box7
        cases b with
        | true =>
          go_wp2_with (first
            | ((with_reducible refine gate_dst (N:=7) rfl ?_);refine bEv (cs:=#[.slice none 0 0,.slice none 0 0]) (t:=25) ?_;intro gb7 hg7 w7 hbox7 hb7;have BK7:=aM hbox7;have HB7:=aM hb7;have HG7:=aM (show wr.heap.size≤gb7 by omega);have HNE7:=aM (show gb3≠gb7 by have:=blk_lt HC5.out;omega);clear hbox7 hb7 hg7;have hy0:=(HB7.out.cell (World.block_lt_of_cell? wr _ HY0.out)).trans HY0.out;have hy1:=(HB7.out.cell (World.block_lt_of_cell? wr _ HY1.out)).trans HY1.out)
            | (refine wpList_store_row rfl 25 (.tmp 7) (.tmp 19) rfl gb7 #[.slice C0 x.f0.length d0,.slice C1 x.f1.length d1] rfl rfl 25 #[.slice none 0 0,.slice none 0 0] BK7.out (by kernel_rfl) rfl (by simp [Value.oneCell']) ?_;have HC7:=aM (setRow_heap w7 gb7 _ #[.slice C0 x.f0.length d0,.slice C1 x.f1.length d1] _ _ BK7.out);have HC6:=aM ((setRow_other w7 gb7 gb3 #[.slice C0 x.f0.length d0,.slice C1 x.f1.length d1] HNE7.out).trans (blk_below HC5.out HB7.out));have HB6:=aM (below_setRow HB7.out HG7.out #[.slice C0 x.f0.length d0,.slice C1 x.f1.length d1]);have hz0:(w7.setRow gb7 #[.slice C0 x.f0.length d0,.slice C1 x.f1.length d1]).cell? ⟨gb7,0,none⟩=some (.slice C0 x.f0.length d0):=(blk_cell HC7.out 0).trans rfl;have hz1:(w7.setRow gb7 #[.slice C0 x.f0.length d0,.slice C1 x.f1.length d1]).cell? ⟨gb7,1,none⟩=some (.slice C1 x.f1.length d1):=(blk_cell HC7.out 1).trans rfl;have hv0:(w7.setRow gb7 #[.slice C0 x.f0.length d0,.slice C1 x.f1.length d1]).cell? ⟨gb3,0,none⟩=some (.slice B0 q1.length b0):=(blk_cell HC6.out 0).trans rfl;have hv1:(w7.setRow gb7 #[.slice C0 x.f0.length d0,.slice C1 x.f1.length d1]).cell? ⟨gb3,1,none⟩=some (.slice B1 q2.length b1):=(blk_cell HC6.out 1).trans rfl;have HSQ:=aM (HS5.out.below HB6.out);have HGX:=aM (GY.out.below (below_then HW.out HW.out.size HB6.out)))
            | (go_at_call 28;(refine(i_SameSurface.calls k C0 d0 x.f0 C1 d1 x.f1 B0 b0 q1 B1 b1 q2 true _ HGX.out.g0 HGX.out.l0 HGX.out.g1 HGX.out.l1 HSQ.out.g0 HSQ.out.l0 HSQ.out.g1 HSQ.out.l1 HCC.out).mono ?_);rintro e w8 ⟨rfl,hb⟩;have HC8:=aM (blk_below HC6.out hb);have HS8:=aM (HSQ.out.below hb);have HW8:=aM (below_step (below_then HW.out HW.out.size HB6.out) hb);have HB8:=aM (below_step (below_then HB.out HB.out.size HB6.out) hb);clear hz0 hz1 hv0 hv1 hb))
          go_roundg k1
          case measure=>have:=HK.out;omega
          case rel=>exact ⟨wrap64 (n+1),i+1,by simp [i64_w],by rw [HW1.out],⟨by have:=HK.out;have:=HI1.out;have:=HI0.out;omega⟩,⟨by have:=HGO.out;simpa using this⟩,HC8,HS8,HW8,HB8⟩
        | false =>
          go_wp2_with (first
            | ((with_reducible refine gate_dst (N:=7) rfl ?_);refine bEv (cs:=#[.slice none 0 0,.slice none 0 0]) (t:=25) ?_;intro gb7 hg7 w7 hbox7 hb7;have BK7:=aM hbox7;have HB7:=aM hb7;have HG7:=aM (show wr.heap.size≤gb7 by omega);have HNE7:=aM (show gb3≠gb7 by have:=blk_lt HC5.out;omega);clear hbox7 hb7 hg7;have hy0:=(HB7.out.cell (World.block_lt_of_cell? wr _ HY0.out)).trans HY0.out;have hy1:=(HB7.out.cell (World.block_lt_of_cell? wr _ HY1.out)).trans HY1.out)
            | (refine wpList_store_row rfl 25 (.tmp 7) (.tmp 19) rfl gb7 #[.slice C0 x.f0.length d0,.slice C1 x.f1.length d1] rfl rfl 25 #[.slice none 0 0,.slice none 0 0] BK7.out (by kernel_rfl) rfl (by simp [Value.oneCell']) ?_;have HC7:=aM (setRow_heap w7 gb7 _ #[.slice C0 x.f0.length d0,.slice C1 x.f1.length d1] _ _ BK7.out);have HC6:=aM ((setRow_other w7 gb7 gb3 #[.slice C0 x.f0.length d0,.slice C1 x.f1.length d1] HNE7.out).trans (blk_below HC5.out HB7.out));have HB6:=aM (below_setRow HB7.out HG7.out #[.slice C0 x.f0.length d0,.slice C1 x.f1.length d1]);have hz0:(w7.setRow gb7 #[.slice C0 x.f0.length d0,.slice C1 x.f1.length d1]).cell? ⟨gb7,0,none⟩=some (.slice C0 x.f0.length d0):=(blk_cell HC7.out 0).trans rfl;have hz1:(w7.setRow gb7 #[.slice C0 x.f0.length d0,.slice C1 x.f1.length d1]).cell? ⟨gb7,1,none⟩=some (.slice C1 x.f1.length d1):=(blk_cell HC7.out 1).trans rfl;have hv0:(w7.setRow gb7 #[.slice C0 x.f0.length d0,.slice C1 x.f1.length d1]).cell? ⟨gb3,0,none⟩=some (.slice B0 q1.length b0):=(blk_cell HC6.out 0).trans rfl;have hv1:(w7.setRow gb7 #[.slice C0 x.f0.length d0,.slice C1 x.f1.length d1]).cell? ⟨gb3,1,none⟩=some (.slice B1 q2.length b1):=(blk_cell HC6.out 1).trans rfl;have HSQ:=aM (HS5.out.below HB6.out);have HGX:=aM (GY.out.below (below_then HW.out HW.out.size HB6.out)))
            | (go_at_call 28;(refine(i_SameSurface.calls k C0 d0 x.f0 C1 d1 x.f1 B0 b0 q1 B1 b1 q2 false _ HGX.out.g0 HGX.out.l0 HGX.out.g1 HGX.out.l1 HSQ.out.g0 HSQ.out.l0 HSQ.out.g1 HSQ.out.l1 HCC.out).mono ?_);rintro e w8 ⟨rfl,hb⟩;have HC8:=aM (blk_below HC6.out hb);have HS8:=aM (HSQ.out.below hb);have HW8:=aM (below_step (below_then HW.out HW.out.size HB6.out) hb);have HB8:=aM (below_step (below_then HB.out HB.out.size HB6.out) hb);clear hz0 hz1 hv0 hv1 hb))
          go_roundg k1
          case measure=>have:=HK.out;omega
          case rel=>exact ⟨n,i+1,rfl,by rw [HW1.out],⟨by have:=HK.out;have:=HI1.out;have:=HI0.out;omega⟩,⟨by have:=HGO.out;simpa using this⟩,HC8,HS8,HW8,HB8⟩
      · have hie:i=l.length:=by omega
        have hr:n=r:=by
          have h:=HA.out
          rw [show l.drop i.toNat=[] from by rw [hie];simp,symGo] at h
          exact Option.some.inj h
        subst hr
        have c1:decide (i<(l.length:Int))=false:=decide_eq_false hlt
        clear hlt hie hi0 hi1
        go_wp2
        go_ret
        exact ⟨rfl,HB.out⟩
  · rw [if_neg hbig] at h
    exact absurd h (by simp)

/-! ### strings_IndexByte: function 66 -/
/-! by hand -/
def strings_IndexByte.f (a0:ByteArray) (a1:Int):Option (Int):=some (Go.Lib.indexByte a0.data.toList a1.toNat.toUInt8)
theorem strings_IndexByte.calls (a0:ByteArray) (a1:Int) (r:Int) (w:World) (h:strings_IndexByte.f a0 a1=some r) :
    Calls Tryd.prog 66 #[.string a0,.int .u8 a1] w fun e w'=>e = .returned (.int .i64 r)∧Drawn0 w w':=by
 unfold strings_IndexByte.f at h
 obtain rfl:=Option.some.inj h
 refine(Tryd.strings_IndexByte a0 a1 w).mono ?_
 rintro e w' ⟨rfl,rfl⟩
 exact ⟨rfl,Drawn0.refl _⟩

/-! ### i_WordOk: function 58 -/
def i_WordOk.l0 : Nat→ByteArray→Int→Option (Bool)
 | 0,_,_=>none
 | k+1,x0,x3=>if x3<(x0.size:Int) then (if 0≤x3 then ((strings_IndexByte.f (⟨#[84,116,83,115]⟩:ByteArray) (bt x0 x3)).bind fun t517=>(if t517<0 then (some false) else (i_WordOk.l0 k x0 (wrap64 (x3+1))))) else (none)) else (some (decide ((x0.size:Int)≤40)))
def i_WordOk.f (k:Nat) (a0:ByteArray):Option (Bool):=i_WordOk.l0 k a0 0
theorem i_WordOk.calls (k:Nat) (a0:ByteArray) (r:Bool) (w:World) (h:i_WordOk.f k a0=some r) :
  Calls Tryd.prog 58 #[.string a0] w fun e w'=>e = .returned (.bool r)∧Drawn0 w w':=by
 have H:(i_WordOk.l0 k a0 0)=some r:=h
 clear h
 have H':=aM H
 clear H
 go_enter Tryd.func58,Tryd.ntmps58
 go_wp2
 go_loopg [3] k (fun kq v3 w'=>∃ (x3_1:Int),v3 = .int .i64 x3_1∧Aside0 (i_WordOk.l0 kq a0 x3_1=some r)∧Aside0 (kq≤k)∧Drawn0 w w')
 case atStart=>exact ⟨(0),vX,H',⟨Nat.le_refl _⟩,by repeat(first|exact Drawn0.refl _|apply Drawn0.step)⟩
 case round =>
 clear H'
 obtain ⟨x3_1,rfl,HA,HK1,⟨m1,rfl⟩⟩:=hrel
 cases gk with
 | zero=>exact absurd HA.out (by simp [i_WordOk.l0])
 | succ k1 =>
 have H:=HA.out
 clear HA
 simp only [i_WordOk.l0] at H
 by_cases c2:x3_1<(a0.size:Int)
 {
 rw [if_pos c2] at H
 have c2b0:=decide_eq_true c2
 clear c2
 by_cases c3:0≤x3_1
 {
 rw [if_pos c3] at H
 have c3b0:=decide_eq_true c3
 clear c3
 replace H:=oB H
 obtain ⟨t517,A50,H⟩:=H
 have A5:=aM A50
 clear A50
 by_cases c6:t517<0
 {
 rw [if_pos c6] at H
 have c6b0:=decide_eq_true c6
 clear c6
 obtain rfl:=Option.some.inj H
 have p4:0≤(x3_1:Int):=dX
 have q4:x3_1<(a0.size:Int):=dX
 have hx4:=bt_at a0 x3_1
 replace p4:=eq_true p4
 replace q4:=eq_true q4
 go_wp2_with (first|((with_reducible refine gate_callee (f:=66) rfl ?_);refine goesL_ (some 13) rfl rfl Tryd.func66 (by kernel_rfl) rfl #[.string (⟨#[84,116,83,115]⟩:ByteArray),.int .u8 (bt a0 x3_1)] rfl aX ?_;(with_reducible refine(strings_IndexByte.calls (⟨#[84,116,83,115]⟩:ByteArray) (bt a0 x3_1) t517 _ A5.out).mono ?_);rintro e w' ⟨rfl,⟨nd,rfl⟩⟩;refine ⟨_,rfl,?_⟩))
 go_ret
 exact ⟨by first|rfl|(simp;done)|(simp [*];done),by repeat(first|exact Drawn0.refl _|apply Drawn0.step)⟩
 }
 {
 rw [if_neg c6] at H
 have c6b0:=decide_eq_false c6
 clear c6
 have H':=aM H
 clear H
 have p4:0≤(x3_1:Int):=dX
 have q4:x3_1<(a0.size:Int):=dX
 have hx4:=bt_at a0 x3_1
 replace p4:=eq_true p4
 replace q4:=eq_true q4
 go_wp2_with (first|((with_reducible refine gate_callee (f:=66) rfl ?_);refine goesL_ (some 13) rfl rfl Tryd.func66 (by kernel_rfl) rfl #[.string (⟨#[84,116,83,115]⟩:ByteArray),.int .u8 (bt a0 x3_1)] rfl aX ?_;(with_reducible refine(strings_IndexByte.calls (⟨#[84,116,83,115]⟩:ByteArray) (bt a0 x3_1) t517 _ A5.out).mono ?_);rintro e w' ⟨rfl,⟨nd,rfl⟩⟩;refine ⟨_,rfl,?_⟩))
 go_roundg k1
 case measure=>have:=HK1.out;omega
 case rel=>exact ⟨(wrap64 (x3_1+1)),vX,H',⟨by have:=HK1.out;omega⟩,by repeat(first|exact Drawn0.refl _|apply Drawn0.step)⟩
 }
 }
 {
 rw [if_neg c3] at H
 exact absurd H (by simp)
 }
 }
 {
 rw [if_neg c2] at H
 have c2b0:=decide_eq_false c2
 clear c2
 obtain rfl:=Option.some.inj H
 go_wp2
 go_ret
 exact ⟨by first|rfl|(simp;done)|(simp [*];done),by repeat(first|exact Drawn0.refl _|apply Drawn0.step)⟩
 }

/-! ### i_copyInts: function 67 -/
def i_copyInts.f (l0:List Int):Option (List Int):=(some (([]:List Int):List Int)).bind fun y518=>(if y518.length+l0.length<17592186044416 then (some (y518 ++ l0)) else (none))
theorem i_copyInts.calls (A0:Option Addr) (c0:Nat) (l0:List Int) (r:List Int) (w:World) (hr0:Kd.C (Kd.int .i64) w A0 l0.length l0) (hc0:l0.length≤c0) (h:i_copyInts.f l0=some r) :
  Calls Tryd.prog 67 #[.slice A0 l0.length c0] w fun e w'=>∃ v0_:Value,e = .returned (v0_)∧Kd.R (Kd.int .i64) 3 w' w.heap.size (fun _=>True) v0_ r∧Below w.heap.size w w':=by
 have HR0:=aM hr0
 have HC0:=aM hc0
 clear hr0 hc0
 have HB:=aM (Below.refl w.heap.size w)
 have H:((some (([]:List Int):List Int)).bind fun y518=>(if y518.length+l0.length<17592186044416 then (some (y518 ++ l0)) else (none)))=some r:=h
 clear h
 obtain ⟨y518,hy518⟩:∃ y_:List Int,y_=(([]:List Int)):=⟨_,rfl⟩
 replace H:(if y518.length+l0.length<17592186044416 then (some (y518 ++ l0)) else (none))=some r:=by first|(rw [hy518];with_reducible exact H)|(have H2_:=(Option.bind_some _ _).symm.trans H;rw [hy518];with_reducible exact H2_)|(have H2_:=(Option.bind_some _ _).symm.trans H;with_reducible exact H2_)|with_reducible exact H|(rw [hy518];exact H)|exact H
 have Ny518:=aM hy518
 clear hy518
 by_cases c2:y518.length+l0.length<17592186044416
 {
 rw [if_pos c2] at H
 have LMc2:=aM c2
 clear c2
 obtain ⟨y521,hy521⟩:∃ y_:List Int,y_=(y518 ++ l0):=⟨_,rfl⟩
 replace H:(some y521)=some r:=by first|(rw [hy521];with_reducible exact H)|(have H2_:=(Option.bind_some _ _).symm.trans H;rw [hy521];with_reducible exact H2_)|(have H2_:=(Option.bind_some _ _).symm.trans H;with_reducible exact H2_)|with_reducible exact H|(rw [hy521];exact H)|exact H
 have Ny521:=aM hy521
 clear hy521
 obtain rfl:=Option.some.inj H
 go_enter Tryd.func67,Tryd.ntmps67
 go_wp2_with (first|((with_reducible refine gate_dst (N:=3) rfl ?_);refine Kd.R_lit (Kd.int .i64) _ 3 ?hg (N:=3) ?hd (xs:=([]:List Int)) (inner:=[]) (ok:=fun _=>True) (okp:=fun _=>True) ?hr ?hp (fun _ hk=>hk) trivial (Below.refl _ _) (Nat.le_refl _) (by simp) ?_;(case hd=>rfl);(case hg=>rfl);(case hr=>first|(go_simp;done)|(go_simp;rfl));(case hp=>exact(Reps.none _ _));intro v519 w3 ho4 hb hg_ hnew_;clear hg_ hnew_;(first|rw [← Ny518.out] at ho4|(simp only [Int.reduceToNat] at ho4;rw [← Ny518.out] at ho4));have HO520:=aM (Kd.R_lower ho4 (below_size (bX HB.out)));replace HB:=aM (below_step (bX HB.out) hb);clear hb ho4)|((with_reducible refine gate_builtin (b:=.append) (xs:=#[.tmp 3,.tmp 4]) rfl ?_);at_builtin;refine Kd.R_append_rows (Kd.int .i64) (w0:=w) w.heap.size rfl (.tmp 3) (.tmp 4) 23 3 (.int .i64 0) 8 rfl Tryd.underlying23 info3 rfl (by decide) (by omega) v519 y518 l0 _ _ _ (fun _=>True) (fun _=>False) rfl rfl ?aO ?aR (fun _ _ h=>h) (fun _ h=>h.elim) ?aF ?aB ?aS ?aL ?_;(case aR=>exact cX (Kd.C_below HR0.out HB.out));(case aB=>exact(bX HB.out));(case aF=>exact(fun _ _=>trivial));(case aO=>exact(rX HO520.out));(case aS=>exact(below_size (bX HB.out)));(case aL=>have:=LMc2.out;omega);intro v522 w5 ho hb hg hat;rw [← Ny521.out] at ho;replace HB:=aM (hb);have HO523:=aM (ho);clear HO520 ho hb hg hat))
 go_ret
 exact ⟨_,eX,by(with_reducible repeat(first|apply rA|apply rN|apply rD));exact HO523.out,bX HB.out⟩
 }
 {
 rw [if_neg c2] at H
 exact absurd H (by simp)
 }

/-! ### i_copySurface: function 59 -/
def i_copySurface.f (l0_0:List Int) (l0_1:List Int):Option (List Int × List Int):=(i_copyInts.f l0_0).bind fun t526=>((i_copyInts.f l0_1).bind fun t529=>(some (t526,t529)))
def i_copySurface.T1 : Bool × List (List Nat × List Nat):=(true,[([],[]),([0],[0]),([1],[1]),([],[]),([3],[3]),([4,2],[4]),([2,5],[2,5]),([6,5,0,1,2,3,4,5,6],[6])])
def i_copySurface.B1 : List Nat:=[0,1,3,0,8,31,63,127]
theorem i_copySurface.tab1 : rtab .any (opsOf Tryd.f59 1)=i_copySurface.T1:=by kernel_rfl
theorem i_copySurface.bits1 : waitsOk i_copySurface.T1.2 i_copySurface.B1=true:=by kernel_rfl
theorem i_copySurface.calls (A0_0:Option Addr) (c0_0:Nat) (l0_0:List Int) (A0_1:Option Addr) (c0_1:Nat) (l0_1:List Int) (r1:List Int) (r2:List Int) (w:World) (hr0_0:Kd.C (Kd.int .i64) w A0_0 l0_0.length l0_0) (hc0_0:l0_0.length≤c0_0) (hr0_1:Kd.C (Kd.int .i64) w A0_1 l0_1.length l0_1) (hc0_1:l0_1.length≤c0_1) (h:i_copySurface.f l0_0 l0_1=some (r1,r2)) :
  Calls Tryd.prog 59 #[.agg #[.slice A0_0 l0_0.length c0_0,.slice A0_1 l0_1.length c0_1]] w fun e w'=>∃ v0_ v1_:Value,e = .returned (.agg #[v0_,v1_])∧Kd.R (Kd.int .i64) 3 w' w.heap.size (fun k_=>some k_≠(v1_:Value).ownBlock) v0_ r1∧Kd.R (Kd.int .i64) 3 w' w.heap.size (fun k_=>some k_≠(v0_:Value).ownBlock) v1_ r2∧Below w.heap.size w w':=by
 have hu25:=Tryd.underlying25
 have HR0_0:=aM hr0_0
 have HC0_0:=aM hc0_0
 clear hr0_0 hc0_0
 have HR0_1:=aM hr0_1
 have HC0_1:=aM hc0_1
 clear hr0_1 hc0_1
 have HB:=aM (Below.refl w.heap.size w)
 have H:((i_copyInts.f l0_0).bind fun t526=>((i_copyInts.f l0_1).bind fun t529=>(some (t526,t529))))=some (r1,r2):=h
 clear h
 replace H:=oB H
 obtain ⟨t526,A20,H⟩:=H
 have A2:=aM A20
 clear A20
 replace H:=oB H
 obtain ⟨t529,A30,H⟩:=H
 have A3:=aM A30
 clear A30
 simp only [Option.some.injEq,Prod.mk.injEq] at H
 obtain ⟨rfl,rfl⟩:=H
 go_enter Tryd.func59,Tryd.ntmps59
 try go_wp2_with (first|((with_reducible refine gate_dst (N:=1) rfl ?_);refine bEv (cs:=#[.slice A0_0 l0_0.length c0_0,.slice A0_1 l0_1.length c0_1]) (t:=25) ?_;intro gb524 hg w4 hbox hb;have BK524:=aM (hbox);have GW524:=aM ((szX (below_size (bX HB.out)) hg:w.heap.size≤gb524));have GE524:=GW524;replace HB:=aM (below_step (bX HB.out) hb);clear hb hbox hg)|((with_reducible refine gate_dst (N:=2) rfl ?_);refine bEv (cs:=#[.slice none 0 0,.slice none 0 0]) (t:=25) ?_;intro gb525 hg w5 hbox hb;have BK525:=aM (hbox);have GW525:=aM ((szX (below_size (bX1 HB.out GE524.out)) hg:w.heap.size≤gb525));have GE525:=GW525;replace HB:=aM (below_step (bX1 HB.out GE524.out) hb);have NB524_525:=aM (neX BK524.out hg);have NB525_524:=aM (nfX BK524.out hg);replace BK524:=aM (bbX BK524.out hb);clear hb hbox hg))
 replace BK524:=aM (blk_drew BK524.out)
 replace BK525:=aM (blk_drew BK525.out)
 replace HB:=aM (below_drew1 HB.out)
 refine start_ (n:=8) (S:=fun w'=>w'.cell? ⟨gb524,0,none⟩=some (.slice A0_0 l0_0.length c0_0)∧w'.cell? ⟨gb524,1,none⟩=some (.slice A0_1 l0_1.length c0_1)) (ds:=[]) #[ff,ff,ff,ff,ff,ff,ff,ff] (by kernel_rfl) rfl rfl ⟨cz20 BK524.out,cz21 BK524.out⟩ (fun hHeld => ?_);refine with_tabW i_copySurface.tab1 i_copySurface.bits1 (fun HT_ HW_ => ?_)
 generalize w5.drew=w6 at BK524 BK525 HB hHeld ⊢
 refine pX 0 3 (fl 8 1) rfl rfl HT_.out ?_
 refine pX 3 6 (fl 8 9) rfl rfl HT_.out ?_
 refine tX2 1 4 (fl 8 11) rfl rfl HT_.out HW_.out hHeld ?_
 refine tX2 4 7 (fl 8 27) rfl rfl HT_.out HW_.out hHeld ?_
 refine one_ (i:=2) (N:=some 5) #[tt,tt,tt,tt,tt,ff,ff,ff] rfl rfl (one_of HT_.out (by kernel_rfl)) (by decide) (fun K hK => ?_)
 refine goes_ Tryd.func67 (by kernel_rfl) rfl #[.slice A0_0 l0_0.length c0_0] (by rfl) rfl rfl aX ?_
 with_reducible refine(i_copyInts.calls _ _ l0_0 t526 _ ?side1 ?side2 A2.out).mono ?_
 (case side1=>exact cX (Kd.C_below HR0_0.out HB.out))
 (case side2=>exact HC0_0.out)
 rintro e w7 ⟨v527,rfl,ho0,hb⟩
 refine ⟨_,rfl,?_⟩
 have HO528:=aM (Kd.R_lower ho0 (below_size (bX2 HB.out GE524.out GE525.out)))
 replace BK524:=aM (bbX BK524.out hb)
 replace BK525:=aM (bbX BK525.out hb)
 replace HB:=aM (below_step (bX2 HB.out GE524.out GE525.out) hb)
 (try clear hb)
 (try clear hk)
 (try clear ho0)
 refine hK.out _ _ ⟨cz20 BK524.out,cz21 BK524.out⟩ (fun hHeld => ?_)
 clear hK K
 refine norm_ (a':=?_) ?_ ?_
 rotate_left
 {
 show Act.put _ (some 5) _=_
 simp only [Act.put,zA,zB,zC,i64_w,i32_w]
 rfl
 }
 refine one_ (i:=5) (N:=some 8) #[tt,tt,tt,tt,tt,tt,ff,ff] rfl rfl (one_of HT_.out (by kernel_rfl)) (by decide) (fun K hK => ?_)
 refine goes_ Tryd.func67 (by kernel_rfl) rfl #[.slice A0_1 l0_1.length c0_1] (by rfl) rfl rfl aX ?_
 with_reducible refine(i_copyInts.calls _ _ l0_1 t529 _ ?side1 ?side2 A3.out).mono ?_
 (case side1=>exact cX (Kd.C_below HR0_1.out HB.out))
 (case side2=>exact HC0_1.out)
 rintro e w8 ⟨v530,rfl,ho0,hb⟩
 refine ⟨_,rfl,?_⟩
 have HO531:=aM (Kd.R_lower (Kd.R_new' ho0 (Kd.R_lt (rX HO528.out))) (below_size (bX2 HB.out GE524.out GE525.out)))
 replace HO528:=aM (Kd.R_elder' (rX HO528.out) (Kd.R_base ho0) hb)
 replace BK524:=aM (bbX BK524.out hb)
 replace BK525:=aM (bbX BK525.out hb)
 replace HB:=aM (below_step (bX2 HB.out GE524.out GE525.out) hb)
 (try clear hb)
 (try clear hk)
 (try clear ho0)
 obtain ⟨Ao9,co9,eo9⟩:=Kd.R_slice HO531.out
 (first|subst eo9|(injection eo9 with f1_ f2_ f3_;have f4_:=f1_.symm;have f5_:=f3_.symm;clear f1_ f2_ f3_;subst f4_;subst f5_))
 obtain ⟨Ao10,co10,eo10⟩:=Kd.R_slice HO528.out
 (first|subst eo10|(injection eo10 with f1_ f2_ f3_;have f4_:=f1_.symm;have f5_:=f3_.symm;clear f1_ f2_ f3_;subst f4_;subst f5_))
 refine hK.out _ _ ⟨cz20 BK524.out,cz21 BK524.out⟩ (fun hHeld => ?_)
 clear hK K
 refine norm_ (a':=?_) ?_ ?_
 rotate_left
 {
 show Act.put _ (some 8) _=_
 simp only [Act.put,zA,zB,zC,i64_w,i32_w]
 rfl
 }
 refine pX 6 9 (fl 8 127) rfl rfl HT_.out ?_
 refine one_ (i:=7) (N:=none) #[tt,tt,tt,tt,tt,tt,tt,tt] rfl rfl (one_of HT_.out (by kernel_rfl)) (by decide) (fun K hK => ?_)
 have hs11:w8.cell? ⟨gb525,0,none⟩=some (.slice none 0 0):=cz20 BK525.out
 have hfs11:=blk_frozen BK525.out 0
 have hns11_0:=NB524_525.out
 have hms11_0:=NB525_524.out
 have hs12:w8.cell? ⟨gb525,1,none⟩=some (.slice none 0 0):=cz21 BK525.out
 have hfs12:=blk_frozen BK525.out 1
 have hns12_0:=NB524_525.out
 have hms12_0:=NB525_524.out
 refine skip_ (w1:=?_) (by rfl) rfl ?_ ?_
 rotate_left
 {
 go_simp
 rfl
 }
 refine hK.out _ _ ⟨((cell_far (p:=⟨gb525,_,none⟩) NB524_525.out _).trans (((cell_far (p:=⟨gb525,_,none⟩) NB524_525.out _).trans (hHeld.1)))),((cell_far (p:=⟨gb525,_,none⟩) NB524_525.out _).trans (((cell_far (p:=⟨gb525,_,none⟩) NB524_525.out _).trans (hHeld.2))))⟩ (fun hHeld => ?_)
 clear hK K
 refine done_ (done_of HT_.out (by kernel_rfl)) ?_
 try go_wp2
 refine bodyPost_ret (results_cell_row rfl _ _ gb525 25 #[.slice Ao10 t526.length co10,.slice Ao9 t529.length co9] (0,0) _ rfl (by(with_reducible repeat(first|refine kN ?_ _|refine kD ?_|refine kA ?_ _));refine blk_put (cs:=#[.slice Ao10 t526.length co10,.slice none 0 0]) ?_ 1 _ rfl;(with_reducible repeat(first|refine kN ?_ _|refine kD ?_|refine kA ?_ _));refine blk_put (cs:=#[.slice none 0 0,.slice none 0 0]) ?_ 0 _ rfl;(with_reducible repeat(first|refine kN ?_ _|refine kD ?_|refine kA ?_ _));exact BK525.out) Tryd.underlying25 rfl (by kernel_rfl)) rfl ?_
 exact ⟨_,_,eX,by(with_reducible repeat(first|apply rA|apply rN|apply rD));exact Kd.R_mono (Kd.R_far (p:=⟨gb525,1,none⟩) (Kd.R_far (p:=⟨gb525,0,none⟩) (Kd.R_types HO528.out BK525.out (by decide)) (fun _ hk=>hk.2) (.slice Ao10 t526.length co10)) (fun _ hk=>hk.2) (.slice Ao9 t529.length co9)) (fun _ hk=>hk.1.2),by(with_reducible repeat(first|apply rA|apply rN|apply rD));exact Kd.R_mono (Kd.R_far (p:=⟨gb525,1,none⟩) (Kd.R_far (p:=⟨gb525,0,none⟩) (Kd.R_types HO531.out BK525.out (by decide)) (fun _ hk=>hk.2) (.slice Ao10 t526.length co10)) (fun _ hk=>hk.2) (.slice Ao9 t529.length co9)) (fun _ hk=>hk.1.2),bX2 HB.out GE524.out GE525.out⟩

end Go.Proofs.YthhdgeafdnikcaaDoor.S
