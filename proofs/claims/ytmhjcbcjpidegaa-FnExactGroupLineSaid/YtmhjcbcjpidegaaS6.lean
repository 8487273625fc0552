-- PRINTED by print.py (a twelfth state) out of the translation. Not trusted: Lean checks it.
import Derived.Test.YtmhjcbcjpidegaaS0
import Derived.Test.YtmhjcbcjpidegaaS5
namespace Go.Proofs.Ytmhjcbcjpidegaa.S
set_option maxHeartbeats 8000000
set_option maxRecDepth 100000
open Go.RowKit Go.Proofs.YtmhjcbcjpidegaaW.PrintWords Go.Proofs.YtmhjcbcjpidegaaW.PrintLast Go.Proofs.YtmhjcbcjpidegaaW.PrintMore
attribute [local go_sem] max2_int min2_int max_two min_two max_three min_three max_four min_four   -- for this text's walks alone
set_option linter.unusedVariables false
set_option linter.unusedSimpArgs false

/-! ### spec_l03Canon: function 42 -/
def spec_l03Canon.l0 : Nat→Int→List Int→List Int→List Int→List Int→Option (List Int × List Int)
 | 0,_,_,_,_,_=>none
 | k+1,x4,x366000,x366001,x377000,x377001=>if x4<(x366000.length:Int) then ((spec_l03Names.f k x366000 x366001 x4).bind fun t377=>((spec_l03Rename.f k x366000 x366001 t377).bind fun bt380=>((spec_l03Before.f k bt380.1 bt380.2 x377000 x377001).bind fun t387=>(if t387=true then (spec_l03Canon.l0 k (wrap64 (x4+1)) x366000 x366001 bt380.1 bt380.2) else (spec_l03Canon.l0 k (wrap64 (x4+1)) x366000 x366001 x377000 x377001))))) else (some (x377000,x377001))
def spec_l03Canon.f (k:Nat) (l0_0:List Int) (l0_1:List Int):Option (List Int × List Int):=(spec_l03Names.f k l0_0 l0_1 0).bind fun t367=>((spec_l03Rename.f k l0_0 l0_1 t367).bind fun bt370=>(spec_l03Canon.l0 k 1 l0_0 l0_1 bt370.1 bt370.2))
theorem spec_l03Canon.calls (k:Nat) (A0_0:Option Addr) (c0_0:Nat) (l0_0:List Int) (A0_1:Option Addr) (c0_1:Nat) (l0_1:List Int) (r1:List Int) (r2:List Int) (w:World) (hr0_0:Kd.C (Kd.int .i64) w A0_0 l0_0.length l0_0) (hc0_0:l0_0.length≤c0_0) (hr0_1:Kd.C (Kd.int .i64) w A0_1 l0_1.length l0_1) (hc0_1:l0_1.length≤c0_1) (h:spec_l03Canon.f k l0_0 l0_1=some (r1,r2)) :
  Calls Try.prog 42 #[.agg #[.slice A0_0 l0_0.length c0_0,.slice A0_1 l0_1.length c0_1]] w fun e w'=>∃ v0_ v1_:Value,e = .returned (.agg #[v0_,v1_])∧Kd.R (Kd.int .i64) 3 w' w.heap.size (fun k_=>some k_≠(v1_:Value).ownBlock) v0_ r1∧Kd.R (Kd.int .i64) 3 w' w.heap.size (fun k_=>some k_≠(v0_:Value).ownBlock) v1_ r2∧Below w.heap.size w w':=by
 have hu27:=Try.underlying27
 have HR0_0:=aM hr0_0
 have HC0_0:=aM hc0_0
 clear hr0_0 hc0_0
 have HR0_1:=aM hr0_1
 have HC0_1:=aM hc0_1
 clear hr0_1 hc0_1
 have HB:=aM (Below.refl w.heap.size w)
 have H:((spec_l03Names.f k l0_0 l0_1 0).bind fun t367=>((spec_l03Rename.f k l0_0 l0_1 t367).bind fun bt370=>(spec_l03Canon.l0 k 1 l0_0 l0_1 bt370.1 bt370.2)))=some (r1,r2):=h
 clear h
 replace H:=oB H
 obtain ⟨t367,A20,H⟩:=H
 have A2:=aM A20
 clear A20
 replace H:=oB H
 obtain ⟨⟨t370,t373⟩,A30,H⟩:=H
 replace H:(spec_l03Canon.l0 k 1 l0_0 l0_1 t370 t373)=some (r1,r2):=H
 have A3:=aM A30
 clear A30
 have H':=aM H
 clear H
 go_enter Try.func42,Try.ntmps42
 try go_wp2_with (first|((with_reducible refine gate_dst (N:=1) rfl ?_);refine bEv (cs:=#[.slice A0_0 l0_0.length c0_0,.slice A0_1 l0_1.length c0_1]) (t:=27) ?_;intro gb365 hg w4 hbox hb;have BK365:=aM (hbox);have GW365:=aM ((szX (below_size (bX HB.out)) hg:w.heap.size≤gb365));have GE365:=GW365;replace HB:=aM (below_step (bX HB.out) hb);clear hb hbox hg)|((with_reducible refine gate_dst (N:=2) rfl ?_);refine bEv (cs:=#[.slice none 0 0,.slice none 0 0]) (t:=27) ?_;intro gb366 hg w5 hbox hb;have BK366:=aM (hbox);have GW366:=aM ((szX (below_size (bX1 HB.out GE365.out)) hg:w.heap.size≤gb366));have GE366:=GW366;replace HB:=aM (below_step (bX1 HB.out GE365.out) hb);have NB365_366:=aM (neX BK365.out hg);have NB366_365:=aM (nfX BK365.out hg);replace BK365:=aM (bbX BK365.out hb);clear hb hbox hg))
 replace BK365:=aM (blk_drew BK365.out)
 replace BK366:=aM (blk_drew BK366.out)
 replace HB:=aM (below_drew1 HB.out)
 refine start_ (n:=6) (S:=fun w'=>w'.cell? ⟨gb365,0,none⟩=some (.slice A0_0 l0_0.length c0_0)∧w'.cell? ⟨gb365,1,none⟩=some (.slice A0_1 l0_1.length c0_1)) (ds:=[]) #[false,false,false,false,false,false] (by kernel_rfl) rfl rfl ⟨cz20 BK365.out,cz21 BK365.out⟩ (fun hHeld => ?_)
 generalize w5.drew=w6 at BK365 BK366 HB hHeld ⊢
 refine take_ (i:=0) (N:=some 6) (v:=?_) (a':=?_) #[true,false,false,false,false,false] rfl rfl (by kernel_rfl) (fun _ _ _ h=>h) (Or.inl ⟨by rfl,?_⟩) hHeld ?_ ?_
 rotate_left
 {
 rintro w' ⟨s0,s1⟩
 go_simp
 with_reducible rfl
 }
 rotate_left
 {
 simp only [Act.put,zA,zB,zC,i64_w,i32_w]
 rfl
 }
 refine take_ (i:=1) (N:=some 7) (v:=?_) (a':=?_) #[true,true,false,false,false,false] rfl rfl (by kernel_rfl) (fun _ _ _ h=>h) (Or.inl ⟨by rfl,?_⟩) hHeld ?_ ?_
 rotate_left
 {
 rintro w' ⟨s0,s1⟩
 go_simp
 with_reducible rfl
 }
 rotate_left
 {
 simp only [Act.put,zA,zB,zC,i64_w,i32_w]
 rfl
 }
 refine join_ (σ:=Value × Value × Value × Nat) 1 #[true,true,true,true,true,false] (fun s_=>[(8,s_.1),(9,.agg #[s_.2.1,s_.2.2.1]),(3,.pointer (some ⟨s_.2.2.2,0,none⟩))]) (fun s_ w'=>(w'.cell? ⟨gb365,0,none⟩=some (.slice A0_0 l0_0.length c0_0)∧w'.cell? ⟨gb365,1,none⟩=some (.slice A0_1 l0_1.length c0_1))∧(Kd.R (Kd.int .i64) 3 w' w.heap.size (fun k_=>some k_≠(s_.2.1:Value).ownBlock∧some k_≠(s_.2.2.1:Value).ownBlock) s_.1 t367)∧(Kd.R (Kd.int .i64) 3 w' w.heap.size (fun k_=>some k_≠(s_.1:Value).ownBlock∧some k_≠(s_.2.2.1:Value).ownBlock) s_.2.1 t370)∧(Kd.R (Kd.int .i64) 3 w' w.heap.size (fun k_=>some k_≠(s_.1:Value).ownBlock∧some k_≠(s_.2.1:Value).ownBlock) s_.2.2.1 t373)∧(w'.heap[gb365]? = some (.cells #[.slice A0_0 l0_0.length c0_0,.slice A0_1 l0_1.length c0_1] 27 (0,0)))∧(w'.heap[gb366]? = some (.cells #[.slice none 0 0,.slice none 0 0] 27 (0,0)))∧(w'.heap[s_.2.2.2]? = some (.cells #[.slice none 0 0,.slice none 0 0] 27 (0,0)))∧(w.heap.size≤s_.2.2.2)∧(w.heap.size≤s_.2.2.2)∧(gb365≠s_.2.2.2)∧(s_.2.2.2≠gb365)∧(gb366≠s_.2.2.2)∧(s_.2.2.2≠gb366)∧(Below w.heap.size w w')) ?_ ?_
 rotate_left
 {
 intro hCont
 refine two_ (i:=2) (j:=4) (Ni:=some 8) (Nj:=some 3) #[true,true,true,false,false,false] #[true,true,false,false,true,false] rfl rfl rfl rfl (by kernel_rfl) (by decide) (by decide) (fun K hK => ?_) (fun K hK => ?_)
 {
 skip
 refine goes_ Try.func62 (by kernel_rfl) rfl #[.agg #[.slice A0_0 l0_0.length c0_0,.slice A0_1 l0_1.length c0_1],.int .i64 0] (by rfl) rfl rfl aX ?_
 with_reducible refine(spec_l03Names.calls k _ _ l0_0 _ _ l0_1 0 t367 _ ?side1 ?side2 ?side3 ?side4 A2.out).mono ?_
 (case side1=>exact cX (Kd.C_below HR0_0.out HB.out))
 (case side2=>exact HC0_0.out)
 (case side3=>exact cX (Kd.C_below HR0_1.out HB.out))
 (case side4=>exact HC0_1.out)
 rintro e w7 ⟨v368,rfl,ho0,hb⟩
 refine ⟨_,rfl,?_⟩
 have HO369:=aM (Kd.R_lower ho0 (below_size (bX2 HB.out GE365.out GE366.out)))
 replace BK365:=aM (bbX BK365.out hb)
 replace BK366:=aM (bbX BK366.out hb)
 replace HB:=aM (below_step (bX2 HB.out GE365.out GE366.out) hb)
 (try clear hb)
 (try clear hk)
 (try clear ho0)
 obtain ⟨Ao8,co8,eo8⟩:=Kd.R_slice HO369.out
 (first|subst eo8|(injection eo8 with f1_ f2_ f3_;have f4_:=f1_.symm;have f5_:=f3_.symm;clear f1_ f2_ f3_;subst f4_;subst f5_))
 refine hK.out _ _ ⟨cz20 BK365.out,cz21 BK365.out⟩ (fun hHeld => ?_)
 clear hK K
 refine norm_ (a':=?_) ?_ ?_
 rotate_left
 {
 show Act.put _ (some 8) _=_
 simp only [Act.put,zA,zB,zC,i64_w,i32_w]
 rfl
 }
 refine two_ (i:=3) (j:=4) (Ni:=some 9) (Nj:=some 3) #[true,true,true,true,false,false] #[true,true,true,false,true,false] rfl rfl rfl rfl (by kernel_rfl) (by decide) (by decide) (fun K hK => ?_) (fun K hK => ?_)
 {
 skip
 refine goes_ Try.func61 (by kernel_rfl) rfl #[.agg #[.slice A0_0 l0_0.length c0_0,.slice A0_1 l0_1.length c0_1],.slice Ao8 t367.length co8] (by rfl) rfl rfl aX ?_
 with_reducible refine(spec_l03Rename.calls k _ _ l0_0 _ _ l0_1 _ _ t367 t370 t373 _ ?side1 ?side2 ?side3 ?side4 ?side5 ?side6 A3.out).mono ?_
 (case side1=>exact cX (Kd.C_below HR0_0.out HB.out))
 (case side2=>exact HC0_0.out)
 (case side3=>exact cX (Kd.C_below HR0_1.out HB.out))
 (case side4=>exact HC0_1.out)
 (case side5=>exact cX (Kd.R_reads' HO369.out).2.2)
 (case side6=>exact(Kd.R_reads' HO369.out).2.1)
 rintro e w9 ⟨v371,v374,rfl,ho0,ho1,hb⟩
 refine ⟨_,rfl,?_⟩
 have HO372:=aM (Kd.R_lower (Kd.R_new' ho0 (Kd.R_lt (rX HO369.out))) (below_size (bX2 HB.out GE365.out GE366.out)))
 have HO375:=aM (Kd.R_lower (Kd.R_new' ho1 (Kd.R_lt (rX HO369.out))) (below_size (bX2 HB.out GE365.out GE366.out)))
 replace HO369:=aM (Kd.R_mono (Kd.R_told (Kd.R_told (Kd.R_old (rX HO369.out) hb) (Kd.R_base ho0)) (Kd.R_base ho1)) (fun _ h_=>h_.1))
 replace BK365:=aM (bbX BK365.out hb)
 replace BK366:=aM (bbX BK366.out hb)
 replace HB:=aM (below_step (bX2 HB.out GE365.out GE366.out) hb)
 (try clear hb)
 (try clear hk)
 (try clear ho0)
 (try clear ho1)
 refine hK.out _ _ ⟨cz20 BK365.out,cz21 BK365.out⟩ (fun hHeld => ?_)
 clear hK K
 refine norm_ (a':=?_) ?_ ?_
 rotate_left
 {
 show Act.put _ (some 9) _=_
 simp only [Act.put,zA,zB,zC,i64_w,i32_w]
 rfl
 }
 refine one_ (i:=4) (N:=some 3) #[true,true,true,true,true,false] rfl rfl (by kernel_rfl) (by decide) (fun K hK => ?_)
 refine box_step ?hg (N:=3) ?hd (cs:=#[.slice none 0 0,.slice none 0 0]) (t:=27) ?hr ?_;(case hd=>rfl);(case hg=>rfl);(case hr=>first|(go_simp;done)|(go_simp;rfl))
 intro gb376 hg w10 hbox hb
 replace HO369:=aM (Kd.R_below (rX HO369.out) hb)
 replace HO372:=aM (Kd.R_below (rX HO372.out) hb)
 replace HO375:=aM (Kd.R_below (rX HO375.out) hb)
 have BK376:=aM (hbox)
 have GW376:=aM ((szX (below_size (bX2 HB.out GE365.out GE366.out)) hg:w.heap.size≤gb376))
 have GE376:=GW376
 replace HB:=aM (below_step (bX2 HB.out GE365.out GE366.out) hb)
 have NB365_376:=aM (neX BK365.out hg)
 have NB376_365:=aM (nfX BK365.out hg)
 replace BK365:=aM (bbX BK365.out hb)
 have NB366_376:=aM (neX BK366.out hg)
 have NB376_366:=aM (nfX BK366.out hg)
 replace BK366:=aM (bbX BK366.out hb)
 clear hb hbox hg
 refine hK.out _ _ ⟨cz20 BK365.out,cz21 BK365.out⟩ (fun hHeld => ?_)
 clear hK K
 refine norm_ (a':=?_) ?_ ?_
 rotate_left
 {
 show Act.put _ (some 3) _=_
 simp only [Act.put,zA,zB,zC,i64_w,i32_w]
 rfl
 }
 exact norm_ (by simp only [putAll,Act.put,List.setIfInBounds_toArray,List.set_cons_zero,List.set_cons_succ]) (hCont (.slice Ao8 t367.length co8,v371,v374,gb376) _ ⟨hHeld,(rM HO369.out (fun _ hk=>⟨hk.1.2,hk.2⟩)),(rM HO372.out (fun _ hk=>⟨hk.2,hk.1⟩)),(rM HO375.out (fun _ hk=>⟨hk.2,hk.1⟩)),(kX BK365.out),(kX BK366.out),(kX BK376.out),GW376.out,GE376.out,NB365_376.out,NB376_365.out,NB366_376.out,NB376_366.out,(bX3 HB.out GE365.out GE366.out GE376.out)⟩)
 }
 {
 skip
 refine box_step ?hg (N:=3) ?hd (cs:=#[.slice none 0 0,.slice none 0 0]) (t:=27) ?hr ?_;(case hd=>rfl);(case hg=>rfl);(case hr=>first|(go_simp;done)|(go_simp;rfl))
 intro gb376 hg w8 hbox hb
 replace HO369:=aM (Kd.R_below (rX HO369.out) hb)
 have BK376:=aM (hbox)
 have GW376:=aM ((szX (below_size (bX2 HB.out GE365.out GE366.out)) hg:w.heap.size≤gb376))
 have GE376:=GW376
 replace HB:=aM (below_step (bX2 HB.out GE365.out GE366.out) hb)
 have NB365_376:=aM (neX BK365.out hg)
 have NB376_365:=aM (nfX BK365.out hg)
 replace BK365:=aM (bbX BK365.out hb)
 have NB366_376:=aM (neX BK366.out hg)
 have NB376_366:=aM (nfX BK366.out hg)
 replace BK366:=aM (bbX BK366.out hb)
 clear hb hbox hg
 obtain ⟨Ao9,co9,eo9⟩:=Kd.R_slice HO369.out
 (first|subst eo9|(injection eo9 with f1_ f2_ f3_;have f4_:=f1_.symm;have f5_:=f3_.symm;clear f1_ f2_ f3_;subst f4_;subst f5_))
 refine hK.out _ _ ⟨cz20 BK365.out,cz21 BK365.out⟩ (fun hHeld => ?_)
 clear hK K
 refine norm_ (a':=?_) ?_ ?_
 rotate_left
 {
 show Act.put _ (some 3) _=_
 simp only [Act.put,zA,zB,zC,i64_w,i32_w]
 rfl
 }
 refine one_ (i:=3) (N:=some 9) #[true,true,true,true,true,false] rfl rfl (by kernel_rfl) (by decide) (fun K hK => ?_)
 refine goes_ Try.func61 (by kernel_rfl) rfl #[.agg #[.slice A0_0 l0_0.length c0_0,.slice A0_1 l0_1.length c0_1],.slice Ao9 t367.length co9] (by rfl) rfl rfl aX ?_
 with_reducible refine(spec_l03Rename.calls k _ _ l0_0 _ _ l0_1 _ _ t367 t370 t373 _ ?side1 ?side2 ?side3 ?side4 ?side5 ?side6 A3.out).mono ?_
 (case side1=>exact cX (Kd.C_below HR0_0.out HB.out))
 (case side2=>exact HC0_0.out)
 (case side3=>exact cX (Kd.C_below HR0_1.out HB.out))
 (case side4=>exact HC0_1.out)
 (case side5=>exact cX (Kd.R_reads' HO369.out).2.2)
 (case side6=>exact(Kd.R_reads' HO369.out).2.1)
 rintro e w10 ⟨v371,v374,rfl,ho0,ho1,hb⟩
 refine ⟨_,rfl,?_⟩
 have HO372:=aM (Kd.R_lower (Kd.R_new' ho0 (Kd.R_lt (rX HO369.out))) (below_size (bX3 HB.out GE365.out GE366.out GE376.out)))
 have HO375:=aM (Kd.R_lower (Kd.R_new' ho1 (Kd.R_lt (rX HO369.out))) (below_size (bX3 HB.out GE365.out GE366.out GE376.out)))
 replace HO369:=aM (Kd.R_mono (Kd.R_told (Kd.R_told (Kd.R_old (rX HO369.out) hb) (Kd.R_base ho0)) (Kd.R_base ho1)) (fun _ h_=>h_.1))
 replace BK365:=aM (bbX BK365.out hb)
 replace BK366:=aM (bbX BK366.out hb)
 replace BK376:=aM (bbX BK376.out hb)
 replace HB:=aM (below_step (bX3 HB.out GE365.out GE366.out GE376.out) hb)
 (try clear hb)
 (try clear hk)
 (try clear ho0)
 (try clear ho1)
 refine hK.out _ _ ⟨cz20 BK365.out,cz21 BK365.out⟩ (fun hHeld => ?_)
 clear hK K
 refine norm_ (a':=?_) ?_ ?_
 rotate_left
 {
 show Act.put _ (some 9) _=_
 simp only [Act.put,zA,zB,zC,i64_w,i32_w]
 rfl
 }
 exact norm_ (by simp only [putAll,Act.put,List.setIfInBounds_toArray,List.set_cons_zero,List.set_cons_succ]) (hCont (.slice Ao9 t367.length co9,v371,v374,gb376) _ ⟨hHeld,(rM HO369.out (fun _ hk=>⟨hk.1.2,hk.2⟩)),(rM HO372.out (fun _ hk=>⟨hk.2,hk.1⟩)),(rM HO375.out (fun _ hk=>⟨hk.2,hk.1⟩)),(kX BK365.out),(kX BK366.out),(kX BK376.out),GW376.out,GE376.out,NB365_376.out,NB376_365.out,NB366_376.out,NB376_366.out,(bX3 HB.out GE365.out GE366.out GE376.out)⟩)
 }
 }
 {
 skip
 refine box_step ?hg (N:=3) ?hd (cs:=#[.slice none 0 0,.slice none 0 0]) (t:=27) ?hr ?_;(case hd=>rfl);(case hg=>rfl);(case hr=>first|(go_simp;done)|(go_simp;rfl))
 intro gb376 hg w7 hbox hb
 have BK376:=aM (hbox)
 have GW376:=aM ((szX (below_size (bX2 HB.out GE365.out GE366.out)) hg:w.heap.size≤gb376))
 have GE376:=GW376
 replace HB:=aM (below_step (bX2 HB.out GE365.out GE366.out) hb)
 have NB365_376:=aM (neX BK365.out hg)
 have NB376_365:=aM (nfX BK365.out hg)
 replace BK365:=aM (bbX BK365.out hb)
 have NB366_376:=aM (neX BK366.out hg)
 have NB376_366:=aM (nfX BK366.out hg)
 replace BK366:=aM (bbX BK366.out hb)
 clear hb hbox hg
 refine hK.out _ _ ⟨cz20 BK365.out,cz21 BK365.out⟩ (fun hHeld => ?_)
 clear hK K
 refine norm_ (a':=?_) ?_ ?_
 rotate_left
 {
 show Act.put _ (some 3) _=_
 simp only [Act.put,zA,zB,zC,i64_w,i32_w]
 rfl
 }
 refine one_ (i:=2) (N:=some 8) #[true,true,true,false,true,false] rfl rfl (by kernel_rfl) (by decide) (fun K hK => ?_)
 refine goes_ Try.func62 (by kernel_rfl) rfl #[.agg #[.slice A0_0 l0_0.length c0_0,.slice A0_1 l0_1.length c0_1],.int .i64 0] (by rfl) rfl rfl aX ?_
 with_reducible refine(spec_l03Names.calls k _ _ l0_0 _ _ l0_1 0 t367 _ ?side1 ?side2 ?side3 ?side4 A2.out).mono ?_
 (case side1=>exact cX (Kd.C_below HR0_0.out HB.out))
 (case side2=>exact HC0_0.out)
 (case side3=>exact cX (Kd.C_below HR0_1.out HB.out))
 (case side4=>exact HC0_1.out)
 rintro e w8 ⟨v368,rfl,ho0,hb⟩
 refine ⟨_,rfl,?_⟩
 have HO369:=aM (Kd.R_lower ho0 (below_size (bX3 HB.out GE365.out GE366.out GE376.out)))
 replace BK365:=aM (bbX BK365.out hb)
 replace BK366:=aM (bbX BK366.out hb)
 replace BK376:=aM (bbX BK376.out hb)
 replace HB:=aM (below_step (bX3 HB.out GE365.out GE366.out GE376.out) hb)
 (try clear hb)
 (try clear hk)
 (try clear ho0)
 obtain ⟨Ao9,co9,eo9⟩:=Kd.R_slice HO369.out
 (first|subst eo9|(injection eo9 with f1_ f2_ f3_;have f4_:=f1_.symm;have f5_:=f3_.symm;clear f1_ f2_ f3_;subst f4_;subst f5_))
 refine hK.out _ _ ⟨cz20 BK365.out,cz21 BK365.out⟩ (fun hHeld => ?_)
 clear hK K
 refine norm_ (a':=?_) ?_ ?_
 rotate_left
 {
 show Act.put _ (some 8) _=_
 simp only [Act.put,zA,zB,zC,i64_w,i32_w]
 rfl
 }
 refine one_ (i:=3) (N:=some 9) #[true,true,true,true,true,false] rfl rfl (by kernel_rfl) (by decide) (fun K hK => ?_)
 refine goes_ Try.func61 (by kernel_rfl) rfl #[.agg #[.slice A0_0 l0_0.length c0_0,.slice A0_1 l0_1.length c0_1],.slice Ao9 t367.length co9] (by rfl) rfl rfl aX ?_
 with_reducible refine(spec_l03Rename.calls k _ _ l0_0 _ _ l0_1 _ _ t367 t370 t373 _ ?side1 ?side2 ?side3 ?side4 ?side5 ?side6 A3.out).mono ?_
 (case side1=>exact cX (Kd.C_below HR0_0.out HB.out))
 (case side2=>exact HC0_0.out)
 (case side3=>exact cX (Kd.C_below HR0_1.out HB.out))
 (case side4=>exact HC0_1.out)
 (case side5=>exact cX (Kd.R_reads' HO369.out).2.2)
 (case side6=>exact(Kd.R_reads' HO369.out).2.1)
 rintro e w10 ⟨v371,v374,rfl,ho0,ho1,hb⟩
 refine ⟨_,rfl,?_⟩
 have HO372:=aM (Kd.R_lower (Kd.R_new' ho0 (Kd.R_lt (rX HO369.out))) (below_size (bX3 HB.out GE365.out GE366.out GE376.out)))
 have HO375:=aM (Kd.R_lower (Kd.R_new' ho1 (Kd.R_lt (rX HO369.out))) (below_size (bX3 HB.out GE365.out GE366.out GE376.out)))
 replace HO369:=aM (Kd.R_mono (Kd.R_told (Kd.R_told (Kd.R_old (rX HO369.out) hb) (Kd.R_base ho0)) (Kd.R_base ho1)) (fun _ h_=>h_.1))
 replace BK365:=aM (bbX BK365.out hb)
 replace BK366:=aM (bbX BK366.out hb)
 replace BK376:=aM (bbX BK376.out hb)
 replace HB:=aM (below_step (bX3 HB.out GE365.out GE366.out GE376.out) hb)
 (try clear hb)
 (try clear hk)
 (try clear ho0)
 (try clear ho1)
 refine hK.out _ _ ⟨cz20 BK365.out,cz21 BK365.out⟩ (fun hHeld => ?_)
 clear hK K
 refine norm_ (a':=?_) ?_ ?_
 rotate_left
 {
 show Act.put _ (some 9) _=_
 simp only [Act.put,zA,zB,zC,i64_w,i32_w]
 rfl
 }
 exact norm_ (by simp only [putAll,Act.put,List.setIfInBounds_toArray,List.set_cons_zero,List.set_cons_succ]) (hCont (.slice Ao9 t367.length co9,v371,v374,gb376) _ ⟨hHeld,(rM HO369.out (fun _ hk=>⟨hk.1.2,hk.2⟩)),(rM HO372.out (fun _ hk=>⟨hk.2,hk.1⟩)),(rM HO375.out (fun _ hk=>⟨hk.2,hk.1⟩)),(kX BK365.out),(kX BK366.out),(kX BK376.out),GW376.out,GE376.out,NB365_376.out,NB376_365.out,NB366_376.out,NB376_366.out,(bX3 HB.out GE365.out GE366.out GE376.out)⟩)
 }
 }
 rintro ⟨v368,v371,v374,gb376⟩ w11 ⟨hS_,h0_,h1_,h2_,h3_,h4_,h5_,h6_,h7_,h8_,h9_,h10_,h11_,h12_⟩
 have n0_:Aside0 (Kd.R (Kd.int .i64) 3 w11 w.heap.size (fun k_=>some k_≠(v371:Value).ownBlock∧some k_≠(v374:Value).ownBlock) v368 t367):=⟨h0_⟩
 have n1_:Aside0 (Kd.R (Kd.int .i64) 3 w11 w.heap.size (fun k_=>some k_≠(v368:Value).ownBlock∧some k_≠(v374:Value).ownBlock) v371 t370):=⟨h1_⟩
 have n2_:Aside0 (Kd.R (Kd.int .i64) 3 w11 w.heap.size (fun k_=>some k_≠(v368:Value).ownBlock∧some k_≠(v371:Value).ownBlock) v374 t373):=⟨h2_⟩
 have n3_:Aside0 (w11.heap[gb365]? = some (.cells #[.slice A0_0 l0_0.length c0_0,.slice A0_1 l0_1.length c0_1] 27 (0,0))):=⟨h3_⟩
 have n4_:Aside0 (w11.heap[gb366]? = some (.cells #[.slice none 0 0,.slice none 0 0] 27 (0,0))):=⟨h4_⟩
 have n5_:Aside0 (w11.heap[gb376]? = some (.cells #[.slice none 0 0,.slice none 0 0] 27 (0,0))):=⟨h5_⟩
 have n6_:Aside0 (w.heap.size≤gb376):=⟨h6_⟩
 have n7_:Aside0 (w.heap.size≤gb376):=⟨h7_⟩
 have n8_:Aside0 (gb365≠gb376):=⟨h8_⟩
 have n9_:Aside0 (gb376≠gb365):=⟨h9_⟩
 have n10_:Aside0 (gb366≠gb376):=⟨h10_⟩
 have n11_:Aside0 (gb376≠gb366):=⟨h11_⟩
 have n12_:Aside0 (Below w.heap.size w w11):=⟨h12_⟩
 clear BK365 BK366 HB h0_ h1_ h2_ h3_ h4_ h5_ h6_ h7_ h8_ h9_ h10_ h11_ h12_
 have HO369:=n0_
 have HO372:=n1_
 have HO375:=n2_
 have BK365:=n3_
 have BK366:=n4_
 have BK376:=n5_
 have GW376:=n6_
 have GE376:=n7_
 have NB365_376:=n8_
 have NB376_365:=n9_
 have NB366_376:=n10_
 have NB376_366:=n11_
 have HB:=n12_
 clear n0_ n1_ n2_ n3_ n4_ n5_ n6_ n7_ n8_ n9_ n10_ n11_ n12_
 have hHeld:w11.cell? ⟨gb365,0,none⟩=some (.slice A0_0 l0_0.length c0_0)∧w11.cell? ⟨gb365,1,none⟩=some (.slice A0_1 l0_1.length c0_1):=hS_
 obtain ⟨Ao12,co12,eo12⟩:=Kd.R_slice HO372.out
 (first|subst eo12|(injection eo12 with f1_ f2_ f3_;have f4_:=f1_.symm;have f5_:=f3_.symm;clear f1_ f2_ f3_;subst f4_;subst f5_))
 obtain ⟨Ao14,co14,eo14⟩:=Kd.R_slice HO375.out
 (first|subst eo14|(injection eo14 with f1_ f2_ f3_;have f4_:=f1_.symm;have f5_:=f3_.symm;clear f1_ f2_ f3_;subst f4_;subst f5_))
 refine norm_ (a':=?_) ?_ ?_
 rotate_left
 {
 simp only [putAll,Act.put,List.setIfInBounds_toArray,List.set_cons_zero,List.set_cons_succ]
 rfl
 }
 refine one_ (i:=5) (N:=none) #[true,true,true,true,true,true] rfl rfl (by kernel_rfl) (by decide) (fun K hK => ?_)
 have hs13:w11.cell? ⟨gb376,0,none⟩=some (.slice none 0 0):=cz20 BK376.out
 have hfs13:=blk_frozen BK376.out 0
 have hns13_0:=NB365_376.out
 have hns13_1:=NB366_376.out
 have hms13_0:=NB376_365.out
 have hms13_1:=NB376_366.out
 have hs15:w11.cell? ⟨gb376,1,none⟩=some (.slice none 0 0):=cz21 BK376.out
 have hfs15:=blk_frozen BK376.out 1
 have hns15_0:=NB365_376.out
 have hns15_1:=NB366_376.out
 have hms15_0:=NB376_365.out
 have hms15_1:=NB376_366.out
 refine skip_ (w1:=?_) (by rfl) rfl ?_ ?_
 rotate_left
 {
 go_simp
 rfl
 }
 refine hK.out _ _ ⟨((cell_far (p:=⟨gb376,_,none⟩) NB365_376.out _).trans (((cell_far (p:=⟨gb376,_,none⟩) NB365_376.out _).trans (hHeld.1)))),((cell_far (p:=⟨gb376,_,none⟩) NB365_376.out _).trans (((cell_far (p:=⟨gb376,_,none⟩) NB365_376.out _).trans (hHeld.2))))⟩ (fun hHeld => ?_)
 clear hK K
 refine done_ (by kernel_rfl) ?_
 try go_wp2
 go_loopg [4] k (fun kq v4 w'=>∃ (x4_1:Int) (x377000_1:List Int) (x377001_1:List Int) (u377000:Value) (u377001:Value),v4 = .int .i64 x4_1∧Aside0 (spec_l03Canon.l0 kq x4_1 l0_0 l0_1 x377000_1 x377001_1=some (r1,r2))∧Aside0 (kq≤k)∧Aside0 (Kd.R (Kd.int .i64) 3 w' w.heap.size (fun k_=>some k_≠(u377001:Value).ownBlock) u377000 x377000_1)∧Aside0 (Kd.R (Kd.int .i64) 3 w' w.heap.size (fun k_=>some k_≠(u377000:Value).ownBlock) u377001 x377001_1)∧Aside0 (w'.heap[gb365]? = some (.cells #[(.slice A0_0 l0_0.length c0_0),(.slice A0_1 l0_1.length c0_1)] 27 (0,0)))∧Aside0 (w'.heap[gb366]? = some (.cells #[(.slice none 0 0),(.slice none 0 0)] 27 (0,0)))∧Aside0 (w'.heap[gb376]? = some (.cells #[u377000,u377001] 27 (0,0)))∧Aside0 (Below w.heap.size w w'))
 case atStart=>exact ⟨(1),(t370),(t373),(.slice Ao12 t370.length co12),(.slice Ao14 t373.length co14),vX,H',⟨Nat.le_refl _⟩,⟨by(with_reducible repeat(first|apply rA|apply rN|apply rD));exact Kd.R_mono (Kd.R_far (p:=⟨gb376,1,none⟩) (Kd.R_far (p:=⟨gb376,0,none⟩) (Kd.R_types HO372.out BK376.out (by decide)) (fun _ hk=>hk.2) (.slice Ao12 t370.length co12)) (fun _ hk=>hk.2) (.slice Ao14 t373.length co14)) (fun _ hk=>hk.1.2)⟩,⟨by(with_reducible repeat(first|apply rA|apply rN|apply rD));exact Kd.R_mono (Kd.R_far (p:=⟨gb376,1,none⟩) (Kd.R_far (p:=⟨gb376,0,none⟩) (Kd.R_types HO375.out BK376.out (by decide)) (fun _ hk=>hk.2) (.slice Ao12 t370.length co12)) (fun _ hk=>hk.2) (.slice Ao14 t373.length co14)) (fun _ hk=>hk.1.2)⟩,⟨by(with_reducible repeat(first|refine kN ?_ _|refine kD ?_|refine kA ?_ _));refine blk_far ?_ NB365_376.out _;(with_reducible repeat(first|refine kN ?_ _|refine kD ?_|refine kA ?_ _));refine blk_far ?_ NB365_376.out _;(with_reducible repeat(first|refine kN ?_ _|refine kD ?_|refine kA ?_ _));exact BK365.out⟩,⟨by(with_reducible repeat(first|refine kN ?_ _|refine kD ?_|refine kA ?_ _));refine blk_far ?_ NB366_376.out _;(with_reducible repeat(first|refine kN ?_ _|refine kD ?_|refine kA ?_ _));refine blk_far ?_ NB366_376.out _;(with_reducible repeat(first|refine kN ?_ _|refine kD ?_|refine kA ?_ _));exact BK366.out⟩,⟨by(with_reducible repeat(first|refine kN ?_ _|refine kD ?_|refine kA ?_ _));refine blk_put (cs:=#[.slice Ao12 t370.length co12,.slice none 0 0]) ?_ 1 _ rfl;(with_reducible repeat(first|refine kN ?_ _|refine kD ?_|refine kA ?_ _));refine blk_put (cs:=#[.slice none 0 0,.slice none 0 0]) ?_ 0 _ rfl;(with_reducible repeat(first|refine kN ?_ _|refine kD ?_|refine kA ?_ _));exact BK376.out⟩,⟨bX3 HB.out GE365.out GE366.out GE376.out⟩⟩
 case round =>
 clear H'
 obtain ⟨x4_1,x377000_1,x377001_1,u377000,u377001,rfl,HA,HK1,HO_377000,HO_377001,BK365,BK366,BK376,HB⟩:=hrel
 cases gk with
 | zero=>exact absurd HA.out (by simp [spec_l03Canon.l0])
 | succ k1 =>
 have H:=HA.out
 clear HA
 simp only [spec_l03Canon.l0] at H
 by_cases c16:x4_1<(l0_0.length:Int)
 {
 rw [if_pos c16] at H
 have c16b0:=decide_eq_true c16
 clear c16
 replace H:=oB H
 obtain ⟨t377,A170,H⟩:=H
 have A17:=aM A170
 clear A170
 replace H:=oB H
 obtain ⟨⟨t380,t383⟩,A180,H⟩:=H
 replace H:((spec_l03Before.f k1 t380 t383 x377000_1 x377001_1).bind fun t387=>(if t387=true then (spec_l03Canon.l0 k1 (wrap64 (x4_1+1)) l0_0 l0_1 t380 t383) else (spec_l03Canon.l0 k1 (wrap64 (x4_1+1)) l0_0 l0_1 x377000_1 x377001_1)))=some (r1,r2):=H
 have A18:=aM A180
 clear A180
 replace H:=oB H
 obtain ⟨t387,A190,H⟩:=H
 have A19:=aM A190
 clear A190
 by_cases c20:t387=true
 {
 subst c20
 have H1:(spec_l03Canon.l0 k1 (wrap64 (x4_1+1)) l0_0 l0_1 t380 t383)=some (r1,r2):=by rw [if_pos rfl] at H;exact H
 clear H
 have H:=H1
 clear H1
 have H':=aM H
 clear H
 have hnb21:=NB365_366.out
 have hnc21:=NB366_365.out
 have hnb22:=NB365_376.out
 have hnc22:=NB376_365.out
 obtain ⟨hcz23_0,hcz23_1,hfz23_0,hfz23_1⟩:=f2Z BK365.out
 try go_wp2
 replace HO_377000:=aM (Kd.R_drew HO_377000.out)
 replace HO_377001:=aM (Kd.R_drew HO_377001.out)
 replace BK365:=aM (blk_drew BK365.out)
 replace BK366:=aM (blk_drew BK366.out)
 replace BK376:=aM (blk_drew BK376.out)
 replace HB:=aM (below_drew1 HB.out)
 refine start_ (n:=7) (S:=fun w'=>w'.cell? ⟨gb365,0,none⟩=some (.slice A0_0 l0_0.length c0_0)∧w'.cell? ⟨gb365,1,none⟩=some (.slice A0_1 l0_1.length c0_1)) (ds:=[]) #[false,false,false,false,false,false,false] (by kernel_rfl) rfl rfl ⟨cz20 BK365.out,cz21 BK365.out⟩ (fun hHeld => ?_)
 generalize wr.drew=w24 at HO_377000 HO_377001 BK365 BK366 BK376 HB hHeld ⊢
 refine pure_ (i:=2) (N:=some 19) (v:=?_) (a':=?_) #[false,false,true,false,false,false,false] rfl rfl (by kernel_rfl) (fun _ _ _ h=>h) (Or.inl ⟨by rfl,?_⟩) ?_ ?_
 rotate_left
 {
 intro w'
 go_simp
 with_reducible rfl
 }
 rotate_left
 {
 simp only [Act.put,zA,zB,zC,i64_w,i32_w]
 rfl
 }
 refine take_ (i:=0) (N:=some 17) (v:=?_) (a':=?_) #[true,false,true,false,false,false,false] rfl rfl (by kernel_rfl) (fun _ _ _ h=>h) (Or.inl ⟨by rfl,?_⟩) hHeld ?_ ?_
 rotate_left
 {
 rintro w' ⟨s0,s1⟩
 go_simp
 with_reducible rfl
 }
 rotate_left
 {
 simp only [Act.put,zA,zB,zC,i64_w,i32_w]
 rfl
 }
 refine take_ (i:=1) (N:=some 18) (v:=?_) (a':=?_) #[true,true,true,false,false,false,false] rfl rfl (by kernel_rfl) (fun _ _ _ h=>h) (Or.inl ⟨by rfl,?_⟩) hHeld ?_ ?_
 rotate_left
 {
 rintro w' ⟨s0,s1⟩
 go_simp
 with_reducible rfl
 }
 rotate_left
 {
 simp only [Act.put,zA,zB,zC,i64_w,i32_w]
 rfl
 }
 refine join_ (σ:=Value × Value × Value × Nat) 1 #[true,true,true,true,true,true,false] (fun s_=>[(20,s_.1),(21,.agg #[s_.2.1,s_.2.2.1]),(5,.pointer (some ⟨s_.2.2.2,0,none⟩))]) (fun s_ w'=>(w'.cell? ⟨gb365,0,none⟩=some (.slice A0_0 l0_0.length c0_0)∧w'.cell? ⟨gb365,1,none⟩=some (.slice A0_1 l0_1.length c0_1))∧(Kd.R (Kd.int .i64) 3 w' w.heap.size (fun k_=>some k_≠(s_.2.1:Value).ownBlock∧some k_≠(s_.2.2.1:Value).ownBlock∧some k_≠(u377000:Value).ownBlock∧some k_≠(u377001:Value).ownBlock) s_.1 t377)∧(Kd.R (Kd.int .i64) 3 w' w.heap.size (fun k_=>some k_≠(s_.1:Value).ownBlock∧some k_≠(s_.2.2.1:Value).ownBlock∧some k_≠(u377000:Value).ownBlock∧some k_≠(u377001:Value).ownBlock) s_.2.1 t380)∧(Kd.R (Kd.int .i64) 3 w' w.heap.size (fun k_=>some k_≠(s_.1:Value).ownBlock∧some k_≠(s_.2.1:Value).ownBlock∧some k_≠(u377000:Value).ownBlock∧some k_≠(u377001:Value).ownBlock) s_.2.2.1 t383)∧(Kd.R (Kd.int .i64) 3 w' w.heap.size (fun k_=>some k_≠(s_.1:Value).ownBlock∧some k_≠(s_.2.1:Value).ownBlock∧some k_≠(s_.2.2.1:Value).ownBlock∧some k_≠(u377001:Value).ownBlock) u377000 x377000_1)∧(Kd.R (Kd.int .i64) 3 w' w.heap.size (fun k_=>some k_≠(s_.1:Value).ownBlock∧some k_≠(s_.2.1:Value).ownBlock∧some k_≠(s_.2.2.1:Value).ownBlock∧some k_≠(u377000:Value).ownBlock) u377001 x377001_1)∧(w'.heap[gb365]? = some (.cells #[.slice A0_0 l0_0.length c0_0,.slice A0_1 l0_1.length c0_1] 27 (0,0)))∧(w'.heap[gb366]? = some (.cells #[.slice none 0 0,.slice none 0 0] 27 (0,0)))∧(w'.heap[gb376]? = some (.cells #[u377000,u377001] 27 (0,0)))∧(w'.heap[s_.2.2.2]? = some (.cells #[.slice none 0 0,.slice none 0 0] 27 (0,0)))∧(w.heap.size≤s_.2.2.2)∧(w.heap.size≤s_.2.2.2)∧(gb365≠s_.2.2.2)∧(s_.2.2.2≠gb365)∧(gb366≠s_.2.2.2)∧(s_.2.2.2≠gb366)∧(gb376≠s_.2.2.2)∧(s_.2.2.2≠gb376)∧(Below w.heap.size w w')) ?_ ?_
 rotate_left
 {
 intro hCont
 refine two_ (i:=3) (j:=5) (Ni:=some 20) (Nj:=some 5) #[true,true,true,true,false,false,false] #[true,true,true,false,false,true,false] rfl rfl rfl rfl (by kernel_rfl) (by decide) (by decide) (fun K hK => ?_) (fun K hK => ?_)
 {
 skip
 refine goes_ Try.func62 (by kernel_rfl) rfl #[.agg #[.slice A0_0 l0_0.length c0_0,.slice A0_1 l0_1.length c0_1],.int .i64 x4_1] (by rfl) rfl rfl aX ?_
 with_reducible refine(spec_l03Names.calls k1 _ _ l0_0 _ _ l0_1 x4_1 t377 _ ?side1 ?side2 ?side3 ?side4 A17.out).mono ?_
 (case side1=>exact cX (Kd.C_below HR0_0.out HB.out))
 (case side2=>exact HC0_0.out)
 (case side3=>exact cX (Kd.C_below HR0_1.out HB.out))
 (case side4=>exact HC0_1.out)
 rintro e w25 ⟨v378,rfl,ho0,hb⟩
 refine ⟨_,rfl,?_⟩
 have HO379:=aM (Kd.R_lower (Kd.R_new' (Kd.R_new' ho0 (Kd.R_lt (rX HO_377000.out))) (Kd.R_lt (rX HO_377001.out))) (below_size (bX3 HB.out GE365.out GE366.out GE376.out)))
 replace HO_377000:=aM (Kd.R_elder' (rX HO_377000.out) (Kd.R_base ho0) hb)
 replace HO_377001:=aM (Kd.R_elder' (rX HO_377001.out) (Kd.R_base ho0) hb)
 replace BK365:=aM (bbX BK365.out hb)
 replace BK366:=aM (bbX BK366.out hb)
 replace BK376:=aM (bbX BK376.out hb)
 replace HB:=aM (below_step (bX3 HB.out GE365.out GE366.out GE376.out) hb)
 (try clear hb)
 (try clear hk)
 (try clear ho0)
 obtain ⟨Ao26,co26,eo26⟩:=Kd.R_slice HO379.out
 (first|subst eo26|(injection eo26 with f1_ f2_ f3_;have f4_:=f1_.symm;have f5_:=f3_.symm;clear f1_ f2_ f3_;subst f4_;subst f5_))
 refine hK.out _ _ ⟨cz20 BK365.out,cz21 BK365.out⟩ (fun hHeld => ?_)
 clear hK K
 refine norm_ (a':=?_) ?_ ?_
 rotate_left
 {
 show Act.put _ (some 20) _=_
 simp only [Act.put,zA,zB,zC,i64_w,i32_w]
 rfl
 }
 refine two_ (i:=4) (j:=5) (Ni:=some 21) (Nj:=some 5) #[true,true,true,true,true,false,false] #[true,true,true,true,false,true,false] rfl rfl rfl rfl (by kernel_rfl) (by decide) (by decide) (fun K hK => ?_) (fun K hK => ?_)
 {
 skip
 refine goes_ Try.func61 (by kernel_rfl) rfl #[.agg #[.slice A0_0 l0_0.length c0_0,.slice A0_1 l0_1.length c0_1],.slice Ao26 t377.length co26] (by rfl) rfl rfl aX ?_
 with_reducible refine(spec_l03Rename.calls k1 _ _ l0_0 _ _ l0_1 _ _ t377 t380 t383 _ ?side1 ?side2 ?side3 ?side4 ?side5 ?side6 A18.out).mono ?_
 (case side1=>exact cX (Kd.C_below HR0_0.out HB.out))
 (case side2=>exact HC0_0.out)
 (case side3=>exact cX (Kd.C_below HR0_1.out HB.out))
 (case side4=>exact HC0_1.out)
 (case side5=>exact cX (Kd.R_reads' HO379.out).2.2)
 (case side6=>exact(Kd.R_reads' HO379.out).2.1)
 rintro e w27 ⟨v381,v384,rfl,ho0,ho1,hb⟩
 refine ⟨_,rfl,?_⟩
 have HO382:=aM (Kd.R_lower (Kd.R_new' (Kd.R_new' (Kd.R_new' ho0 (Kd.R_lt (rX HO_377000.out))) (Kd.R_lt (rX HO_377001.out))) (Kd.R_lt (rX HO379.out))) (below_size (bX3 HB.out GE365.out GE366.out GE376.out)))
 have HO385:=aM (Kd.R_lower (Kd.R_new' (Kd.R_new' (Kd.R_new' ho1 (Kd.R_lt (rX HO_377000.out))) (Kd.R_lt (rX HO_377001.out))) (Kd.R_lt (rX HO379.out))) (below_size (bX3 HB.out GE365.out GE366.out GE376.out)))
 replace HO_377000:=aM (Kd.R_mono (Kd.R_told (Kd.R_told (Kd.R_old (rX HO_377000.out) hb) (Kd.R_base ho0)) (Kd.R_base ho1)) (fun _ h_=>h_.1))
 replace HO_377001:=aM (Kd.R_mono (Kd.R_told (Kd.R_told (Kd.R_old (rX HO_377001.out) hb) (Kd.R_base ho0)) (Kd.R_base ho1)) (fun _ h_=>h_.1))
 replace HO379:=aM (Kd.R_mono (Kd.R_told (Kd.R_told (Kd.R_old (rX HO379.out) hb) (Kd.R_base ho0)) (Kd.R_base ho1)) (fun _ h_=>h_.1))
 replace BK365:=aM (bbX BK365.out hb)
 replace BK366:=aM (bbX BK366.out hb)
 replace BK376:=aM (bbX BK376.out hb)
 replace HB:=aM (below_step (bX3 HB.out GE365.out GE366.out GE376.out) hb)
 (try clear hb)
 (try clear hk)
 (try clear ho0)
 (try clear ho1)
 refine hK.out _ _ ⟨cz20 BK365.out,cz21 BK365.out⟩ (fun hHeld => ?_)
 clear hK K
 refine norm_ (a':=?_) ?_ ?_
 rotate_left
 {
 show Act.put _ (some 21) _=_
 simp only [Act.put,zA,zB,zC,i64_w,i32_w]
 rfl
 }
 refine one_ (i:=5) (N:=some 5) #[true,true,true,true,true,true,false] rfl rfl (by kernel_rfl) (by decide) (fun K hK => ?_)
 refine box_step ?hg (N:=5) ?hd (cs:=#[.slice none 0 0,.slice none 0 0]) (t:=27) ?hr ?_;(case hd=>rfl);(case hg=>rfl);(case hr=>first|(go_simp;done)|(go_simp;rfl))
 intro gb386 hg w28 hbox hb
 replace HO_377000:=aM (Kd.R_below (rX HO_377000.out) hb)
 replace HO_377001:=aM (Kd.R_below (rX HO_377001.out) hb)
 replace HO379:=aM (Kd.R_below (rX HO379.out) hb)
 replace HO382:=aM (Kd.R_below (rX HO382.out) hb)
 replace HO385:=aM (Kd.R_below (rX HO385.out) hb)
 have BK386:=aM (hbox)
 have GW386:=aM ((szX (below_size (bX3 HB.out GE365.out GE366.out GE376.out)) hg:w.heap.size≤gb386))
 have GE386:=GW386
 replace HB:=aM (below_step (bX3 HB.out GE365.out GE366.out GE376.out) hb)
 have NB365_386:=aM (neX BK365.out hg)
 have NB386_365:=aM (nfX BK365.out hg)
 replace BK365:=aM (bbX BK365.out hb)
 have NB366_386:=aM (neX BK366.out hg)
 have NB386_366:=aM (nfX BK366.out hg)
 replace BK366:=aM (bbX BK366.out hb)
 have NB376_386:=aM (neX BK376.out hg)
 have NB386_376:=aM (nfX BK376.out hg)
 replace BK376:=aM (bbX BK376.out hb)
 clear hb hbox hg
 refine hK.out _ _ ⟨cz20 BK365.out,cz21 BK365.out⟩ (fun hHeld => ?_)
 clear hK K
 refine norm_ (a':=?_) ?_ ?_
 rotate_left
 {
 show Act.put _ (some 5) _=_
 simp only [Act.put,zA,zB,zC,i64_w,i32_w]
 rfl
 }
 exact norm_ (by simp only [putAll,Act.put,List.setIfInBounds_toArray,List.set_cons_zero,List.set_cons_succ]) (hCont (.slice Ao26 t377.length co26,v381,v384,gb386) _ ⟨hHeld,(rM HO379.out (fun _ hk=>⟨hk.1.2,⟨hk.2,⟨hk.1.1.1.2,hk.1.1.2⟩⟩⟩)),(rM HO382.out (fun _ hk=>⟨hk.2,⟨hk.1.1.1,⟨hk.1.1.2,hk.1.2⟩⟩⟩)),(rM HO385.out (fun _ hk=>⟨hk.2,⟨hk.1.1.1,⟨hk.1.1.2,hk.1.2⟩⟩⟩)),(rM HO_377000.out (fun _ hk=>⟨hk.1.1.2,⟨hk.1.2,⟨hk.2,hk.1.1.1⟩⟩⟩)),(rM HO_377001.out (fun _ hk=>⟨hk.1.1.2,⟨hk.1.2,⟨hk.2,hk.1.1.1⟩⟩⟩)),(kX BK365.out),(kX BK366.out),(kX BK376.out),(kX BK386.out),GW386.out,GE386.out,NB365_386.out,NB386_365.out,NB366_386.out,NB386_366.out,NB376_386.out,NB386_376.out,(by repeat(first|(with_reducible first|exact HB.out|apply bA|apply bN|apply bD|refine below_set ?_ GE365.out|refine below_set ?_ GE366.out|refine below_set ?_ GE376.out|refine below_set ?_ GE386.out)|exact HB.out))⟩)
 }
 {
 skip
 refine box_step ?hg (N:=5) ?hd (cs:=#[.slice none 0 0,.slice none 0 0]) (t:=27) ?hr ?_;(case hd=>rfl);(case hg=>rfl);(case hr=>first|(go_simp;done)|(go_simp;rfl))
 intro gb386 hg w26 hbox hb
 replace HO_377000:=aM (Kd.R_below (rX HO_377000.out) hb)
 replace HO_377001:=aM (Kd.R_below (rX HO_377001.out) hb)
 replace HO379:=aM (Kd.R_below (rX HO379.out) hb)
 have BK386:=aM (hbox)
 have GW386:=aM ((szX (below_size (bX3 HB.out GE365.out GE366.out GE376.out)) hg:w.heap.size≤gb386))
 have GE386:=GW386
 replace HB:=aM (below_step (bX3 HB.out GE365.out GE366.out GE376.out) hb)
 have NB365_386:=aM (neX BK365.out hg)
 have NB386_365:=aM (nfX BK365.out hg)
 replace BK365:=aM (bbX BK365.out hb)
 have NB366_386:=aM (neX BK366.out hg)
 have NB386_366:=aM (nfX BK366.out hg)
 replace BK366:=aM (bbX BK366.out hb)
 have NB376_386:=aM (neX BK376.out hg)
 have NB386_376:=aM (nfX BK376.out hg)
 replace BK376:=aM (bbX BK376.out hb)
 clear hb hbox hg
 obtain ⟨Ao27,co27,eo27⟩:=Kd.R_slice HO379.out
 (first|subst eo27|(injection eo27 with f1_ f2_ f3_;have f4_:=f1_.symm;have f5_:=f3_.symm;clear f1_ f2_ f3_;subst f4_;subst f5_))
 refine hK.out _ _ ⟨cz20 BK365.out,cz21 BK365.out⟩ (fun hHeld => ?_)
 clear hK K
 refine norm_ (a':=?_) ?_ ?_
 rotate_left
 {
 show Act.put _ (some 5) _=_
 simp only [Act.put,zA,zB,zC,i64_w,i32_w]
 rfl
 }
 refine one_ (i:=4) (N:=some 21) #[true,true,true,true,true,true,false] rfl rfl (by kernel_rfl) (by decide) (fun K hK => ?_)
 refine goes_ Try.func61 (by kernel_rfl) rfl #[.agg #[.slice A0_0 l0_0.length c0_0,.slice A0_1 l0_1.length c0_1],.slice Ao27 t377.length co27] (by rfl) rfl rfl aX ?_
 with_reducible refine(spec_l03Rename.calls k1 _ _ l0_0 _ _ l0_1 _ _ t377 t380 t383 _ ?side1 ?side2 ?side3 ?side4 ?side5 ?side6 A18.out).mono ?_
 (case side1=>exact cX (Kd.C_below HR0_0.out HB.out))
 (case side2=>exact HC0_0.out)
 (case side3=>exact cX (Kd.C_below HR0_1.out HB.out))
 (case side4=>exact HC0_1.out)
 (case side5=>exact cX (Kd.R_reads' HO379.out).2.2)
 (case side6=>exact(Kd.R_reads' HO379.out).2.1)
 rintro e w28 ⟨v381,v384,rfl,ho0,ho1,hb⟩
 refine ⟨_,rfl,?_⟩
 have HO382:=aM (Kd.R_lower (Kd.R_new' (Kd.R_new' (Kd.R_new' ho0 (Kd.R_lt (rX HO_377000.out))) (Kd.R_lt (rX HO_377001.out))) (Kd.R_lt (rX HO379.out))) (below_size (by repeat(first|(with_reducible first|exact HB.out|apply bA|apply bN|apply bD|refine below_set ?_ GE365.out|refine below_set ?_ GE366.out|refine below_set ?_ GE376.out|refine below_set ?_ GE386.out)|exact HB.out))))
 have HO385:=aM (Kd.R_lower (Kd.R_new' (Kd.R_new' (Kd.R_new' ho1 (Kd.R_lt (rX HO_377000.out))) (Kd.R_lt (rX HO_377001.out))) (Kd.R_lt (rX HO379.out))) (below_size (by repeat(first|(with_reducible first|exact HB.out|apply bA|apply bN|apply bD|refine below_set ?_ GE365.out|refine below_set ?_ GE366.out|refine below_set ?_ GE376.out|refine below_set ?_ GE386.out)|exact HB.out))))
 replace HO_377000:=aM (Kd.R_mono (Kd.R_told (Kd.R_told (Kd.R_old (rX HO_377000.out) hb) (Kd.R_base ho0)) (Kd.R_base ho1)) (fun _ h_=>h_.1))
 replace HO_377001:=aM (Kd.R_mono (Kd.R_told (Kd.R_told (Kd.R_old (rX HO_377001.out) hb) (Kd.R_base ho0)) (Kd.R_base ho1)) (fun _ h_=>h_.1))
 replace HO379:=aM (Kd.R_mono (Kd.R_told (Kd.R_told (Kd.R_old (rX HO379.out) hb) (Kd.R_base ho0)) (Kd.R_base ho1)) (fun _ h_=>h_.1))
 replace BK365:=aM (bbX BK365.out hb)
 replace BK366:=aM (bbX BK366.out hb)
 replace BK376:=aM (bbX BK376.out hb)
 replace BK386:=aM (bbX BK386.out hb)
 replace HB:=aM (below_step (by repeat(first|(with_reducible first|exact HB.out|apply bA|apply bN|apply bD|refine below_set ?_ GE365.out|refine below_set ?_ GE366.out|refine below_set ?_ GE376.out|refine below_set ?_ GE386.out)|exact HB.out)) hb)
 (try clear hb)
 (try clear hk)
 (try clear ho0)
 (try clear ho1)
 refine hK.out _ _ ⟨cz20 BK365.out,cz21 BK365.out⟩ (fun hHeld => ?_)
 clear hK K
 refine norm_ (a':=?_) ?_ ?_
 rotate_left
 {
 show Act.put _ (some 21) _=_
 simp only [Act.put,zA,zB,zC,i64_w,i32_w]
 rfl
 }
 exact norm_ (by simp only [putAll,Act.put,List.setIfInBounds_toArray,List.set_cons_zero,List.set_cons_succ]) (hCont (.slice Ao27 t377.length co27,v381,v384,gb386) _ ⟨hHeld,(rM HO379.out (fun _ hk=>⟨hk.1.2,⟨hk.2,⟨hk.1.1.1.2,hk.1.1.2⟩⟩⟩)),(rM HO382.out (fun _ hk=>⟨hk.2,⟨hk.1.1.1,⟨hk.1.1.2,hk.1.2⟩⟩⟩)),(rM HO385.out (fun _ hk=>⟨hk.2,⟨hk.1.1.1,⟨hk.1.1.2,hk.1.2⟩⟩⟩)),(rM HO_377000.out (fun _ hk=>⟨hk.1.1.2,⟨hk.1.2,⟨hk.2,hk.1.1.1⟩⟩⟩)),(rM HO_377001.out (fun _ hk=>⟨hk.1.1.2,⟨hk.1.2,⟨hk.2,hk.1.1.1⟩⟩⟩)),(kX BK365.out),(kX BK366.out),(kX BK376.out),(kX BK386.out),GW386.out,GE386.out,NB365_386.out,NB386_365.out,NB366_386.out,NB386_366.out,NB376_386.out,NB386_376.out,(by repeat(first|(with_reducible first|exact HB.out|apply bA|apply bN|apply bD|refine below_set ?_ GE365.out|refine below_set ?_ GE366.out|refine below_set ?_ GE376.out|refine below_set ?_ GE386.out)|exact HB.out))⟩)
 }
 }
 {
 skip
 refine box_step ?hg (N:=5) ?hd (cs:=#[.slice none 0 0,.slice none 0 0]) (t:=27) ?hr ?_;(case hd=>rfl);(case hg=>rfl);(case hr=>first|(go_simp;done)|(go_simp;rfl))
 intro gb386 hg w25 hbox hb
 replace HO_377000:=aM (Kd.R_below (rX HO_377000.out) hb)
 replace HO_377001:=aM (Kd.R_below (rX HO_377001.out) hb)
 have BK386:=aM (hbox)
 have GW386:=aM ((szX (below_size (bX3 HB.out GE365.out GE366.out GE376.out)) hg:w.heap.size≤gb386))
 have GE386:=GW386
 replace HB:=aM (below_step (bX3 HB.out GE365.out GE366.out GE376.out) hb)
 have NB365_386:=aM (neX BK365.out hg)
 have NB386_365:=aM (nfX BK365.out hg)
 replace BK365:=aM (bbX BK365.out hb)
 have NB366_386:=aM (neX BK366.out hg)
 have NB386_366:=aM (nfX BK366.out hg)
 replace BK366:=aM (bbX BK366.out hb)
 have NB376_386:=aM (neX BK376.out hg)
 have NB386_376:=aM (nfX BK376.out hg)
 replace BK376:=aM (bbX BK376.out hb)
 clear hb hbox hg
 refine hK.out _ _ ⟨cz20 BK365.out,cz21 BK365.out⟩ (fun hHeld => ?_)
 clear hK K
 refine norm_ (a':=?_) ?_ ?_
 rotate_left
 {
 show Act.put _ (some 5) _=_
 simp only [Act.put,zA,zB,zC,i64_w,i32_w]
 rfl
 }
 refine one_ (i:=3) (N:=some 20) #[true,true,true,true,false,true,false] rfl rfl (by kernel_rfl) (by decide) (fun K hK => ?_)
 refine goes_ Try.func62 (by kernel_rfl) rfl #[.agg #[.slice A0_0 l0_0.length c0_0,.slice A0_1 l0_1.length c0_1],.int .i64 x4_1] (by rfl) rfl rfl aX ?_
 with_reducible refine(spec_l03Names.calls k1 _ _ l0_0 _ _ l0_1 x4_1 t377 _ ?side1 ?side2 ?side3 ?side4 A17.out).mono ?_
 (case side1=>exact cX (Kd.C_below HR0_0.out HB.out))
 (case side2=>exact HC0_0.out)
 (case side3=>exact cX (Kd.C_below HR0_1.out HB.out))
 (case side4=>exact HC0_1.out)
 rintro e w26 ⟨v378,rfl,ho0,hb⟩
 refine ⟨_,rfl,?_⟩
 have HO379:=aM (Kd.R_lower (Kd.R_new' (Kd.R_new' ho0 (Kd.R_lt (rX HO_377000.out))) (Kd.R_lt (rX HO_377001.out))) (below_size (by repeat(first|(with_reducible first|exact HB.out|apply bA|apply bN|apply bD|refine below_set ?_ GE365.out|refine below_set ?_ GE366.out|refine below_set ?_ GE376.out|refine below_set ?_ GE386.out)|exact HB.out))))
 replace HO_377000:=aM (Kd.R_elder' (rX HO_377000.out) (Kd.R_base ho0) hb)
 replace HO_377001:=aM (Kd.R_elder' (rX HO_377001.out) (Kd.R_base ho0) hb)
 replace BK365:=aM (bbX BK365.out hb)
 replace BK366:=aM (bbX BK366.out hb)
 replace BK376:=aM (bbX BK376.out hb)
 replace BK386:=aM (bbX BK386.out hb)
 replace HB:=aM (below_step (by repeat(first|(with_reducible first|exact HB.out|apply bA|apply bN|apply bD|refine below_set ?_ GE365.out|refine below_set ?_ GE366.out|refine below_set ?_ GE376.out|refine below_set ?_ GE386.out)|exact HB.out)) hb)
 (try clear hb)
 (try clear hk)
 (try clear ho0)
 obtain ⟨Ao27,co27,eo27⟩:=Kd.R_slice HO379.out
 (first|subst eo27|(injection eo27 with f1_ f2_ f3_;have f4_:=f1_.symm;have f5_:=f3_.symm;clear f1_ f2_ f3_;subst f4_;subst f5_))
 refine hK.out _ _ ⟨cz20 BK365.out,cz21 BK365.out⟩ (fun hHeld => ?_)
 clear hK K
 refine norm_ (a':=?_) ?_ ?_
 rotate_left
 {
 show Act.put _ (some 20) _=_
 simp only [Act.put,zA,zB,zC,i64_w,i32_w]
 rfl
 }
 refine one_ (i:=4) (N:=some 21) #[true,true,true,true,true,true,false] rfl rfl (by kernel_rfl) (by decide) (fun K hK => ?_)
 refine goes_ Try.func61 (by kernel_rfl) rfl #[.agg #[.slice A0_0 l0_0.length c0_0,.slice A0_1 l0_1.length c0_1],.slice Ao27 t377.length co27] (by rfl) rfl rfl aX ?_
 with_reducible refine(spec_l03Rename.calls k1 _ _ l0_0 _ _ l0_1 _ _ t377 t380 t383 _ ?side1 ?side2 ?side3 ?side4 ?side5 ?side6 A18.out).mono ?_
 (case side1=>exact cX (Kd.C_below HR0_0.out HB.out))
 (case side2=>exact HC0_0.out)
 (case side3=>exact cX (Kd.C_below HR0_1.out HB.out))
 (case side4=>exact HC0_1.out)
 (case side5=>exact cX (Kd.R_reads' HO379.out).2.2)
 (case side6=>exact(Kd.R_reads' HO379.out).2.1)
 rintro e w28 ⟨v381,v384,rfl,ho0,ho1,hb⟩
 refine ⟨_,rfl,?_⟩
 have HO382:=aM (Kd.R_lower (Kd.R_new' (Kd.R_new' (Kd.R_new' ho0 (Kd.R_lt (rX HO_377000.out))) (Kd.R_lt (rX HO_377001.out))) (Kd.R_lt (rX HO379.out))) (below_size (by repeat(first|(with_reducible first|exact HB.out|apply bA|apply bN|apply bD|refine below_set ?_ GE365.out|refine below_set ?_ GE366.out|refine below_set ?_ GE376.out|refine below_set ?_ GE386.out)|exact HB.out))))
 have HO385:=aM (Kd.R_lower (Kd.R_new' (Kd.R_new' (Kd.R_new' ho1 (Kd.R_lt (rX HO_377000.out))) (Kd.R_lt (rX HO_377001.out))) (Kd.R_lt (rX HO379.out))) (below_size (by repeat(first|(with_reducible first|exact HB.out|apply bA|apply bN|apply bD|refine below_set ?_ GE365.out|refine below_set ?_ GE366.out|refine below_set ?_ GE376.out|refine below_set ?_ GE386.out)|exact HB.out))))
 replace HO_377000:=aM (Kd.R_mono (Kd.R_told (Kd.R_told (Kd.R_old (rX HO_377000.out) hb) (Kd.R_base ho0)) (Kd.R_base ho1)) (fun _ h_=>h_.1))
 replace HO_377001:=aM (Kd.R_mono (Kd.R_told (Kd.R_told (Kd.R_old (rX HO_377001.out) hb) (Kd.R_base ho0)) (Kd.R_base ho1)) (fun _ h_=>h_.1))
 replace HO379:=aM (Kd.R_mono (Kd.R_told (Kd.R_told (Kd.R_old (rX HO379.out) hb) (Kd.R_base ho0)) (Kd.R_base ho1)) (fun _ h_=>h_.1))
 replace BK365:=aM (bbX BK365.out hb)
 replace BK366:=aM (bbX BK366.out hb)
 replace BK376:=aM (bbX BK376.out hb)
 replace BK386:=aM (bbX BK386.out hb)
 replace HB:=aM (below_step (by repeat(first|(with_reducible first|exact HB.out|apply bA|apply bN|apply bD|refine below_set ?_ GE365.out|refine below_set ?_ GE366.out|refine below_set ?_ GE376.out|refine below_set ?_ GE386.out)|exact HB.out)) hb)
 (try clear hb)
 (try clear hk)
 (try clear ho0)
 (try clear ho1)
 refine hK.out _ _ ⟨cz20 BK365.out,cz21 BK365.out⟩ (fun hHeld => ?_)
 clear hK K
 refine norm_ (a':=?_) ?_ ?_
 rotate_left
 {
 show Act.put _ (some 21) _=_
 simp only [Act.put,zA,zB,zC,i64_w,i32_w]
 rfl
 }
 exact norm_ (by simp only [putAll,Act.put,List.setIfInBounds_toArray,List.set_cons_zero,List.set_cons_succ]) (hCont (.slice Ao27 t377.length co27,v381,v384,gb386) _ ⟨hHeld,(rM HO379.out (fun _ hk=>⟨hk.1.2,⟨hk.2,⟨hk.1.1.1.2,hk.1.1.2⟩⟩⟩)),(rM HO382.out (fun _ hk=>⟨hk.2,⟨hk.1.1.1,⟨hk.1.1.2,hk.1.2⟩⟩⟩)),(rM HO385.out (fun _ hk=>⟨hk.2,⟨hk.1.1.1,⟨hk.1.1.2,hk.1.2⟩⟩⟩)),(rM HO_377000.out (fun _ hk=>⟨hk.1.1.2,⟨hk.1.2,⟨hk.2,hk.1.1.1⟩⟩⟩)),(rM HO_377001.out (fun _ hk=>⟨hk.1.1.2,⟨hk.1.2,⟨hk.2,hk.1.1.1⟩⟩⟩)),(kX BK365.out),(kX BK366.out),(kX BK376.out),(kX BK386.out),GW386.out,GE386.out,NB365_386.out,NB386_365.out,NB366_386.out,NB386_366.out,NB376_386.out,NB386_376.out,(by repeat(first|(with_reducible first|exact HB.out|apply bA|apply bN|apply bD|refine below_set ?_ GE365.out|refine below_set ?_ GE366.out|refine below_set ?_ GE376.out|refine below_set ?_ GE386.out)|exact HB.out))⟩)
 }
 }
 rintro ⟨v378,v381,v384,gb386⟩ w29 ⟨hS_,h0_,h1_,h2_,h3_,h4_,h5_,h6_,h7_,h8_,h9_,h10_,h11_,h12_,h13_,h14_,h15_,h16_,h17_⟩
 have n0_:Aside0 (Kd.R (Kd.int .i64) 3 w29 w.heap.size (fun k_=>some k_≠(v381:Value).ownBlock∧some k_≠(v384:Value).ownBlock∧some k_≠(u377000:Value).ownBlock∧some k_≠(u377001:Value).ownBlock) v378 t377):=⟨h0_⟩
 have n1_:Aside0 (Kd.R (Kd.int .i64) 3 w29 w.heap.size (fun k_=>some k_≠(v378:Value).ownBlock∧some k_≠(v384:Value).ownBlock∧some k_≠(u377000:Value).ownBlock∧some k_≠(u377001:Value).ownBlock) v381 t380):=⟨h1_⟩
 have n2_:Aside0 (Kd.R (Kd.int .i64) 3 w29 w.heap.size (fun k_=>some k_≠(v378:Value).ownBlock∧some k_≠(v381:Value).ownBlock∧some k_≠(u377000:Value).ownBlock∧some k_≠(u377001:Value).ownBlock) v384 t383):=⟨h2_⟩
 have n3_:Aside0 (Kd.R (Kd.int .i64) 3 w29 w.heap.size (fun k_=>some k_≠(v378:Value).ownBlock∧some k_≠(v381:Value).ownBlock∧some k_≠(v384:Value).ownBlock∧some k_≠(u377001:Value).ownBlock) u377000 x377000_1):=⟨h3_⟩
 have n4_:Aside0 (Kd.R (Kd.int .i64) 3 w29 w.heap.size (fun k_=>some k_≠(v378:Value).ownBlock∧some k_≠(v381:Value).ownBlock∧some k_≠(v384:Value).ownBlock∧some k_≠(u377000:Value).ownBlock) u377001 x377001_1):=⟨h4_⟩
 have n5_:Aside0 (w29.heap[gb365]? = some (.cells #[.slice A0_0 l0_0.length c0_0,.slice A0_1 l0_1.length c0_1] 27 (0,0))):=⟨h5_⟩
 have n6_:Aside0 (w29.heap[gb366]? = some (.cells #[.slice none 0 0,.slice none 0 0] 27 (0,0))):=⟨h6_⟩
 have n7_:Aside0 (w29.heap[gb376]? = some (.cells #[u377000,u377001] 27 (0,0))):=⟨h7_⟩
 have n8_:Aside0 (w29.heap[gb386]? = some (.cells #[.slice none 0 0,.slice none 0 0] 27 (0,0))):=⟨h8_⟩
 have n9_:Aside0 (w.heap.size≤gb386):=⟨h9_⟩
 have n10_:Aside0 (w.heap.size≤gb386):=⟨h10_⟩
 have n11_:Aside0 (gb365≠gb386):=⟨h11_⟩
 have n12_:Aside0 (gb386≠gb365):=⟨h12_⟩
 have n13_:Aside0 (gb366≠gb386):=⟨h13_⟩
 have n14_:Aside0 (gb386≠gb366):=⟨h14_⟩
 have n15_:Aside0 (gb376≠gb386):=⟨h15_⟩
 have n16_:Aside0 (gb386≠gb376):=⟨h16_⟩
 have n17_:Aside0 (Below w.heap.size w w29):=⟨h17_⟩
 clear HO_377000 HO_377001 BK365 BK366 BK376 HB h0_ h1_ h2_ h3_ h4_ h5_ h6_ h7_ h8_ h9_ h10_ h11_ h12_ h13_ h14_ h15_ h16_ h17_
 have HO379:=n0_
 have HO382:=n1_
 have HO385:=n2_
 have HO_377000:=n3_
 have HO_377001:=n4_
 have BK365:=n5_
 have BK366:=n6_
 have BK376:=n7_
 have BK386:=n8_
 have GW386:=n9_
 have GE386:=n10_
 have NB365_386:=n11_
 have NB386_365:=n12_
 have NB366_386:=n13_
 have NB386_366:=n14_
 have NB376_386:=n15_
 have NB386_376:=n16_
 have HB:=n17_
 clear n0_ n1_ n2_ n3_ n4_ n5_ n6_ n7_ n8_ n9_ n10_ n11_ n12_ n13_ n14_ n15_ n16_ n17_
 have hHeld:w29.cell? ⟨gb365,0,none⟩=some (.slice A0_0 l0_0.length c0_0)∧w29.cell? ⟨gb365,1,none⟩=some (.slice A0_1 l0_1.length c0_1):=hS_
 obtain ⟨Ao30,co30,eo30⟩:=Kd.R_slice HO382.out
 (first|subst eo30|(injection eo30 with f1_ f2_ f3_;have f4_:=f1_.symm;have f5_:=f3_.symm;clear f1_ f2_ f3_;subst f4_;subst f5_))
 obtain ⟨Ao32,co32,eo32⟩:=Kd.R_slice HO385.out
 (first|subst eo32|(injection eo32 with f1_ f2_ f3_;have f4_:=f1_.symm;have f5_:=f3_.symm;clear f1_ f2_ f3_;subst f4_;subst f5_))
 refine norm_ (a':=?_) ?_ ?_
 rotate_left
 {
 simp only [putAll,Act.put,List.setIfInBounds_toArray,List.set_cons_zero,List.set_cons_succ]
 rfl
 }
 refine one_ (i:=6) (N:=none) #[true,true,true,true,true,true,true] rfl rfl (by kernel_rfl) (by decide) (fun K hK => ?_)
 have hs31:w29.cell? ⟨gb386,0,none⟩=some (.slice none 0 0):=cz20 BK386.out
 have hfs31:=blk_frozen BK386.out 0
 have hns31_0:=NB365_386.out
 have hns31_1:=NB366_386.out
 have hns31_2:=NB376_386.out
 have hms31_0:=NB386_365.out
 have hms31_1:=NB386_366.out
 have hms31_2:=NB386_376.out
 have hs33:w29.cell? ⟨gb386,1,none⟩=some (.slice none 0 0):=cz21 BK386.out
 have hfs33:=blk_frozen BK386.out 1
 have hns33_0:=NB365_386.out
 have hns33_1:=NB366_386.out
 have hns33_2:=NB376_386.out
 have hms33_0:=NB386_365.out
 have hms33_1:=NB386_366.out
 have hms33_2:=NB386_376.out
 refine skip_ (w1:=?_) (by rfl) rfl ?_ ?_
 rotate_left
 {
 go_simp
 rfl
 }
 refine hK.out _ _ ⟨((cell_far (p:=⟨gb386,_,none⟩) NB365_386.out _).trans (((cell_far (p:=⟨gb386,_,none⟩) NB365_386.out _).trans (hHeld.1)))),((cell_far (p:=⟨gb386,_,none⟩) NB365_386.out _).trans (((cell_far (p:=⟨gb386,_,none⟩) NB365_386.out _).trans (hHeld.2))))⟩ (fun hHeld => ?_)
 clear hK K
 refine done_ (by kernel_rfl) ?_
 have hnb34:=NB386_365.out
 have hnc34:=NB365_386.out
 have hnb35:=NB386_366.out
 have hnc35:=NB366_386.out
 have hnb36:=NB386_376.out
 have hnc36:=NB376_386.out
 obtain ⟨hcz37_0,hcz37_1,hfz37_0,hfz37_1⟩:=f2Z BK386.out
 have hnb38:=NB376_366.out
 have hnc38:=NB366_376.out
 obtain ⟨hcz39_0,hcz39_1,hfz39_0,hfz39_1⟩:=f2Z BK376.out
 obtain ⟨Ao40,co40,eo40⟩:=Kd.R_slice HO_377000.out
 subst eo40
 obtain ⟨Ao41,co41,eo41⟩:=Kd.R_slice HO_377001.out
 subst eo41
 try go_wp2_with (first|((with_reducible refine gate_callee (f:=63) rfl ?_);refine goesL_ (some 24) rfl rfl Try.func63 (by kernel_rfl) rfl #[.agg #[.slice Ao30 t380.length co30,.slice Ao32 t383.length co32],.agg #[.slice Ao40 x377000_1.length co40,.slice Ao41 x377001_1.length co41]] rfl aX ?_;(with_reducible refine(spec_l03Before.calls k1 _ _ t380 _ _ t383 _ _ x377000_1 _ _ x377001_1 true _ ?side1 ?side2 ?side3 ?side4 ?side5 ?side6 ?side7 ?side8 A19.out).mono ?_);(case side1=>exact rcX (fr2 HO382.out BK386.out (.slice Ao30 t380.length co30) (.slice Ao32 t383.length co32)));(case side2=>exact(Kd.R_reads' HO382.out).2.1);(case side3=>exact rcX (fr2 HO385.out BK386.out (.slice Ao30 t380.length co30) (.slice Ao32 t383.length co32)));(case side4=>exact(Kd.R_reads' HO385.out).2.1);(case side5=>exact rcX (fr2 HO_377000.out BK386.out (.slice Ao30 t380.length co30) (.slice Ao32 t383.length co32)));(case side6=>exact(Kd.R_reads' HO_377000.out).2.1);(case side7=>exact rcX (fr2 HO_377001.out BK386.out (.slice Ao30 t380.length co30) (.slice Ao32 t383.length co32)));(case side8=>exact(Kd.R_reads' HO_377001.out).2.1);rintro e w42 ⟨rfl,hb⟩;refine ⟨_,rfl,?_⟩;replace HO_377000:=aM (Kd.R_below (rX (fr2 HO_377000.out BK386.out (.slice Ao30 t380.length co30) (.slice Ao32 t383.length co32))) hb);replace HO_377001:=aM (Kd.R_below (rX (fr2 HO_377001.out BK386.out (.slice Ao30 t380.length co30) (.slice Ao32 t383.length co32))) hb);replace HO379:=aM (Kd.R_below (rX (fr2 HO379.out BK386.out (.slice Ao30 t380.length co30) (.slice Ao32 t383.length co32))) hb);replace HO382:=aM (Kd.R_below (rX (fr2 HO382.out BK386.out (.slice Ao30 t380.length co30) (.slice Ao32 t383.length co32))) hb);replace HO385:=aM (Kd.R_below (rX (fr2 HO385.out BK386.out (.slice Ao30 t380.length co30) (.slice Ao32 t383.length co32))) hb);replace BK365:=aM (blk_below (g:=gb365) (o:=.cells #[.slice A0_0 l0_0.length c0_0,.slice A0_1 l0_1.length c0_1] 27 (0,0)) (by(with_reducible repeat(first|refine kN ?_ _|refine kD ?_|refine kA ?_ _));refine blk_far ?_ NB365_386.out _;(with_reducible repeat(first|refine kN ?_ _|refine kD ?_|refine kA ?_ _));refine blk_far ?_ NB365_386.out _;(with_reducible repeat(first|refine kN ?_ _|refine kD ?_|refine kA ?_ _));exact BK365.out) hb);replace BK366:=aM (blk_below (g:=gb366) (o:=.cells #[.slice none 0 0,.slice none 0 0] 27 (0,0)) (by(with_reducible repeat(first|refine kN ?_ _|refine kD ?_|refine kA ?_ _));refine blk_far ?_ NB366_386.out _;(with_reducible repeat(first|refine kN ?_ _|refine kD ?_|refine kA ?_ _));refine blk_far ?_ NB366_386.out _;(with_reducible repeat(first|refine kN ?_ _|refine kD ?_|refine kA ?_ _));exact BK366.out) hb);replace BK376:=aM (blk_below (g:=gb376) (o:=.cells #[.slice Ao40 x377000_1.length co40,.slice Ao41 x377001_1.length co41] 27 (0,0)) (by(with_reducible repeat(first|refine kN ?_ _|refine kD ?_|refine kA ?_ _));refine blk_far ?_ NB376_386.out _;(with_reducible repeat(first|refine kN ?_ _|refine kD ?_|refine kA ?_ _));refine blk_far ?_ NB376_386.out _;(with_reducible repeat(first|refine kN ?_ _|refine kD ?_|refine kA ?_ _));exact BK376.out) hb);replace BK386:=aM (blk_below (g:=gb386) (o:=.cells #[.slice Ao30 t380.length co30,.slice Ao32 t383.length co32] 27 (0,0)) (by(with_reducible repeat(first|refine kN ?_ _|refine kD ?_|refine kA ?_ _));refine blk_put (cs:=#[.slice Ao30 t380.length co30,.slice none 0 0]) ?_ 1 _ rfl;(with_reducible repeat(first|refine kN ?_ _|refine kD ?_|refine kA ?_ _));refine blk_put (cs:=#[.slice none 0 0,.slice none 0 0]) ?_ 0 _ rfl;(with_reducible repeat(first|refine kN ?_ _|refine kD ?_|refine kA ?_ _));exact BK386.out) hb);replace HB:=aM (below_step (by repeat(first|(with_reducible first|exact HB.out|apply bA|apply bN|apply bD|refine below_set ?_ GE365.out|refine below_set ?_ GE366.out|refine below_set ?_ GE376.out|refine below_set ?_ GE386.out)|exact HB.out)) hb);(try clear hb);(try clear hk);obtain ⟨hcz43_0,hcz43_1,hfz43_0,hfz43_1⟩:=f2Z BK386.out;obtain ⟨hcz44_0,hcz44_1,hfz44_0,hfz44_1⟩:=f2Z BK376.out))
 go_roundg k1
 case measure=>have:=HK1.out;omega
 case rel=>exact ⟨(wrap64 (x4_1+1)),(t380),(t383),(.slice Ao30 t380.length co30),(.slice Ao32 t383.length co32),vX,H',⟨by have:=HK1.out;omega⟩,⟨by(with_reducible repeat(first|apply rA|apply rN|apply rD));exact Kd.R_mono (Kd.R_far (p:=⟨gb376,1,none⟩) (Kd.R_far (p:=⟨gb376,0,none⟩) (Kd.R_types HO382.out BK376.out (by decide)) (fun _ hk=>hk.2) (.slice Ao30 t380.length co30)) (fun _ hk=>hk.2) (.slice Ao32 t383.length co32)) (fun _ hk=>hk.1.2.1)⟩,⟨by(with_reducible repeat(first|apply rA|apply rN|apply rD));exact Kd.R_mono (Kd.R_far (p:=⟨gb376,1,none⟩) (Kd.R_far (p:=⟨gb376,0,none⟩) (Kd.R_types HO385.out BK376.out (by decide)) (fun _ hk=>hk.2) (.slice Ao30 t380.length co30)) (fun _ hk=>hk.2) (.slice Ao32 t383.length co32)) (fun _ hk=>hk.1.2.1)⟩,⟨by(with_reducible repeat(first|refine kN ?_ _|refine kD ?_|refine kA ?_ _));refine blk_far ?_ NB365_376.out _;(with_reducible repeat(first|refine kN ?_ _|refine kD ?_|refine kA ?_ _));refine blk_far ?_ NB365_376.out _;(with_reducible repeat(first|refine kN ?_ _|refine kD ?_|refine kA ?_ _));exact BK365.out⟩,⟨by(with_reducible repeat(first|refine kN ?_ _|refine kD ?_|refine kA ?_ _));refine blk_far ?_ NB366_376.out _;(with_reducible repeat(first|refine kN ?_ _|refine kD ?_|refine kA ?_ _));refine blk_far ?_ NB366_376.out _;(with_reducible repeat(first|refine kN ?_ _|refine kD ?_|refine kA ?_ _));exact BK366.out⟩,⟨by(with_reducible repeat(first|refine kN ?_ _|refine kD ?_|refine kA ?_ _));refine blk_put (cs:=#[.slice Ao30 t380.length co30,.slice Ao41 x377001_1.length co41]) ?_ 1 _ rfl;(with_reducible repeat(first|refine kN ?_ _|refine kD ?_|refine kA ?_ _));refine blk_put (cs:=#[.slice Ao40 x377000_1.length co40,.slice Ao41 x377001_1.length co41]) ?_ 0 _ rfl;(with_reducible repeat(first|refine kN ?_ _|refine kD ?_|refine kA ?_ _));exact BK376.out⟩,⟨by repeat(first|(with_reducible first|exact HB.out|apply bA|apply bN|apply bD|refine below_set ?_ GE365.out|refine below_set ?_ GE366.out|refine below_set ?_ GE376.out|refine below_set ?_ GE386.out)|exact HB.out)⟩⟩
 }
 {
 replace c20:=Bool.eq_false_iff.mpr c20
 subst c20
 have H1:(spec_l03Canon.l0 k1 (wrap64 (x4_1+1)) l0_0 l0_1 x377000_1 x377001_1)=some (r1,r2):=by rw [if_neg (show ¬ (false=true) by decide)] at H;exact H
 clear H
 have H:=H1
 clear H1
 have H':=aM H
 clear H
 have hnb45:=NB365_366.out
 have hnc45:=NB366_365.out
 have hnb46:=NB365_376.out
 have hnc46:=NB376_365.out
 obtain ⟨hcz47_0,hcz47_1,hfz47_0,hfz47_1⟩:=f2Z BK365.out
 try go_wp2
 replace HO_377000:=aM (Kd.R_drew HO_377000.out)
 replace HO_377001:=aM (Kd.R_drew HO_377001.out)
 replace BK365:=aM (blk_drew BK365.out)
 replace BK366:=aM (blk_drew BK366.out)
 replace BK376:=aM (blk_drew BK376.out)
 replace HB:=aM (below_drew1 HB.out)
 refine start_ (n:=7) (S:=fun w'=>w'.cell? ⟨gb365,0,none⟩=some (.slice A0_0 l0_0.length c0_0)∧w'.cell? ⟨gb365,1,none⟩=some (.slice A0_1 l0_1.length c0_1)) (ds:=[]) #[false,false,false,false,false,false,false] (by kernel_rfl) rfl rfl ⟨cz20 BK365.out,cz21 BK365.out⟩ (fun hHeld => ?_)
 generalize wr.drew=w48 at HO_377000 HO_377001 BK365 BK366 BK376 HB hHeld ⊢
 refine pure_ (i:=2) (N:=some 19) (v:=?_) (a':=?_) #[false,false,true,false,false,false,false] rfl rfl (by kernel_rfl) (fun _ _ _ h=>h) (Or.inl ⟨by rfl,?_⟩) ?_ ?_
 rotate_left
 {
 intro w'
 go_simp
 with_reducible rfl
 }
 rotate_left
 {
 simp only [Act.put,zA,zB,zC,i64_w,i32_w]
 rfl
 }
 refine take_ (i:=0) (N:=some 17) (v:=?_) (a':=?_) #[true,false,true,false,false,false,false] rfl rfl (by kernel_rfl) (fun _ _ _ h=>h) (Or.inl ⟨by rfl,?_⟩) hHeld ?_ ?_
 rotate_left
 {
 rintro w' ⟨s0,s1⟩
 go_simp
 with_reducible rfl
 }
 rotate_left
 {
 simp only [Act.put,zA,zB,zC,i64_w,i32_w]
 rfl
 }
 refine take_ (i:=1) (N:=some 18) (v:=?_) (a':=?_) #[true,true,true,false,false,false,false] rfl rfl (by kernel_rfl) (fun _ _ _ h=>h) (Or.inl ⟨by rfl,?_⟩) hHeld ?_ ?_
 rotate_left
 {
 rintro w' ⟨s0,s1⟩
 go_simp
 with_reducible rfl
 }
 rotate_left
 {
 simp only [Act.put,zA,zB,zC,i64_w,i32_w]
 rfl
 }
 refine join_ (σ:=Value × Value × Value × Nat) 1 #[true,true,true,true,true,true,false] (fun s_=>[(20,s_.1),(21,.agg #[s_.2.1,s_.2.2.1]),(5,.pointer (some ⟨s_.2.2.2,0,none⟩))]) (fun s_ w'=>(w'.cell? ⟨gb365,0,none⟩=some (.slice A0_0 l0_0.length c0_0)∧w'.cell? ⟨gb365,1,none⟩=some (.slice A0_1 l0_1.length c0_1))∧(Kd.R (Kd.int .i64) 3 w' w.heap.size (fun k_=>some k_≠(s_.2.1:Value).ownBlock∧some k_≠(s_.2.2.1:Value).ownBlock∧some k_≠(u377000:Value).ownBlock∧some k_≠(u377001:Value).ownBlock) s_.1 t377)∧(Kd.R (Kd.int .i64) 3 w' w.heap.size (fun k_=>some k_≠(s_.1:Value).ownBlock∧some k_≠(s_.2.2.1:Value).ownBlock∧some k_≠(u377000:Value).ownBlock∧some k_≠(u377001:Value).ownBlock) s_.2.1 t380)∧(Kd.R (Kd.int .i64) 3 w' w.heap.size (fun k_=>some k_≠(s_.1:Value).ownBlock∧some k_≠(s_.2.1:Value).ownBlock∧some k_≠(u377000:Value).ownBlock∧some k_≠(u377001:Value).ownBlock) s_.2.2.1 t383)∧(Kd.R (Kd.int .i64) 3 w' w.heap.size (fun k_=>some k_≠(s_.1:Value).ownBlock∧some k_≠(s_.2.1:Value).ownBlock∧some k_≠(s_.2.2.1:Value).ownBlock∧some k_≠(u377001:Value).ownBlock) u377000 x377000_1)∧(Kd.R (Kd.int .i64) 3 w' w.heap.size (fun k_=>some k_≠(s_.1:Value).ownBlock∧some k_≠(s_.2.1:Value).ownBlock∧some k_≠(s_.2.2.1:Value).ownBlock∧some k_≠(u377000:Value).ownBlock) u377001 x377001_1)∧(w'.heap[gb365]? = some (.cells #[.slice A0_0 l0_0.length c0_0,.slice A0_1 l0_1.length c0_1] 27 (0,0)))∧(w'.heap[gb366]? = some (.cells #[.slice none 0 0,.slice none 0 0] 27 (0,0)))∧(w'.heap[gb376]? = some (.cells #[u377000,u377001] 27 (0,0)))∧(w'.heap[s_.2.2.2]? = some (.cells #[.slice none 0 0,.slice none 0 0] 27 (0,0)))∧(w.heap.size≤s_.2.2.2)∧(w.heap.size≤s_.2.2.2)∧(gb365≠s_.2.2.2)∧(s_.2.2.2≠gb365)∧(gb366≠s_.2.2.2)∧(s_.2.2.2≠gb366)∧(gb376≠s_.2.2.2)∧(s_.2.2.2≠gb376)∧(Below w.heap.size w w')) ?_ ?_
 rotate_left
 {
 intro hCont
 refine two_ (i:=3) (j:=5) (Ni:=some 20) (Nj:=some 5) #[true,true,true,true,false,false,false] #[true,true,true,false,false,true,false] rfl rfl rfl rfl (by kernel_rfl) (by decide) (by decide) (fun K hK => ?_) (fun K hK => ?_)
 {
 skip
 refine goes_ Try.func62 (by kernel_rfl) rfl #[.agg #[.slice A0_0 l0_0.length c0_0,.slice A0_1 l0_1.length c0_1],.int .i64 x4_1] (by rfl) rfl rfl aX ?_
 with_reducible refine(spec_l03Names.calls k1 _ _ l0_0 _ _ l0_1 x4_1 t377 _ ?side1 ?side2 ?side3 ?side4 A17.out).mono ?_
 (case side1=>exact cX (Kd.C_below HR0_0.out HB.out))
 (case side2=>exact HC0_0.out)
 (case side3=>exact cX (Kd.C_below HR0_1.out HB.out))
 (case side4=>exact HC0_1.out)
 rintro e w49 ⟨v378,rfl,ho0,hb⟩
 refine ⟨_,rfl,?_⟩
 have HO379:=aM (Kd.R_lower (Kd.R_new' (Kd.R_new' ho0 (Kd.R_lt (rX HO_377000.out))) (Kd.R_lt (rX HO_377001.out))) (below_size (bX3 HB.out GE365.out GE366.out GE376.out)))
 replace HO_377000:=aM (Kd.R_elder' (rX HO_377000.out) (Kd.R_base ho0) hb)
 replace HO_377001:=aM (Kd.R_elder' (rX HO_377001.out) (Kd.R_base ho0) hb)
 replace BK365:=aM (bbX BK365.out hb)
 replace BK366:=aM (bbX BK366.out hb)
 replace BK376:=aM (bbX BK376.out hb)
 replace HB:=aM (below_step (bX3 HB.out GE365.out GE366.out GE376.out) hb)
 (try clear hb)
 (try clear hk)
 (try clear ho0)
 obtain ⟨Ao50,co50,eo50⟩:=Kd.R_slice HO379.out
 (first|subst eo50|(injection eo50 with f1_ f2_ f3_;have f4_:=f1_.symm;have f5_:=f3_.symm;clear f1_ f2_ f3_;subst f4_;subst f5_))
 refine hK.out _ _ ⟨cz20 BK365.out,cz21 BK365.out⟩ (fun hHeld => ?_)
 clear hK K
 refine norm_ (a':=?_) ?_ ?_
 rotate_left
 {
 show Act.put _ (some 20) _=_
 simp only [Act.put,zA,zB,zC,i64_w,i32_w]
 rfl
 }
 refine two_ (i:=4) (j:=5) (Ni:=some 21) (Nj:=some 5) #[true,true,true,true,true,false,false] #[true,true,true,true,false,true,false] rfl rfl rfl rfl (by kernel_rfl) (by decide) (by decide) (fun K hK => ?_) (fun K hK => ?_)
 {
 skip
 refine goes_ Try.func61 (by kernel_rfl) rfl #[.agg #[.slice A0_0 l0_0.length c0_0,.slice A0_1 l0_1.length c0_1],.slice Ao50 t377.length co50] (by rfl) rfl rfl aX ?_
 with_reducible refine(spec_l03Rename.calls k1 _ _ l0_0 _ _ l0_1 _ _ t377 t380 t383 _ ?side1 ?side2 ?side3 ?side4 ?side5 ?side6 A18.out).mono ?_
 (case side1=>exact cX (Kd.C_below HR0_0.out HB.out))
 (case side2=>exact HC0_0.out)
 (case side3=>exact cX (Kd.C_below HR0_1.out HB.out))
 (case side4=>exact HC0_1.out)
 (case side5=>exact cX (Kd.R_reads' HO379.out).2.2)
 (case side6=>exact(Kd.R_reads' HO379.out).2.1)
 rintro e w51 ⟨v381,v384,rfl,ho0,ho1,hb⟩
 refine ⟨_,rfl,?_⟩
 have HO382:=aM (Kd.R_lower (Kd.R_new' (Kd.R_new' (Kd.R_new' ho0 (Kd.R_lt (rX HO_377000.out))) (Kd.R_lt (rX HO_377001.out))) (Kd.R_lt (rX HO379.out))) (below_size (bX3 HB.out GE365.out GE366.out GE376.out)))
 have HO385:=aM (Kd.R_lower (Kd.R_new' (Kd.R_new' (Kd.R_new' ho1 (Kd.R_lt (rX HO_377000.out))) (Kd.R_lt (rX HO_377001.out))) (Kd.R_lt (rX HO379.out))) (below_size (bX3 HB.out GE365.out GE366.out GE376.out)))
 replace HO_377000:=aM (Kd.R_mono (Kd.R_told (Kd.R_told (Kd.R_old (rX HO_377000.out) hb) (Kd.R_base ho0)) (Kd.R_base ho1)) (fun _ h_=>h_.1))
 replace HO_377001:=aM (Kd.R_mono (Kd.R_told (Kd.R_told (Kd.R_old (rX HO_377001.out) hb) (Kd.R_base ho0)) (Kd.R_base ho1)) (fun _ h_=>h_.1))
 replace HO379:=aM (Kd.R_mono (Kd.R_told (Kd.R_told (Kd.R_old (rX HO379.out) hb) (Kd.R_base ho0)) (Kd.R_base ho1)) (fun _ h_=>h_.1))
 replace BK365:=aM (bbX BK365.out hb)
 replace BK366:=aM (bbX BK366.out hb)
 replace BK376:=aM (bbX BK376.out hb)
 replace HB:=aM (below_step (bX3 HB.out GE365.out GE366.out GE376.out) hb)
 (try clear hb)
 (try clear hk)
 (try clear ho0)
 (try clear ho1)
 refine hK.out _ _ ⟨cz20 BK365.out,cz21 BK365.out⟩ (fun hHeld => ?_)
 clear hK K
 refine norm_ (a':=?_) ?_ ?_
 rotate_left
 {
 show Act.put _ (some 21) _=_
 simp only [Act.put,zA,zB,zC,i64_w,i32_w]
 rfl
 }
 refine one_ (i:=5) (N:=some 5) #[true,true,true,true,true,true,false] rfl rfl (by kernel_rfl) (by decide) (fun K hK => ?_)
 refine box_step ?hg (N:=5) ?hd (cs:=#[.slice none 0 0,.slice none 0 0]) (t:=27) ?hr ?_;(case hd=>rfl);(case hg=>rfl);(case hr=>first|(go_simp;done)|(go_simp;rfl))
 intro gb386 hg w52 hbox hb
 replace HO_377000:=aM (Kd.R_below (rX HO_377000.out) hb)
 replace HO_377001:=aM (Kd.R_below (rX HO_377001.out) hb)
 replace HO379:=aM (Kd.R_below (rX HO379.out) hb)
 replace HO382:=aM (Kd.R_below (rX HO382.out) hb)
 replace HO385:=aM (Kd.R_below (rX HO385.out) hb)
 have BK386:=aM (hbox)
 have GW386:=aM ((szX (below_size (bX3 HB.out GE365.out GE366.out GE376.out)) hg:w.heap.size≤gb386))
 have GE386:=GW386
 replace HB:=aM (below_step (bX3 HB.out GE365.out GE366.out GE376.out) hb)
 have NB365_386:=aM (neX BK365.out hg)
 have NB386_365:=aM (nfX BK365.out hg)
 replace BK365:=aM (bbX BK365.out hb)
 have NB366_386:=aM (neX BK366.out hg)
 have NB386_366:=aM (nfX BK366.out hg)
 replace BK366:=aM (bbX BK366.out hb)
 have NB376_386:=aM (neX BK376.out hg)
 have NB386_376:=aM (nfX BK376.out hg)
 replace BK376:=aM (bbX BK376.out hb)
 clear hb hbox hg
 refine hK.out _ _ ⟨cz20 BK365.out,cz21 BK365.out⟩ (fun hHeld => ?_)
 clear hK K
 refine norm_ (a':=?_) ?_ ?_
 rotate_left
 {
 show Act.put _ (some 5) _=_
 simp only [Act.put,zA,zB,zC,i64_w,i32_w]
 rfl
 }
 exact norm_ (by simp only [putAll,Act.put,List.setIfInBounds_toArray,List.set_cons_zero,List.set_cons_succ]) (hCont (.slice Ao50 t377.length co50,v381,v384,gb386) _ ⟨hHeld,(rM HO379.out (fun _ hk=>⟨hk.1.2,⟨hk.2,⟨hk.1.1.1.2,hk.1.1.2⟩⟩⟩)),(rM HO382.out (fun _ hk=>⟨hk.2,⟨hk.1.1.1,⟨hk.1.1.2,hk.1.2⟩⟩⟩)),(rM HO385.out (fun _ hk=>⟨hk.2,⟨hk.1.1.1,⟨hk.1.1.2,hk.1.2⟩⟩⟩)),(rM HO_377000.out (fun _ hk=>⟨hk.1.1.2,⟨hk.1.2,⟨hk.2,hk.1.1.1⟩⟩⟩)),(rM HO_377001.out (fun _ hk=>⟨hk.1.1.2,⟨hk.1.2,⟨hk.2,hk.1.1.1⟩⟩⟩)),(kX BK365.out),(kX BK366.out),(kX BK376.out),(kX BK386.out),GW386.out,GE386.out,NB365_386.out,NB386_365.out,NB366_386.out,NB386_366.out,NB376_386.out,NB386_376.out,(by repeat(first|(with_reducible first|exact HB.out|apply bA|apply bN|apply bD|refine below_set ?_ GE365.out|refine below_set ?_ GE366.out|refine below_set ?_ GE376.out|refine below_set ?_ GE386.out)|exact HB.out))⟩)
 }
 {
 skip
 refine box_step ?hg (N:=5) ?hd (cs:=#[.slice none 0 0,.slice none 0 0]) (t:=27) ?hr ?_;(case hd=>rfl);(case hg=>rfl);(case hr=>first|(go_simp;done)|(go_simp;rfl))
 intro gb386 hg w50 hbox hb
 replace HO_377000:=aM (Kd.R_below (rX HO_377000.out) hb)
 replace HO_377001:=aM (Kd.R_below (rX HO_377001.out) hb)
 replace HO379:=aM (Kd.R_below (rX HO379.out) hb)
 have BK386:=aM (hbox)
 have GW386:=aM ((szX (below_size (bX3 HB.out GE365.out GE366.out GE376.out)) hg:w.heap.size≤gb386))
 have GE386:=GW386
 replace HB:=aM (below_step (bX3 HB.out GE365.out GE366.out GE376.out) hb)
 have NB365_386:=aM (neX BK365.out hg)
 have NB386_365:=aM (nfX BK365.out hg)
 replace BK365:=aM (bbX BK365.out hb)
 have NB366_386:=aM (neX BK366.out hg)
 have NB386_366:=aM (nfX BK366.out hg)
 replace BK366:=aM (bbX BK366.out hb)
 have NB376_386:=aM (neX BK376.out hg)
 have NB386_376:=aM (nfX BK376.out hg)
 replace BK376:=aM (bbX BK376.out hb)
 clear hb hbox hg
 obtain ⟨Ao51,co51,eo51⟩:=Kd.R_slice HO379.out
 (first|subst eo51|(injection eo51 with f1_ f2_ f3_;have f4_:=f1_.symm;have f5_:=f3_.symm;clear f1_ f2_ f3_;subst f4_;subst f5_))
 refine hK.out _ _ ⟨cz20 BK365.out,cz21 BK365.out⟩ (fun hHeld => ?_)
 clear hK K
 refine norm_ (a':=?_) ?_ ?_
 rotate_left
 {
 show Act.put _ (some 5) _=_
 simp only [Act.put,zA,zB,zC,i64_w,i32_w]
 rfl
 }
 refine one_ (i:=4) (N:=some 21) #[true,true,true,true,true,true,false] rfl rfl (by kernel_rfl) (by decide) (fun K hK => ?_)
 refine goes_ Try.func61 (by kernel_rfl) rfl #[.agg #[.slice A0_0 l0_0.length c0_0,.slice A0_1 l0_1.length c0_1],.slice Ao51 t377.length co51] (by rfl) rfl rfl aX ?_
 with_reducible refine(spec_l03Rename.calls k1 _ _ l0_0 _ _ l0_1 _ _ t377 t380 t383 _ ?side1 ?side2 ?side3 ?side4 ?side5 ?side6 A18.out).mono ?_
 (case side1=>exact cX (Kd.C_below HR0_0.out HB.out))
 (case side2=>exact HC0_0.out)
 (case side3=>exact cX (Kd.C_below HR0_1.out HB.out))
 (case side4=>exact HC0_1.out)
 (case side5=>exact cX (Kd.R_reads' HO379.out).2.2)
 (case side6=>exact(Kd.R_reads' HO379.out).2.1)
 rintro e w52 ⟨v381,v384,rfl,ho0,ho1,hb⟩
 refine ⟨_,rfl,?_⟩
 have HO382:=aM (Kd.R_lower (Kd.R_new' (Kd.R_new' (Kd.R_new' ho0 (Kd.R_lt (rX HO_377000.out))) (Kd.R_lt (rX HO_377001.out))) (Kd.R_lt (rX HO379.out))) (below_size (by repeat(first|(with_reducible first|exact HB.out|apply bA|apply bN|apply bD|refine below_set ?_ GE365.out|refine below_set ?_ GE366.out|refine below_set ?_ GE376.out|refine below_set ?_ GE386.out)|exact HB.out))))
 have HO385:=aM (Kd.R_lower (Kd.R_new' (Kd.R_new' (Kd.R_new' ho1 (Kd.R_lt (rX HO_377000.out))) (Kd.R_lt (rX HO_377001.out))) (Kd.R_lt (rX HO379.out))) (below_size (by repeat(first|(with_reducible first|exact HB.out|apply bA|apply bN|apply bD|refine below_set ?_ GE365.out|refine below_set ?_ GE366.out|refine below_set ?_ GE376.out|refine below_set ?_ GE386.out)|exact HB.out))))
 replace HO_377000:=aM (Kd.R_mono (Kd.R_told (Kd.R_told (Kd.R_old (rX HO_377000.out) hb) (Kd.R_base ho0)) (Kd.R_base ho1)) (fun _ h_=>h_.1))
 replace HO_377001:=aM (Kd.R_mono (Kd.R_told (Kd.R_told (Kd.R_old (rX HO_377001.out) hb) (Kd.R_base ho0)) (Kd.R_base ho1)) (fun _ h_=>h_.1))
 replace HO379:=aM (Kd.R_mono (Kd.R_told (Kd.R_told (Kd.R_old (rX HO379.out) hb) (Kd.R_base ho0)) (Kd.R_base ho1)) (fun _ h_=>h_.1))
 replace BK365:=aM (bbX BK365.out hb)
 replace BK366:=aM (bbX BK366.out hb)
 replace BK376:=aM (bbX BK376.out hb)
 replace BK386:=aM (bbX BK386.out hb)
 replace HB:=aM (below_step (by repeat(first|(with_reducible first|exact HB.out|apply bA|apply bN|apply bD|refine below_set ?_ GE365.out|refine below_set ?_ GE366.out|refine below_set ?_ GE376.out|refine below_set ?_ GE386.out)|exact HB.out)) hb)
 (try clear hb)
 (try clear hk)
 (try clear ho0)
 (try clear ho1)
 refine hK.out _ _ ⟨cz20 BK365.out,cz21 BK365.out⟩ (fun hHeld => ?_)
 clear hK K
 refine norm_ (a':=?_) ?_ ?_
 rotate_left
 {
 show Act.put _ (some 21) _=_
 simp only [Act.put,zA,zB,zC,i64_w,i32_w]
 rfl
 }
 exact norm_ (by simp only [putAll,Act.put,List.setIfInBounds_toArray,List.set_cons_zero,List.set_cons_succ]) (hCont (.slice Ao51 t377.length co51,v381,v384,gb386) _ ⟨hHeld,(rM HO379.out (fun _ hk=>⟨hk.1.2,⟨hk.2,⟨hk.1.1.1.2,hk.1.1.2⟩⟩⟩)),(rM HO382.out (fun _ hk=>⟨hk.2,⟨hk.1.1.1,⟨hk.1.1.2,hk.1.2⟩⟩⟩)),(rM HO385.out (fun _ hk=>⟨hk.2,⟨hk.1.1.1,⟨hk.1.1.2,hk.1.2⟩⟩⟩)),(rM HO_377000.out (fun _ hk=>⟨hk.1.1.2,⟨hk.1.2,⟨hk.2,hk.1.1.1⟩⟩⟩)),(rM HO_377001.out (fun _ hk=>⟨hk.1.1.2,⟨hk.1.2,⟨hk.2,hk.1.1.1⟩⟩⟩)),(kX BK365.out),(kX BK366.out),(kX BK376.out),(kX BK386.out),GW386.out,GE386.out,NB365_386.out,NB386_365.out,NB366_386.out,NB386_366.out,NB376_386.out,NB386_376.out,(by repeat(first|(with_reducible first|exact HB.out|apply bA|apply bN|apply bD|refine below_set ?_ GE365.out|refine below_set ?_ GE366.out|refine below_set ?_ GE376.out|refine below_set ?_ GE386.out)|exact HB.out))⟩)
 }
 }
 {
 skip
 refine box_step ?hg (N:=5) ?hd (cs:=#[.slice none 0 0,.slice none 0 0]) (t:=27) ?hr ?_;(case hd=>rfl);(case hg=>rfl);(case hr=>first|(go_simp;done)|(go_simp;rfl))
 intro gb386 hg w49 hbox hb
 replace HO_377000:=aM (Kd.R_below (rX HO_377000.out) hb)
 replace HO_377001:=aM (Kd.R_below (rX HO_377001.out) hb)
 have BK386:=aM (hbox)
 have GW386:=aM ((szX (below_size (bX3 HB.out GE365.out GE366.out GE376.out)) hg:w.heap.size≤gb386))
 have GE386:=GW386
 replace HB:=aM (below_step (bX3 HB.out GE365.out GE366.out GE376.out) hb)
 have NB365_386:=aM (neX BK365.out hg)
 have NB386_365:=aM (nfX BK365.out hg)
 replace BK365:=aM (bbX BK365.out hb)
 have NB366_386:=aM (neX BK366.out hg)
 have NB386_366:=aM (nfX BK366.out hg)
 replace BK366:=aM (bbX BK366.out hb)
 have NB376_386:=aM (neX BK376.out hg)
 have NB386_376:=aM (nfX BK376.out hg)
 replace BK376:=aM (bbX BK376.out hb)
 clear hb hbox hg
 refine hK.out _ _ ⟨cz20 BK365.out,cz21 BK365.out⟩ (fun hHeld => ?_)
 clear hK K
 refine norm_ (a':=?_) ?_ ?_
 rotate_left
 {
 show Act.put _ (some 5) _=_
 simp only [Act.put,zA,zB,zC,i64_w,i32_w]
 rfl
 }
 refine one_ (i:=3) (N:=some 20) #[true,true,true,true,false,true,false] rfl rfl (by kernel_rfl) (by decide) (fun K hK => ?_)
 refine goes_ Try.func62 (by kernel_rfl) rfl #[.agg #[.slice A0_0 l0_0.length c0_0,.slice A0_1 l0_1.length c0_1],.int .i64 x4_1] (by rfl) rfl rfl aX ?_
 with_reducible refine(spec_l03Names.calls k1 _ _ l0_0 _ _ l0_1 x4_1 t377 _ ?side1 ?side2 ?side3 ?side4 A17.out).mono ?_
 (case side1=>exact cX (Kd.C_below HR0_0.out HB.out))
 (case side2=>exact HC0_0.out)
 (case side3=>exact cX (Kd.C_below HR0_1.out HB.out))
 (case side4=>exact HC0_1.out)
 rintro e w50 ⟨v378,rfl,ho0,hb⟩
 refine ⟨_,rfl,?_⟩
 have HO379:=aM (Kd.R_lower (Kd.R_new' (Kd.R_new' ho0 (Kd.R_lt (rX HO_377000.out))) (Kd.R_lt (rX HO_377001.out))) (below_size (by repeat(first|(with_reducible first|exact HB.out|apply bA|apply bN|apply bD|refine below_set ?_ GE365.out|refine below_set ?_ GE366.out|refine below_set ?_ GE376.out|refine below_set ?_ GE386.out)|exact HB.out))))
 replace HO_377000:=aM (Kd.R_elder' (rX HO_377000.out) (Kd.R_base ho0) hb)
 replace HO_377001:=aM (Kd.R_elder' (rX HO_377001.out) (Kd.R_base ho0) hb)
 replace BK365:=aM (bbX BK365.out hb)
 replace BK366:=aM (bbX BK366.out hb)
 replace BK376:=aM (bbX BK376.out hb)
 replace BK386:=aM (bbX BK386.out hb)
 replace HB:=aM (below_step (by repeat(first|(with_reducible first|exact HB.out|apply bA|apply bN|apply bD|refine below_set ?_ GE365.out|refine below_set ?_ GE366.out|refine below_set ?_ GE376.out|refine below_set ?_ GE386.out)|exact HB.out)) hb)
 (try clear hb)
 (try clear hk)
 (try clear ho0)
 obtain ⟨Ao51,co51,eo51⟩:=Kd.R_slice HO379.out
 (first|subst eo51|(injection eo51 with f1_ f2_ f3_;have f4_:=f1_.symm;have f5_:=f3_.symm;clear f1_ f2_ f3_;subst f4_;subst f5_))
 refine hK.out _ _ ⟨cz20 BK365.out,cz21 BK365.out⟩ (fun hHeld => ?_)
 clear hK K
 refine norm_ (a':=?_) ?_ ?_
 rotate_left
 {
 show Act.put _ (some 20) _=_
 simp only [Act.put,zA,zB,zC,i64_w,i32_w]
 rfl
 }
 refine one_ (i:=4) (N:=some 21) #[true,true,true,true,true,true,false] rfl rfl (by kernel_rfl) (by decide) (fun K hK => ?_)
 refine goes_ Try.func61 (by kernel_rfl) rfl #[.agg #[.slice A0_0 l0_0.length c0_0,.slice A0_1 l0_1.length c0_1],.slice Ao51 t377.length co51] (by rfl) rfl rfl aX ?_
 with_reducible refine(spec_l03Rename.calls k1 _ _ l0_0 _ _ l0_1 _ _ t377 t380 t383 _ ?side1 ?side2 ?side3 ?side4 ?side5 ?side6 A18.out).mono ?_
 (case side1=>exact cX (Kd.C_below HR0_0.out HB.out))
 (case side2=>exact HC0_0.out)
 (case side3=>exact cX (Kd.C_below HR0_1.out HB.out))
 (case side4=>exact HC0_1.out)
 (case side5=>exact cX (Kd.R_reads' HO379.out).2.2)
 (case side6=>exact(Kd.R_reads' HO379.out).2.1)
 rintro e w52 ⟨v381,v384,rfl,ho0,ho1,hb⟩
 refine ⟨_,rfl,?_⟩
 have HO382:=aM (Kd.R_lower (Kd.R_new' (Kd.R_new' (Kd.R_new' ho0 (Kd.R_lt (rX HO_377000.out))) (Kd.R_lt (rX HO_377001.out))) (Kd.R_lt (rX HO379.out))) (below_size (by repeat(first|(with_reducible first|exact HB.out|apply bA|apply bN|apply bD|refine below_set ?_ GE365.out|refine below_set ?_ GE366.out|refine below_set ?_ GE376.out|refine below_set ?_ GE386.out)|exact HB.out))))
 have HO385:=aM (Kd.R_lower (Kd.R_new' (Kd.R_new' (Kd.R_new' ho1 (Kd.R_lt (rX HO_377000.out))) (Kd.R_lt (rX HO_377001.out))) (Kd.R_lt (rX HO379.out))) (below_size (by repeat(first|(with_reducible first|exact HB.out|apply bA|apply bN|apply bD|refine below_set ?_ GE365.out|refine below_set ?_ GE366.out|refine below_set ?_ GE376.out|refine below_set ?_ GE386.out)|exact HB.out))))
 replace HO_377000:=aM (Kd.R_mono (Kd.R_told (Kd.R_told (Kd.R_old (rX HO_377000.out) hb) (Kd.R_base ho0)) (Kd.R_base ho1)) (fun _ h_=>h_.1))
 replace HO_377001:=aM (Kd.R_mono (Kd.R_told (Kd.R_told (Kd.R_old (rX HO_377001.out) hb) (Kd.R_base ho0)) (Kd.R_base ho1)) (fun _ h_=>h_.1))
 replace HO379:=aM (Kd.R_mono (Kd.R_told (Kd.R_told (Kd.R_old (rX HO379.out) hb) (Kd.R_base ho0)) (Kd.R_base ho1)) (fun _ h_=>h_.1))
 replace BK365:=aM (bbX BK365.out hb)
 replace BK366:=aM (bbX BK366.out hb)
 replace BK376:=aM (bbX BK376.out hb)
 replace BK386:=aM (bbX BK386.out hb)
 replace HB:=aM (below_step (by repeat(first|(with_reducible first|exact HB.out|apply bA|apply bN|apply bD|refine below_set ?_ GE365.out|refine below_set ?_ GE366.out|refine below_set ?_ GE376.out|refine below_set ?_ GE386.out)|exact HB.out)) hb)
 (try clear hb)
 (try clear hk)
 (try clear ho0)
 (try clear ho1)
 refine hK.out _ _ ⟨cz20 BK365.out,cz21 BK365.out⟩ (fun hHeld => ?_)
 clear hK K
 refine norm_ (a':=?_) ?_ ?_
 rotate_left
 {
 show Act.put _ (some 21) _=_
 simp only [Act.put,zA,zB,zC,i64_w,i32_w]
 rfl
 }
 exact norm_ (by simp only [putAll,Act.put,List.setIfInBounds_toArray,List.set_cons_zero,List.set_cons_succ]) (hCont (.slice Ao51 t377.length co51,v381,v384,gb386) _ ⟨hHeld,(rM HO379.out (fun _ hk=>⟨hk.1.2,⟨hk.2,⟨hk.1.1.1.2,hk.1.1.2⟩⟩⟩)),(rM HO382.out (fun _ hk=>⟨hk.2,⟨hk.1.1.1,⟨hk.1.1.2,hk.1.2⟩⟩⟩)),(rM HO385.out (fun _ hk=>⟨hk.2,⟨hk.1.1.1,⟨hk.1.1.2,hk.1.2⟩⟩⟩)),(rM HO_377000.out (fun _ hk=>⟨hk.1.1.2,⟨hk.1.2,⟨hk.2,hk.1.1.1⟩⟩⟩)),(rM HO_377001.out (fun _ hk=>⟨hk.1.1.2,⟨hk.1.2,⟨hk.2,hk.1.1.1⟩⟩⟩)),(kX BK365.out),(kX BK366.out),(kX BK376.out),(kX BK386.out),GW386.out,GE386.out,NB365_386.out,NB386_365.out,NB366_386.out,NB386_366.out,NB376_386.out,NB386_376.out,(by repeat(first|(with_reducible first|exact HB.out|apply bA|apply bN|apply bD|refine below_set ?_ GE365.out|refine below_set ?_ GE366.out|refine below_set ?_ GE376.out|refine below_set ?_ GE386.out)|exact HB.out))⟩)
 }
 }
 rintro ⟨v378,v381,v384,gb386⟩ w53 ⟨hS_,h0_,h1_,h2_,h3_,h4_,h5_,h6_,h7_,h8_,h9_,h10_,h11_,h12_,h13_,h14_,h15_,h16_,h17_⟩
 have n0_:Aside0 (Kd.R (Kd.int .i64) 3 w53 w.heap.size (fun k_=>some k_≠(v381:Value).ownBlock∧some k_≠(v384:Value).ownBlock∧some k_≠(u377000:Value).ownBlock∧some k_≠(u377001:Value).ownBlock) v378 t377):=⟨h0_⟩
 have n1_:Aside0 (Kd.R (Kd.int .i64) 3 w53 w.heap.size (fun k_=>some k_≠(v378:Value).ownBlock∧some k_≠(v384:Value).ownBlock∧some k_≠(u377000:Value).ownBlock∧some k_≠(u377001:Value).ownBlock) v381 t380):=⟨h1_⟩
 have n2_:Aside0 (Kd.R (Kd.int .i64) 3 w53 w.heap.size (fun k_=>some k_≠(v378:Value).ownBlock∧some k_≠(v381:Value).ownBlock∧some k_≠(u377000:Value).ownBlock∧some k_≠(u377001:Value).ownBlock) v384 t383):=⟨h2_⟩
 have n3_:Aside0 (Kd.R (Kd.int .i64) 3 w53 w.heap.size (fun k_=>some k_≠(v378:Value).ownBlock∧some k_≠(v381:Value).ownBlock∧some k_≠(v384:Value).ownBlock∧some k_≠(u377001:Value).ownBlock) u377000 x377000_1):=⟨h3_⟩
 have n4_:Aside0 (Kd.R (Kd.int .i64) 3 w53 w.heap.size (fun k_=>some k_≠(v378:Value).ownBlock∧some k_≠(v381:Value).ownBlock∧some k_≠(v384:Value).ownBlock∧some k_≠(u377000:Value).ownBlock) u377001 x377001_1):=⟨h4_⟩
 have n5_:Aside0 (w53.heap[gb365]? = some (.cells #[.slice A0_0 l0_0.length c0_0,.slice A0_1 l0_1.length c0_1] 27 (0,0))):=⟨h5_⟩
 have n6_:Aside0 (w53.heap[gb366]? = some (.cells #[.slice none 0 0,.slice none 0 0] 27 (0,0))):=⟨h6_⟩
 have n7_:Aside0 (w53.heap[gb376]? = some (.cells #[u377000,u377001] 27 (0,0))):=⟨h7_⟩
 have n8_:Aside0 (w53.heap[gb386]? = some (.cells #[.slice none 0 0,.slice none 0 0] 27 (0,0))):=⟨h8_⟩
 have n9_:Aside0 (w.heap.size≤gb386):=⟨h9_⟩
 have n10_:Aside0 (w.heap.size≤gb386):=⟨h10_⟩
 have n11_:Aside0 (gb365≠gb386):=⟨h11_⟩
 have n12_:Aside0 (gb386≠gb365):=⟨h12_⟩
 have n13_:Aside0 (gb366≠gb386):=⟨h13_⟩
 have n14_:Aside0 (gb386≠gb366):=⟨h14_⟩
 have n15_:Aside0 (gb376≠gb386):=⟨h15_⟩
 have n16_:Aside0 (gb386≠gb376):=⟨h16_⟩
 have n17_:Aside0 (Below w.heap.size w w53):=⟨h17_⟩
 clear HO_377000 HO_377001 BK365 BK366 BK376 HB h0_ h1_ h2_ h3_ h4_ h5_ h6_ h7_ h8_ h9_ h10_ h11_ h12_ h13_ h14_ h15_ h16_ h17_
 have HO379:=n0_
 have HO382:=n1_
 have HO385:=n2_
 have HO_377000:=n3_
 have HO_377001:=n4_
 have BK365:=n5_
 have BK366:=n6_
 have BK376:=n7_
 have BK386:=n8_
 have GW386:=n9_
 have GE386:=n10_
 have NB365_386:=n11_
 have NB386_365:=n12_
 have NB366_386:=n13_
 have NB386_366:=n14_
 have NB376_386:=n15_
 have NB386_376:=n16_
 have HB:=n17_
 clear n0_ n1_ n2_ n3_ n4_ n5_ n6_ n7_ n8_ n9_ n10_ n11_ n12_ n13_ n14_ n15_ n16_ n17_
 have hHeld:w53.cell? ⟨gb365,0,none⟩=some (.slice A0_0 l0_0.length c0_0)∧w53.cell? ⟨gb365,1,none⟩=some (.slice A0_1 l0_1.length c0_1):=hS_
 obtain ⟨Ao54,co54,eo54⟩:=Kd.R_slice HO382.out
 (first|subst eo54|(injection eo54 with f1_ f2_ f3_;have f4_:=f1_.symm;have f5_:=f3_.symm;clear f1_ f2_ f3_;subst f4_;subst f5_))
 obtain ⟨Ao56,co56,eo56⟩:=Kd.R_slice HO385.out
 (first|subst eo56|(injection eo56 with f1_ f2_ f3_;have f4_:=f1_.symm;have f5_:=f3_.symm;clear f1_ f2_ f3_;subst f4_;subst f5_))
 refine norm_ (a':=?_) ?_ ?_
 rotate_left
 {
 simp only [putAll,Act.put,List.setIfInBounds_toArray,List.set_cons_zero,List.set_cons_succ]
 rfl
 }
 refine one_ (i:=6) (N:=none) #[true,true,true,true,true,true,true] rfl rfl (by kernel_rfl) (by decide) (fun K hK => ?_)
 have hs55:w53.cell? ⟨gb386,0,none⟩=some (.slice none 0 0):=cz20 BK386.out
 have hfs55:=blk_frozen BK386.out 0
 have hns55_0:=NB365_386.out
 have hns55_1:=NB366_386.out
 have hns55_2:=NB376_386.out
 have hms55_0:=NB386_365.out
 have hms55_1:=NB386_366.out
 have hms55_2:=NB386_376.out
 have hs57:w53.cell? ⟨gb386,1,none⟩=some (.slice none 0 0):=cz21 BK386.out
 have hfs57:=blk_frozen BK386.out 1
 have hns57_0:=NB365_386.out
 have hns57_1:=NB366_386.out
 have hns57_2:=NB376_386.out
 have hms57_0:=NB386_365.out
 have hms57_1:=NB386_366.out
 have hms57_2:=NB386_376.out
 refine skip_ (w1:=?_) (by rfl) rfl ?_ ?_
 rotate_left
 {
 go_simp
 rfl
 }
 refine hK.out _ _ ⟨((cell_far (p:=⟨gb386,_,none⟩) NB365_386.out _).trans (((cell_far (p:=⟨gb386,_,none⟩) NB365_386.out _).trans (hHeld.1)))),((cell_far (p:=⟨gb386,_,none⟩) NB365_386.out _).trans (((cell_far (p:=⟨gb386,_,none⟩) NB365_386.out _).trans (hHeld.2))))⟩ (fun hHeld => ?_)
 clear hK K
 refine done_ (by kernel_rfl) ?_
 have hnb58:=NB386_365.out
 have hnc58:=NB365_386.out
 have hnb59:=NB386_366.out
 have hnc59:=NB366_386.out
 have hnb60:=NB386_376.out
 have hnc60:=NB376_386.out
 obtain ⟨hcz61_0,hcz61_1,hfz61_0,hfz61_1⟩:=f2Z BK386.out
 have hnb62:=NB376_366.out
 have hnc62:=NB366_376.out
 obtain ⟨hcz63_0,hcz63_1,hfz63_0,hfz63_1⟩:=f2Z BK376.out
 obtain ⟨Ao64,co64,eo64⟩:=Kd.R_slice HO_377000.out
 subst eo64
 obtain ⟨Ao65,co65,eo65⟩:=Kd.R_slice HO_377001.out
 subst eo65
 try go_wp2_with (first|((with_reducible refine gate_callee (f:=63) rfl ?_);refine goesL_ (some 24) rfl rfl Try.func63 (by kernel_rfl) rfl #[.agg #[.slice Ao54 t380.length co54,.slice Ao56 t383.length co56],.agg #[.slice Ao64 x377000_1.length co64,.slice Ao65 x377001_1.length co65]] rfl aX ?_;(with_reducible refine(spec_l03Before.calls k1 _ _ t380 _ _ t383 _ _ x377000_1 _ _ x377001_1 false _ ?side1 ?side2 ?side3 ?side4 ?side5 ?side6 ?side7 ?side8 A19.out).mono ?_);(case side1=>exact rcX (fr2 HO382.out BK386.out (.slice Ao54 t380.length co54) (.slice Ao56 t383.length co56)));(case side2=>exact(Kd.R_reads' HO382.out).2.1);(case side3=>exact rcX (fr2 HO385.out BK386.out (.slice Ao54 t380.length co54) (.slice Ao56 t383.length co56)));(case side4=>exact(Kd.R_reads' HO385.out).2.1);(case side5=>exact rcX (fr2 HO_377000.out BK386.out (.slice Ao54 t380.length co54) (.slice Ao56 t383.length co56)));(case side6=>exact(Kd.R_reads' HO_377000.out).2.1);(case side7=>exact rcX (fr2 HO_377001.out BK386.out (.slice Ao54 t380.length co54) (.slice Ao56 t383.length co56)));(case side8=>exact(Kd.R_reads' HO_377001.out).2.1);rintro e w66 ⟨rfl,hb⟩;refine ⟨_,rfl,?_⟩;replace HO_377000:=aM (Kd.R_below (rX (fr2 HO_377000.out BK386.out (.slice Ao54 t380.length co54) (.slice Ao56 t383.length co56))) hb);replace HO_377001:=aM (Kd.R_below (rX (fr2 HO_377001.out BK386.out (.slice Ao54 t380.length co54) (.slice Ao56 t383.length co56))) hb);replace HO379:=aM (Kd.R_below (rX (fr2 HO379.out BK386.out (.slice Ao54 t380.length co54) (.slice Ao56 t383.length co56))) hb);replace HO382:=aM (Kd.R_below (rX (fr2 HO382.out BK386.out (.slice Ao54 t380.length co54) (.slice Ao56 t383.length co56))) hb);replace HO385:=aM (Kd.R_below (rX (fr2 HO385.out BK386.out (.slice Ao54 t380.length co54) (.slice Ao56 t383.length co56))) hb);replace BK365:=aM (blk_below (g:=gb365) (o:=.cells #[.slice A0_0 l0_0.length c0_0,.slice A0_1 l0_1.length c0_1] 27 (0,0)) (by(with_reducible repeat(first|refine kN ?_ _|refine kD ?_|refine kA ?_ _));refine blk_far ?_ NB365_386.out _;(with_reducible repeat(first|refine kN ?_ _|refine kD ?_|refine kA ?_ _));refine blk_far ?_ NB365_386.out _;(with_reducible repeat(first|refine kN ?_ _|refine kD ?_|refine kA ?_ _));exact BK365.out) hb);replace BK366:=aM (blk_below (g:=gb366) (o:=.cells #[.slice none 0 0,.slice none 0 0] 27 (0,0)) (by(with_reducible repeat(first|refine kN ?_ _|refine kD ?_|refine kA ?_ _));refine blk_far ?_ NB366_386.out _;(with_reducible repeat(first|refine kN ?_ _|refine kD ?_|refine kA ?_ _));refine blk_far ?_ NB366_386.out _;(with_reducible repeat(first|refine kN ?_ _|refine kD ?_|refine kA ?_ _));exact BK366.out) hb);replace BK376:=aM (blk_below (g:=gb376) (o:=.cells #[.slice Ao64 x377000_1.length co64,.slice Ao65 x377001_1.length co65] 27 (0,0)) (by(with_reducible repeat(first|refine kN ?_ _|refine kD ?_|refine kA ?_ _));refine blk_far ?_ NB376_386.out _;(with_reducible repeat(first|refine kN ?_ _|refine kD ?_|refine kA ?_ _));refine blk_far ?_ NB376_386.out _;(with_reducible repeat(first|refine kN ?_ _|refine kD ?_|refine kA ?_ _));exact BK376.out) hb);replace BK386:=aM (blk_below (g:=gb386) (o:=.cells #[.slice Ao54 t380.length co54,.slice Ao56 t383.length co56] 27 (0,0)) (by(with_reducible repeat(first|refine kN ?_ _|refine kD ?_|refine kA ?_ _));refine blk_put (cs:=#[.slice Ao54 t380.length co54,.slice none 0 0]) ?_ 1 _ rfl;(with_reducible repeat(first|refine kN ?_ _|refine kD ?_|refine kA ?_ _));refine blk_put (cs:=#[.slice none 0 0,.slice none 0 0]) ?_ 0 _ rfl;(with_reducible repeat(first|refine kN ?_ _|refine kD ?_|refine kA ?_ _));exact BK386.out) hb);replace HB:=aM (below_step (by repeat(first|(with_reducible first|exact HB.out|apply bA|apply bN|apply bD|refine below_set ?_ GE365.out|refine below_set ?_ GE366.out|refine below_set ?_ GE376.out|refine below_set ?_ GE386.out)|exact HB.out)) hb);(try clear hb);(try clear hk)))
 go_roundg k1
 case measure=>have:=HK1.out;omega
 case rel=>exact ⟨(wrap64 (x4_1+1)),(x377000_1),(x377001_1),(.slice Ao64 x377000_1.length co64),(.slice Ao65 x377001_1.length co65),vX,H',⟨by have:=HK1.out;omega⟩,⟨rM HO_377000.out (fun _ hk=>hk.2.2.2)⟩,⟨rM HO_377001.out (fun _ hk=>hk.2.2.2)⟩,⟨kX BK365.out⟩,⟨kX BK366.out⟩,⟨kX BK376.out⟩,⟨by repeat(first|(with_reducible first|exact HB.out|apply bA|apply bN|apply bD|refine below_set ?_ GE365.out|refine below_set ?_ GE366.out|refine below_set ?_ GE376.out|refine below_set ?_ GE386.out)|exact HB.out)⟩⟩
 }
 }
 {
 rw [if_neg c16] at H
 have c16b0:=decide_eq_false c16
 clear c16
 simp only [Option.some.injEq,Prod.mk.injEq] at H
 obtain ⟨rfl,rfl⟩:=H
 have hnb67:=NB365_366.out
 have hnc67:=NB366_365.out
 have hnb68:=NB365_376.out
 have hnc68:=NB376_365.out
 obtain ⟨hcz69_0,hcz69_1,hfz69_0,hfz69_1⟩:=f2Z BK365.out
 have hnb70:=NB376_366.out
 have hnc70:=NB366_376.out
 obtain ⟨hcz71_0,hcz71_1,hfz71_0,hfz71_1⟩:=f2Z BK376.out
 obtain ⟨Ao72,co72,eo72⟩:=Kd.R_slice HO_377000.out
 subst eo72
 obtain ⟨hcz73_0,hcz73_1,hfz73_0,hfz73_1⟩:=f2Z BK366.out
 obtain ⟨Ao74,co74,eo74⟩:=Kd.R_slice HO_377001.out
 subst eo74
 go_wp2
 refine bodyPost_ret (results_cell_row rfl _ _ gb366 27 #[.slice Ao72 x377000_1.length co72,.slice Ao74 x377001_1.length co74] (0,0) _ rfl (by(with_reducible repeat(first|refine kN ?_ _|refine kD ?_|refine kA ?_ _));refine blk_put (cs:=#[.slice Ao72 x377000_1.length co72,.slice none 0 0]) ?_ 1 _ rfl;(with_reducible repeat(first|refine kN ?_ _|refine kD ?_|refine kA ?_ _));refine blk_put (cs:=#[.slice none 0 0,.slice none 0 0]) ?_ 0 _ rfl;(with_reducible repeat(first|refine kN ?_ _|refine kD ?_|refine kA ?_ _));exact BK366.out) Try.underlying27 rfl (by kernel_rfl)) rfl ?_
 exact ⟨_,_,eX,by(with_reducible repeat(first|apply rA|apply rN|apply rD));exact Kd.R_mono (Kd.R_far (p:=⟨gb366,1,none⟩) (Kd.R_far (p:=⟨gb366,0,none⟩) (Kd.R_types HO_377000.out BK366.out (by decide)) (fun _ hk=>hk.2) (.slice Ao72 x377000_1.length co72)) (fun _ hk=>hk.2) (.slice Ao74 x377001_1.length co74)) (fun _ hk=>hk.1),by(with_reducible repeat(first|apply rA|apply rN|apply rD));exact Kd.R_mono (Kd.R_far (p:=⟨gb366,1,none⟩) (Kd.R_far (p:=⟨gb366,0,none⟩) (Kd.R_types HO_377001.out BK366.out (by decide)) (fun _ hk=>hk.2) (.slice Ao72 x377000_1.length co72)) (fun _ hk=>hk.2) (.slice Ao74 x377001_1.length co74)) (fun _ hk=>hk.1),bX3 HB.out GE365.out GE366.out GE376.out⟩
 }

/-! ### spec_l02Then: function 102 -/
def spec_l02Then.l0 : Nat→List Int→List Int→List Int→Int→Int→Option (List Int)
 | 0,_,_,_,_,_=>none
 | k+1,x1,x5,x9,x10,x11=>if x11<x10 then (if 0≤x11 then (if x11<(x9.length:Int) then (if 0≤(rd x9 x11) then (if (rd x9 x11)<(x1.length:Int) then (if x5.length<17592186044416 then (spec_l02Then.l0 k x1 (x5 ++ [rd x1 (rd x9 x11)]) x9 x10 (wrap64 (x11+1))) else (none)) else (none)) else (none)) else (none)) else (none)) else (some x5)
def spec_l02Then.f (k:Nat) (l0:List Int) (l1:List Int):Option (List Int):=spec_l02Then.l0 k l1 (([]:List Int)) l0 (l0.length:Int) 0
theorem spec_l02Then.calls (k:Nat) (A0:Option Addr) (c0:Nat) (l0:List Int) (A1:Option Addr) (c1:Nat) (l1:List Int) (r:List Int) (w:World) (hr0:Kd.C (Kd.int .i64) w A0 l0.length l0) (hc0:l0.length≤c0) (hr1:Kd.C (Kd.int .i64) w A1 l1.length l1) (hc1:l1.length≤c1) (h:spec_l02Then.f k l0 l1=some r) :
  Calls Try.prog 102 #[.slice A0 l0.length c0,.slice A1 l1.length c1] w fun e w'=>∃ v0_:Value,e = .returned (v0_)∧Kd.R (Kd.int .i64) 3 w' w.heap.size (fun _=>True) v0_ r∧Below w.heap.size w w':=by
 have HR0:=aM hr0
 have HC0:=aM hc0
 clear hr0 hc0
 have HR1:=aM hr1
 have HC1:=aM hc1
 clear hr1 hc1
 have HB:=aM (Below.refl w.heap.size w)
 have H:(spec_l02Then.l0 k l1 (([]:List Int)) l0 (l0.length:Int) 0)=some r:=h
 clear h
 obtain ⟨y388,hy388⟩:∃ y_:List Int,y_=(([]:List Int)):=⟨_,rfl⟩
 replace H:(spec_l02Then.l0 k l1 y388 l0 (l0.length:Int) 0)=some r:=by first|(rw [hy388];with_reducible exact H)|(have H2_:=(Option.bind_some _ _).symm.trans H;rw [hy388];with_reducible exact H2_)|(have H2_:=(Option.bind_some _ _).symm.trans H;with_reducible exact H2_)|with_reducible exact H|(rw [hy388];exact H)|exact H
 have Ny388:=aM hy388
 clear hy388
 have H':=aM H
 clear H
 go_enter Try.func102,Try.ntmps102
 go_wp2_with (first|((with_reducible refine gate_dst (N:=8) rfl ?_);refine Kd.R_lit (Kd.int .i64) _ 3 ?hg (N:=8) ?hd (xs:=([]:List Int)) (inner:=[]) (ok:=fun _=>True) (okp:=fun _=>True) ?hr ?hp (fun _ hk=>hk) trivial (Below.refl _ _) (Nat.le_refl _) (by simp) ?_;(case hd=>rfl);(case hg=>rfl);(case hr=>first|(go_simp;done)|(go_simp;rfl));(case hp=>exact(Reps.none _ _));intro v389 w3 ho4 hb hg_ hnew_;clear hg_ hnew_;(first|rw [← Ny388.out] at ho4|(simp only [Int.reduceToNat] at ho4;rw [← Ny388.out] at ho4));have HO390:=aM (Kd.R_lower ho4 (below_size (bX HB.out)));replace HB:=aM (below_step (bX HB.out) hb);clear hb ho4))
 go_loopg [5,11] k (fun kq v5 v11 w'=>∃ (x5_1:List Int) (x11_1:Int),v11 = .int .i64 x11_1∧Aside0 (spec_l02Then.l0 kq l1 x5_1 l0 (l0.length:Int) x11_1=some r)∧Aside0 (kq≤k)∧Aside0 (Kd.R (Kd.int .i64) 3 w' w.heap.size (fun _=>True) v5 x5_1)∧Aside0 (Below w.heap.size w w'))
 case atStart=>exact ⟨(y388),(0),vX,H',⟨Nat.le_refl _⟩,⟨rX HO390.out⟩,⟨bX HB.out⟩⟩
 case round =>
 clear H'
 try clear c1
 obtain ⟨x5_1,x11_1,rfl,HA,HK1,HO_5,HB⟩:=hrel
 cases gk with
 | zero=>exact absurd HA.out (by simp [spec_l02Then.l0])
 | succ k1 =>
 have H:=HA.out
 clear HA
 simp only [spec_l02Then.l0] at H
 by_cases c5:x11_1<(l0.length:Int)
 {
 rw [if_pos c5] at H
 have c5b0:=decide_eq_true c5
 clear c5
 by_cases c6:0≤x11_1
 {
 rw [if_pos c6] at H
 have c6b0:=decide_eq_true c6
 clear c6
 by_cases c7:x11_1<(l0.length:Int)
 {
 rw [if_pos c7] at H
 have c7b0:=decide_eq_true c7
 clear c7
 by_cases c8:0≤(rd l0 x11_1)
 {
 rw [if_pos c8] at H
 have c8b0:=decide_eq_true c8
 clear c8
 by_cases c9:(rd l0 x11_1)<(l1.length:Int)
 {
 rw [if_pos c9] at H
 have c9b0:=decide_eq_true c9
 clear c9
 by_cases c10:x5_1.length<17592186044416
 {
 rw [if_pos c10] at H
 have LMc10:=aM c10
 clear c10
 obtain ⟨y393,hy393⟩:∃ y_:List Int,y_=(x5_1 ++ [rd l1 (rd l0 x11_1)]):=⟨_,rfl⟩
 replace H:(spec_l02Then.l0 k1 l1 y393 l0 (l0.length:Int) (wrap64 (x11_1+1)))=some r:=by first|(rw [hy393];with_reducible exact H)|(have H2_:=(Option.bind_some _ _).symm.trans H;rw [hy393];with_reducible exact H2_)|(have H2_:=(Option.bind_some _ _).symm.trans H;with_reducible exact H2_)|with_reducible exact H|(rw [hy393];exact H)|exact H
 have Ny393:=aM hy393
 clear hy393
 have H':=aM H
 clear H
 have p391:0≤(x11_1:Int):=dX
 have q391:x11_1<(l0.length:Int):=dX
 obtain ⟨ad391,e391,hx391_0⟩:=Kd.at_int HR0.out x11_1 p391 q391
 cases e391
 replace hx391_0:=(HB.out.cell (World.block_lt_of_cell? w _ hx391_0)).trans hx391_0
 replace p391:=eq_true p391
 replace q391:=eq_true q391
 have p392:0≤((rd l0 x11_1):Int):=dX
 have q392:(rd l0 x11_1)<(l1.length:Int):=dX
 obtain ⟨ad392,e392,hx392_0⟩:=Kd.at_int HR1.out (rd l0 x11_1) p392 q392
 cases e392
 replace hx392_0:=(HB.out.cell (World.block_lt_of_cell? w _ hx392_0)).trans hx392_0
 replace p392:=eq_true p392
 replace q392:=eq_true q392
 go_wp2_with (first|((with_reducible refine gate_builtin (b:=.append) (xs:=#[.tmp 15,.tmp 20]) rfl ?_);at_builtin;refine Kd.R_append (Kd.int .i64) (w0:=w) w.heap.size rfl (.tmp 15) (.tmp 20) 22 3 (.int .i64 0) 8 rfl Try.underlying22 info3 rfl (by decide) (by omega) u5 x5_1 (rd l1 (rd l0 x11_1)) [.int .i64 (rd l1 (rd l0 x11_1))] (fun _=>True) (fun _=>False) rfl rfl ?aP (fun _ hk=>hk.elim) ?aF ?aO ?aB ?aS ?aL ?_;(case aP=>exact rfl);(case aB=>exact(bX HB.out));(case aF=>exact(fun _ _=>trivial));(case aO=>exact(rX HO_5.out));(case aS=>exact(below_size (bX HB.out)));(case aL=>have:=LMc10.out;omega);intro v394 w11 ho hb hg hat;rw [← Ny393.out] at ho;replace HB:=aM (hb);have HO395:=aM (ho);clear HO_5 ho hb hg hat))
 go_roundg k1
 case measure=>have:=HK1.out;omega
 case rel=>exact ⟨(y393),(wrap64 (x11_1+1)),vX,H',⟨by have:=HK1.out;omega⟩,⟨rX HO395.out⟩,⟨bX HB.out⟩⟩
 }
 {
 rw [if_neg c10] at H
 exact absurd H (by simp)
 }
 }
 {
 rw [if_neg c9] at H
 exact absurd H (by simp)
 }
 }
 {
 rw [if_neg c8] at H
 exact absurd H (by simp)
 }
 }
 {
 rw [if_neg c7] at H
 exact absurd H (by simp)
 }
 }
 {
 rw [if_neg c6] at H
 exact absurd H (by simp)
 }
 }
 {
 rw [if_neg c5] at H
 have c5b0:=decide_eq_false c5
 clear c5
 obtain rfl:=Option.some.inj H
 go_wp2
 go_ret
 exact ⟨_,eX,by(with_reducible repeat(first|apply rA|apply rN|apply rD));exact HO_5.out,bX HB.out⟩
 }

end Go.Proofs.Ytmhjcbcjpidegaa.S
