-- PRINTED by print.py (a twelfth state) out of the translation. Not trusted: Lean checks it.
import Derived.Test.YtpieaniigkgmoaaGreatDoorS0
import Derived.Test.YtpieaniigkgmoaaGreatDoorS1
namespace Go.Proofs.YtpieaniigkgmoaaGreatDoor.S
set_option maxHeartbeats 8000000
set_option maxRecDepth 100000
open Go.RowKit Go.Proofs.YtpieaniigkgmoaaGreatDoorW.PrintWords Go.Proofs.YtpieaniigkgmoaaGreatDoorW.PrintLast Go.Proofs.YtpieaniigkgmoaaGreatDoorW.PrintMore
attribute [local go_sem] max2_int min2_int max_two min_two max_three min_three max_four min_four   -- for this text's walks alone
set_option linter.unusedVariables false
set_option linter.unusedSimpArgs false

/-! ### spec_l03Canon: function 37 -/
def spec_l03Canon.l0 : Nat→Int→List Int→List Int→List Int→List Int→Option (List Int × List Int)
 | 0,_,_,_,_,_=>none
 | k+1,x4,x173000,x173001,x184000,x184001=>if x4<(x173000.length:Int) then ((spec_l03Names.f k x173000 x173001 x4).bind fun t184=>((spec_l03Rename.f k x173000 x173001 t184).bind fun bt187=>((spec_l03Before.f k bt187.1 bt187.2 x184000 x184001).bind fun t194=>(if t194=true then (spec_l03Canon.l0 k (wrap64 (x4+1)) x173000 x173001 bt187.1 bt187.2) else (spec_l03Canon.l0 k (wrap64 (x4+1)) x173000 x173001 x184000 x184001))))) else (some (x184000,x184001))
def spec_l03Canon.f (k:Nat) (l0_0:List Int) (l0_1:List Int):Option (List Int × List Int):=(spec_l03Names.f k l0_0 l0_1 0).bind fun t174=>((spec_l03Rename.f k l0_0 l0_1 t174).bind fun bt177=>(spec_l03Canon.l0 k 1 l0_0 l0_1 bt177.1 bt177.2))
theorem spec_l03Canon.calls (k:Nat) (A0_0:Option Addr) (c0_0:Nat) (l0_0:List Int) (A0_1:Option Addr) (c0_1:Nat) (l0_1:List Int) (r1:List Int) (r2:List Int) (w:World) (hr0_0:Kd.C (Kd.int .i64) w A0_0 l0_0.length l0_0) (hc0_0:l0_0.length≤c0_0) (hr0_1:Kd.C (Kd.int .i64) w A0_1 l0_1.length l0_1) (hc0_1:l0_1.length≤c0_1) (h:spec_l03Canon.f k l0_0 l0_1=some (r1,r2)) :
  Calls Tryz.prog 37 #[.agg #[.slice A0_0 l0_0.length c0_0,.slice A0_1 l0_1.length c0_1]] w fun e w'=>∃ v0_ v1_:Value,e = .returned (.agg #[v0_,v1_])∧Kd.R (Kd.int .i64) 3 w' w.heap.size (fun k_=>some k_≠(v1_:Value).ownBlock) v0_ r1∧Kd.R (Kd.int .i64) 3 w' w.heap.size (fun k_=>some k_≠(v0_:Value).ownBlock) v1_ r2∧Below w.heap.size w w':=by
 have hu27:=Tryz.underlying27
 have HR0_0:=aM hr0_0
 have HC0_0:=aM hc0_0
 clear hr0_0 hc0_0
 have HR0_1:=aM hr0_1
 have HC0_1:=aM hc0_1
 clear hr0_1 hc0_1
 have HB:=aM (Below.refl w.heap.size w)
 have H:((spec_l03Names.f k l0_0 l0_1 0).bind fun t174=>((spec_l03Rename.f k l0_0 l0_1 t174).bind fun bt177=>(spec_l03Canon.l0 k 1 l0_0 l0_1 bt177.1 bt177.2)))=some (r1,r2):=h
 clear h
 replace H:=oB H
 obtain ⟨t174,A20,H⟩:=H
 have A2:=aM A20
 clear A20
 replace H:=oB H
 obtain ⟨⟨t177,t180⟩,A30,H⟩:=H
 replace H:(spec_l03Canon.l0 k 1 l0_0 l0_1 t177 t180)=some (r1,r2):=H
 have A3:=aM A30
 clear A30
 have H':=aM H
 clear H
 go_enter Tryz.func37,Tryz.ntmps37
 try go_wp2_with (first|((with_reducible refine gate_dst (N:=1) rfl ?_);refine bEv (cs:=#[.slice A0_0 l0_0.length c0_0,.slice A0_1 l0_1.length c0_1]) (t:=27) ?_;intro gb172 hg w4 hbox hb;have BK172:=aM (hbox);have GW172:=aM ((szX (below_size (bX HB.out)) hg:w.heap.size≤gb172));have GE172:=GW172;replace HB:=aM (below_step (bX HB.out) hb);clear hb hbox hg)|((with_reducible refine gate_dst (N:=2) rfl ?_);refine bEv (cs:=#[.slice none 0 0,.slice none 0 0]) (t:=27) ?_;intro gb173 hg w5 hbox hb;have BK173:=aM (hbox);have GW173:=aM ((szX (below_size (bX1 HB.out GE172.out)) hg:w.heap.size≤gb173));have GE173:=GW173;replace HB:=aM (below_step (bX1 HB.out GE172.out) hb);have NB172_173:=aM (neX BK172.out hg);have NB173_172:=aM (nfX BK172.out hg);replace BK172:=aM (bbX BK172.out hb);clear hb hbox hg))
 replace BK172:=aM (blk_drew BK172.out)
 replace BK173:=aM (blk_drew BK173.out)
 replace HB:=aM (below_drew1 HB.out)
 refine start_ (n:=6) (S:=fun w'=>w'.cell? ⟨gb172,0,none⟩=some (.slice A0_0 l0_0.length c0_0)∧w'.cell? ⟨gb172,1,none⟩=some (.slice A0_1 l0_1.length c0_1)) (ds:=[]) #[false,false,false,false,false,false] (by kernel_rfl) rfl rfl ⟨cz20 BK172.out,cz21 BK172.out⟩ (fun hHeld => ?_)
 generalize w5.drew=w6 at BK172 BK173 HB hHeld ⊢
 refine take_ (i:=0) (N:=some 6) (v:=?_) (a':=?_) #[true,false,false,false,false,false] rfl rfl (by kernel_rfl) (fun _ _ _ h=>h) (Or.inl ⟨by rfl,?_⟩) hHeld ?_ ?_
 rotate_left
 {
 rintro w' ⟨s0,s1⟩
 go_simp
 with_reducible rfl
 }
 rotate_left
 {
 simp only [Act.put,zA,zB,zC,i64_w,i32_w]
 rfl
 }
 refine take_ (i:=1) (N:=some 7) (v:=?_) (a':=?_) #[true,true,false,false,false,false] rfl rfl (by kernel_rfl) (fun _ _ _ h=>h) (Or.inl ⟨by rfl,?_⟩) hHeld ?_ ?_
 rotate_left
 {
 rintro w' ⟨s0,s1⟩
 go_simp
 with_reducible rfl
 }
 rotate_left
 {
 simp only [Act.put,zA,zB,zC,i64_w,i32_w]
 rfl
 }
 refine join_ (σ:=Value × Value × Value × Nat) 1 #[true,true,true,true,true,false] (fun s_=>[(8,s_.1),(9,.agg #[s_.2.1,s_.2.2.1]),(3,.pointer (some ⟨s_.2.2.2,0,none⟩))]) (fun s_ w'=>(w'.cell? ⟨gb172,0,none⟩=some (.slice A0_0 l0_0.length c0_0)∧w'.cell? ⟨gb172,1,none⟩=some (.slice A0_1 l0_1.length c0_1))∧(Kd.R (Kd.int .i64) 3 w' w.heap.size (fun k_=>some k_≠(s_.2.1:Value).ownBlock∧some k_≠(s_.2.2.1:Value).ownBlock) s_.1 t174)∧(Kd.R (Kd.int .i64) 3 w' w.heap.size (fun k_=>some k_≠(s_.1:Value).ownBlock∧some k_≠(s_.2.2.1:Value).ownBlock) s_.2.1 t177)∧(Kd.R (Kd.int .i64) 3 w' w.heap.size (fun k_=>some k_≠(s_.1:Value).ownBlock∧some k_≠(s_.2.1:Value).ownBlock) s_.2.2.1 t180)∧(w'.heap[gb172]? = some (.cells #[.slice A0_0 l0_0.length c0_0,.slice A0_1 l0_1.length c0_1] 27 (0,0)))∧(w'.heap[gb173]? = some (.cells #[.slice none 0 0,.slice none 0 0] 27 (0,0)))∧(w'.heap[s_.2.2.2]? = some (.cells #[.slice none 0 0,.slice none 0 0] 27 (0,0)))∧(w.heap.size≤s_.2.2.2)∧(w.heap.size≤s_.2.2.2)∧(gb172≠s_.2.2.2)∧(s_.2.2.2≠gb172)∧(gb173≠s_.2.2.2)∧(s_.2.2.2≠gb173)∧(Below w.heap.size w w')) ?_ ?_
 rotate_left
 {
 intro hCont
 refine two_ (i:=2) (j:=4) (Ni:=some 8) (Nj:=some 3) #[true,true,true,false,false,false] #[true,true,false,false,true,false] rfl rfl rfl rfl (by kernel_rfl) (by decide) (by decide) (fun K hK => ?_) (fun K hK => ?_)
 {
 skip
 refine goes_ Tryz.func53 (by kernel_rfl) rfl #[.agg #[.slice A0_0 l0_0.length c0_0,.slice A0_1 l0_1.length c0_1],.int .i64 0] (by rfl) rfl rfl aX ?_
 with_reducible refine(spec_l03Names.calls k _ _ l0_0 _ _ l0_1 0 t174 _ ?side1 ?side2 ?side3 ?side4 A2.out).mono ?_
 (case side1=>exact cX (Kd.C_below HR0_0.out HB.out))
 (case side2=>exact HC0_0.out)
 (case side3=>exact cX (Kd.C_below HR0_1.out HB.out))
 (case side4=>exact HC0_1.out)
 rintro e w7 ⟨v175,rfl,ho0,hb⟩
 refine ⟨_,rfl,?_⟩
 have HO176:=aM (Kd.R_lower ho0 (below_size (bX2 HB.out GE172.out GE173.out)))
 replace BK172:=aM (bbX BK172.out hb)
 replace BK173:=aM (bbX BK173.out hb)
 replace HB:=aM (below_step (bX2 HB.out GE172.out GE173.out) hb)
 (try clear hb)
 (try clear hk)
 (try clear ho0)
 obtain ⟨Ao8,co8,eo8⟩:=Kd.R_slice HO176.out
 (first|subst eo8|(injection eo8 with f1_ f2_ f3_;have f4_:=f1_.symm;have f5_:=f3_.symm;clear f1_ f2_ f3_;subst f4_;subst f5_))
 refine hK.out _ _ ⟨cz20 BK172.out,cz21 BK172.out⟩ (fun hHeld => ?_)
 clear hK K
 refine norm_ (a':=?_) ?_ ?_
 rotate_left
 {
 show Act.put _ (some 8) _=_
 simp only [Act.put,zA,zB,zC,i64_w,i32_w]
 rfl
 }
 refine two_ (i:=3) (j:=4) (Ni:=some 9) (Nj:=some 3) #[true,true,true,true,false,false] #[true,true,true,false,true,false] rfl rfl rfl rfl (by kernel_rfl) (by decide) (by decide) (fun K hK => ?_) (fun K hK => ?_)
 {
 skip
 refine goes_ Tryz.func52 (by kernel_rfl) rfl #[.agg #[.slice A0_0 l0_0.length c0_0,.slice A0_1 l0_1.length c0_1],.slice Ao8 t174.length co8] (by rfl) rfl rfl aX ?_
 with_reducible refine(spec_l03Rename.calls k _ _ l0_0 _ _ l0_1 _ _ t174 t177 t180 _ ?side1 ?side2 ?side3 ?side4 ?side5 ?side6 A3.out).mono ?_
 (case side1=>exact cX (Kd.C_below HR0_0.out HB.out))
 (case side2=>exact HC0_0.out)
 (case side3=>exact cX (Kd.C_below HR0_1.out HB.out))
 (case side4=>exact HC0_1.out)
 (case side5=>exact cX (Kd.R_reads' HO176.out).2.2)
 (case side6=>exact(Kd.R_reads' HO176.out).2.1)
 rintro e w9 ⟨v178,v181,rfl,ho0,ho1,hb⟩
 refine ⟨_,rfl,?_⟩
 have HO179:=aM (Kd.R_lower (Kd.R_new' ho0 (Kd.R_lt (rX HO176.out))) (below_size (bX2 HB.out GE172.out GE173.out)))
 have HO182:=aM (Kd.R_lower (Kd.R_new' ho1 (Kd.R_lt (rX HO176.out))) (below_size (bX2 HB.out GE172.out GE173.out)))
 replace HO176:=aM (Kd.R_mono (Kd.R_told (Kd.R_told (Kd.R_old (rX HO176.out) hb) (Kd.R_base ho0)) (Kd.R_base ho1)) (fun _ h_=>h_.1))
 replace BK172:=aM (bbX BK172.out hb)
 replace BK173:=aM (bbX BK173.out hb)
 replace HB:=aM (below_step (bX2 HB.out GE172.out GE173.out) hb)
 (try clear hb)
 (try clear hk)
 (try clear ho0)
 (try clear ho1)
 refine hK.out _ _ ⟨cz20 BK172.out,cz21 BK172.out⟩ (fun hHeld => ?_)
 clear hK K
 refine norm_ (a':=?_) ?_ ?_
 rotate_left
 {
 show Act.put _ (some 9) _=_
 simp only [Act.put,zA,zB,zC,i64_w,i32_w]
 rfl
 }
 refine one_ (i:=4) (N:=some 3) #[true,true,true,true,true,false] rfl rfl (by kernel_rfl) (by decide) (fun K hK => ?_)
 refine box_step ?hg (N:=3) ?hd (cs:=#[.slice none 0 0,.slice none 0 0]) (t:=27) ?hr ?_;(case hd=>rfl);(case hg=>rfl);(case hr=>first|(go_simp;done)|(go_simp;rfl))
 intro gb183 hg w10 hbox hb
 replace HO176:=aM (Kd.R_below (rX HO176.out) hb)
 replace HO179:=aM (Kd.R_below (rX HO179.out) hb)
 replace HO182:=aM (Kd.R_below (rX HO182.out) hb)
 have BK183:=aM (hbox)
 have GW183:=aM ((szX (below_size (bX2 HB.out GE172.out GE173.out)) hg:w.heap.size≤gb183))
 have GE183:=GW183
 replace HB:=aM (below_step (bX2 HB.out GE172.out GE173.out) hb)
 have NB172_183:=aM (neX BK172.out hg)
 have NB183_172:=aM (nfX BK172.out hg)
 replace BK172:=aM (bbX BK172.out hb)
 have NB173_183:=aM (neX BK173.out hg)
 have NB183_173:=aM (nfX BK173.out hg)
 replace BK173:=aM (bbX BK173.out hb)
 clear hb hbox hg
 refine hK.out _ _ ⟨cz20 BK172.out,cz21 BK172.out⟩ (fun hHeld => ?_)
 clear hK K
 refine norm_ (a':=?_) ?_ ?_
 rotate_left
 {
 show Act.put _ (some 3) _=_
 simp only [Act.put,zA,zB,zC,i64_w,i32_w]
 rfl
 }
 exact norm_ (by simp only [putAll,Act.put,List.setIfInBounds_toArray,List.set_cons_zero,List.set_cons_succ]) (hCont (.slice Ao8 t174.length co8,v178,v181,gb183) _ ⟨hHeld,(rM HO176.out (fun _ hk=>⟨hk.1.2,hk.2⟩)),(rM HO179.out (fun _ hk=>⟨hk.2,hk.1⟩)),(rM HO182.out (fun _ hk=>⟨hk.2,hk.1⟩)),(kX BK172.out),(kX BK173.out),(kX BK183.out),GW183.out,GE183.out,NB172_183.out,NB183_172.out,NB173_183.out,NB183_173.out,(bX3 HB.out GE172.out GE173.out GE183.out)⟩)
 }
 {
 skip
 refine box_step ?hg (N:=3) ?hd (cs:=#[.slice none 0 0,.slice none 0 0]) (t:=27) ?hr ?_;(case hd=>rfl);(case hg=>rfl);(case hr=>first|(go_simp;done)|(go_simp;rfl))
 intro gb183 hg w8 hbox hb
 replace HO176:=aM (Kd.R_below (rX HO176.out) hb)
 have BK183:=aM (hbox)
 have GW183:=aM ((szX (below_size (bX2 HB.out GE172.out GE173.out)) hg:w.heap.size≤gb183))
 have GE183:=GW183
 replace HB:=aM (below_step (bX2 HB.out GE172.out GE173.out) hb)
 have NB172_183:=aM (neX BK172.out hg)
 have NB183_172:=aM (nfX BK172.out hg)
 replace BK172:=aM (bbX BK172.out hb)
 have NB173_183:=aM (neX BK173.out hg)
 have NB183_173:=aM (nfX BK173.out hg)
 replace BK173:=aM (bbX BK173.out hb)
 clear hb hbox hg
 obtain ⟨Ao9,co9,eo9⟩:=Kd.R_slice HO176.out
 (first|subst eo9|(injection eo9 with f1_ f2_ f3_;have f4_:=f1_.symm;have f5_:=f3_.symm;clear f1_ f2_ f3_;subst f4_;subst f5_))
 refine hK.out _ _ ⟨cz20 BK172.out,cz21 BK172.out⟩ (fun hHeld => ?_)
 clear hK K
 refine norm_ (a':=?_) ?_ ?_
 rotate_left
 {
 show Act.put _ (some 3) _=_
 simp only [Act.put,zA,zB,zC,i64_w,i32_w]
 rfl
 }
 refine one_ (i:=3) (N:=some 9) #[true,true,true,true,true,false] rfl rfl (by kernel_rfl) (by decide) (fun K hK => ?_)
 refine goes_ Tryz.func52 (by kernel_rfl) rfl #[.agg #[.slice A0_0 l0_0.length c0_0,.slice A0_1 l0_1.length c0_1],.slice Ao9 t174.length co9] (by rfl) rfl rfl aX ?_
 with_reducible refine(spec_l03Rename.calls k _ _ l0_0 _ _ l0_1 _ _ t174 t177 t180 _ ?side1 ?side2 ?side3 ?side4 ?side5 ?side6 A3.out).mono ?_
 (case side1=>exact cX (Kd.C_below HR0_0.out HB.out))
 (case side2=>exact HC0_0.out)
 (case side3=>exact cX (Kd.C_below HR0_1.out HB.out))
 (case side4=>exact HC0_1.out)
 (case side5=>exact cX (Kd.R_reads' HO176.out).2.2)
 (case side6=>exact(Kd.R_reads' HO176.out).2.1)
 rintro e w10 ⟨v178,v181,rfl,ho0,ho1,hb⟩
 refine ⟨_,rfl,?_⟩
 have HO179:=aM (Kd.R_lower (Kd.R_new' ho0 (Kd.R_lt (rX HO176.out))) (below_size (bX3 HB.out GE172.out GE173.out GE183.out)))
 have HO182:=aM (Kd.R_lower (Kd.R_new' ho1 (Kd.R_lt (rX HO176.out))) (below_size (bX3 HB.out GE172.out GE173.out GE183.out)))
 replace HO176:=aM (Kd.R_mono (Kd.R_told (Kd.R_told (Kd.R_old (rX HO176.out) hb) (Kd.R_base ho0)) (Kd.R_base ho1)) (fun _ h_=>h_.1))
 replace BK172:=aM (bbX BK172.out hb)
 replace BK173:=aM (bbX BK173.out hb)
 replace BK183:=aM (bbX BK183.out hb)
 replace HB:=aM (below_step (bX3 HB.out GE172.out GE173.out GE183.out) hb)
 (try clear hb)
 (try clear hk)
 (try clear ho0)
 (try clear ho1)
 refine hK.out _ _ ⟨cz20 BK172.out,cz21 BK172.out⟩ (fun hHeld => ?_)
 clear hK K
 refine norm_ (a':=?_) ?_ ?_
 rotate_left
 {
 show Act.put _ (some 9) _=_
 simp only [Act.put,zA,zB,zC,i64_w,i32_w]
 rfl
 }
 exact norm_ (by simp only [putAll,Act.put,List.setIfInBounds_toArray,List.set_cons_zero,List.set_cons_succ]) (hCont (.slice Ao9 t174.length co9,v178,v181,gb183) _ ⟨hHeld,(rM HO176.out (fun _ hk=>⟨hk.1.2,hk.2⟩)),(rM HO179.out (fun _ hk=>⟨hk.2,hk.1⟩)),(rM HO182.out (fun _ hk=>⟨hk.2,hk.1⟩)),(kX BK172.out),(kX BK173.out),(kX BK183.out),GW183.out,GE183.out,NB172_183.out,NB183_172.out,NB173_183.out,NB183_173.out,(bX3 HB.out GE172.out GE173.out GE183.out)⟩)
 }
 }
 {
 skip
 refine box_step ?hg (N:=3) ?hd (cs:=#[.slice none 0 0,.slice none 0 0]) (t:=27) ?hr ?_;(case hd=>rfl);(case hg=>rfl);(case hr=>first|(go_simp;done)|(go_simp;rfl))
 intro gb183 hg w7 hbox hb
 have BK183:=aM (hbox)
 have GW183:=aM ((szX (below_size (bX2 HB.out GE172.out GE173.out)) hg:w.heap.size≤gb183))
 have GE183:=GW183
 replace HB:=aM (below_step (bX2 HB.out GE172.out GE173.out) hb)
 have NB172_183:=aM (neX BK172.out hg)
 have NB183_172:=aM (nfX BK172.out hg)
 replace BK172:=aM (bbX BK172.out hb)
 have NB173_183:=aM (neX BK173.out hg)
 have NB183_173:=aM (nfX BK173.out hg)
 replace BK173:=aM (bbX BK173.out hb)
 clear hb hbox hg
 refine hK.out _ _ ⟨cz20 BK172.out,cz21 BK172.out⟩ (fun hHeld => ?_)
 clear hK K
 refine norm_ (a':=?_) ?_ ?_
 rotate_left
 {
 show Act.put _ (some 3) _=_
 simp only [Act.put,zA,zB,zC,i64_w,i32_w]
 rfl
 }
 refine one_ (i:=2) (N:=some 8) #[true,true,true,false,true,false] rfl rfl (by kernel_rfl) (by decide) (fun K hK => ?_)
 refine goes_ Tryz.func53 (by kernel_rfl) rfl #[.agg #[.slice A0_0 l0_0.length c0_0,.slice A0_1 l0_1.length c0_1],.int .i64 0] (by rfl) rfl rfl aX ?_
 with_reducible refine(spec_l03Names.calls k _ _ l0_0 _ _ l0_1 0 t174 _ ?side1 ?side2 ?side3 ?side4 A2.out).mono ?_
 (case side1=>exact cX (Kd.C_below HR0_0.out HB.out))
 (case side2=>exact HC0_0.out)
 (case side3=>exact cX (Kd.C_below HR0_1.out HB.out))
 (case side4=>exact HC0_1.out)
 rintro e w8 ⟨v175,rfl,ho0,hb⟩
 refine ⟨_,rfl,?_⟩
 have HO176:=aM (Kd.R_lower ho0 (below_size (bX3 HB.out GE172.out GE173.out GE183.out)))
 replace BK172:=aM (bbX BK172.out hb)
 replace BK173:=aM (bbX BK173.out hb)
 replace BK183:=aM (bbX BK183.out hb)
 replace HB:=aM (below_step (bX3 HB.out GE172.out GE173.out GE183.out) hb)
 (try clear hb)
 (try clear hk)
 (try clear ho0)
 obtain ⟨Ao9,co9,eo9⟩:=Kd.R_slice HO176.out
 (first|subst eo9|(injection eo9 with f1_ f2_ f3_;have f4_:=f1_.symm;have f5_:=f3_.symm;clear f1_ f2_ f3_;subst f4_;subst f5_))
 refine hK.out _ _ ⟨cz20 BK172.out,cz21 BK172.out⟩ (fun hHeld => ?_)
 clear hK K
 refine norm_ (a':=?_) ?_ ?_
 rotate_left
 {
 show Act.put _ (some 8) _=_
 simp only [Act.put,zA,zB,zC,i64_w,i32_w]
 rfl
 }
 refine one_ (i:=3) (N:=some 9) #[true,true,true,true,true,false] rfl rfl (by kernel_rfl) (by decide) (fun K hK => ?_)
 refine goes_ Tryz.func52 (by kernel_rfl) rfl #[.agg #[.slice A0_0 l0_0.length c0_0,.slice A0_1 l0_1.length c0_1],.slice Ao9 t174.length co9] (by rfl) rfl rfl aX ?_
 with_reducible refine(spec_l03Rename.calls k _ _ l0_0 _ _ l0_1 _ _ t174 t177 t180 _ ?side1 ?side2 ?side3 ?side4 ?side5 ?side6 A3.out).mono ?_
 (case side1=>exact cX (Kd.C_below HR0_0.out HB.out))
 (case side2=>exact HC0_0.out)
 (case side3=>exact cX (Kd.C_below HR0_1.out HB.out))
 (case side4=>exact HC0_1.out)
 (case side5=>exact cX (Kd.R_reads' HO176.out).2.2)
 (case side6=>exact(Kd.R_reads' HO176.out).2.1)
 rintro e w10 ⟨v178,v181,rfl,ho0,ho1,hb⟩
 refine ⟨_,rfl,?_⟩
 have HO179:=aM (Kd.R_lower (Kd.R_new' ho0 (Kd.R_lt (rX HO176.out))) (below_size (bX3 HB.out GE172.out GE173.out GE183.out)))
 have HO182:=aM (Kd.R_lower (Kd.R_new' ho1 (Kd.R_lt (rX HO176.out))) (below_size (bX3 HB.out GE172.out GE173.out GE183.out)))
 replace HO176:=aM (Kd.R_mono (Kd.R_told (Kd.R_told (Kd.R_old (rX HO176.out) hb) (Kd.R_base ho0)) (Kd.R_base ho1)) (fun _ h_=>h_.1))
 replace BK172:=aM (bbX BK172.out hb)
 replace BK173:=aM (bbX BK173.out hb)
 replace BK183:=aM (bbX BK183.out hb)
 replace HB:=aM (below_step (bX3 HB.out GE172.out GE173.out GE183.out) hb)
 (try clear hb)
 (try clear hk)
 (try clear ho0)
 (try clear ho1)
 refine hK.out _ _ ⟨cz20 BK172.out,cz21 BK172.out⟩ (fun hHeld => ?_)
 clear hK K
 refine norm_ (a':=?_) ?_ ?_
 rotate_left
 {
 show Act.put _ (some 9) _=_
 simp only [Act.put,zA,zB,zC,i64_w,i32_w]
 rfl
 }
 exact norm_ (by simp only [putAll,Act.put,List.setIfInBounds_toArray,List.set_cons_zero,List.set_cons_succ]) (hCont (.slice Ao9 t174.length co9,v178,v181,gb183) _ ⟨hHeld,(rM HO176.out (fun _ hk=>⟨hk.1.2,hk.2⟩)),(rM HO179.out (fun _ hk=>⟨hk.2,hk.1⟩)),(rM HO182.out (fun _ hk=>⟨hk.2,hk.1⟩)),(kX BK172.out),(kX BK173.out),(kX BK183.out),GW183.out,GE183.out,NB172_183.out,NB183_172.out,NB173_183.out,NB183_173.out,(bX3 HB.out GE172.out GE173.out GE183.out)⟩)
 }
 }
 rintro ⟨v175,v178,v181,gb183⟩ w11 ⟨hS_,h0_,h1_,h2_,h3_,h4_,h5_,h6_,h7_,h8_,h9_,h10_,h11_,h12_⟩
 have n0_:Aside0 (Kd.R (Kd.int .i64) 3 w11 w.heap.size (fun k_=>some k_≠(v178:Value).ownBlock∧some k_≠(v181:Value).ownBlock) v175 t174):=⟨h0_⟩
 have n1_:Aside0 (Kd.R (Kd.int .i64) 3 w11 w.heap.size (fun k_=>some k_≠(v175:Value).ownBlock∧some k_≠(v181:Value).ownBlock) v178 t177):=⟨h1_⟩
 have n2_:Aside0 (Kd.R (Kd.int .i64) 3 w11 w.heap.size (fun k_=>some k_≠(v175:Value).ownBlock∧some k_≠(v178:Value).ownBlock) v181 t180):=⟨h2_⟩
 have n3_:Aside0 (w11.heap[gb172]? = some (.cells #[.slice A0_0 l0_0.length c0_0,.slice A0_1 l0_1.length c0_1] 27 (0,0))):=⟨h3_⟩
 have n4_:Aside0 (w11.heap[gb173]? = some (.cells #[.slice none 0 0,.slice none 0 0] 27 (0,0))):=⟨h4_⟩
 have n5_:Aside0 (w11.heap[gb183]? = some (.cells #[.slice none 0 0,.slice none 0 0] 27 (0,0))):=⟨h5_⟩
 have n6_:Aside0 (w.heap.size≤gb183):=⟨h6_⟩
 have n7_:Aside0 (w.heap.size≤gb183):=⟨h7_⟩
 have n8_:Aside0 (gb172≠gb183):=⟨h8_⟩
 have n9_:Aside0 (gb183≠gb172):=⟨h9_⟩
 have n10_:Aside0 (gb173≠gb183):=⟨h10_⟩
 have n11_:Aside0 (gb183≠gb173):=⟨h11_⟩
 have n12_:Aside0 (Below w.heap.size w w11):=⟨h12_⟩
 clear BK172 BK173 HB h0_ h1_ h2_ h3_ h4_ h5_ h6_ h7_ h8_ h9_ h10_ h11_ h12_
 have HO176:=n0_
 have HO179:=n1_
 have HO182:=n2_
 have BK172:=n3_
 have BK173:=n4_
 have BK183:=n5_
 have GW183:=n6_
 have GE183:=n7_
 have NB172_183:=n8_
 have NB183_172:=n9_
 have NB173_183:=n10_
 have NB183_173:=n11_
 have HB:=n12_
 clear n0_ n1_ n2_ n3_ n4_ n5_ n6_ n7_ n8_ n9_ n10_ n11_ n12_
 have hHeld:w11.cell? ⟨gb172,0,none⟩=some (.slice A0_0 l0_0.length c0_0)∧w11.cell? ⟨gb172,1,none⟩=some (.slice A0_1 l0_1.length c0_1):=hS_
 obtain ⟨Ao12,co12,eo12⟩:=Kd.R_slice HO179.out
 (first|subst eo12|(injection eo12 with f1_ f2_ f3_;have f4_:=f1_.symm;have f5_:=f3_.symm;clear f1_ f2_ f3_;subst f4_;subst f5_))
 obtain ⟨Ao14,co14,eo14⟩:=Kd.R_slice HO182.out
 (first|subst eo14|(injection eo14 with f1_ f2_ f3_;have f4_:=f1_.symm;have f5_:=f3_.symm;clear f1_ f2_ f3_;subst f4_;subst f5_))
 refine norm_ (a':=?_) ?_ ?_
 rotate_left
 {
 simp only [putAll,Act.put,List.setIfInBounds_toArray,List.set_cons_zero,List.set_cons_succ]
 rfl
 }
 refine one_ (i:=5) (N:=none) #[true,true,true,true,true,true] rfl rfl (by kernel_rfl) (by decide) (fun K hK => ?_)
 have hs13:w11.cell? ⟨gb183,0,none⟩=some (.slice none 0 0):=cz20 BK183.out
 have hfs13:=blk_frozen BK183.out 0
 have hns13_0:=NB172_183.out
 have hns13_1:=NB173_183.out
 have hms13_0:=NB183_172.out
 have hms13_1:=NB183_173.out
 have hs15:w11.cell? ⟨gb183,1,none⟩=some (.slice none 0 0):=cz21 BK183.out
 have hfs15:=blk_frozen BK183.out 1
 have hns15_0:=NB172_183.out
 have hns15_1:=NB173_183.out
 have hms15_0:=NB183_172.out
 have hms15_1:=NB183_173.out
 refine skip_ (w1:=?_) (by rfl) rfl ?_ ?_
 rotate_left
 {
 go_simp
 rfl
 }
 refine hK.out _ _ ⟨((cell_far (p:=⟨gb183,_,none⟩) NB172_183.out _).trans (((cell_far (p:=⟨gb183,_,none⟩) NB172_183.out _).trans (hHeld.1)))),((cell_far (p:=⟨gb183,_,none⟩) NB172_183.out _).trans (((cell_far (p:=⟨gb183,_,none⟩) NB172_183.out _).trans (hHeld.2))))⟩ (fun hHeld => ?_)
 clear hK K
 refine done_ (by kernel_rfl) ?_
 try go_wp2
 go_loopg [4] k (fun kq v4 w'=>∃ (x4_1:Int) (x184000_1:List Int) (x184001_1:List Int) (u184000:Value) (u184001:Value),v4 = .int .i64 x4_1∧Aside0 (spec_l03Canon.l0 kq x4_1 l0_0 l0_1 x184000_1 x184001_1=some (r1,r2))∧Aside0 (kq≤k)∧Aside0 (Kd.R (Kd.int .i64) 3 w' w.heap.size (fun k_=>some k_≠(u184001:Value).ownBlock) u184000 x184000_1)∧Aside0 (Kd.R (Kd.int .i64) 3 w' w.heap.size (fun k_=>some k_≠(u184000:Value).ownBlock) u184001 x184001_1)∧Aside0 (w'.heap[gb172]? = some (.cells #[(.slice A0_0 l0_0.length c0_0),(.slice A0_1 l0_1.length c0_1)] 27 (0,0)))∧Aside0 (w'.heap[gb173]? = some (.cells #[(.slice none 0 0),(.slice none 0 0)] 27 (0,0)))∧Aside0 (w'.heap[gb183]? = some (.cells #[u184000,u184001] 27 (0,0)))∧Aside0 (Below w.heap.size w w'))
 case atStart=>exact ⟨(1),(t177),(t180),(.slice Ao12 t177.length co12),(.slice Ao14 t180.length co14),vX,H',⟨Nat.le_refl _⟩,⟨by(with_reducible repeat(first|apply rA|apply rN|apply rD));exact Kd.R_mono (Kd.R_far (p:=⟨gb183,1,none⟩) (Kd.R_far (p:=⟨gb183,0,none⟩) (Kd.R_types HO179.out BK183.out (by decide)) (fun _ hk=>hk.2) (.slice Ao12 t177.length co12)) (fun _ hk=>hk.2) (.slice Ao14 t180.length co14)) (fun _ hk=>hk.1.2)⟩,⟨by(with_reducible repeat(first|apply rA|apply rN|apply rD));exact Kd.R_mono (Kd.R_far (p:=⟨gb183,1,none⟩) (Kd.R_far (p:=⟨gb183,0,none⟩) (Kd.R_types HO182.out BK183.out (by decide)) (fun _ hk=>hk.2) (.slice Ao12 t177.length co12)) (fun _ hk=>hk.2) (.slice Ao14 t180.length co14)) (fun _ hk=>hk.1.2)⟩,⟨by(with_reducible repeat(first|refine kN ?_ _|refine kD ?_|refine kA ?_ _));refine blk_far ?_ NB172_183.out _;(with_reducible repeat(first|refine kN ?_ _|refine kD ?_|refine kA ?_ _));refine blk_far ?_ NB172_183.out _;(with_reducible repeat(first|refine kN ?_ _|refine kD ?_|refine kA ?_ _));exact BK172.out⟩,⟨by(with_reducible repeat(first|refine kN ?_ _|refine kD ?_|refine kA ?_ _));refine blk_far ?_ NB173_183.out _;(with_reducible repeat(first|refine kN ?_ _|refine kD ?_|refine kA ?_ _));refine blk_far ?_ NB173_183.out _;(with_reducible repeat(first|refine kN ?_ _|refine kD ?_|refine kA ?_ _));exact BK173.out⟩,⟨by(with_reducible repeat(first|refine kN ?_ _|refine kD ?_|refine kA ?_ _));refine blk_put (cs:=#[.slice Ao12 t177.length co12,.slice none 0 0]) ?_ 1 _ rfl;(with_reducible repeat(first|refine kN ?_ _|refine kD ?_|refine kA ?_ _));refine blk_put (cs:=#[.slice none 0 0,.slice none 0 0]) ?_ 0 _ rfl;(with_reducible repeat(first|refine kN ?_ _|refine kD ?_|refine kA ?_ _));exact BK183.out⟩,⟨bX3 HB.out GE172.out GE173.out GE183.out⟩⟩
 case round =>
 clear H'
 obtain ⟨x4_1,x184000_1,x184001_1,u184000,u184001,rfl,HA,HK1,HO_184000,HO_184001,BK172,BK173,BK183,HB⟩:=hrel
 cases gk with
 | zero=>exact absurd HA.out (by simp [spec_l03Canon.l0])
 | succ k1 =>
 have H:=HA.out
 clear HA
 simp only [spec_l03Canon.l0] at H
 by_cases c16:x4_1<(l0_0.length:Int)
 {
 rw [if_pos c16] at H
 have c16b0:=decide_eq_true c16
 clear c16
 replace H:=oB H
 obtain ⟨t184,A170,H⟩:=H
 have A17:=aM A170
 clear A170
 replace H:=oB H
 obtain ⟨⟨t187,t190⟩,A180,H⟩:=H
 replace H:((spec_l03Before.f k1 t187 t190 x184000_1 x184001_1).bind fun t194=>(if t194=true then (spec_l03Canon.l0 k1 (wrap64 (x4_1+1)) l0_0 l0_1 t187 t190) else (spec_l03Canon.l0 k1 (wrap64 (x4_1+1)) l0_0 l0_1 x184000_1 x184001_1)))=some (r1,r2):=H
 have A18:=aM A180
 clear A180
 replace H:=oB H
 obtain ⟨t194,A190,H⟩:=H
 have A19:=aM A190
 clear A190
 by_cases c20:t194=true
 {
 subst c20
 have H1:(spec_l03Canon.l0 k1 (wrap64 (x4_1+1)) l0_0 l0_1 t187 t190)=some (r1,r2):=by rw [if_pos rfl] at H;exact H
 clear H
 have H:=H1
 clear H1
 have H':=aM H
 clear H
 have hnb21:=NB172_173.out
 have hnc21:=NB173_172.out
 have hnb22:=NB172_183.out
 have hnc22:=NB183_172.out
 obtain ⟨hcz23_0,hcz23_1,hfz23_0,hfz23_1⟩:=f2Z BK172.out
 try go_wp2
 replace HO_184000:=aM (Kd.R_drew HO_184000.out)
 replace HO_184001:=aM (Kd.R_drew HO_184001.out)
 replace BK172:=aM (blk_drew BK172.out)
 replace BK173:=aM (blk_drew BK173.out)
 replace BK183:=aM (blk_drew BK183.out)
 replace HB:=aM (below_drew1 HB.out)
 refine start_ (n:=7) (S:=fun w'=>w'.cell? ⟨gb172,0,none⟩=some (.slice A0_0 l0_0.length c0_0)∧w'.cell? ⟨gb172,1,none⟩=some (.slice A0_1 l0_1.length c0_1)) (ds:=[]) #[false,false,false,false,false,false,false] (by kernel_rfl) rfl rfl ⟨cz20 BK172.out,cz21 BK172.out⟩ (fun hHeld => ?_)
 generalize wr.drew=w24 at HO_184000 HO_184001 BK172 BK173 BK183 HB hHeld ⊢
 refine pure_ (i:=2) (N:=some 19) (v:=?_) (a':=?_) #[false,false,true,false,false,false,false] rfl rfl (by kernel_rfl) (fun _ _ _ h=>h) (Or.inl ⟨by rfl,?_⟩) ?_ ?_
 rotate_left
 {
 intro w'
 go_simp
 with_reducible rfl
 }
 rotate_left
 {
 simp only [Act.put,zA,zB,zC,i64_w,i32_w]
 rfl
 }
 refine take_ (i:=0) (N:=some 17) (v:=?_) (a':=?_) #[true,false,true,false,false,false,false] rfl rfl (by kernel_rfl) (fun _ _ _ h=>h) (Or.inl ⟨by rfl,?_⟩) hHeld ?_ ?_
 rotate_left
 {
 rintro w' ⟨s0,s1⟩
 go_simp
 with_reducible rfl
 }
 rotate_left
 {
 simp only [Act.put,zA,zB,zC,i64_w,i32_w]
 rfl
 }
 refine take_ (i:=1) (N:=some 18) (v:=?_) (a':=?_) #[true,true,true,false,false,false,false] rfl rfl (by kernel_rfl) (fun _ _ _ h=>h) (Or.inl ⟨by rfl,?_⟩) hHeld ?_ ?_
 rotate_left
 {
 rintro w' ⟨s0,s1⟩
 go_simp
 with_reducible rfl
 }
 rotate_left
 {
 simp only [Act.put,zA,zB,zC,i64_w,i32_w]
 rfl
 }
 refine join_ (σ:=Value × Value × Value × Nat) 1 #[true,true,true,true,true,true,false] (fun s_=>[(20,s_.1),(21,.agg #[s_.2.1,s_.2.2.1]),(5,.pointer (some ⟨s_.2.2.2,0,none⟩))]) (fun s_ w'=>(w'.cell? ⟨gb172,0,none⟩=some (.slice A0_0 l0_0.length c0_0)∧w'.cell? ⟨gb172,1,none⟩=some (.slice A0_1 l0_1.length c0_1))∧(Kd.R (Kd.int .i64) 3 w' w.heap.size (fun k_=>some k_≠(s_.2.1:Value).ownBlock∧some k_≠(s_.2.2.1:Value).ownBlock∧some k_≠(u184000:Value).ownBlock∧some k_≠(u184001:Value).ownBlock) s_.1 t184)∧(Kd.R (Kd.int .i64) 3 w' w.heap.size (fun k_=>some k_≠(s_.1:Value).ownBlock∧some k_≠(s_.2.2.1:Value).ownBlock∧some k_≠(u184000:Value).ownBlock∧some k_≠(u184001:Value).ownBlock) s_.2.1 t187)∧(Kd.R (Kd.int .i64) 3 w' w.heap.size (fun k_=>some k_≠(s_.1:Value).ownBlock∧some k_≠(s_.2.1:Value).ownBlock∧some k_≠(u184000:Value).ownBlock∧some k_≠(u184001:Value).ownBlock) s_.2.2.1 t190)∧(Kd.R (Kd.int .i64) 3 w' w.heap.size (fun k_=>some k_≠(s_.1:Value).ownBlock∧some k_≠(s_.2.1:Value).ownBlock∧some k_≠(s_.2.2.1:Value).ownBlock∧some k_≠(u184001:Value).ownBlock) u184000 x184000_1)∧(Kd.R (Kd.int .i64) 3 w' w.heap.size (fun k_=>some k_≠(s_.1:Value).ownBlock∧some k_≠(s_.2.1:Value).ownBlock∧some k_≠(s_.2.2.1:Value).ownBlock∧some k_≠(u184000:Value).ownBlock) u184001 x184001_1)∧(w'.heap[gb172]? = some (.cells #[.slice A0_0 l0_0.length c0_0,.slice A0_1 l0_1.length c0_1] 27 (0,0)))∧(w'.heap[gb173]? = some (.cells #[.slice none 0 0,.slice none 0 0] 27 (0,0)))∧(w'.heap[gb183]? = some (.cells #[u184000,u184001] 27 (0,0)))∧(w'.heap[s_.2.2.2]? = some (.cells #[.slice none 0 0,.slice none 0 0] 27 (0,0)))∧(w.heap.size≤s_.2.2.2)∧(w.heap.size≤s_.2.2.2)∧(gb172≠s_.2.2.2)∧(s_.2.2.2≠gb172)∧(gb173≠s_.2.2.2)∧(s_.2.2.2≠gb173)∧(gb183≠s_.2.2.2)∧(s_.2.2.2≠gb183)∧(Below w.heap.size w w')) ?_ ?_
 rotate_left
 {
 intro hCont
 refine two_ (i:=3) (j:=5) (Ni:=some 20) (Nj:=some 5) #[true,true,true,true,false,false,false] #[true,true,true,false,false,true,false] rfl rfl rfl rfl (by kernel_rfl) (by decide) (by decide) (fun K hK => ?_) (fun K hK => ?_)
 {
 skip
 refine goes_ Tryz.func53 (by kernel_rfl) rfl #[.agg #[.slice A0_0 l0_0.length c0_0,.slice A0_1 l0_1.length c0_1],.int .i64 x4_1] (by rfl) rfl rfl aX ?_
 with_reducible refine(spec_l03Names.calls k1 _ _ l0_0 _ _ l0_1 x4_1 t184 _ ?side1 ?side2 ?side3 ?side4 A17.out).mono ?_
 (case side1=>exact cX (Kd.C_below HR0_0.out HB.out))
 (case side2=>exact HC0_0.out)
 (case side3=>exact cX (Kd.C_below HR0_1.out HB.out))
 (case side4=>exact HC0_1.out)
 rintro e w25 ⟨v185,rfl,ho0,hb⟩
 refine ⟨_,rfl,?_⟩
 have HO186:=aM (Kd.R_lower (Kd.R_new' (Kd.R_new' ho0 (Kd.R_lt (rX HO_184000.out))) (Kd.R_lt (rX HO_184001.out))) (below_size (bX3 HB.out GE172.out GE173.out GE183.out)))
 replace HO_184000:=aM (Kd.R_elder' (rX HO_184000.out) (Kd.R_base ho0) hb)
 replace HO_184001:=aM (Kd.R_elder' (rX HO_184001.out) (Kd.R_base ho0) hb)
 replace BK172:=aM (bbX BK172.out hb)
 replace BK173:=aM (bbX BK173.out hb)
 replace BK183:=aM (bbX BK183.out hb)
 replace HB:=aM (below_step (bX3 HB.out GE172.out GE173.out GE183.out) hb)
 (try clear hb)
 (try clear hk)
 (try clear ho0)
 obtain ⟨Ao26,co26,eo26⟩:=Kd.R_slice HO186.out
 (first|subst eo26|(injection eo26 with f1_ f2_ f3_;have f4_:=f1_.symm;have f5_:=f3_.symm;clear f1_ f2_ f3_;subst f4_;subst f5_))
 refine hK.out _ _ ⟨cz20 BK172.out,cz21 BK172.out⟩ (fun hHeld => ?_)
 clear hK K
 refine norm_ (a':=?_) ?_ ?_
 rotate_left
 {
 show Act.put _ (some 20) _=_
 simp only [Act.put,zA,zB,zC,i64_w,i32_w]
 rfl
 }
 refine two_ (i:=4) (j:=5) (Ni:=some 21) (Nj:=some 5) #[true,true,true,true,true,false,false] #[true,true,true,true,false,true,false] rfl rfl rfl rfl (by kernel_rfl) (by decide) (by decide) (fun K hK => ?_) (fun K hK => ?_)
 {
 skip
 refine goes_ Tryz.func52 (by kernel_rfl) rfl #[.agg #[.slice A0_0 l0_0.length c0_0,.slice A0_1 l0_1.length c0_1],.slice Ao26 t184.length co26] (by rfl) rfl rfl aX ?_
 with_reducible refine(spec_l03Rename.calls k1 _ _ l0_0 _ _ l0_1 _ _ t184 t187 t190 _ ?side1 ?side2 ?side3 ?side4 ?side5 ?side6 A18.out).mono ?_
 (case side1=>exact cX (Kd.C_below HR0_0.out HB.out))
 (case side2=>exact HC0_0.out)
 (case side3=>exact cX (Kd.C_below HR0_1.out HB.out))
 (case side4=>exact HC0_1.out)
 (case side5=>exact cX (Kd.R_reads' HO186.out).2.2)
 (case side6=>exact(Kd.R_reads' HO186.out).2.1)
 rintro e w27 ⟨v188,v191,rfl,ho0,ho1,hb⟩
 refine ⟨_,rfl,?_⟩
 have HO189:=aM (Kd.R_lower (Kd.R_new' (Kd.R_new' (Kd.R_new' ho0 (Kd.R_lt (rX HO_184000.out))) (Kd.R_lt (rX HO_184001.out))) (Kd.R_lt (rX HO186.out))) (below_size (bX3 HB.out GE172.out GE173.out GE183.out)))
 have HO192:=aM (Kd.R_lower (Kd.R_new' (Kd.R_new' (Kd.R_new' ho1 (Kd.R_lt (rX HO_184000.out))) (Kd.R_lt (rX HO_184001.out))) (Kd.R_lt (rX HO186.out))) (below_size (bX3 HB.out GE172.out GE173.out GE183.out)))
 replace HO_184000:=aM (Kd.R_mono (Kd.R_told (Kd.R_told (Kd.R_old (rX HO_184000.out) hb) (Kd.R_base ho0)) (Kd.R_base ho1)) (fun _ h_=>h_.1))
 replace HO_184001:=aM (Kd.R_mono (Kd.R_told (Kd.R_told (Kd.R_old (rX HO_184001.out) hb) (Kd.R_base ho0)) (Kd.R_base ho1)) (fun _ h_=>h_.1))
 replace HO186:=aM (Kd.R_mono (Kd.R_told (Kd.R_told (Kd.R_old (rX HO186.out) hb) (Kd.R_base ho0)) (Kd.R_base ho1)) (fun _ h_=>h_.1))
 replace BK172:=aM (bbX BK172.out hb)
 replace BK173:=aM (bbX BK173.out hb)
 replace BK183:=aM (bbX BK183.out hb)
 replace HB:=aM (below_step (bX3 HB.out GE172.out GE173.out GE183.out) hb)
 (try clear hb)
 (try clear hk)
 (try clear ho0)
 (try clear ho1)
 refine hK.out _ _ ⟨cz20 BK172.out,cz21 BK172.out⟩ (fun hHeld => ?_)
 clear hK K
 refine norm_ (a':=?_) ?_ ?_
 rotate_left
 {
 show Act.put _ (some 21) _=_
 simp only [Act.put,zA,zB,zC,i64_w,i32_w]
 rfl
 }
 refine one_ (i:=5) (N:=some 5) #[true,true,true,true,true,true,false] rfl rfl (by kernel_rfl) (by decide) (fun K hK => ?_)
 refine box_step ?hg (N:=5) ?hd (cs:=#[.slice none 0 0,.slice none 0 0]) (t:=27) ?hr ?_;(case hd=>rfl);(case hg=>rfl);(case hr=>first|(go_simp;done)|(go_simp;rfl))
 intro gb193 hg w28 hbox hb
 replace HO_184000:=aM (Kd.R_below (rX HO_184000.out) hb)
 replace HO_184001:=aM (Kd.R_below (rX HO_184001.out) hb)
 replace HO186:=aM (Kd.R_below (rX HO186.out) hb)
 replace HO189:=aM (Kd.R_below (rX HO189.out) hb)
 replace HO192:=aM (Kd.R_below (rX HO192.out) hb)
 have BK193:=aM (hbox)
 have GW193:=aM ((szX (below_size (bX3 HB.out GE172.out GE173.out GE183.out)) hg:w.heap.size≤gb193))
 have GE193:=GW193
 replace HB:=aM (below_step (bX3 HB.out GE172.out GE173.out GE183.out) hb)
 have NB172_193:=aM (neX BK172.out hg)
 have NB193_172:=aM (nfX BK172.out hg)
 replace BK172:=aM (bbX BK172.out hb)
 have NB173_193:=aM (neX BK173.out hg)
 have NB193_173:=aM (nfX BK173.out hg)
 replace BK173:=aM (bbX BK173.out hb)
 have NB183_193:=aM (neX BK183.out hg)
 have NB193_183:=aM (nfX BK183.out hg)
 replace BK183:=aM (bbX BK183.out hb)
 clear hb hbox hg
 refine hK.out _ _ ⟨cz20 BK172.out,cz21 BK172.out⟩ (fun hHeld => ?_)
 clear hK K
 refine norm_ (a':=?_) ?_ ?_
 rotate_left
 {
 show Act.put _ (some 5) _=_
 simp only [Act.put,zA,zB,zC,i64_w,i32_w]
 rfl
 }
 exact norm_ (by simp only [putAll,Act.put,List.setIfInBounds_toArray,List.set_cons_zero,List.set_cons_succ]) (hCont (.slice Ao26 t184.length co26,v188,v191,gb193) _ ⟨hHeld,(rM HO186.out (fun _ hk=>⟨hk.1.2,⟨hk.2,⟨hk.1.1.1.2,hk.1.1.2⟩⟩⟩)),(rM HO189.out (fun _ hk=>⟨hk.2,⟨hk.1.1.1,⟨hk.1.1.2,hk.1.2⟩⟩⟩)),(rM HO192.out (fun _ hk=>⟨hk.2,⟨hk.1.1.1,⟨hk.1.1.2,hk.1.2⟩⟩⟩)),(rM HO_184000.out (fun _ hk=>⟨hk.1.1.2,⟨hk.1.2,⟨hk.2,hk.1.1.1⟩⟩⟩)),(rM HO_184001.out (fun _ hk=>⟨hk.1.1.2,⟨hk.1.2,⟨hk.2,hk.1.1.1⟩⟩⟩)),(kX BK172.out),(kX BK173.out),(kX BK183.out),(kX BK193.out),GW193.out,GE193.out,NB172_193.out,NB193_172.out,NB173_193.out,NB193_173.out,NB183_193.out,NB193_183.out,(by repeat(first|(with_reducible first|exact HB.out|apply bA|apply bN|apply bD|refine below_set ?_ GE172.out|refine below_set ?_ GE173.out|refine below_set ?_ GE183.out|refine below_set ?_ GE193.out)|exact HB.out))⟩)
 }
 {
 skip
 refine box_step ?hg (N:=5) ?hd (cs:=#[.slice none 0 0,.slice none 0 0]) (t:=27) ?hr ?_;(case hd=>rfl);(case hg=>rfl);(case hr=>first|(go_simp;done)|(go_simp;rfl))
 intro gb193 hg w26 hbox hb
 replace HO_184000:=aM (Kd.R_below (rX HO_184000.out) hb)
 replace HO_184001:=aM (Kd.R_below (rX HO_184001.out) hb)
 replace HO186:=aM (Kd.R_below (rX HO186.out) hb)
 have BK193:=aM (hbox)
 have GW193:=aM ((szX (below_size (bX3 HB.out GE172.out GE173.out GE183.out)) hg:w.heap.size≤gb193))
 have GE193:=GW193
 replace HB:=aM (below_step (bX3 HB.out GE172.out GE173.out GE183.out) hb)
 have NB172_193:=aM (neX BK172.out hg)
 have NB193_172:=aM (nfX BK172.out hg)
 replace BK172:=aM (bbX BK172.out hb)
 have NB173_193:=aM (neX BK173.out hg)
 have NB193_173:=aM (nfX BK173.out hg)
 replace BK173:=aM (bbX BK173.out hb)
 have NB183_193:=aM (neX BK183.out hg)
 have NB193_183:=aM (nfX BK183.out hg)
 replace BK183:=aM (bbX BK183.out hb)
 clear hb hbox hg
 obtain ⟨Ao27,co27,eo27⟩:=Kd.R_slice HO186.out
 (first|subst eo27|(injection eo27 with f1_ f2_ f3_;have f4_:=f1_.symm;have f5_:=f3_.symm;clear f1_ f2_ f3_;subst f4_;subst f5_))
 refine hK.out _ _ ⟨cz20 BK172.out,cz21 BK172.out⟩ (fun hHeld => ?_)
 clear hK K
 refine norm_ (a':=?_) ?_ ?_
 rotate_left
 {
 show Act.put _ (some 5) _=_
 simp only [Act.put,zA,zB,zC,i64_w,i32_w]
 rfl
 }
 refine one_ (i:=4) (N:=some 21) #[true,true,true,true,true,true,false] rfl rfl (by kernel_rfl) (by decide) (fun K hK => ?_)
 refine goes_ Tryz.func52 (by kernel_rfl) rfl #[.agg #[.slice A0_0 l0_0.length c0_0,.slice A0_1 l0_1.length c0_1],.slice Ao27 t184.length co27] (by rfl) rfl rfl aX ?_
 with_reducible refine(spec_l03Rename.calls k1 _ _ l0_0 _ _ l0_1 _ _ t184 t187 t190 _ ?side1 ?side2 ?side3 ?side4 ?side5 ?side6 A18.out).mono ?_
 (case side1=>exact cX (Kd.C_below HR0_0.out HB.out))
 (case side2=>exact HC0_0.out)
 (case side3=>exact cX (Kd.C_below HR0_1.out HB.out))
 (case side4=>exact HC0_1.out)
 (case side5=>exact cX (Kd.R_reads' HO186.out).2.2)
 (case side6=>exact(Kd.R_reads' HO186.out).2.1)
 rintro e w28 ⟨v188,v191,rfl,ho0,ho1,hb⟩
 refine ⟨_,rfl,?_⟩
 have HO189:=aM (Kd.R_lower (Kd.R_new' (Kd.R_new' (Kd.R_new' ho0 (Kd.R_lt (rX HO_184000.out))) (Kd.R_lt (rX HO_184001.out))) (Kd.R_lt (rX HO186.out))) (below_size (by repeat(first|(with_reducible first|exact HB.out|apply bA|apply bN|apply bD|refine below_set ?_ GE172.out|refine below_set ?_ GE173.out|refine below_set ?_ GE183.out|refine below_set ?_ GE193.out)|exact HB.out))))
 have HO192:=aM (Kd.R_lower (Kd.R_new' (Kd.R_new' (Kd.R_new' ho1 (Kd.R_lt (rX HO_184000.out))) (Kd.R_lt (rX HO_184001.out))) (Kd.R_lt (rX HO186.out))) (below_size (by repeat(first|(with_reducible first|exact HB.out|apply bA|apply bN|apply bD|refine below_set ?_ GE172.out|refine below_set ?_ GE173.out|refine below_set ?_ GE183.out|refine below_set ?_ GE193.out)|exact HB.out))))
 replace HO_184000:=aM (Kd.R_mono (Kd.R_told (Kd.R_told (Kd.R_old (rX HO_184000.out) hb) (Kd.R_base ho0)) (Kd.R_base ho1)) (fun _ h_=>h_.1))
 replace HO_184001:=aM (Kd.R_mono (Kd.R_told (Kd.R_told (Kd.R_old (rX HO_184001.out) hb) (Kd.R_base ho0)) (Kd.R_base ho1)) (fun _ h_=>h_.1))
 replace HO186:=aM (Kd.R_mono (Kd.R_told (Kd.R_told (Kd.R_old (rX HO186.out) hb) (Kd.R_base ho0)) (Kd.R_base ho1)) (fun _ h_=>h_.1))
 replace BK172:=aM (bbX BK172.out hb)
 replace BK173:=aM (bbX BK173.out hb)
 replace BK183:=aM (bbX BK183.out hb)
 replace BK193:=aM (bbX BK193.out hb)
 replace HB:=aM (below_step (by repeat(first|(with_reducible first|exact HB.out|apply bA|apply bN|apply bD|refine below_set ?_ GE172.out|refine below_set ?_ GE173.out|refine below_set ?_ GE183.out|refine below_set ?_ GE193.out)|exact HB.out)) hb)
 (try clear hb)
 (try clear hk)
 (try clear ho0)
 (try clear ho1)
 refine hK.out _ _ ⟨cz20 BK172.out,cz21 BK172.out⟩ (fun hHeld => ?_)
 clear hK K
 refine norm_ (a':=?_) ?_ ?_
 rotate_left
 {
 show Act.put _ (some 21) _=_
 simp only [Act.put,zA,zB,zC,i64_w,i32_w]
 rfl
 }
 exact norm_ (by simp only [putAll,Act.put,List.setIfInBounds_toArray,List.set_cons_zero,List.set_cons_succ]) (hCont (.slice Ao27 t184.length co27,v188,v191,gb193) _ ⟨hHeld,(rM HO186.out (fun _ hk=>⟨hk.1.2,⟨hk.2,⟨hk.1.1.1.2,hk.1.1.2⟩⟩⟩)),(rM HO189.out (fun _ hk=>⟨hk.2,⟨hk.1.1.1,⟨hk.1.1.2,hk.1.2⟩⟩⟩)),(rM HO192.out (fun _ hk=>⟨hk.2,⟨hk.1.1.1,⟨hk.1.1.2,hk.1.2⟩⟩⟩)),(rM HO_184000.out (fun _ hk=>⟨hk.1.1.2,⟨hk.1.2,⟨hk.2,hk.1.1.1⟩⟩⟩)),(rM HO_184001.out (fun _ hk=>⟨hk.1.1.2,⟨hk.1.2,⟨hk.2,hk.1.1.1⟩⟩⟩)),(kX BK172.out),(kX BK173.out),(kX BK183.out),(kX BK193.out),GW193.out,GE193.out,NB172_193.out,NB193_172.out,NB173_193.out,NB193_173.out,NB183_193.out,NB193_183.out,(by repeat(first|(with_reducible first|exact HB.out|apply bA|apply bN|apply bD|refine below_set ?_ GE172.out|refine below_set ?_ GE173.out|refine below_set ?_ GE183.out|refine below_set ?_ GE193.out)|exact HB.out))⟩)
 }
 }
 {
 skip
 refine box_step ?hg (N:=5) ?hd (cs:=#[.slice none 0 0,.slice none 0 0]) (t:=27) ?hr ?_;(case hd=>rfl);(case hg=>rfl);(case hr=>first|(go_simp;done)|(go_simp;rfl))
 intro gb193 hg w25 hbox hb
 replace HO_184000:=aM (Kd.R_below (rX HO_184000.out) hb)
 replace HO_184001:=aM (Kd.R_below (rX HO_184001.out) hb)
 have BK193:=aM (hbox)
 have GW193:=aM ((szX (below_size (bX3 HB.out GE172.out GE173.out GE183.out)) hg:w.heap.size≤gb193))
 have GE193:=GW193
 replace HB:=aM (below_step (bX3 HB.out GE172.out GE173.out GE183.out) hb)
 have NB172_193:=aM (neX BK172.out hg)
 have NB193_172:=aM (nfX BK172.out hg)
 replace BK172:=aM (bbX BK172.out hb)
 have NB173_193:=aM (neX BK173.out hg)
 have NB193_173:=aM (nfX BK173.out hg)
 replace BK173:=aM (bbX BK173.out hb)
 have NB183_193:=aM (neX BK183.out hg)
 have NB193_183:=aM (nfX BK183.out hg)
 replace BK183:=aM (bbX BK183.out hb)
 clear hb hbox hg
 refine hK.out _ _ ⟨cz20 BK172.out,cz21 BK172.out⟩ (fun hHeld => ?_)
 clear hK K
 refine norm_ (a':=?_) ?_ ?_
 rotate_left
 {
 show Act.put _ (some 5) _=_
 simp only [Act.put,zA,zB,zC,i64_w,i32_w]
 rfl
 }
 refine one_ (i:=3) (N:=some 20) #[true,true,true,true,false,true,false] rfl rfl (by kernel_rfl) (by decide) (fun K hK => ?_)
 refine goes_ Tryz.func53 (by kernel_rfl) rfl #[.agg #[.slice A0_0 l0_0.length c0_0,.slice A0_1 l0_1.length c0_1],.int .i64 x4_1] (by rfl) rfl rfl aX ?_
 with_reducible refine(spec_l03Names.calls k1 _ _ l0_0 _ _ l0_1 x4_1 t184 _ ?side1 ?side2 ?side3 ?side4 A17.out).mono ?_
 (case side1=>exact cX (Kd.C_below HR0_0.out HB.out))
 (case side2=>exact HC0_0.out)
 (case side3=>exact cX (Kd.C_below HR0_1.out HB.out))
 (case side4=>exact HC0_1.out)
 rintro e w26 ⟨v185,rfl,ho0,hb⟩
 refine ⟨_,rfl,?_⟩
 have HO186:=aM (Kd.R_lower (Kd.R_new' (Kd.R_new' ho0 (Kd.R_lt (rX HO_184000.out))) (Kd.R_lt (rX HO_184001.out))) (below_size (by repeat(first|(with_reducible first|exact HB.out|apply bA|apply bN|apply bD|refine below_set ?_ GE172.out|refine below_set ?_ GE173.out|refine below_set ?_ GE183.out|refine below_set ?_ GE193.out)|exact HB.out))))
 replace HO_184000:=aM (Kd.R_elder' (rX HO_184000.out) (Kd.R_base ho0) hb)
 replace HO_184001:=aM (Kd.R_elder' (rX HO_184001.out) (Kd.R_base ho0) hb)
 replace BK172:=aM (bbX BK172.out hb)
 replace BK173:=aM (bbX BK173.out hb)
 replace BK183:=aM (bbX BK183.out hb)
 replace BK193:=aM (bbX BK193.out hb)
 replace HB:=aM (below_step (by repeat(first|(with_reducible first|exact HB.out|apply bA|apply bN|apply bD|refine below_set ?_ GE172.out|refine below_set ?_ GE173.out|refine below_set ?_ GE183.out|refine below_set ?_ GE193.out)|exact HB.out)) hb)
 (try clear hb)
 (try clear hk)
 (try clear ho0)
 obtain ⟨Ao27,co27,eo27⟩:=Kd.R_slice HO186.out
 (first|subst eo27|(injection eo27 with f1_ f2_ f3_;have f4_:=f1_.symm;have f5_:=f3_.symm;clear f1_ f2_ f3_;subst f4_;subst f5_))
 refine hK.out _ _ ⟨cz20 BK172.out,cz21 BK172.out⟩ (fun hHeld => ?_)
 clear hK K
 refine norm_ (a':=?_) ?_ ?_
 rotate_left
 {
 show Act.put _ (some 20) _=_
 simp only [Act.put,zA,zB,zC,i64_w,i32_w]
 rfl
 }
 refine one_ (i:=4) (N:=some 21) #[true,true,true,true,true,true,false] rfl rfl (by kernel_rfl) (by decide) (fun K hK => ?_)
 refine goes_ Tryz.func52 (by kernel_rfl) rfl #[.agg #[.slice A0_0 l0_0.length c0_0,.slice A0_1 l0_1.length c0_1],.slice Ao27 t184.length co27] (by rfl) rfl rfl aX ?_
 with_reducible refine(spec_l03Rename.calls k1 _ _ l0_0 _ _ l0_1 _ _ t184 t187 t190 _ ?side1 ?side2 ?side3 ?side4 ?side5 ?side6 A18.out).mono ?_
 (case side1=>exact cX (Kd.C_below HR0_0.out HB.out))
 (case side2=>exact HC0_0.out)
 (case side3=>exact cX (Kd.C_below HR0_1.out HB.out))
 (case side4=>exact HC0_1.out)
 (case side5=>exact cX (Kd.R_reads' HO186.out).2.2)
 (case side6=>exact(Kd.R_reads' HO186.out).2.1)
 rintro e w28 ⟨v188,v191,rfl,ho0,ho1,hb⟩
 refine ⟨_,rfl,?_⟩
 have HO189:=aM (Kd.R_lower (Kd.R_new' (Kd.R_new' (Kd.R_new' ho0 (Kd.R_lt (rX HO_184000.out))) (Kd.R_lt (rX HO_184001.out))) (Kd.R_lt (rX HO186.out))) (below_size (by repeat(first|(with_reducible first|exact HB.out|apply bA|apply bN|apply bD|refine below_set ?_ GE172.out|refine below_set ?_ GE173.out|refine below_set ?_ GE183.out|refine below_set ?_ GE193.out)|exact HB.out))))
 have HO192:=aM (Kd.R_lower (Kd.R_new' (Kd.R_new' (Kd.R_new' ho1 (Kd.R_lt (rX HO_184000.out))) (Kd.R_lt (rX HO_184001.out))) (Kd.R_lt (rX HO186.out))) (below_size (by repeat(first|(with_reducible first|exact HB.out|apply bA|apply bN|apply bD|refine below_set ?_ GE172.out|refine below_set ?_ GE173.out|refine below_set ?_ GE183.out|refine below_set ?_ GE193.out)|exact HB.out))))
 replace HO_184000:=aM (Kd.R_mono (Kd.R_told (Kd.R_told (Kd.R_old (rX HO_184000.out) hb) (Kd.R_base ho0)) (Kd.R_base ho1)) (fun _ h_=>h_.1))
 replace HO_184001:=aM (Kd.R_mono (Kd.R_told (Kd.R_told (Kd.R_old (rX HO_184001.out) hb) (Kd.R_base ho0)) (Kd.R_base ho1)) (fun _ h_=>h_.1))
 replace HO186:=aM (Kd.R_mono (Kd.R_told (Kd.R_told (Kd.R_old (rX HO186.out) hb) (Kd.R_base ho0)) (Kd.R_base ho1)) (fun _ h_=>h_.1))
 replace BK172:=aM (bbX BK172.out hb)
 replace BK173:=aM (bbX BK173.out hb)
 replace BK183:=aM (bbX BK183.out hb)
 replace BK193:=aM (bbX BK193.out hb)
 replace HB:=aM (below_step (by repeat(first|(with_reducible first|exact HB.out|apply bA|apply bN|apply bD|refine below_set ?_ GE172.out|refine below_set ?_ GE173.out|refine below_set ?_ GE183.out|refine below_set ?_ GE193.out)|exact HB.out)) hb)
 (try clear hb)
 (try clear hk)
 (try clear ho0)
 (try clear ho1)
 refine hK.out _ _ ⟨cz20 BK172.out,cz21 BK172.out⟩ (fun hHeld => ?_)
 clear hK K
 refine norm_ (a':=?_) ?_ ?_
 rotate_left
 {
 show Act.put _ (some 21) _=_
 simp only [Act.put,zA,zB,zC,i64_w,i32_w]
 rfl
 }
 exact norm_ (by simp only [putAll,Act.put,List.setIfInBounds_toArray,List.set_cons_zero,List.set_cons_succ]) (hCont (.slice Ao27 t184.length co27,v188,v191,gb193) _ ⟨hHeld,(rM HO186.out (fun _ hk=>⟨hk.1.2,⟨hk.2,⟨hk.1.1.1.2,hk.1.1.2⟩⟩⟩)),(rM HO189.out (fun _ hk=>⟨hk.2,⟨hk.1.1.1,⟨hk.1.1.2,hk.1.2⟩⟩⟩)),(rM HO192.out (fun _ hk=>⟨hk.2,⟨hk.1.1.1,⟨hk.1.1.2,hk.1.2⟩⟩⟩)),(rM HO_184000.out (fun _ hk=>⟨hk.1.1.2,⟨hk.1.2,⟨hk.2,hk.1.1.1⟩⟩⟩)),(rM HO_184001.out (fun _ hk=>⟨hk.1.1.2,⟨hk.1.2,⟨hk.2,hk.1.1.1⟩⟩⟩)),(kX BK172.out),(kX BK173.out),(kX BK183.out),(kX BK193.out),GW193.out,GE193.out,NB172_193.out,NB193_172.out,NB173_193.out,NB193_173.out,NB183_193.out,NB193_183.out,(by repeat(first|(with_reducible first|exact HB.out|apply bA|apply bN|apply bD|refine below_set ?_ GE172.out|refine below_set ?_ GE173.out|refine below_set ?_ GE183.out|refine below_set ?_ GE193.out)|exact HB.out))⟩)
 }
 }
 rintro ⟨v185,v188,v191,gb193⟩ w29 ⟨hS_,h0_,h1_,h2_,h3_,h4_,h5_,h6_,h7_,h8_,h9_,h10_,h11_,h12_,h13_,h14_,h15_,h16_,h17_⟩
 have n0_:Aside0 (Kd.R (Kd.int .i64) 3 w29 w.heap.size (fun k_=>some k_≠(v188:Value).ownBlock∧some k_≠(v191:Value).ownBlock∧some k_≠(u184000:Value).ownBlock∧some k_≠(u184001:Value).ownBlock) v185 t184):=⟨h0_⟩
 have n1_:Aside0 (Kd.R (Kd.int .i64) 3 w29 w.heap.size (fun k_=>some k_≠(v185:Value).ownBlock∧some k_≠(v191:Value).ownBlock∧some k_≠(u184000:Value).ownBlock∧some k_≠(u184001:Value).ownBlock) v188 t187):=⟨h1_⟩
 have n2_:Aside0 (Kd.R (Kd.int .i64) 3 w29 w.heap.size (fun k_=>some k_≠(v185:Value).ownBlock∧some k_≠(v188:Value).ownBlock∧some k_≠(u184000:Value).ownBlock∧some k_≠(u184001:Value).ownBlock) v191 t190):=⟨h2_⟩
 have n3_:Aside0 (Kd.R (Kd.int .i64) 3 w29 w.heap.size (fun k_=>some k_≠(v185:Value).ownBlock∧some k_≠(v188:Value).ownBlock∧some k_≠(v191:Value).ownBlock∧some k_≠(u184001:Value).ownBlock) u184000 x184000_1):=⟨h3_⟩
 have n4_:Aside0 (Kd.R (Kd.int .i64) 3 w29 w.heap.size (fun k_=>some k_≠(v185:Value).ownBlock∧some k_≠(v188:Value).ownBlock∧some k_≠(v191:Value).ownBlock∧some k_≠(u184000:Value).ownBlock) u184001 x184001_1):=⟨h4_⟩
 have n5_:Aside0 (w29.heap[gb172]? = some (.cells #[.slice A0_0 l0_0.length c0_0,.slice A0_1 l0_1.length c0_1] 27 (0,0))):=⟨h5_⟩
 have n6_:Aside0 (w29.heap[gb173]? = some (.cells #[.slice none 0 0,.slice none 0 0] 27 (0,0))):=⟨h6_⟩
 have n7_:Aside0 (w29.heap[gb183]? = some (.cells #[u184000,u184001] 27 (0,0))):=⟨h7_⟩
 have n8_:Aside0 (w29.heap[gb193]? = some (.cells #[.slice none 0 0,.slice none 0 0] 27 (0,0))):=⟨h8_⟩
 have n9_:Aside0 (w.heap.size≤gb193):=⟨h9_⟩
 have n10_:Aside0 (w.heap.size≤gb193):=⟨h10_⟩
 have n11_:Aside0 (gb172≠gb193):=⟨h11_⟩
 have n12_:Aside0 (gb193≠gb172):=⟨h12_⟩
 have n13_:Aside0 (gb173≠gb193):=⟨h13_⟩
 have n14_:Aside0 (gb193≠gb173):=⟨h14_⟩
 have n15_:Aside0 (gb183≠gb193):=⟨h15_⟩
 have n16_:Aside0 (gb193≠gb183):=⟨h16_⟩
 have n17_:Aside0 (Below w.heap.size w w29):=⟨h17_⟩
 clear HO_184000 HO_184001 BK172 BK173 BK183 HB h0_ h1_ h2_ h3_ h4_ h5_ h6_ h7_ h8_ h9_ h10_ h11_ h12_ h13_ h14_ h15_ h16_ h17_
 have HO186:=n0_
 have HO189:=n1_
 have HO192:=n2_
 have HO_184000:=n3_
 have HO_184001:=n4_
 have BK172:=n5_
 have BK173:=n6_
 have BK183:=n7_
 have BK193:=n8_
 have GW193:=n9_
 have GE193:=n10_
 have NB172_193:=n11_
 have NB193_172:=n12_
 have NB173_193:=n13_
 have NB193_173:=n14_
 have NB183_193:=n15_
 have NB193_183:=n16_
 have HB:=n17_
 clear n0_ n1_ n2_ n3_ n4_ n5_ n6_ n7_ n8_ n9_ n10_ n11_ n12_ n13_ n14_ n15_ n16_ n17_
 have hHeld:w29.cell? ⟨gb172,0,none⟩=some (.slice A0_0 l0_0.length c0_0)∧w29.cell? ⟨gb172,1,none⟩=some (.slice A0_1 l0_1.length c0_1):=hS_
 obtain ⟨Ao30,co30,eo30⟩:=Kd.R_slice HO189.out
 (first|subst eo30|(injection eo30 with f1_ f2_ f3_;have f4_:=f1_.symm;have f5_:=f3_.symm;clear f1_ f2_ f3_;subst f4_;subst f5_))
 obtain ⟨Ao32,co32,eo32⟩:=Kd.R_slice HO192.out
 (first|subst eo32|(injection eo32 with f1_ f2_ f3_;have f4_:=f1_.symm;have f5_:=f3_.symm;clear f1_ f2_ f3_;subst f4_;subst f5_))
 refine norm_ (a':=?_) ?_ ?_
 rotate_left
 {
 simp only [putAll,Act.put,List.setIfInBounds_toArray,List.set_cons_zero,List.set_cons_succ]
 rfl
 }
 refine one_ (i:=6) (N:=none) #[true,true,true,true,true,true,true] rfl rfl (by kernel_rfl) (by decide) (fun K hK => ?_)
 have hs31:w29.cell? ⟨gb193,0,none⟩=some (.slice none 0 0):=cz20 BK193.out
 have hfs31:=blk_frozen BK193.out 0
 have hns31_0:=NB172_193.out
 have hns31_1:=NB173_193.out
 have hns31_2:=NB183_193.out
 have hms31_0:=NB193_172.out
 have hms31_1:=NB193_173.out
 have hms31_2:=NB193_183.out
 have hs33:w29.cell? ⟨gb193,1,none⟩=some (.slice none 0 0):=cz21 BK193.out
 have hfs33:=blk_frozen BK193.out 1
 have hns33_0:=NB172_193.out
 have hns33_1:=NB173_193.out
 have hns33_2:=NB183_193.out
 have hms33_0:=NB193_172.out
 have hms33_1:=NB193_173.out
 have hms33_2:=NB193_183.out
 refine skip_ (w1:=?_) (by rfl) rfl ?_ ?_
 rotate_left
 {
 go_simp
 rfl
 }
 refine hK.out _ _ ⟨((cell_far (p:=⟨gb193,_,none⟩) NB172_193.out _).trans (((cell_far (p:=⟨gb193,_,none⟩) NB172_193.out _).trans (hHeld.1)))),((cell_far (p:=⟨gb193,_,none⟩) NB172_193.out _).trans (((cell_far (p:=⟨gb193,_,none⟩) NB172_193.out _).trans (hHeld.2))))⟩ (fun hHeld => ?_)
 clear hK K
 refine done_ (by kernel_rfl) ?_
 have hnb34:=NB193_172.out
 have hnc34:=NB172_193.out
 have hnb35:=NB193_173.out
 have hnc35:=NB173_193.out
 have hnb36:=NB193_183.out
 have hnc36:=NB183_193.out
 obtain ⟨hcz37_0,hcz37_1,hfz37_0,hfz37_1⟩:=f2Z BK193.out
 have hnb38:=NB183_173.out
 have hnc38:=NB173_183.out
 obtain ⟨hcz39_0,hcz39_1,hfz39_0,hfz39_1⟩:=f2Z BK183.out
 obtain ⟨Ao40,co40,eo40⟩:=Kd.R_slice HO_184000.out
 subst eo40
 obtain ⟨Ao41,co41,eo41⟩:=Kd.R_slice HO_184001.out
 subst eo41
 try go_wp2_with (first|((with_reducible refine gate_callee (f:=54) rfl ?_);refine goesL_ (some 24) rfl rfl Tryz.func54 (by kernel_rfl) rfl #[.agg #[.slice Ao30 t187.length co30,.slice Ao32 t190.length co32],.agg #[.slice Ao40 x184000_1.length co40,.slice Ao41 x184001_1.length co41]] rfl aX ?_;(with_reducible refine(spec_l03Before.calls k1 _ _ t187 _ _ t190 _ _ x184000_1 _ _ x184001_1 true _ ?side1 ?side2 ?side3 ?side4 ?side5 ?side6 ?side7 ?side8 A19.out).mono ?_);(case side1=>exact rcX (fr2 HO189.out BK193.out (.slice Ao30 t187.length co30) (.slice Ao32 t190.length co32)));(case side2=>exact(Kd.R_reads' HO189.out).2.1);(case side3=>exact rcX (fr2 HO192.out BK193.out (.slice Ao30 t187.length co30) (.slice Ao32 t190.length co32)));(case side4=>exact(Kd.R_reads' HO192.out).2.1);(case side5=>exact rcX (fr2 HO_184000.out BK193.out (.slice Ao30 t187.length co30) (.slice Ao32 t190.length co32)));(case side6=>exact(Kd.R_reads' HO_184000.out).2.1);(case side7=>exact rcX (fr2 HO_184001.out BK193.out (.slice Ao30 t187.length co30) (.slice Ao32 t190.length co32)));(case side8=>exact(Kd.R_reads' HO_184001.out).2.1);rintro e w42 ⟨rfl,hb⟩;refine ⟨_,rfl,?_⟩;replace HO_184000:=aM (Kd.R_below (rX (fr2 HO_184000.out BK193.out (.slice Ao30 t187.length co30) (.slice Ao32 t190.length co32))) hb);replace HO_184001:=aM (Kd.R_below (rX (fr2 HO_184001.out BK193.out (.slice Ao30 t187.length co30) (.slice Ao32 t190.length co32))) hb);replace HO186:=aM (Kd.R_below (rX (fr2 HO186.out BK193.out (.slice Ao30 t187.length co30) (.slice Ao32 t190.length co32))) hb);replace HO189:=aM (Kd.R_below (rX (fr2 HO189.out BK193.out (.slice Ao30 t187.length co30) (.slice Ao32 t190.length co32))) hb);replace HO192:=aM (Kd.R_below (rX (fr2 HO192.out BK193.out (.slice Ao30 t187.length co30) (.slice Ao32 t190.length co32))) hb);replace BK172:=aM (blk_below (g:=gb172) (o:=.cells #[.slice A0_0 l0_0.length c0_0,.slice A0_1 l0_1.length c0_1] 27 (0,0)) (by(with_reducible repeat(first|refine kN ?_ _|refine kD ?_|refine kA ?_ _));refine blk_far ?_ NB172_193.out _;(with_reducible repeat(first|refine kN ?_ _|refine kD ?_|refine kA ?_ _));refine blk_far ?_ NB172_193.out _;(with_reducible repeat(first|refine kN ?_ _|refine kD ?_|refine kA ?_ _));exact BK172.out) hb);replace BK173:=aM (blk_below (g:=gb173) (o:=.cells #[.slice none 0 0,.slice none 0 0] 27 (0,0)) (by(with_reducible repeat(first|refine kN ?_ _|refine kD ?_|refine kA ?_ _));refine blk_far ?_ NB173_193.out _;(with_reducible repeat(first|refine kN ?_ _|refine kD ?_|refine kA ?_ _));refine blk_far ?_ NB173_193.out _;(with_reducible repeat(first|refine kN ?_ _|refine kD ?_|refine kA ?_ _));exact BK173.out) hb);replace BK183:=aM (blk_below (g:=gb183) (o:=.cells #[.slice Ao40 x184000_1.length co40,.slice Ao41 x184001_1.length co41] 27 (0,0)) (by(with_reducible repeat(first|refine kN ?_ _|refine kD ?_|refine kA ?_ _));refine blk_far ?_ NB183_193.out _;(with_reducible repeat(first|refine kN ?_ _|refine kD ?_|refine kA ?_ _));refine blk_far ?_ NB183_193.out _;(with_reducible repeat(first|refine kN ?_ _|refine kD ?_|refine kA ?_ _));exact BK183.out) hb);replace BK193:=aM (blk_below (g:=gb193) (o:=.cells #[.slice Ao30 t187.length co30,.slice Ao32 t190.length co32] 27 (0,0)) (by(with_reducible repeat(first|refine kN ?_ _|refine kD ?_|refine kA ?_ _));refine blk_put (cs:=#[.slice Ao30 t187.length co30,.slice none 0 0]) ?_ 1 _ rfl;(with_reducible repeat(first|refine kN ?_ _|refine kD ?_|refine kA ?_ _));refine blk_put (cs:=#[.slice none 0 0,.slice none 0 0]) ?_ 0 _ rfl;(with_reducible repeat(first|refine kN ?_ _|refine kD ?_|refine kA ?_ _));exact BK193.out) hb);replace HB:=aM (below_step (by repeat(first|(with_reducible first|exact HB.out|apply bA|apply bN|apply bD|refine below_set ?_ GE172.out|refine below_set ?_ GE173.out|refine below_set ?_ GE183.out|refine below_set ?_ GE193.out)|exact HB.out)) hb);(try clear hb);(try clear hk);obtain ⟨hcz43_0,hcz43_1,hfz43_0,hfz43_1⟩:=f2Z BK193.out;obtain ⟨hcz44_0,hcz44_1,hfz44_0,hfz44_1⟩:=f2Z BK183.out))
 go_roundg k1
 case measure=>have:=HK1.out;omega
 case rel=>exact ⟨(wrap64 (x4_1+1)),(t187),(t190),(.slice Ao30 t187.length co30),(.slice Ao32 t190.length co32),vX,H',⟨by have:=HK1.out;omega⟩,⟨by(with_reducible repeat(first|apply rA|apply rN|apply rD));exact Kd.R_mono (Kd.R_far (p:=⟨gb183,1,none⟩) (Kd.R_far (p:=⟨gb183,0,none⟩) (Kd.R_types HO189.out BK183.out (by decide)) (fun _ hk=>hk.2) (.slice Ao30 t187.length co30)) (fun _ hk=>hk.2) (.slice Ao32 t190.length co32)) (fun _ hk=>hk.1.2.1)⟩,⟨by(with_reducible repeat(first|apply rA|apply rN|apply rD));exact Kd.R_mono (Kd.R_far (p:=⟨gb183,1,none⟩) (Kd.R_far (p:=⟨gb183,0,none⟩) (Kd.R_types HO192.out BK183.out (by decide)) (fun _ hk=>hk.2) (.slice Ao30 t187.length co30)) (fun _ hk=>hk.2) (.slice Ao32 t190.length co32)) (fun _ hk=>hk.1.2.1)⟩,⟨by(with_reducible repeat(first|refine kN ?_ _|refine kD ?_|refine kA ?_ _));refine blk_far ?_ NB172_183.out _;(with_reducible repeat(first|refine kN ?_ _|refine kD ?_|refine kA ?_ _));refine blk_far ?_ NB172_183.out _;(with_reducible repeat(first|refine kN ?_ _|refine kD ?_|refine kA ?_ _));exact BK172.out⟩,⟨by(with_reducible repeat(first|refine kN ?_ _|refine kD ?_|refine kA ?_ _));refine blk_far ?_ NB173_183.out _;(with_reducible repeat(first|refine kN ?_ _|refine kD ?_|refine kA ?_ _));refine blk_far ?_ NB173_183.out _;(with_reducible repeat(first|refine kN ?_ _|refine kD ?_|refine kA ?_ _));exact BK173.out⟩,⟨by(with_reducible repeat(first|refine kN ?_ _|refine kD ?_|refine kA ?_ _));refine blk_put (cs:=#[.slice Ao30 t187.length co30,.slice Ao41 x184001_1.length co41]) ?_ 1 _ rfl;(with_reducible repeat(first|refine kN ?_ _|refine kD ?_|refine kA ?_ _));refine blk_put (cs:=#[.slice Ao40 x184000_1.length co40,.slice Ao41 x184001_1.length co41]) ?_ 0 _ rfl;(with_reducible repeat(first|refine kN ?_ _|refine kD ?_|refine kA ?_ _));exact BK183.out⟩,⟨by repeat(first|(with_reducible first|exact HB.out|apply bA|apply bN|apply bD|refine below_set ?_ GE172.out|refine below_set ?_ GE173.out|refine below_set ?_ GE183.out|refine below_set ?_ GE193.out)|exact HB.out)⟩⟩
 }
 {
 replace c20:=Bool.eq_false_iff.mpr c20
 subst c20
 have H1:(spec_l03Canon.l0 k1 (wrap64 (x4_1+1)) l0_0 l0_1 x184000_1 x184001_1)=some (r1,r2):=by rw [if_neg (show ¬ (false=true) by decide)] at H;exact H
 clear H
 have H:=H1
 clear H1
 have H':=aM H
 clear H
 have hnb45:=NB172_173.out
 have hnc45:=NB173_172.out
 have hnb46:=NB172_183.out
 have hnc46:=NB183_172.out
 obtain ⟨hcz47_0,hcz47_1,hfz47_0,hfz47_1⟩:=f2Z BK172.out
 try go_wp2
 replace HO_184000:=aM (Kd.R_drew HO_184000.out)
 replace HO_184001:=aM (Kd.R_drew HO_184001.out)
 replace BK172:=aM (blk_drew BK172.out)
 replace BK173:=aM (blk_drew BK173.out)
 replace BK183:=aM (blk_drew BK183.out)
 replace HB:=aM (below_drew1 HB.out)
 refine start_ (n:=7) (S:=fun w'=>w'.cell? ⟨gb172,0,none⟩=some (.slice A0_0 l0_0.length c0_0)∧w'.cell? ⟨gb172,1,none⟩=some (.slice A0_1 l0_1.length c0_1)) (ds:=[]) #[false,false,false,false,false,false,false] (by kernel_rfl) rfl rfl ⟨cz20 BK172.out,cz21 BK172.out⟩ (fun hHeld => ?_)
 generalize wr.drew=w48 at HO_184000 HO_184001 BK172 BK173 BK183 HB hHeld ⊢
 refine pure_ (i:=2) (N:=some 19) (v:=?_) (a':=?_) #[false,false,true,false,false,false,false] rfl rfl (by kernel_rfl) (fun _ _ _ h=>h) (Or.inl ⟨by rfl,?_⟩) ?_ ?_
 rotate_left
 {
 intro w'
 go_simp
 with_reducible rfl
 }
 rotate_left
 {
 simp only [Act.put,zA,zB,zC,i64_w,i32_w]
 rfl
 }
 refine take_ (i:=0) (N:=some 17) (v:=?_) (a':=?_) #[true,false,true,false,false,false,false] rfl rfl (by kernel_rfl) (fun _ _ _ h=>h) (Or.inl ⟨by rfl,?_⟩) hHeld ?_ ?_
 rotate_left
 {
 rintro w' ⟨s0,s1⟩
 go_simp
 with_reducible rfl
 }
 rotate_left
 {
 simp only [Act.put,zA,zB,zC,i64_w,i32_w]
 rfl
 }
 refine take_ (i:=1) (N:=some 18) (v:=?_) (a':=?_) #[true,true,true,false,false,false,false] rfl rfl (by kernel_rfl) (fun _ _ _ h=>h) (Or.inl ⟨by rfl,?_⟩) hHeld ?_ ?_
 rotate_left
 {
 rintro w' ⟨s0,s1⟩
 go_simp
 with_reducible rfl
 }
 rotate_left
 {
 simp only [Act.put,zA,zB,zC,i64_w,i32_w]
 rfl
 }
 refine join_ (σ:=Value × Value × Value × Nat) 1 #[true,true,true,true,true,true,false] (fun s_=>[(20,s_.1),(21,.agg #[s_.2.1,s_.2.2.1]),(5,.pointer (some ⟨s_.2.2.2,0,none⟩))]) (fun s_ w'=>(w'.cell? ⟨gb172,0,none⟩=some (.slice A0_0 l0_0.length c0_0)∧w'.cell? ⟨gb172,1,none⟩=some (.slice A0_1 l0_1.length c0_1))∧(Kd.R (Kd.int .i64) 3 w' w.heap.size (fun k_=>some k_≠(s_.2.1:Value).ownBlock∧some k_≠(s_.2.2.1:Value).ownBlock∧some k_≠(u184000:Value).ownBlock∧some k_≠(u184001:Value).ownBlock) s_.1 t184)∧(Kd.R (Kd.int .i64) 3 w' w.heap.size (fun k_=>some k_≠(s_.1:Value).ownBlock∧some k_≠(s_.2.2.1:Value).ownBlock∧some k_≠(u184000:Value).ownBlock∧some k_≠(u184001:Value).ownBlock) s_.2.1 t187)∧(Kd.R (Kd.int .i64) 3 w' w.heap.size (fun k_=>some k_≠(s_.1:Value).ownBlock∧some k_≠(s_.2.1:Value).ownBlock∧some k_≠(u184000:Value).ownBlock∧some k_≠(u184001:Value).ownBlock) s_.2.2.1 t190)∧(Kd.R (Kd.int .i64) 3 w' w.heap.size (fun k_=>some k_≠(s_.1:Value).ownBlock∧some k_≠(s_.2.1:Value).ownBlock∧some k_≠(s_.2.2.1:Value).ownBlock∧some k_≠(u184001:Value).ownBlock) u184000 x184000_1)∧(Kd.R (Kd.int .i64) 3 w' w.heap.size (fun k_=>some k_≠(s_.1:Value).ownBlock∧some k_≠(s_.2.1:Value).ownBlock∧some k_≠(s_.2.2.1:Value).ownBlock∧some k_≠(u184000:Value).ownBlock) u184001 x184001_1)∧(w'.heap[gb172]? = some (.cells #[.slice A0_0 l0_0.length c0_0,.slice A0_1 l0_1.length c0_1] 27 (0,0)))∧(w'.heap[gb173]? = some (.cells #[.slice none 0 0,.slice none 0 0] 27 (0,0)))∧(w'.heap[gb183]? = some (.cells #[u184000,u184001] 27 (0,0)))∧(w'.heap[s_.2.2.2]? = some (.cells #[.slice none 0 0,.slice none 0 0] 27 (0,0)))∧(w.heap.size≤s_.2.2.2)∧(w.heap.size≤s_.2.2.2)∧(gb172≠s_.2.2.2)∧(s_.2.2.2≠gb172)∧(gb173≠s_.2.2.2)∧(s_.2.2.2≠gb173)∧(gb183≠s_.2.2.2)∧(s_.2.2.2≠gb183)∧(Below w.heap.size w w')) ?_ ?_
 rotate_left
 {
 intro hCont
 refine two_ (i:=3) (j:=5) (Ni:=some 20) (Nj:=some 5) #[true,true,true,true,false,false,false] #[true,true,true,false,false,true,false] rfl rfl rfl rfl (by kernel_rfl) (by decide) (by decide) (fun K hK => ?_) (fun K hK => ?_)
 {
 skip
 refine goes_ Tryz.func53 (by kernel_rfl) rfl #[.agg #[.slice A0_0 l0_0.length c0_0,.slice A0_1 l0_1.length c0_1],.int .i64 x4_1] (by rfl) rfl rfl aX ?_
 with_reducible refine(spec_l03Names.calls k1 _ _ l0_0 _ _ l0_1 x4_1 t184 _ ?side1 ?side2 ?side3 ?side4 A17.out).mono ?_
 (case side1=>exact cX (Kd.C_below HR0_0.out HB.out))
 (case side2=>exact HC0_0.out)
 (case side3=>exact cX (Kd.C_below HR0_1.out HB.out))
 (case side4=>exact HC0_1.out)
 rintro e w49 ⟨v185,rfl,ho0,hb⟩
 refine ⟨_,rfl,?_⟩
 have HO186:=aM (Kd.R_lower (Kd.R_new' (Kd.R_new' ho0 (Kd.R_lt (rX HO_184000.out))) (Kd.R_lt (rX HO_184001.out))) (below_size (bX3 HB.out GE172.out GE173.out GE183.out)))
 replace HO_184000:=aM (Kd.R_elder' (rX HO_184000.out) (Kd.R_base ho0) hb)
 replace HO_184001:=aM (Kd.R_elder' (rX HO_184001.out) (Kd.R_base ho0) hb)
 replace BK172:=aM (bbX BK172.out hb)
 replace BK173:=aM (bbX BK173.out hb)
 replace BK183:=aM (bbX BK183.out hb)
 replace HB:=aM (below_step (bX3 HB.out GE172.out GE173.out GE183.out) hb)
 (try clear hb)
 (try clear hk)
 (try clear ho0)
 obtain ⟨Ao50,co50,eo50⟩:=Kd.R_slice HO186.out
 (first|subst eo50|(injection eo50 with f1_ f2_ f3_;have f4_:=f1_.symm;have f5_:=f3_.symm;clear f1_ f2_ f3_;subst f4_;subst f5_))
 refine hK.out _ _ ⟨cz20 BK172.out,cz21 BK172.out⟩ (fun hHeld => ?_)
 clear hK K
 refine norm_ (a':=?_) ?_ ?_
 rotate_left
 {
 show Act.put _ (some 20) _=_
 simp only [Act.put,zA,zB,zC,i64_w,i32_w]
 rfl
 }
 refine two_ (i:=4) (j:=5) (Ni:=some 21) (Nj:=some 5) #[true,true,true,true,true,false,false] #[true,true,true,true,false,true,false] rfl rfl rfl rfl (by kernel_rfl) (by decide) (by decide) (fun K hK => ?_) (fun K hK => ?_)
 {
 skip
 refine goes_ Tryz.func52 (by kernel_rfl) rfl #[.agg #[.slice A0_0 l0_0.length c0_0,.slice A0_1 l0_1.length c0_1],.slice Ao50 t184.length co50] (by rfl) rfl rfl aX ?_
 with_reducible refine(spec_l03Rename.calls k1 _ _ l0_0 _ _ l0_1 _ _ t184 t187 t190 _ ?side1 ?side2 ?side3 ?side4 ?side5 ?side6 A18.out).mono ?_
 (case side1=>exact cX (Kd.C_below HR0_0.out HB.out))
 (case side2=>exact HC0_0.out)
 (case side3=>exact cX (Kd.C_below HR0_1.out HB.out))
 (case side4=>exact HC0_1.out)
 (case side5=>exact cX (Kd.R_reads' HO186.out).2.2)
 (case side6=>exact(Kd.R_reads' HO186.out).2.1)
 rintro e w51 ⟨v188,v191,rfl,ho0,ho1,hb⟩
 refine ⟨_,rfl,?_⟩
 have HO189:=aM (Kd.R_lower (Kd.R_new' (Kd.R_new' (Kd.R_new' ho0 (Kd.R_lt (rX HO_184000.out))) (Kd.R_lt (rX HO_184001.out))) (Kd.R_lt (rX HO186.out))) (below_size (bX3 HB.out GE172.out GE173.out GE183.out)))
 have HO192:=aM (Kd.R_lower (Kd.R_new' (Kd.R_new' (Kd.R_new' ho1 (Kd.R_lt (rX HO_184000.out))) (Kd.R_lt (rX HO_184001.out))) (Kd.R_lt (rX HO186.out))) (below_size (bX3 HB.out GE172.out GE173.out GE183.out)))
 replace HO_184000:=aM (Kd.R_mono (Kd.R_told (Kd.R_told (Kd.R_old (rX HO_184000.out) hb) (Kd.R_base ho0)) (Kd.R_base ho1)) (fun _ h_=>h_.1))
 replace HO_184001:=aM (Kd.R_mono (Kd.R_told (Kd.R_told (Kd.R_old (rX HO_184001.out) hb) (Kd.R_base ho0)) (Kd.R_base ho1)) (fun _ h_=>h_.1))
 replace HO186:=aM (Kd.R_mono (Kd.R_told (Kd.R_told (Kd.R_old (rX HO186.out) hb) (Kd.R_base ho0)) (Kd.R_base ho1)) (fun _ h_=>h_.1))
 replace BK172:=aM (bbX BK172.out hb)
 replace BK173:=aM (bbX BK173.out hb)
 replace BK183:=aM (bbX BK183.out hb)
 replace HB:=aM (below_step (bX3 HB.out GE172.out GE173.out GE183.out) hb)
 (try clear hb)
 (try clear hk)
 (try clear ho0)
 (try clear ho1)
 refine hK.out _ _ ⟨cz20 BK172.out,cz21 BK172.out⟩ (fun hHeld => ?_)
 clear hK K
 refine norm_ (a':=?_) ?_ ?_
 rotate_left
 {
 show Act.put _ (some 21) _=_
 simp only [Act.put,zA,zB,zC,i64_w,i32_w]
 rfl
 }
 refine one_ (i:=5) (N:=some 5) #[true,true,true,true,true,true,false] rfl rfl (by kernel_rfl) (by decide) (fun K hK => ?_)
 refine box_step ?hg (N:=5) ?hd (cs:=#[.slice none 0 0,.slice none 0 0]) (t:=27) ?hr ?_;(case hd=>rfl);(case hg=>rfl);(case hr=>first|(go_simp;done)|(go_simp;rfl))
 intro gb193 hg w52 hbox hb
 replace HO_184000:=aM (Kd.R_below (rX HO_184000.out) hb)
 replace HO_184001:=aM (Kd.R_below (rX HO_184001.out) hb)
 replace HO186:=aM (Kd.R_below (rX HO186.out) hb)
 replace HO189:=aM (Kd.R_below (rX HO189.out) hb)
 replace HO192:=aM (Kd.R_below (rX HO192.out) hb)
 have BK193:=aM (hbox)
 have GW193:=aM ((szX (below_size (bX3 HB.out GE172.out GE173.out GE183.out)) hg:w.heap.size≤gb193))
 have GE193:=GW193
 replace HB:=aM (below_step (bX3 HB.out GE172.out GE173.out GE183.out) hb)
 have NB172_193:=aM (neX BK172.out hg)
 have NB193_172:=aM (nfX BK172.out hg)
 replace BK172:=aM (bbX BK172.out hb)
 have NB173_193:=aM (neX BK173.out hg)
 have NB193_173:=aM (nfX BK173.out hg)
 replace BK173:=aM (bbX BK173.out hb)
 have NB183_193:=aM (neX BK183.out hg)
 have NB193_183:=aM (nfX BK183.out hg)
 replace BK183:=aM (bbX BK183.out hb)
 clear hb hbox hg
 refine hK.out _ _ ⟨cz20 BK172.out,cz21 BK172.out⟩ (fun hHeld => ?_)
 clear hK K
 refine norm_ (a':=?_) ?_ ?_
 rotate_left
 {
 show Act.put _ (some 5) _=_
 simp only [Act.put,zA,zB,zC,i64_w,i32_w]
 rfl
 }
 exact norm_ (by simp only [putAll,Act.put,List.setIfInBounds_toArray,List.set_cons_zero,List.set_cons_succ]) (hCont (.slice Ao50 t184.length co50,v188,v191,gb193) _ ⟨hHeld,(rM HO186.out (fun _ hk=>⟨hk.1.2,⟨hk.2,⟨hk.1.1.1.2,hk.1.1.2⟩⟩⟩)),(rM HO189.out (fun _ hk=>⟨hk.2,⟨hk.1.1.1,⟨hk.1.1.2,hk.1.2⟩⟩⟩)),(rM HO192.out (fun _ hk=>⟨hk.2,⟨hk.1.1.1,⟨hk.1.1.2,hk.1.2⟩⟩⟩)),(rM HO_184000.out (fun _ hk=>⟨hk.1.1.2,⟨hk.1.2,⟨hk.2,hk.1.1.1⟩⟩⟩)),(rM HO_184001.out (fun _ hk=>⟨hk.1.1.2,⟨hk.1.2,⟨hk.2,hk.1.1.1⟩⟩⟩)),(kX BK172.out),(kX BK173.out),(kX BK183.out),(kX BK193.out),GW193.out,GE193.out,NB172_193.out,NB193_172.out,NB173_193.out,NB193_173.out,NB183_193.out,NB193_183.out,(by repeat(first|(with_reducible first|exact HB.out|apply bA|apply bN|apply bD|refine below_set ?_ GE172.out|refine below_set ?_ GE173.out|refine below_set ?_ GE183.out|refine below_set ?_ GE193.out)|exact HB.out))⟩)
 }
 {
 skip
 refine box_step ?hg (N:=5) ?hd (cs:=#[.slice none 0 0,.slice none 0 0]) (t:=27) ?hr ?_;(case hd=>rfl);(case hg=>rfl);(case hr=>first|(go_simp;done)|(go_simp;rfl))
 intro gb193 hg w50 hbox hb
 replace HO_184000:=aM (Kd.R_below (rX HO_184000.out) hb)
 replace HO_184001:=aM (Kd.R_below (rX HO_184001.out) hb)
 replace HO186:=aM (Kd.R_below (rX HO186.out) hb)
 have BK193:=aM (hbox)
 have GW193:=aM ((szX (below_size (bX3 HB.out GE172.out GE173.out GE183.out)) hg:w.heap.size≤gb193))
 have GE193:=GW193
 replace HB:=aM (below_step (bX3 HB.out GE172.out GE173.out GE183.out) hb)
 have NB172_193:=aM (neX BK172.out hg)
 have NB193_172:=aM (nfX BK172.out hg)
 replace BK172:=aM (bbX BK172.out hb)
 have NB173_193:=aM (neX BK173.out hg)
 have NB193_173:=aM (nfX BK173.out hg)
 replace BK173:=aM (bbX BK173.out hb)
 have NB183_193:=aM (neX BK183.out hg)
 have NB193_183:=aM (nfX BK183.out hg)
 replace BK183:=aM (bbX BK183.out hb)
 clear hb hbox hg
 obtain ⟨Ao51,co51,eo51⟩:=Kd.R_slice HO186.out
 (first|subst eo51|(injection eo51 with f1_ f2_ f3_;have f4_:=f1_.symm;have f5_:=f3_.symm;clear f1_ f2_ f3_;subst f4_;subst f5_))
 refine hK.out _ _ ⟨cz20 BK172.out,cz21 BK172.out⟩ (fun hHeld => ?_)
 clear hK K
 refine norm_ (a':=?_) ?_ ?_
 rotate_left
 {
 show Act.put _ (some 5) _=_
 simp only [Act.put,zA,zB,zC,i64_w,i32_w]
 rfl
 }
 refine one_ (i:=4) (N:=some 21) #[true,true,true,true,true,true,false] rfl rfl (by kernel_rfl) (by decide) (fun K hK => ?_)
 refine goes_ Tryz.func52 (by kernel_rfl) rfl #[.agg #[.slice A0_0 l0_0.length c0_0,.slice A0_1 l0_1.length c0_1],.slice Ao51 t184.length co51] (by rfl) rfl rfl aX ?_
 with_reducible refine(spec_l03Rename.calls k1 _ _ l0_0 _ _ l0_1 _ _ t184 t187 t190 _ ?side1 ?side2 ?side3 ?side4 ?side5 ?side6 A18.out).mono ?_
 (case side1=>exact cX (Kd.C_below HR0_0.out HB.out))
 (case side2=>exact HC0_0.out)
 (case side3=>exact cX (Kd.C_below HR0_1.out HB.out))
 (case side4=>exact HC0_1.out)
 (case side5=>exact cX (Kd.R_reads' HO186.out).2.2)
 (case side6=>exact(Kd.R_reads' HO186.out).2.1)
 rintro e w52 ⟨v188,v191,rfl,ho0,ho1,hb⟩
 refine ⟨_,rfl,?_⟩
 have HO189:=aM (Kd.R_lower (Kd.R_new' (Kd.R_new' (Kd.R_new' ho0 (Kd.R_lt (rX HO_184000.out))) (Kd.R_lt (rX HO_184001.out))) (Kd.R_lt (rX HO186.out))) (below_size (by repeat(first|(with_reducible first|exact HB.out|apply bA|apply bN|apply bD|refine below_set ?_ GE172.out|refine below_set ?_ GE173.out|refine below_set ?_ GE183.out|refine below_set ?_ GE193.out)|exact HB.out))))
 have HO192:=aM (Kd.R_lower (Kd.R_new' (Kd.R_new' (Kd.R_new' ho1 (Kd.R_lt (rX HO_184000.out))) (Kd.R_lt (rX HO_184001.out))) (Kd.R_lt (rX HO186.out))) (below_size (by repeat(first|(with_reducible first|exact HB.out|apply bA|apply bN|apply bD|refine below_set ?_ GE172.out|refine below_set ?_ GE173.out|refine below_set ?_ GE183.out|refine below_set ?_ GE193.out)|exact HB.out))))
 replace HO_184000:=aM (Kd.R_mono (Kd.R_told (Kd.R_told (Kd.R_old (rX HO_184000.out) hb) (Kd.R_base ho0)) (Kd.R_base ho1)) (fun _ h_=>h_.1))
 replace HO_184001:=aM (Kd.R_mono (Kd.R_told (Kd.R_told (Kd.R_old (rX HO_184001.out) hb) (Kd.R_base ho0)) (Kd.R_base ho1)) (fun _ h_=>h_.1))
 replace HO186:=aM (Kd.R_mono (Kd.R_told (Kd.R_told (Kd.R_old (rX HO186.out) hb) (Kd.R_base ho0)) (Kd.R_base ho1)) (fun _ h_=>h_.1))
 replace BK172:=aM (bbX BK172.out hb)
 replace BK173:=aM (bbX BK173.out hb)
 replace BK183:=aM (bbX BK183.out hb)
 replace BK193:=aM (bbX BK193.out hb)
 replace HB:=aM (below_step (by repeat(first|(with_reducible first|exact HB.out|apply bA|apply bN|apply bD|refine below_set ?_ GE172.out|refine below_set ?_ GE173.out|refine below_set ?_ GE183.out|refine below_set ?_ GE193.out)|exact HB.out)) hb)
 (try clear hb)
 (try clear hk)
 (try clear ho0)
 (try clear ho1)
 refine hK.out _ _ ⟨cz20 BK172.out,cz21 BK172.out⟩ (fun hHeld => ?_)
 clear hK K
 refine norm_ (a':=?_) ?_ ?_
 rotate_left
 {
 show Act.put _ (some 21) _=_
 simp only [Act.put,zA,zB,zC,i64_w,i32_w]
 rfl
 }
 exact norm_ (by simp only [putAll,Act.put,List.setIfInBounds_toArray,List.set_cons_zero,List.set_cons_succ]) (hCont (.slice Ao51 t184.length co51,v188,v191,gb193) _ ⟨hHeld,(rM HO186.out (fun _ hk=>⟨hk.1.2,⟨hk.2,⟨hk.1.1.1.2,hk.1.1.2⟩⟩⟩)),(rM HO189.out (fun _ hk=>⟨hk.2,⟨hk.1.1.1,⟨hk.1.1.2,hk.1.2⟩⟩⟩)),(rM HO192.out (fun _ hk=>⟨hk.2,⟨hk.1.1.1,⟨hk.1.1.2,hk.1.2⟩⟩⟩)),(rM HO_184000.out (fun _ hk=>⟨hk.1.1.2,⟨hk.1.2,⟨hk.2,hk.1.1.1⟩⟩⟩)),(rM HO_184001.out (fun _ hk=>⟨hk.1.1.2,⟨hk.1.2,⟨hk.2,hk.1.1.1⟩⟩⟩)),(kX BK172.out),(kX BK173.out),(kX BK183.out),(kX BK193.out),GW193.out,GE193.out,NB172_193.out,NB193_172.out,NB173_193.out,NB193_173.out,NB183_193.out,NB193_183.out,(by repeat(first|(with_reducible first|exact HB.out|apply bA|apply bN|apply bD|refine below_set ?_ GE172.out|refine below_set ?_ GE173.out|refine below_set ?_ GE183.out|refine below_set ?_ GE193.out)|exact HB.out))⟩)
 }
 }
 {
 skip
 refine box_step ?hg (N:=5) ?hd (cs:=#[.slice none 0 0,.slice none 0 0]) (t:=27) ?hr ?_;(case hd=>rfl);(case hg=>rfl);(case hr=>first|(go_simp;done)|(go_simp;rfl))
 intro gb193 hg w49 hbox hb
 replace HO_184000:=aM (Kd.R_below (rX HO_184000.out) hb)
 replace HO_184001:=aM (Kd.R_below (rX HO_184001.out) hb)
 have BK193:=aM (hbox)
 have GW193:=aM ((szX (below_size (bX3 HB.out GE172.out GE173.out GE183.out)) hg:w.heap.size≤gb193))
 have GE193:=GW193
 replace HB:=aM (below_step (bX3 HB.out GE172.out GE173.out GE183.out) hb)
 have NB172_193:=aM (neX BK172.out hg)
 have NB193_172:=aM (nfX BK172.out hg)
 replace BK172:=aM (bbX BK172.out hb)
 have NB173_193:=aM (neX BK173.out hg)
 have NB193_173:=aM (nfX BK173.out hg)
 replace BK173:=aM (bbX BK173.out hb)
 have NB183_193:=aM (neX BK183.out hg)
 have NB193_183:=aM (nfX BK183.out hg)
 replace BK183:=aM (bbX BK183.out hb)
 clear hb hbox hg
 refine hK.out _ _ ⟨cz20 BK172.out,cz21 BK172.out⟩ (fun hHeld => ?_)
 clear hK K
 refine norm_ (a':=?_) ?_ ?_
 rotate_left
 {
 show Act.put _ (some 5) _=_
 simp only [Act.put,zA,zB,zC,i64_w,i32_w]
 rfl
 }
 refine one_ (i:=3) (N:=some 20) #[true,true,true,true,false,true,false] rfl rfl (by kernel_rfl) (by decide) (fun K hK => ?_)
 refine goes_ Tryz.func53 (by kernel_rfl) rfl #[.agg #[.slice A0_0 l0_0.length c0_0,.slice A0_1 l0_1.length c0_1],.int .i64 x4_1] (by rfl) rfl rfl aX ?_
 with_reducible refine(spec_l03Names.calls k1 _ _ l0_0 _ _ l0_1 x4_1 t184 _ ?side1 ?side2 ?side3 ?side4 A17.out).mono ?_
 (case side1=>exact cX (Kd.C_below HR0_0.out HB.out))
 (case side2=>exact HC0_0.out)
 (case side3=>exact cX (Kd.C_below HR0_1.out HB.out))
 (case side4=>exact HC0_1.out)
 rintro e w50 ⟨v185,rfl,ho0,hb⟩
 refine ⟨_,rfl,?_⟩
 have HO186:=aM (Kd.R_lower (Kd.R_new' (Kd.R_new' ho0 (Kd.R_lt (rX HO_184000.out))) (Kd.R_lt (rX HO_184001.out))) (below_size (by repeat(first|(with_reducible first|exact HB.out|apply bA|apply bN|apply bD|refine below_set ?_ GE172.out|refine below_set ?_ GE173.out|refine below_set ?_ GE183.out|refine below_set ?_ GE193.out)|exact HB.out))))
 replace HO_184000:=aM (Kd.R_elder' (rX HO_184000.out) (Kd.R_base ho0) hb)
 replace HO_184001:=aM (Kd.R_elder' (rX HO_184001.out) (Kd.R_base ho0) hb)
 replace BK172:=aM (bbX BK172.out hb)
 replace BK173:=aM (bbX BK173.out hb)
 replace BK183:=aM (bbX BK183.out hb)
 replace BK193:=aM (bbX BK193.out hb)
 replace HB:=aM (below_step (by repeat(first|(with_reducible first|exact HB.out|apply bA|apply bN|apply bD|refine below_set ?_ GE172.out|refine below_set ?_ GE173.out|refine below_set ?_ GE183.out|refine below_set ?_ GE193.out)|exact HB.out)) hb)
 (try clear hb)
 (try clear hk)
 (try clear ho0)
 obtain ⟨Ao51,co51,eo51⟩:=Kd.R_slice HO186.out
 (first|subst eo51|(injection eo51 with f1_ f2_ f3_;have f4_:=f1_.symm;have f5_:=f3_.symm;clear f1_ f2_ f3_;subst f4_;subst f5_))
 refine hK.out _ _ ⟨cz20 BK172.out,cz21 BK172.out⟩ (fun hHeld => ?_)
 clear hK K
 refine norm_ (a':=?_) ?_ ?_
 rotate_left
 {
 show Act.put _ (some 20) _=_
 simp only [Act.put,zA,zB,zC,i64_w,i32_w]
 rfl
 }
 refine one_ (i:=4) (N:=some 21) #[true,true,true,true,true,true,false] rfl rfl (by kernel_rfl) (by decide) (fun K hK => ?_)
 refine goes_ Tryz.func52 (by kernel_rfl) rfl #[.agg #[.slice A0_0 l0_0.length c0_0,.slice A0_1 l0_1.length c0_1],.slice Ao51 t184.length co51] (by rfl) rfl rfl aX ?_
 with_reducible refine(spec_l03Rename.calls k1 _ _ l0_0 _ _ l0_1 _ _ t184 t187 t190 _ ?side1 ?side2 ?side3 ?side4 ?side5 ?side6 A18.out).mono ?_
 (case side1=>exact cX (Kd.C_below HR0_0.out HB.out))
 (case side2=>exact HC0_0.out)
 (case side3=>exact cX (Kd.C_below HR0_1.out HB.out))
 (case side4=>exact HC0_1.out)
 (case side5=>exact cX (Kd.R_reads' HO186.out).2.2)
 (case side6=>exact(Kd.R_reads' HO186.out).2.1)
 rintro e w52 ⟨v188,v191,rfl,ho0,ho1,hb⟩
 refine ⟨_,rfl,?_⟩
 have HO189:=aM (Kd.R_lower (Kd.R_new' (Kd.R_new' (Kd.R_new' ho0 (Kd.R_lt (rX HO_184000.out))) (Kd.R_lt (rX HO_184001.out))) (Kd.R_lt (rX HO186.out))) (below_size (by repeat(first|(with_reducible first|exact HB.out|apply bA|apply bN|apply bD|refine below_set ?_ GE172.out|refine below_set ?_ GE173.out|refine below_set ?_ GE183.out|refine below_set ?_ GE193.out)|exact HB.out))))
 have HO192:=aM (Kd.R_lower (Kd.R_new' (Kd.R_new' (Kd.R_new' ho1 (Kd.R_lt (rX HO_184000.out))) (Kd.R_lt (rX HO_184001.out))) (Kd.R_lt (rX HO186.out))) (below_size (by repeat(first|(with_reducible first|exact HB.out|apply bA|apply bN|apply bD|refine below_set ?_ GE172.out|refine below_set ?_ GE173.out|refine below_set ?_ GE183.out|refine below_set ?_ GE193.out)|exact HB.out))))
 replace HO_184000:=aM (Kd.R_mono (Kd.R_told (Kd.R_told (Kd.R_old (rX HO_184000.out) hb) (Kd.R_base ho0)) (Kd.R_base ho1)) (fun _ h_=>h_.1))
 replace HO_184001:=aM (Kd.R_mono (Kd.R_told (Kd.R_told (Kd.R_old (rX HO_184001.out) hb) (Kd.R_base ho0)) (Kd.R_base ho1)) (fun _ h_=>h_.1))
 replace HO186:=aM (Kd.R_mono (Kd.R_told (Kd.R_told (Kd.R_old (rX HO186.out) hb) (Kd.R_base ho0)) (Kd.R_base ho1)) (fun _ h_=>h_.1))
 replace BK172:=aM (bbX BK172.out hb)
 replace BK173:=aM (bbX BK173.out hb)
 replace BK183:=aM (bbX BK183.out hb)
 replace BK193:=aM (bbX BK193.out hb)
 replace HB:=aM (below_step (by repeat(first|(with_reducible first|exact HB.out|apply bA|apply bN|apply bD|refine below_set ?_ GE172.out|refine below_set ?_ GE173.out|refine below_set ?_ GE183.out|refine below_set ?_ GE193.out)|exact HB.out)) hb)
 (try clear hb)
 (try clear hk)
 (try clear ho0)
 (try clear ho1)
 refine hK.out _ _ ⟨cz20 BK172.out,cz21 BK172.out⟩ (fun hHeld => ?_)
 clear hK K
 refine norm_ (a':=?_) ?_ ?_
 rotate_left
 {
 show Act.put _ (some 21) _=_
 simp only [Act.put,zA,zB,zC,i64_w,i32_w]
 rfl
 }
 exact norm_ (by simp only [putAll,Act.put,List.setIfInBounds_toArray,List.set_cons_zero,List.set_cons_succ]) (hCont (.slice Ao51 t184.length co51,v188,v191,gb193) _ ⟨hHeld,(rM HO186.out (fun _ hk=>⟨hk.1.2,⟨hk.2,⟨hk.1.1.1.2,hk.1.1.2⟩⟩⟩)),(rM HO189.out (fun _ hk=>⟨hk.2,⟨hk.1.1.1,⟨hk.1.1.2,hk.1.2⟩⟩⟩)),(rM HO192.out (fun _ hk=>⟨hk.2,⟨hk.1.1.1,⟨hk.1.1.2,hk.1.2⟩⟩⟩)),(rM HO_184000.out (fun _ hk=>⟨hk.1.1.2,⟨hk.1.2,⟨hk.2,hk.1.1.1⟩⟩⟩)),(rM HO_184001.out (fun _ hk=>⟨hk.1.1.2,⟨hk.1.2,⟨hk.2,hk.1.1.1⟩⟩⟩)),(kX BK172.out),(kX BK173.out),(kX BK183.out),(kX BK193.out),GW193.out,GE193.out,NB172_193.out,NB193_172.out,NB173_193.out,NB193_173.out,NB183_193.out,NB193_183.out,(by repeat(first|(with_reducible first|exact HB.out|apply bA|apply bN|apply bD|refine below_set ?_ GE172.out|refine below_set ?_ GE173.out|refine below_set ?_ GE183.out|refine below_set ?_ GE193.out)|exact HB.out))⟩)
 }
 }
 rintro ⟨v185,v188,v191,gb193⟩ w53 ⟨hS_,h0_,h1_,h2_,h3_,h4_,h5_,h6_,h7_,h8_,h9_,h10_,h11_,h12_,h13_,h14_,h15_,h16_,h17_⟩
 have n0_:Aside0 (Kd.R (Kd.int .i64) 3 w53 w.heap.size (fun k_=>some k_≠(v188:Value).ownBlock∧some k_≠(v191:Value).ownBlock∧some k_≠(u184000:Value).ownBlock∧some k_≠(u184001:Value).ownBlock) v185 t184):=⟨h0_⟩
 have n1_:Aside0 (Kd.R (Kd.int .i64) 3 w53 w.heap.size (fun k_=>some k_≠(v185:Value).ownBlock∧some k_≠(v191:Value).ownBlock∧some k_≠(u184000:Value).ownBlock∧some k_≠(u184001:Value).ownBlock) v188 t187):=⟨h1_⟩
 have n2_:Aside0 (Kd.R (Kd.int .i64) 3 w53 w.heap.size (fun k_=>some k_≠(v185:Value).ownBlock∧some k_≠(v188:Value).ownBlock∧some k_≠(u184000:Value).ownBlock∧some k_≠(u184001:Value).ownBlock) v191 t190):=⟨h2_⟩
 have n3_:Aside0 (Kd.R (Kd.int .i64) 3 w53 w.heap.size (fun k_=>some k_≠(v185:Value).ownBlock∧some k_≠(v188:Value).ownBlock∧some k_≠(v191:Value).ownBlock∧some k_≠(u184001:Value).ownBlock) u184000 x184000_1):=⟨h3_⟩
 have n4_:Aside0 (Kd.R (Kd.int .i64) 3 w53 w.heap.size (fun k_=>some k_≠(v185:Value).ownBlock∧some k_≠(v188:Value).ownBlock∧some k_≠(v191:Value).ownBlock∧some k_≠(u184000:Value).ownBlock) u184001 x184001_1):=⟨h4_⟩
 have n5_:Aside0 (w53.heap[gb172]? = some (.cells #[.slice A0_0 l0_0.length c0_0,.slice A0_1 l0_1.length c0_1] 27 (0,0))):=⟨h5_⟩
 have n6_:Aside0 (w53.heap[gb173]? = some (.cells #[.slice none 0 0,.slice none 0 0] 27 (0,0))):=⟨h6_⟩
 have n7_:Aside0 (w53.heap[gb183]? = some (.cells #[u184000,u184001] 27 (0,0))):=⟨h7_⟩
 have n8_:Aside0 (w53.heap[gb193]? = some (.cells #[.slice none 0 0,.slice none 0 0] 27 (0,0))):=⟨h8_⟩
 have n9_:Aside0 (w.heap.size≤gb193):=⟨h9_⟩
 have n10_:Aside0 (w.heap.size≤gb193):=⟨h10_⟩
 have n11_:Aside0 (gb172≠gb193):=⟨h11_⟩
 have n12_:Aside0 (gb193≠gb172):=⟨h12_⟩
 have n13_:Aside0 (gb173≠gb193):=⟨h13_⟩
 have n14_:Aside0 (gb193≠gb173):=⟨h14_⟩
 have n15_:Aside0 (gb183≠gb193):=⟨h15_⟩
 have n16_:Aside0 (gb193≠gb183):=⟨h16_⟩
 have n17_:Aside0 (Below w.heap.size w w53):=⟨h17_⟩
 clear HO_184000 HO_184001 BK172 BK173 BK183 HB h0_ h1_ h2_ h3_ h4_ h5_ h6_ h7_ h8_ h9_ h10_ h11_ h12_ h13_ h14_ h15_ h16_ h17_
 have HO186:=n0_
 have HO189:=n1_
 have HO192:=n2_
 have HO_184000:=n3_
 have HO_184001:=n4_
 have BK172:=n5_
 have BK173:=n6_
 have BK183:=n7_
 have BK193:=n8_
 have GW193:=n9_
 have GE193:=n10_
 have NB172_193:=n11_
 have NB193_172:=n12_
 have NB173_193:=n13_
 have NB193_173:=n14_
 have NB183_193:=n15_
 have NB193_183:=n16_
 have HB:=n17_
 clear n0_ n1_ n2_ n3_ n4_ n5_ n6_ n7_ n8_ n9_ n10_ n11_ n12_ n13_ n14_ n15_ n16_ n17_
 have hHeld:w53.cell? ⟨gb172,0,none⟩=some (.slice A0_0 l0_0.length c0_0)∧w53.cell? ⟨gb172,1,none⟩=some (.slice A0_1 l0_1.length c0_1):=hS_
 obtain ⟨Ao54,co54,eo54⟩:=Kd.R_slice HO189.out
 (first|subst eo54|(injection eo54 with f1_ f2_ f3_;have f4_:=f1_.symm;have f5_:=f3_.symm;clear f1_ f2_ f3_;subst f4_;subst f5_))
 obtain ⟨Ao56,co56,eo56⟩:=Kd.R_slice HO192.out
 (first|subst eo56|(injection eo56 with f1_ f2_ f3_;have f4_:=f1_.symm;have f5_:=f3_.symm;clear f1_ f2_ f3_;subst f4_;subst f5_))
 refine norm_ (a':=?_) ?_ ?_
 rotate_left
 {
 simp only [putAll,Act.put,List.setIfInBounds_toArray,List.set_cons_zero,List.set_cons_succ]
 rfl
 }
 refine one_ (i:=6) (N:=none) #[true,true,true,true,true,true,true] rfl rfl (by kernel_rfl) (by decide) (fun K hK => ?_)
 have hs55:w53.cell? ⟨gb193,0,none⟩=some (.slice none 0 0):=cz20 BK193.out
 have hfs55:=blk_frozen BK193.out 0
 have hns55_0:=NB172_193.out
 have hns55_1:=NB173_193.out
 have hns55_2:=NB183_193.out
 have hms55_0:=NB193_172.out
 have hms55_1:=NB193_173.out
 have hms55_2:=NB193_183.out
 have hs57:w53.cell? ⟨gb193,1,none⟩=some (.slice none 0 0):=cz21 BK193.out
 have hfs57:=blk_frozen BK193.out 1
 have hns57_0:=NB172_193.out
 have hns57_1:=NB173_193.out
 have hns57_2:=NB183_193.out
 have hms57_0:=NB193_172.out
 have hms57_1:=NB193_173.out
 have hms57_2:=NB193_183.out
 refine skip_ (w1:=?_) (by rfl) rfl ?_ ?_
 rotate_left
 {
 go_simp
 rfl
 }
 refine hK.out _ _ ⟨((cell_far (p:=⟨gb193,_,none⟩) NB172_193.out _).trans (((cell_far (p:=⟨gb193,_,none⟩) NB172_193.out _).trans (hHeld.1)))),((cell_far (p:=⟨gb193,_,none⟩) NB172_193.out _).trans (((cell_far (p:=⟨gb193,_,none⟩) NB172_193.out _).trans (hHeld.2))))⟩ (fun hHeld => ?_)
 clear hK K
 refine done_ (by kernel_rfl) ?_
 have hnb58:=NB193_172.out
 have hnc58:=NB172_193.out
 have hnb59:=NB193_173.out
 have hnc59:=NB173_193.out
 have hnb60:=NB193_183.out
 have hnc60:=NB183_193.out
 obtain ⟨hcz61_0,hcz61_1,hfz61_0,hfz61_1⟩:=f2Z BK193.out
 have hnb62:=NB183_173.out
 have hnc62:=NB173_183.out
 obtain ⟨hcz63_0,hcz63_1,hfz63_0,hfz63_1⟩:=f2Z BK183.out
 obtain ⟨Ao64,co64,eo64⟩:=Kd.R_slice HO_184000.out
 subst eo64
 obtain ⟨Ao65,co65,eo65⟩:=Kd.R_slice HO_184001.out
 subst eo65
 try go_wp2_with (first|((with_reducible refine gate_callee (f:=54) rfl ?_);refine goesL_ (some 24) rfl rfl Tryz.func54 (by kernel_rfl) rfl #[.agg #[.slice Ao54 t187.length co54,.slice Ao56 t190.length co56],.agg #[.slice Ao64 x184000_1.length co64,.slice Ao65 x184001_1.length co65]] rfl aX ?_;(with_reducible refine(spec_l03Before.calls k1 _ _ t187 _ _ t190 _ _ x184000_1 _ _ x184001_1 false _ ?side1 ?side2 ?side3 ?side4 ?side5 ?side6 ?side7 ?side8 A19.out).mono ?_);(case side1=>exact rcX (fr2 HO189.out BK193.out (.slice Ao54 t187.length co54) (.slice Ao56 t190.length co56)));(case side2=>exact(Kd.R_reads' HO189.out).2.1);(case side3=>exact rcX (fr2 HO192.out BK193.out (.slice Ao54 t187.length co54) (.slice Ao56 t190.length co56)));(case side4=>exact(Kd.R_reads' HO192.out).2.1);(case side5=>exact rcX (fr2 HO_184000.out BK193.out (.slice Ao54 t187.length co54) (.slice Ao56 t190.length co56)));(case side6=>exact(Kd.R_reads' HO_184000.out).2.1);(case side7=>exact rcX (fr2 HO_184001.out BK193.out (.slice Ao54 t187.length co54) (.slice Ao56 t190.length co56)));(case side8=>exact(Kd.R_reads' HO_184001.out).2.1);rintro e w66 ⟨rfl,hb⟩;refine ⟨_,rfl,?_⟩;replace HO_184000:=aM (Kd.R_below (rX (fr2 HO_184000.out BK193.out (.slice Ao54 t187.length co54) (.slice Ao56 t190.length co56))) hb);replace HO_184001:=aM (Kd.R_below (rX (fr2 HO_184001.out BK193.out (.slice Ao54 t187.length co54) (.slice Ao56 t190.length co56))) hb);replace HO186:=aM (Kd.R_below (rX (fr2 HO186.out BK193.out (.slice Ao54 t187.length co54) (.slice Ao56 t190.length co56))) hb);replace HO189:=aM (Kd.R_below (rX (fr2 HO189.out BK193.out (.slice Ao54 t187.length co54) (.slice Ao56 t190.length co56))) hb);replace HO192:=aM (Kd.R_below (rX (fr2 HO192.out BK193.out (.slice Ao54 t187.length co54) (.slice Ao56 t190.length co56))) hb);replace BK172:=aM (blk_below (g:=gb172) (o:=.cells #[.slice A0_0 l0_0.length c0_0,.slice A0_1 l0_1.length c0_1] 27 (0,0)) (by(with_reducible repeat(first|refine kN ?_ _|refine kD ?_|refine kA ?_ _));refine blk_far ?_ NB172_193.out _;(with_reducible repeat(first|refine kN ?_ _|refine kD ?_|refine kA ?_ _));refine blk_far ?_ NB172_193.out _;(with_reducible repeat(first|refine kN ?_ _|refine kD ?_|refine kA ?_ _));exact BK172.out) hb);replace BK173:=aM (blk_below (g:=gb173) (o:=.cells #[.slice none 0 0,.slice none 0 0] 27 (0,0)) (by(with_reducible repeat(first|refine kN ?_ _|refine kD ?_|refine kA ?_ _));refine blk_far ?_ NB173_193.out _;(with_reducible repeat(first|refine kN ?_ _|refine kD ?_|refine kA ?_ _));refine blk_far ?_ NB173_193.out _;(with_reducible repeat(first|refine kN ?_ _|refine kD ?_|refine kA ?_ _));exact BK173.out) hb);replace BK183:=aM (blk_below (g:=gb183) (o:=.cells #[.slice Ao64 x184000_1.length co64,.slice Ao65 x184001_1.length co65] 27 (0,0)) (by(with_reducible repeat(first|refine kN ?_ _|refine kD ?_|refine kA ?_ _));refine blk_far ?_ NB183_193.out _;(with_reducible repeat(first|refine kN ?_ _|refine kD ?_|refine kA ?_ _));refine blk_far ?_ NB183_193.out _;(with_reducible repeat(first|refine kN ?_ _|refine kD ?_|refine kA ?_ _));exact BK183.out) hb);replace BK193:=aM (blk_below (g:=gb193) (o:=.cells #[.slice Ao54 t187.length co54,.slice Ao56 t190.length co56] 27 (0,0)) (by(with_reducible repeat(first|refine kN ?_ _|refine kD ?_|refine kA ?_ _));refine blk_put (cs:=#[.slice Ao54 t187.length co54,.slice none 0 0]) ?_ 1 _ rfl;(with_reducible repeat(first|refine kN ?_ _|refine kD ?_|refine kA ?_ _));refine blk_put (cs:=#[.slice none 0 0,.slice none 0 0]) ?_ 0 _ rfl;(with_reducible repeat(first|refine kN ?_ _|refine kD ?_|refine kA ?_ _));exact BK193.out) hb);replace HB:=aM (below_step (by repeat(first|(with_reducible first|exact HB.out|apply bA|apply bN|apply bD|refine below_set ?_ GE172.out|refine below_set ?_ GE173.out|refine below_set ?_ GE183.out|refine below_set ?_ GE193.out)|exact HB.out)) hb);(try clear hb);(try clear hk)))
 go_roundg k1
 case measure=>have:=HK1.out;omega
 case rel=>exact ⟨(wrap64 (x4_1+1)),(x184000_1),(x184001_1),(.slice Ao64 x184000_1.length co64),(.slice Ao65 x184001_1.length co65),vX,H',⟨by have:=HK1.out;omega⟩,⟨rM HO_184000.out (fun _ hk=>hk.2.2.2)⟩,⟨rM HO_184001.out (fun _ hk=>hk.2.2.2)⟩,⟨kX BK172.out⟩,⟨kX BK173.out⟩,⟨kX BK183.out⟩,⟨by repeat(first|(with_reducible first|exact HB.out|apply bA|apply bN|apply bD|refine below_set ?_ GE172.out|refine below_set ?_ GE173.out|refine below_set ?_ GE183.out|refine below_set ?_ GE193.out)|exact HB.out)⟩⟩
 }
 }
 {
 rw [if_neg c16] at H
 have c16b0:=decide_eq_false c16
 clear c16
 simp only [Option.some.injEq,Prod.mk.injEq] at H
 obtain ⟨rfl,rfl⟩:=H
 have hnb67:=NB172_173.out
 have hnc67:=NB173_172.out
 have hnb68:=NB172_183.out
 have hnc68:=NB183_172.out
 obtain ⟨hcz69_0,hcz69_1,hfz69_0,hfz69_1⟩:=f2Z BK172.out
 have hnb70:=NB183_173.out
 have hnc70:=NB173_183.out
 obtain ⟨hcz71_0,hcz71_1,hfz71_0,hfz71_1⟩:=f2Z BK183.out
 obtain ⟨Ao72,co72,eo72⟩:=Kd.R_slice HO_184000.out
 subst eo72
 obtain ⟨hcz73_0,hcz73_1,hfz73_0,hfz73_1⟩:=f2Z BK173.out
 obtain ⟨Ao74,co74,eo74⟩:=Kd.R_slice HO_184001.out
 subst eo74
 go_wp2
 refine bodyPost_ret (results_cell_row rfl _ _ gb173 27 #[.slice Ao72 x184000_1.length co72,.slice Ao74 x184001_1.length co74] (0,0) _ rfl (by(with_reducible repeat(first|refine kN ?_ _|refine kD ?_|refine kA ?_ _));refine blk_put (cs:=#[.slice Ao72 x184000_1.length co72,.slice none 0 0]) ?_ 1 _ rfl;(with_reducible repeat(first|refine kN ?_ _|refine kD ?_|refine kA ?_ _));refine blk_put (cs:=#[.slice none 0 0,.slice none 0 0]) ?_ 0 _ rfl;(with_reducible repeat(first|refine kN ?_ _|refine kD ?_|refine kA ?_ _));exact BK173.out) Tryz.underlying27 rfl (by kernel_rfl)) rfl ?_
 exact ⟨_,_,eX,by(with_reducible repeat(first|apply rA|apply rN|apply rD));exact Kd.R_mono (Kd.R_far (p:=⟨gb173,1,none⟩) (Kd.R_far (p:=⟨gb173,0,none⟩) (Kd.R_types HO_184000.out BK173.out (by decide)) (fun _ hk=>hk.2) (.slice Ao72 x184000_1.length co72)) (fun _ hk=>hk.2) (.slice Ao74 x184001_1.length co74)) (fun _ hk=>hk.1),by(with_reducible repeat(first|apply rA|apply rN|apply rD));exact Kd.R_mono (Kd.R_far (p:=⟨gb173,1,none⟩) (Kd.R_far (p:=⟨gb173,0,none⟩) (Kd.R_types HO_184001.out BK173.out (by decide)) (fun _ hk=>hk.2) (.slice Ao72 x184000_1.length co72)) (fun _ hk=>hk.2) (.slice Ao74 x184001_1.length co74)) (fun _ hk=>hk.1),bX3 HB.out GE172.out GE173.out GE183.out⟩
 }

/-! ### spec_l02Then: function 55 -/
def spec_l02Then.l0 : Nat→List Int→List Int→List Int→Int→Int→Option (List Int)
 | 0,_,_,_,_,_=>none
 | k+1,x1,x5,x9,x10,x11=>if x11<x10 then (if 0≤x11 then (if x11<(x9.length:Int) then (if 0≤(rd x9 x11) then (if (rd x9 x11)<(x1.length:Int) then (if x5.length<17592186044416 then (spec_l02Then.l0 k x1 (x5 ++ [rd x1 (rd x9 x11)]) x9 x10 (wrap64 (x11+1))) else (none)) else (none)) else (none)) else (none)) else (none)) else (some x5)
def spec_l02Then.f (k:Nat) (l0:List Int) (l1:List Int):Option (List Int):=spec_l02Then.l0 k l1 (([]:List Int)) l0 (l0.length:Int) 0
theorem spec_l02Then.calls (k:Nat) (A0:Option Addr) (c0:Nat) (l0:List Int) (A1:Option Addr) (c1:Nat) (l1:List Int) (r:List Int) (w:World) (hr0:Kd.C (Kd.int .i64) w A0 l0.length l0) (hc0:l0.length≤c0) (hr1:Kd.C (Kd.int .i64) w A1 l1.length l1) (hc1:l1.length≤c1) (h:spec_l02Then.f k l0 l1=some r) :
  Calls Tryz.prog 55 #[.slice A0 l0.length c0,.slice A1 l1.length c1] w fun e w'=>∃ v0_:Value,e = .returned (v0_)∧Kd.R (Kd.int .i64) 3 w' w.heap.size (fun _=>True) v0_ r∧Below w.heap.size w w':=by
 have HR0:=aM hr0
 have HC0:=aM hc0
 clear hr0 hc0
 have HR1:=aM hr1
 have HC1:=aM hc1
 clear hr1 hc1
 have HB:=aM (Below.refl w.heap.size w)
 have H:(spec_l02Then.l0 k l1 (([]:List Int)) l0 (l0.length:Int) 0)=some r:=h
 clear h
 obtain ⟨y195,hy195⟩:∃ y_:List Int,y_=(([]:List Int)):=⟨_,rfl⟩
 replace H:(spec_l02Then.l0 k l1 y195 l0 (l0.length:Int) 0)=some r:=by first|(rw [hy195];with_reducible exact H)|(have H2_:=(Option.bind_some _ _).symm.trans H;rw [hy195];with_reducible exact H2_)|(have H2_:=(Option.bind_some _ _).symm.trans H;with_reducible exact H2_)|with_reducible exact H|(rw [hy195];exact H)|exact H
 have Ny195:=aM hy195
 clear hy195
 have H':=aM H
 clear H
 go_enter Tryz.func55,Tryz.ntmps55
 go_wp2_with (first|((with_reducible refine gate_dst (N:=8) rfl ?_);refine Kd.R_lit (Kd.int .i64) _ 3 ?hg (N:=8) ?hd (xs:=([]:List Int)) (inner:=[]) (ok:=fun _=>True) (okp:=fun _=>True) ?hr ?hp (fun _ hk=>hk) trivial (Below.refl _ _) (Nat.le_refl _) (by simp) ?_;(case hd=>rfl);(case hg=>rfl);(case hr=>first|(go_simp;done)|(go_simp;rfl));(case hp=>exact(Reps.none _ _));intro v196 w3 ho4 hb hg_ hnew_;clear hg_ hnew_;(first|rw [← Ny195.out] at ho4|(simp only [Int.reduceToNat] at ho4;rw [← Ny195.out] at ho4));have HO197:=aM (Kd.R_lower ho4 (below_size (bX HB.out)));replace HB:=aM (below_step (bX HB.out) hb);clear hb ho4))
 go_loopg [5,11] k (fun kq v5 v11 w'=>∃ (x5_1:List Int) (x11_1:Int),v11 = .int .i64 x11_1∧Aside0 (spec_l02Then.l0 kq l1 x5_1 l0 (l0.length:Int) x11_1=some r)∧Aside0 (kq≤k)∧Aside0 (Kd.R (Kd.int .i64) 3 w' w.heap.size (fun _=>True) v5 x5_1)∧Aside0 (Below w.heap.size w w'))
 case atStart=>exact ⟨(y195),(0),vX,H',⟨Nat.le_refl _⟩,⟨rX HO197.out⟩,⟨bX HB.out⟩⟩
 case round =>
 clear H'
 try clear c1
 obtain ⟨x5_1,x11_1,rfl,HA,HK1,HO_5,HB⟩:=hrel
 cases gk with
 | zero=>exact absurd HA.out (by simp [spec_l02Then.l0])
 | succ k1 =>
 have H:=HA.out
 clear HA
 simp only [spec_l02Then.l0] at H
 by_cases c5:x11_1<(l0.length:Int)
 {
 rw [if_pos c5] at H
 have c5b0:=decide_eq_true c5
 clear c5
 by_cases c6:0≤x11_1
 {
 rw [if_pos c6] at H
 have c6b0:=decide_eq_true c6
 clear c6
 by_cases c7:x11_1<(l0.length:Int)
 {
 rw [if_pos c7] at H
 have c7b0:=decide_eq_true c7
 clear c7
 by_cases c8:0≤(rd l0 x11_1)
 {
 rw [if_pos c8] at H
 have c8b0:=decide_eq_true c8
 clear c8
 by_cases c9:(rd l0 x11_1)<(l1.length:Int)
 {
 rw [if_pos c9] at H
 have c9b0:=decide_eq_true c9
 clear c9
 by_cases c10:x5_1.length<17592186044416
 {
 rw [if_pos c10] at H
 have LMc10:=aM c10
 clear c10
 obtain ⟨y200,hy200⟩:∃ y_:List Int,y_=(x5_1 ++ [rd l1 (rd l0 x11_1)]):=⟨_,rfl⟩
 replace H:(spec_l02Then.l0 k1 l1 y200 l0 (l0.length:Int) (wrap64 (x11_1+1)))=some r:=by first|(rw [hy200];with_reducible exact H)|(have H2_:=(Option.bind_some _ _).symm.trans H;rw [hy200];with_reducible exact H2_)|(have H2_:=(Option.bind_some _ _).symm.trans H;with_reducible exact H2_)|with_reducible exact H|(rw [hy200];exact H)|exact H
 have Ny200:=aM hy200
 clear hy200
 have H':=aM H
 clear H
 have p198:0≤(x11_1:Int):=dX
 have q198:x11_1<(l0.length:Int):=dX
 obtain ⟨ad198,e198,hx198_0⟩:=Kd.at_int HR0.out x11_1 p198 q198
 cases e198
 replace hx198_0:=(HB.out.cell (World.block_lt_of_cell? w _ hx198_0)).trans hx198_0
 replace p198:=eq_true p198
 replace q198:=eq_true q198
 have p199:0≤((rd l0 x11_1):Int):=dX
 have q199:(rd l0 x11_1)<(l1.length:Int):=dX
 obtain ⟨ad199,e199,hx199_0⟩:=Kd.at_int HR1.out (rd l0 x11_1) p199 q199
 cases e199
 replace hx199_0:=(HB.out.cell (World.block_lt_of_cell? w _ hx199_0)).trans hx199_0
 replace p199:=eq_true p199
 replace q199:=eq_true q199
 go_wp2_with (first|((with_reducible refine gate_builtin (b:=.append) (xs:=#[.tmp 15,.tmp 20]) rfl ?_);at_builtin;refine Kd.R_append (Kd.int .i64) (w0:=w) w.heap.size rfl (.tmp 15) (.tmp 20) 22 3 (.int .i64 0) 8 rfl Tryz.underlying22 info3 rfl (by decide) (by omega) u5 x5_1 (rd l1 (rd l0 x11_1)) [.int .i64 (rd l1 (rd l0 x11_1))] (fun _=>True) (fun _=>False) rfl rfl ?aP (fun _ hk=>hk.elim) ?aF ?aO ?aB ?aS ?aL ?_;(case aP=>exact rfl);(case aB=>exact(bX HB.out));(case aF=>exact(fun _ _=>trivial));(case aO=>exact(rX HO_5.out));(case aS=>exact(below_size (bX HB.out)));(case aL=>have:=LMc10.out;omega);intro v201 w11 ho hb hg hat;rw [← Ny200.out] at ho;replace HB:=aM (hb);have HO202:=aM (ho);clear HO_5 ho hb hg hat))
 go_roundg k1
 case measure=>have:=HK1.out;omega
 case rel=>exact ⟨(y200),(wrap64 (x11_1+1)),vX,H',⟨by have:=HK1.out;omega⟩,⟨rX HO202.out⟩,⟨bX HB.out⟩⟩
 }
 {
 rw [if_neg c10] at H
 exact absurd H (by simp)
 }
 }
 {
 rw [if_neg c9] at H
 exact absurd H (by simp)
 }
 }
 {
 rw [if_neg c8] at H
 exact absurd H (by simp)
 }
 }
 {
 rw [if_neg c7] at H
 exact absurd H (by simp)
 }
 }
 {
 rw [if_neg c6] at H
 exact absurd H (by simp)
 }
 }
 {
 rw [if_neg c5] at H
 have c5b0:=decide_eq_false c5
 clear c5
 obtain rfl:=Option.some.inj H
 go_wp2
 go_ret
 exact ⟨_,eX,by(with_reducible repeat(first|apply rA|apply rN|apply rD));exact HO_5.out,bX HB.out⟩
 }

end Go.Proofs.YtpieaniigkgmoaaGreatDoor.S
