-- PRINTED by print.py (a twelfth state) out of the translation. Not trusted: Lean checks it.
import Derived.Test.YtmhjcbcjpidegaaS0
import Derived.Test.YtmhjcbcjpidegaaS3
namespace Go.Proofs.Ytmhjcbcjpidegaa.S
set_option maxHeartbeats 8000000
set_option maxRecDepth 100000
open Go.RowKit Go.Proofs.YtmhjcbcjpidegaaW.PrintWords Go.Proofs.YtmhjcbcjpidegaaW.PrintLast Go.Proofs.YtmhjcbcjpidegaaW.PrintMore
attribute [local go_sem] max2_int min2_int max_two min_two max_three min_three max_four min_four   -- for this text's walks alone
set_option linter.unusedVariables false
set_option linter.unusedSimpArgs false

/-! ### impl_letterSurface: function 51 -/
def impl_letterSurface.f (k:Nat) (l0_0:List Int) (l0_1:List Int) (a1:Int):Option (List Int × List Int):=if a1=84 then ((impl_ShearSurface.f k l0_0 l0_1).bind fun bt259=>(some (bt259.1,bt259.2.1))) else (if a1=116 then ((impl_UnshearSurface.f k l0_0 l0_1).bind fun bt266=>(some (bt266.1,bt266.2.1))) else (if a1=83 then ((impl_TurnSurface.f k l0_0 l0_1).bind fun bt273=>(some (bt273.1,bt273.2.1))) else (if a1=115 then ((impl_UnturnSurface.f k l0_0 l0_1).bind fun bt280=>(some (bt280.1,bt280.2.1))) else (some (([]:List Int),([]:List Int))))))
theorem impl_letterSurface.calls (k:Nat) (A0_0:Option Addr) (c0_0:Nat) (l0_0:List Int) (A0_1:Option Addr) (c0_1:Nat) (l0_1:List Int) (a1:Int) (r1:List Int) (r2:List Int) (w:World) (hr0_0:Kd.C (Kd.int .i64) w A0_0 l0_0.length l0_0) (hc0_0:l0_0.length≤c0_0) (hr0_1:Kd.C (Kd.int .i64) w A0_1 l0_1.length l0_1) (hc0_1:l0_1.length≤c0_1) (h:impl_letterSurface.f k l0_0 l0_1 a1=some (r1,r2)) :
  Calls Try.prog 51 #[.agg #[.slice A0_0 l0_0.length c0_0,.slice A0_1 l0_1.length c0_1],.int .u8 a1] w fun e w'=>∃ v0_ v1_:Value,e = .returned (.agg #[v0_,v1_])∧Kd.R (Kd.int .i64) 3 w' w.heap.size (fun k_=>some k_≠(v1_:Value).ownBlock) v0_ r1∧Kd.R (Kd.int .i64) 3 w' w.heap.size (fun k_=>some k_≠(v0_:Value).ownBlock) v1_ r2∧Below w.heap.size w w':=by
 have hu27:=Try.underlying27
 have HR0_0:=aM hr0_0
 have HC0_0:=aM hc0_0
 clear hr0_0 hc0_0
 have HR0_1:=aM hr0_1
 have HC0_1:=aM hc0_1
 clear hr0_1 hc0_1
 have HB:=aM (Below.refl w.heap.size w)
 have H:(if a1=84 then ((impl_ShearSurface.f k l0_0 l0_1).bind fun bt259=>(some (bt259.1,bt259.2.1))) else (if a1=116 then ((impl_UnshearSurface.f k l0_0 l0_1).bind fun bt266=>(some (bt266.1,bt266.2.1))) else (if a1=83 then ((impl_TurnSurface.f k l0_0 l0_1).bind fun bt273=>(some (bt273.1,bt273.2.1))) else (if a1=115 then ((impl_UnturnSurface.f k l0_0 l0_1).bind fun bt280=>(some (bt280.1,bt280.2.1))) else (some (([]:List Int),([]:List Int)))))))=some (r1,r2):=h
 clear h
 by_cases c3:a1=84
 {
 rw [if_pos c3] at H
 have c3b0:(a1 == 84)=true:=beq_iff_eq.mpr c3
 have c3b1:(a1 != 84)=false:=bne_eq_false_iff_eq.mpr c3
 clear c3
 replace H:=oB H
 obtain ⟨⟨t259,t262,t265⟩,A40,H⟩:=H
 replace H:(some (t259,t262))=some (r1,r2):=H
 have A4:=aM A40
 clear A40
 simp only [Option.some.injEq,Prod.mk.injEq] at H
 obtain ⟨rfl,rfl⟩:=H
 go_enter Try.func51,Try.ntmps51
 go_wp2_with (first|((with_reducible refine gate_dst (N:=2) rfl ?_);refine bEv (cs:=#[.slice A0_0 l0_0.length c0_0,.slice A0_1 l0_1.length c0_1]) (t:=27) ?_;intro gb256 hg w5 hbox hb;have BK256:=aM (hbox);have GW256:=aM ((szX (below_size (bX HB.out)) hg:w.heap.size≤gb256));have GE256:=GW256;replace HB:=aM (below_step (bX HB.out) hb);clear hb hbox hg)|((with_reducible refine gate_dst (N:=4) rfl ?_);refine bEv (cs:=#[.slice none 0 0,.slice none 0 0]) (t:=27) ?_;intro gb257 hg w6 hbox hb;have BK257:=aM (hbox);have GW257:=aM ((szX (below_size (bX1 HB.out GE256.out)) hg:w.heap.size≤gb257));have GE257:=GW257;replace HB:=aM (below_step (bX1 HB.out GE256.out) hb);have NB256_257:=aM (neX BK256.out hg);have NB257_256:=aM (nfX BK256.out hg);replace BK256:=aM (bbX BK256.out hb);clear hb hbox hg)|((with_reducible refine gate_dst (N:=5) rfl ?_);refine bEv (cs:=#[.slice none 0 0,.slice none 0 0]) (t:=27) ?_;intro gb258 hg w7 hbox hb;have BK258:=aM (hbox);have GW258:=aM ((szX (below_size (bX2 HB.out GE256.out GE257.out)) hg:w.heap.size≤gb258));have GE258:=GW258;replace HB:=aM (below_step (bX2 HB.out GE256.out GE257.out) hb);have NB256_258:=aM (neX BK256.out hg);have NB258_256:=aM (nfX BK256.out hg);replace BK256:=aM (bbX BK256.out hb);have NB257_258:=aM (neX BK257.out hg);have NB258_257:=aM (nfX BK257.out hg);replace BK257:=aM (bbX BK257.out hb);clear hb hbox hg;have hnb8:=NB258_256.out;have hnc8:=NB256_258.out;have hnb9:=NB258_257.out;have hnc9:=NB257_258.out;obtain ⟨hcz10_0,hcz10_1,hfz10_0,hfz10_1⟩:=f2Z BK258.out;have hnb11:=NB256_257.out;have hnc11:=NB257_256.out;obtain ⟨hcz12_0,hcz12_1,hfz12_0,hfz12_1⟩:=f2Z BK256.out)|((with_reducible refine gate_callee (f:=76) rfl ?_);refine goesL_ (some 12) rfl rfl Try.func76 (by kernel_rfl) rfl #[.agg #[.slice A0_0 l0_0.length c0_0,.slice A0_1 l0_1.length c0_1]] rfl aX ?_;(with_reducible refine(impl_ShearSurface.calls k _ _ l0_0 _ _ l0_1 t259 t262 t265 _ ?side1 ?side2 ?side3 ?side4 A4.out).mono ?_);(case side1=>exact Kd.C_below HR0_0.out (bX3 HB.out GE256.out GE257.out GE258.out));(case side2=>exact HC0_0.out);(case side3=>exact Kd.C_below HR0_1.out (bX3 HB.out GE256.out GE257.out GE258.out));(case side4=>exact HC0_1.out);rintro e w13 ⟨v260,v263,rfl,ho0,ho1,hb⟩;refine ⟨_,rfl,?_⟩;have HO261:=aM (Kd.R_lower ho0 (below_size (bX3 HB.out GE256.out GE257.out GE258.out)));have HO264:=aM (Kd.R_lower ho1 (below_size (bX3 HB.out GE256.out GE257.out GE258.out)));replace BK256:=aM (blk_below (g:=gb256) (o:=.cells #[.slice A0_0 l0_0.length c0_0,.slice A0_1 l0_1.length c0_1] 27 (0,0)) (by(with_reducible repeat(first|refine kN ?_ _|refine kD ?_|refine kA ?_ _));refine blk_far ?_ NB256_258.out _;(with_reducible repeat(first|refine kN ?_ _|refine kD ?_|refine kA ?_ _));refine blk_far ?_ NB256_258.out _;(with_reducible repeat(first|refine kN ?_ _|refine kD ?_|refine kA ?_ _));exact BK256.out) hb);replace BK257:=aM (blk_below (g:=gb257) (o:=.cells #[.slice none 0 0,.slice none 0 0] 27 (0,0)) (by(with_reducible repeat(first|refine kN ?_ _|refine kD ?_|refine kA ?_ _));refine blk_far ?_ NB257_258.out _;(with_reducible repeat(first|refine kN ?_ _|refine kD ?_|refine kA ?_ _));refine blk_far ?_ NB257_258.out _;(with_reducible repeat(first|refine kN ?_ _|refine kD ?_|refine kA ?_ _));exact BK257.out) hb);replace BK258:=aM (blk_below (g:=gb258) (o:=.cells #[.slice none 0 0,.slice none 0 0] 27 (0,0)) (by(with_reducible repeat(first|refine kN ?_ _|refine kD ?_|refine kA ?_ _));refine blk_put (cs:=#[.slice none 0 0,.slice none 0 0]) ?_ 1 _ rfl;(with_reducible repeat(first|refine kN ?_ _|refine kD ?_|refine kA ?_ _));refine blk_put (cs:=#[.slice none 0 0,.slice none 0 0]) ?_ 0 _ rfl;(with_reducible repeat(first|refine kN ?_ _|refine kD ?_|refine kA ?_ _));exact BK258.out) hb);replace HB:=aM (below_step (bX3 HB.out GE256.out GE257.out GE258.out) hb);(try clear hb);(try clear hk);(try clear ho0);(try clear ho1);obtain ⟨Ao14,co14,eo14⟩:=Kd.R_slice HO261.out;subst eo14;obtain ⟨hcz15_0,hcz15_1,hfz15_0,hfz15_1⟩:=f2Z BK258.out;obtain ⟨Ao16,co16,eo16⟩:=Kd.R_slice HO264.out;subst eo16;obtain ⟨hcz17_0,hcz17_1,hfz17_0,hfz17_1⟩:=f2Z BK257.out))
 refine bodyPost_ret (results_cell_row rfl _ _ gb257 27 #[.slice Ao14 t259.length co14,.slice Ao16 t262.length co16] (0,0) _ rfl (by(with_reducible repeat(first|refine kN ?_ _|refine kD ?_|refine kA ?_ _));refine blk_put (cs:=#[.slice Ao14 t259.length co14,.slice none 0 0]) ?_ 1 _ rfl;(with_reducible repeat(first|refine kN ?_ _|refine kD ?_|refine kA ?_ _));refine blk_put (cs:=#[.slice none 0 0,.slice none 0 0]) ?_ 0 _ rfl;(with_reducible repeat(first|refine kN ?_ _|refine kD ?_|refine kA ?_ _));refine blk_far ?_ NB257_258.out _;(with_reducible repeat(first|refine kN ?_ _|refine kD ?_|refine kA ?_ _));refine blk_far ?_ NB257_258.out _;(with_reducible repeat(first|refine kN ?_ _|refine kD ?_|refine kA ?_ _));exact BK257.out) Try.underlying27 rfl (by kernel_rfl)) rfl ?_
 exact ⟨_,_,eX,by(with_reducible repeat(first|apply rA|apply rN|apply rD));exact Kd.R_mono (Kd.R_far (p:=⟨gb257,1,none⟩) (Kd.R_far (p:=⟨gb257,0,none⟩) (Kd.R_far (p:=⟨gb258,1,none⟩) (Kd.R_far (p:=⟨gb258,0,none⟩) (Kd.R_types (Kd.R_types HO261.out BK258.out (by decide)) BK257.out (by decide)) (fun _ hk=>hk.1.2) (.slice Ao14 t259.length co14)) (fun _ hk=>hk.1.2) (.slice Ao16 t262.length co16)) (fun _ hk=>hk.2) (.slice Ao14 t259.length co14)) (fun _ hk=>hk.2) (.slice Ao16 t262.length co16)) (fun _ hk=>hk.1.1),by(with_reducible repeat(first|apply rA|apply rN|apply rD));exact Kd.R_mono (Kd.R_far (p:=⟨gb257,1,none⟩) (Kd.R_far (p:=⟨gb257,0,none⟩) (Kd.R_far (p:=⟨gb258,1,none⟩) (Kd.R_far (p:=⟨gb258,0,none⟩) (Kd.R_types (Kd.R_types HO264.out BK258.out (by decide)) BK257.out (by decide)) (fun _ hk=>hk.1.2) (.slice Ao14 t259.length co14)) (fun _ hk=>hk.1.2) (.slice Ao16 t262.length co16)) (fun _ hk=>hk.2) (.slice Ao14 t259.length co14)) (fun _ hk=>hk.2) (.slice Ao16 t262.length co16)) (fun _ hk=>hk.1.1),bX3 HB.out GE256.out GE257.out GE258.out⟩
 }
 {
 rw [if_neg c3] at H
 have c3b0:(a1 == 84)=false:=beq_eq_false_iff_ne.mpr c3
 have c3b1:(a1 != 84)=true:=bne_iff_ne.mpr c3
 by_cases c18:a1=116
 {
 rw [if_pos c18] at H
 have c18b0:(a1 == 116)=true:=beq_iff_eq.mpr c18
 have c18b1:(a1 != 116)=false:=bne_eq_false_iff_eq.mpr c18
 clear c18
 replace H:=oB H
 obtain ⟨⟨t266,t269,t272⟩,A190,H⟩:=H
 replace H:(some (t266,t269))=some (r1,r2):=H
 have A19:=aM A190
 clear A190
 simp only [Option.some.injEq,Prod.mk.injEq] at H
 obtain ⟨rfl,rfl⟩:=H
 go_enter Try.func51,Try.ntmps51
 go_wp2_with (first|((with_reducible refine gate_dst (N:=2) rfl ?_);refine bEv (cs:=#[.slice A0_0 l0_0.length c0_0,.slice A0_1 l0_1.length c0_1]) (t:=27) ?_;intro gb256 hg w20 hbox hb;have BK256:=aM (hbox);have GW256:=aM ((szX (below_size (bX HB.out)) hg:w.heap.size≤gb256));have GE256:=GW256;replace HB:=aM (below_step (bX HB.out) hb);clear hb hbox hg)|((with_reducible refine gate_dst (N:=4) rfl ?_);refine bEv (cs:=#[.slice none 0 0,.slice none 0 0]) (t:=27) ?_;intro gb257 hg w21 hbox hb;have BK257:=aM (hbox);have GW257:=aM ((szX (below_size (bX1 HB.out GE256.out)) hg:w.heap.size≤gb257));have GE257:=GW257;replace HB:=aM (below_step (bX1 HB.out GE256.out) hb);have NB256_257:=aM (neX BK256.out hg);have NB257_256:=aM (nfX BK256.out hg);replace BK256:=aM (bbX BK256.out hb);clear hb hbox hg)|((with_reducible refine gate_dst (N:=5) rfl ?_);refine bEv (cs:=#[.slice none 0 0,.slice none 0 0]) (t:=27) ?_;intro gb258 hg w22 hbox hb;have BK258:=aM (hbox);have GW258:=aM ((szX (below_size (bX2 HB.out GE256.out GE257.out)) hg:w.heap.size≤gb258));have GE258:=GW258;replace HB:=aM (below_step (bX2 HB.out GE256.out GE257.out) hb);have NB256_258:=aM (neX BK256.out hg);have NB258_256:=aM (nfX BK256.out hg);replace BK256:=aM (bbX BK256.out hb);have NB257_258:=aM (neX BK257.out hg);have NB258_257:=aM (nfX BK257.out hg);replace BK257:=aM (bbX BK257.out hb);clear hb hbox hg;have hnb23:=NB258_256.out;have hnc23:=NB256_258.out;have hnb24:=NB258_257.out;have hnc24:=NB257_258.out;obtain ⟨hcz25_0,hcz25_1,hfz25_0,hfz25_1⟩:=f2Z BK258.out;have hnb26:=NB256_257.out;have hnc26:=NB257_256.out;obtain ⟨hcz27_0,hcz27_1,hfz27_0,hfz27_1⟩:=f2Z BK256.out)|((with_reducible refine gate_callee (f:=77) rfl ?_);refine goesL_ (some 19) rfl rfl Try.func77 (by kernel_rfl) rfl #[.agg #[.slice A0_0 l0_0.length c0_0,.slice A0_1 l0_1.length c0_1]] rfl aX ?_;(with_reducible refine(impl_UnshearSurface.calls k _ _ l0_0 _ _ l0_1 t266 t269 t272 _ ?side1 ?side2 ?side3 ?side4 A19.out).mono ?_);(case side1=>exact Kd.C_below HR0_0.out (bX3 HB.out GE256.out GE257.out GE258.out));(case side2=>exact HC0_0.out);(case side3=>exact Kd.C_below HR0_1.out (bX3 HB.out GE256.out GE257.out GE258.out));(case side4=>exact HC0_1.out);rintro e w28 ⟨v267,v270,rfl,ho0,ho1,hb⟩;refine ⟨_,rfl,?_⟩;have HO268:=aM (Kd.R_lower ho0 (below_size (bX3 HB.out GE256.out GE257.out GE258.out)));have HO271:=aM (Kd.R_lower ho1 (below_size (bX3 HB.out GE256.out GE257.out GE258.out)));replace BK256:=aM (blk_below (g:=gb256) (o:=.cells #[.slice A0_0 l0_0.length c0_0,.slice A0_1 l0_1.length c0_1] 27 (0,0)) (by(with_reducible repeat(first|refine kN ?_ _|refine kD ?_|refine kA ?_ _));refine blk_far ?_ NB256_258.out _;(with_reducible repeat(first|refine kN ?_ _|refine kD ?_|refine kA ?_ _));refine blk_far ?_ NB256_258.out _;(with_reducible repeat(first|refine kN ?_ _|refine kD ?_|refine kA ?_ _));exact BK256.out) hb);replace BK257:=aM (blk_below (g:=gb257) (o:=.cells #[.slice none 0 0,.slice none 0 0] 27 (0,0)) (by(with_reducible repeat(first|refine kN ?_ _|refine kD ?_|refine kA ?_ _));refine blk_far ?_ NB257_258.out _;(with_reducible repeat(first|refine kN ?_ _|refine kD ?_|refine kA ?_ _));refine blk_far ?_ NB257_258.out _;(with_reducible repeat(first|refine kN ?_ _|refine kD ?_|refine kA ?_ _));exact BK257.out) hb);replace BK258:=aM (blk_below (g:=gb258) (o:=.cells #[.slice none 0 0,.slice none 0 0] 27 (0,0)) (by(with_reducible repeat(first|refine kN ?_ _|refine kD ?_|refine kA ?_ _));refine blk_put (cs:=#[.slice none 0 0,.slice none 0 0]) ?_ 1 _ rfl;(with_reducible repeat(first|refine kN ?_ _|refine kD ?_|refine kA ?_ _));refine blk_put (cs:=#[.slice none 0 0,.slice none 0 0]) ?_ 0 _ rfl;(with_reducible repeat(first|refine kN ?_ _|refine kD ?_|refine kA ?_ _));exact BK258.out) hb);replace HB:=aM (below_step (bX3 HB.out GE256.out GE257.out GE258.out) hb);(try clear hb);(try clear hk);(try clear ho0);(try clear ho1);obtain ⟨Ao29,co29,eo29⟩:=Kd.R_slice HO268.out;subst eo29;obtain ⟨hcz30_0,hcz30_1,hfz30_0,hfz30_1⟩:=f2Z BK258.out;obtain ⟨Ao31,co31,eo31⟩:=Kd.R_slice HO271.out;subst eo31;obtain ⟨hcz32_0,hcz32_1,hfz32_0,hfz32_1⟩:=f2Z BK257.out))
 refine bodyPost_ret (results_cell_row rfl _ _ gb257 27 #[.slice Ao29 t266.length co29,.slice Ao31 t269.length co31] (0,0) _ rfl (by(with_reducible repeat(first|refine kN ?_ _|refine kD ?_|refine kA ?_ _));refine blk_put (cs:=#[.slice Ao29 t266.length co29,.slice none 0 0]) ?_ 1 _ rfl;(with_reducible repeat(first|refine kN ?_ _|refine kD ?_|refine kA ?_ _));refine blk_put (cs:=#[.slice none 0 0,.slice none 0 0]) ?_ 0 _ rfl;(with_reducible repeat(first|refine kN ?_ _|refine kD ?_|refine kA ?_ _));refine blk_far ?_ NB257_258.out _;(with_reducible repeat(first|refine kN ?_ _|refine kD ?_|refine kA ?_ _));refine blk_far ?_ NB257_258.out _;(with_reducible repeat(first|refine kN ?_ _|refine kD ?_|refine kA ?_ _));exact BK257.out) Try.underlying27 rfl (by kernel_rfl)) rfl ?_
 exact ⟨_,_,eX,by(with_reducible repeat(first|apply rA|apply rN|apply rD));exact Kd.R_mono (Kd.R_far (p:=⟨gb257,1,none⟩) (Kd.R_far (p:=⟨gb257,0,none⟩) (Kd.R_far (p:=⟨gb258,1,none⟩) (Kd.R_far (p:=⟨gb258,0,none⟩) (Kd.R_types (Kd.R_types HO268.out BK258.out (by decide)) BK257.out (by decide)) (fun _ hk=>hk.1.2) (.slice Ao29 t266.length co29)) (fun _ hk=>hk.1.2) (.slice Ao31 t269.length co31)) (fun _ hk=>hk.2) (.slice Ao29 t266.length co29)) (fun _ hk=>hk.2) (.slice Ao31 t269.length co31)) (fun _ hk=>hk.1.1),by(with_reducible repeat(first|apply rA|apply rN|apply rD));exact Kd.R_mono (Kd.R_far (p:=⟨gb257,1,none⟩) (Kd.R_far (p:=⟨gb257,0,none⟩) (Kd.R_far (p:=⟨gb258,1,none⟩) (Kd.R_far (p:=⟨gb258,0,none⟩) (Kd.R_types (Kd.R_types HO271.out BK258.out (by decide)) BK257.out (by decide)) (fun _ hk=>hk.1.2) (.slice Ao29 t266.length co29)) (fun _ hk=>hk.1.2) (.slice Ao31 t269.length co31)) (fun _ hk=>hk.2) (.slice Ao29 t266.length co29)) (fun _ hk=>hk.2) (.slice Ao31 t269.length co31)) (fun _ hk=>hk.1.1),bX3 HB.out GE256.out GE257.out GE258.out⟩
 }
 {
 rw [if_neg c18] at H
 have c18b0:(a1 == 116)=false:=beq_eq_false_iff_ne.mpr c18
 have c18b1:(a1 != 116)=true:=bne_iff_ne.mpr c18
 by_cases c33:a1=83
 {
 rw [if_pos c33] at H
 have c33b0:(a1 == 83)=true:=beq_iff_eq.mpr c33
 have c33b1:(a1 != 83)=false:=bne_eq_false_iff_eq.mpr c33
 clear c33
 replace H:=oB H
 obtain ⟨⟨t273,t276,t279⟩,A340,H⟩:=H
 replace H:(some (t273,t276))=some (r1,r2):=H
 have A34:=aM A340
 clear A340
 simp only [Option.some.injEq,Prod.mk.injEq] at H
 obtain ⟨rfl,rfl⟩:=H
 go_enter Try.func51,Try.ntmps51
 go_wp2_with (first|((with_reducible refine gate_dst (N:=2) rfl ?_);refine bEv (cs:=#[.slice A0_0 l0_0.length c0_0,.slice A0_1 l0_1.length c0_1]) (t:=27) ?_;intro gb256 hg w35 hbox hb;have BK256:=aM (hbox);have GW256:=aM ((szX (below_size (bX HB.out)) hg:w.heap.size≤gb256));have GE256:=GW256;replace HB:=aM (below_step (bX HB.out) hb);clear hb hbox hg)|((with_reducible refine gate_dst (N:=4) rfl ?_);refine bEv (cs:=#[.slice none 0 0,.slice none 0 0]) (t:=27) ?_;intro gb257 hg w36 hbox hb;have BK257:=aM (hbox);have GW257:=aM ((szX (below_size (bX1 HB.out GE256.out)) hg:w.heap.size≤gb257));have GE257:=GW257;replace HB:=aM (below_step (bX1 HB.out GE256.out) hb);have NB256_257:=aM (neX BK256.out hg);have NB257_256:=aM (nfX BK256.out hg);replace BK256:=aM (bbX BK256.out hb);clear hb hbox hg)|((with_reducible refine gate_dst (N:=5) rfl ?_);refine bEv (cs:=#[.slice none 0 0,.slice none 0 0]) (t:=27) ?_;intro gb258 hg w37 hbox hb;have BK258:=aM (hbox);have GW258:=aM ((szX (below_size (bX2 HB.out GE256.out GE257.out)) hg:w.heap.size≤gb258));have GE258:=GW258;replace HB:=aM (below_step (bX2 HB.out GE256.out GE257.out) hb);have NB256_258:=aM (neX BK256.out hg);have NB258_256:=aM (nfX BK256.out hg);replace BK256:=aM (bbX BK256.out hb);have NB257_258:=aM (neX BK257.out hg);have NB258_257:=aM (nfX BK257.out hg);replace BK257:=aM (bbX BK257.out hb);clear hb hbox hg;have hnb38:=NB258_256.out;have hnc38:=NB256_258.out;have hnb39:=NB258_257.out;have hnc39:=NB257_258.out;obtain ⟨hcz40_0,hcz40_1,hfz40_0,hfz40_1⟩:=f2Z BK258.out;have hnb41:=NB256_257.out;have hnc41:=NB257_256.out;obtain ⟨hcz42_0,hcz42_1,hfz42_0,hfz42_1⟩:=f2Z BK256.out)|((with_reducible refine gate_callee (f:=78) rfl ?_);refine goesL_ (some 26) rfl rfl Try.func78 (by kernel_rfl) rfl #[.agg #[.slice A0_0 l0_0.length c0_0,.slice A0_1 l0_1.length c0_1]] rfl aX ?_;(with_reducible refine(impl_TurnSurface.calls k _ _ l0_0 _ _ l0_1 t273 t276 t279 _ ?side1 ?side2 ?side3 ?side4 A34.out).mono ?_);(case side1=>exact Kd.C_below HR0_0.out (bX3 HB.out GE256.out GE257.out GE258.out));(case side2=>exact HC0_0.out);(case side3=>exact Kd.C_below HR0_1.out (bX3 HB.out GE256.out GE257.out GE258.out));(case side4=>exact HC0_1.out);rintro e w43 ⟨v274,v277,rfl,ho0,ho1,hb⟩;refine ⟨_,rfl,?_⟩;have HO275:=aM (Kd.R_lower ho0 (below_size (bX3 HB.out GE256.out GE257.out GE258.out)));have HO278:=aM (Kd.R_lower ho1 (below_size (bX3 HB.out GE256.out GE257.out GE258.out)));replace BK256:=aM (blk_below (g:=gb256) (o:=.cells #[.slice A0_0 l0_0.length c0_0,.slice A0_1 l0_1.length c0_1] 27 (0,0)) (by(with_reducible repeat(first|refine kN ?_ _|refine kD ?_|refine kA ?_ _));refine blk_far ?_ NB256_258.out _;(with_reducible repeat(first|refine kN ?_ _|refine kD ?_|refine kA ?_ _));refine blk_far ?_ NB256_258.out _;(with_reducible repeat(first|refine kN ?_ _|refine kD ?_|refine kA ?_ _));exact BK256.out) hb);replace BK257:=aM (blk_below (g:=gb257) (o:=.cells #[.slice none 0 0,.slice none 0 0] 27 (0,0)) (by(with_reducible repeat(first|refine kN ?_ _|refine kD ?_|refine kA ?_ _));refine blk_far ?_ NB257_258.out _;(with_reducible repeat(first|refine kN ?_ _|refine kD ?_|refine kA ?_ _));refine blk_far ?_ NB257_258.out _;(with_reducible repeat(first|refine kN ?_ _|refine kD ?_|refine kA ?_ _));exact BK257.out) hb);replace BK258:=aM (blk_below (g:=gb258) (o:=.cells #[.slice none 0 0,.slice none 0 0] 27 (0,0)) (by(with_reducible repeat(first|refine kN ?_ _|refine kD ?_|refine kA ?_ _));refine blk_put (cs:=#[.slice none 0 0,.slice none 0 0]) ?_ 1 _ rfl;(with_reducible repeat(first|refine kN ?_ _|refine kD ?_|refine kA ?_ _));refine blk_put (cs:=#[.slice none 0 0,.slice none 0 0]) ?_ 0 _ rfl;(with_reducible repeat(first|refine kN ?_ _|refine kD ?_|refine kA ?_ _));exact BK258.out) hb);replace HB:=aM (below_step (bX3 HB.out GE256.out GE257.out GE258.out) hb);(try clear hb);(try clear hk);(try clear ho0);(try clear ho1);obtain ⟨Ao44,co44,eo44⟩:=Kd.R_slice HO275.out;subst eo44;obtain ⟨hcz45_0,hcz45_1,hfz45_0,hfz45_1⟩:=f2Z BK258.out;obtain ⟨Ao46,co46,eo46⟩:=Kd.R_slice HO278.out;subst eo46;obtain ⟨hcz47_0,hcz47_1,hfz47_0,hfz47_1⟩:=f2Z BK257.out))
 refine bodyPost_ret (results_cell_row rfl _ _ gb257 27 #[.slice Ao44 t273.length co44,.slice Ao46 t276.length co46] (0,0) _ rfl (by(with_reducible repeat(first|refine kN ?_ _|refine kD ?_|refine kA ?_ _));refine blk_put (cs:=#[.slice Ao44 t273.length co44,.slice none 0 0]) ?_ 1 _ rfl;(with_reducible repeat(first|refine kN ?_ _|refine kD ?_|refine kA ?_ _));refine blk_put (cs:=#[.slice none 0 0,.slice none 0 0]) ?_ 0 _ rfl;(with_reducible repeat(first|refine kN ?_ _|refine kD ?_|refine kA ?_ _));refine blk_far ?_ NB257_258.out _;(with_reducible repeat(first|refine kN ?_ _|refine kD ?_|refine kA ?_ _));refine blk_far ?_ NB257_258.out _;(with_reducible repeat(first|refine kN ?_ _|refine kD ?_|refine kA ?_ _));exact BK257.out) Try.underlying27 rfl (by kernel_rfl)) rfl ?_
 exact ⟨_,_,eX,by(with_reducible repeat(first|apply rA|apply rN|apply rD));exact Kd.R_mono (Kd.R_far (p:=⟨gb257,1,none⟩) (Kd.R_far (p:=⟨gb257,0,none⟩) (Kd.R_far (p:=⟨gb258,1,none⟩) (Kd.R_far (p:=⟨gb258,0,none⟩) (Kd.R_types (Kd.R_types HO275.out BK258.out (by decide)) BK257.out (by decide)) (fun _ hk=>hk.1.2) (.slice Ao44 t273.length co44)) (fun _ hk=>hk.1.2) (.slice Ao46 t276.length co46)) (fun _ hk=>hk.2) (.slice Ao44 t273.length co44)) (fun _ hk=>hk.2) (.slice Ao46 t276.length co46)) (fun _ hk=>hk.1.1),by(with_reducible repeat(first|apply rA|apply rN|apply rD));exact Kd.R_mono (Kd.R_far (p:=⟨gb257,1,none⟩) (Kd.R_far (p:=⟨gb257,0,none⟩) (Kd.R_far (p:=⟨gb258,1,none⟩) (Kd.R_far (p:=⟨gb258,0,none⟩) (Kd.R_types (Kd.R_types HO278.out BK258.out (by decide)) BK257.out (by decide)) (fun _ hk=>hk.1.2) (.slice Ao44 t273.length co44)) (fun _ hk=>hk.1.2) (.slice Ao46 t276.length co46)) (fun _ hk=>hk.2) (.slice Ao44 t273.length co44)) (fun _ hk=>hk.2) (.slice Ao46 t276.length co46)) (fun _ hk=>hk.1.1),bX3 HB.out GE256.out GE257.out GE258.out⟩
 }
 {
 rw [if_neg c33] at H
 have c33b0:(a1 == 83)=false:=beq_eq_false_iff_ne.mpr c33
 have c33b1:(a1 != 83)=true:=bne_iff_ne.mpr c33
 by_cases c48:a1=115
 {
 rw [if_pos c48] at H
 have c48b0:(a1 == 115)=true:=beq_iff_eq.mpr c48
 have c48b1:(a1 != 115)=false:=bne_eq_false_iff_eq.mpr c48
 clear c48
 replace H:=oB H
 obtain ⟨⟨t280,t283,t286⟩,A490,H⟩:=H
 replace H:(some (t280,t283))=some (r1,r2):=H
 have A49:=aM A490
 clear A490
 simp only [Option.some.injEq,Prod.mk.injEq] at H
 obtain ⟨rfl,rfl⟩:=H
 go_enter Try.func51,Try.ntmps51
 go_wp2_with (first|((with_reducible refine gate_dst (N:=2) rfl ?_);refine bEv (cs:=#[.slice A0_0 l0_0.length c0_0,.slice A0_1 l0_1.length c0_1]) (t:=27) ?_;intro gb256 hg w50 hbox hb;have BK256:=aM (hbox);have GW256:=aM ((szX (below_size (bX HB.out)) hg:w.heap.size≤gb256));have GE256:=GW256;replace HB:=aM (below_step (bX HB.out) hb);clear hb hbox hg)|((with_reducible refine gate_dst (N:=4) rfl ?_);refine bEv (cs:=#[.slice none 0 0,.slice none 0 0]) (t:=27) ?_;intro gb257 hg w51 hbox hb;have BK257:=aM (hbox);have GW257:=aM ((szX (below_size (bX1 HB.out GE256.out)) hg:w.heap.size≤gb257));have GE257:=GW257;replace HB:=aM (below_step (bX1 HB.out GE256.out) hb);have NB256_257:=aM (neX BK256.out hg);have NB257_256:=aM (nfX BK256.out hg);replace BK256:=aM (bbX BK256.out hb);clear hb hbox hg)|((with_reducible refine gate_dst (N:=5) rfl ?_);refine bEv (cs:=#[.slice none 0 0,.slice none 0 0]) (t:=27) ?_;intro gb258 hg w52 hbox hb;have BK258:=aM (hbox);have GW258:=aM ((szX (below_size (bX2 HB.out GE256.out GE257.out)) hg:w.heap.size≤gb258));have GE258:=GW258;replace HB:=aM (below_step (bX2 HB.out GE256.out GE257.out) hb);have NB256_258:=aM (neX BK256.out hg);have NB258_256:=aM (nfX BK256.out hg);replace BK256:=aM (bbX BK256.out hb);have NB257_258:=aM (neX BK257.out hg);have NB258_257:=aM (nfX BK257.out hg);replace BK257:=aM (bbX BK257.out hb);clear hb hbox hg;have hnb53:=NB258_256.out;have hnc53:=NB256_258.out;have hnb54:=NB258_257.out;have hnc54:=NB257_258.out;obtain ⟨hcz55_0,hcz55_1,hfz55_0,hfz55_1⟩:=f2Z BK258.out;have hnb56:=NB256_257.out;have hnc56:=NB257_256.out;obtain ⟨hcz57_0,hcz57_1,hfz57_0,hfz57_1⟩:=f2Z BK256.out)|((with_reducible refine gate_callee (f:=79) rfl ?_);refine goesL_ (some 33) rfl rfl Try.func79 (by kernel_rfl) rfl #[.agg #[.slice A0_0 l0_0.length c0_0,.slice A0_1 l0_1.length c0_1]] rfl aX ?_;(with_reducible refine(impl_UnturnSurface.calls k _ _ l0_0 _ _ l0_1 t280 t283 t286 _ ?side1 ?side2 ?side3 ?side4 A49.out).mono ?_);(case side1=>exact Kd.C_below HR0_0.out (bX3 HB.out GE256.out GE257.out GE258.out));(case side2=>exact HC0_0.out);(case side3=>exact Kd.C_below HR0_1.out (bX3 HB.out GE256.out GE257.out GE258.out));(case side4=>exact HC0_1.out);rintro e w58 ⟨v281,v284,rfl,ho0,ho1,hb⟩;refine ⟨_,rfl,?_⟩;have HO282:=aM (Kd.R_lower ho0 (below_size (bX3 HB.out GE256.out GE257.out GE258.out)));have HO285:=aM (Kd.R_lower ho1 (below_size (bX3 HB.out GE256.out GE257.out GE258.out)));replace BK256:=aM (blk_below (g:=gb256) (o:=.cells #[.slice A0_0 l0_0.length c0_0,.slice A0_1 l0_1.length c0_1] 27 (0,0)) (by(with_reducible repeat(first|refine kN ?_ _|refine kD ?_|refine kA ?_ _));refine blk_far ?_ NB256_258.out _;(with_reducible repeat(first|refine kN ?_ _|refine kD ?_|refine kA ?_ _));refine blk_far ?_ NB256_258.out _;(with_reducible repeat(first|refine kN ?_ _|refine kD ?_|refine kA ?_ _));exact BK256.out) hb);replace BK257:=aM (blk_below (g:=gb257) (o:=.cells #[.slice none 0 0,.slice none 0 0] 27 (0,0)) (by(with_reducible repeat(first|refine kN ?_ _|refine kD ?_|refine kA ?_ _));refine blk_far ?_ NB257_258.out _;(with_reducible repeat(first|refine kN ?_ _|refine kD ?_|refine kA ?_ _));refine blk_far ?_ NB257_258.out _;(with_reducible repeat(first|refine kN ?_ _|refine kD ?_|refine kA ?_ _));exact BK257.out) hb);replace BK258:=aM (blk_below (g:=gb258) (o:=.cells #[.slice none 0 0,.slice none 0 0] 27 (0,0)) (by(with_reducible repeat(first|refine kN ?_ _|refine kD ?_|refine kA ?_ _));refine blk_put (cs:=#[.slice none 0 0,.slice none 0 0]) ?_ 1 _ rfl;(with_reducible repeat(first|refine kN ?_ _|refine kD ?_|refine kA ?_ _));refine blk_put (cs:=#[.slice none 0 0,.slice none 0 0]) ?_ 0 _ rfl;(with_reducible repeat(first|refine kN ?_ _|refine kD ?_|refine kA ?_ _));exact BK258.out) hb);replace HB:=aM (below_step (bX3 HB.out GE256.out GE257.out GE258.out) hb);(try clear hb);(try clear hk);(try clear ho0);(try clear ho1);obtain ⟨Ao59,co59,eo59⟩:=Kd.R_slice HO282.out;subst eo59;obtain ⟨hcz60_0,hcz60_1,hfz60_0,hfz60_1⟩:=f2Z BK258.out;obtain ⟨Ao61,co61,eo61⟩:=Kd.R_slice HO285.out;subst eo61;obtain ⟨hcz62_0,hcz62_1,hfz62_0,hfz62_1⟩:=f2Z BK257.out))
 refine bodyPost_ret (results_cell_row rfl _ _ gb257 27 #[.slice Ao59 t280.length co59,.slice Ao61 t283.length co61] (0,0) _ rfl (by(with_reducible repeat(first|refine kN ?_ _|refine kD ?_|refine kA ?_ _));refine blk_put (cs:=#[.slice Ao59 t280.length co59,.slice none 0 0]) ?_ 1 _ rfl;(with_reducible repeat(first|refine kN ?_ _|refine kD ?_|refine kA ?_ _));refine blk_put (cs:=#[.slice none 0 0,.slice none 0 0]) ?_ 0 _ rfl;(with_reducible repeat(first|refine kN ?_ _|refine kD ?_|refine kA ?_ _));refine blk_far ?_ NB257_258.out _;(with_reducible repeat(first|refine kN ?_ _|refine kD ?_|refine kA ?_ _));refine blk_far ?_ NB257_258.out _;(with_reducible repeat(first|refine kN ?_ _|refine kD ?_|refine kA ?_ _));exact BK257.out) Try.underlying27 rfl (by kernel_rfl)) rfl ?_
 exact ⟨_,_,eX,by(with_reducible repeat(first|apply rA|apply rN|apply rD));exact Kd.R_mono (Kd.R_far (p:=⟨gb257,1,none⟩) (Kd.R_far (p:=⟨gb257,0,none⟩) (Kd.R_far (p:=⟨gb258,1,none⟩) (Kd.R_far (p:=⟨gb258,0,none⟩) (Kd.R_types (Kd.R_types HO282.out BK258.out (by decide)) BK257.out (by decide)) (fun _ hk=>hk.1.2) (.slice Ao59 t280.length co59)) (fun _ hk=>hk.1.2) (.slice Ao61 t283.length co61)) (fun _ hk=>hk.2) (.slice Ao59 t280.length co59)) (fun _ hk=>hk.2) (.slice Ao61 t283.length co61)) (fun _ hk=>hk.1.1),by(with_reducible repeat(first|apply rA|apply rN|apply rD));exact Kd.R_mono (Kd.R_far (p:=⟨gb257,1,none⟩) (Kd.R_far (p:=⟨gb257,0,none⟩) (Kd.R_far (p:=⟨gb258,1,none⟩) (Kd.R_far (p:=⟨gb258,0,none⟩) (Kd.R_types (Kd.R_types HO285.out BK258.out (by decide)) BK257.out (by decide)) (fun _ hk=>hk.1.2) (.slice Ao59 t280.length co59)) (fun _ hk=>hk.1.2) (.slice Ao61 t283.length co61)) (fun _ hk=>hk.2) (.slice Ao59 t280.length co59)) (fun _ hk=>hk.2) (.slice Ao61 t283.length co61)) (fun _ hk=>hk.1.1),bX3 HB.out GE256.out GE257.out GE258.out⟩
 }
 {
 rw [if_neg c48] at H
 have c48b0:(a1 == 115)=false:=beq_eq_false_iff_ne.mpr c48
 have c48b1:(a1 != 115)=true:=bne_iff_ne.mpr c48
 simp only [Option.some.injEq,Prod.mk.injEq] at H
 obtain ⟨rfl,rfl⟩:=H
 go_enter Try.func51,Try.ntmps51
 go_wp2_with (first|((with_reducible refine gate_dst (N:=2) rfl ?_);refine bEv (cs:=#[.slice A0_0 l0_0.length c0_0,.slice A0_1 l0_1.length c0_1]) (t:=27) ?_;intro gb256 hg w63 hbox hb;have BK256:=aM (hbox);have GW256:=aM ((szX (below_size (bX HB.out)) hg:w.heap.size≤gb256));have GE256:=GW256;replace HB:=aM (below_step (bX HB.out) hb);clear hb hbox hg)|((with_reducible refine gate_dst (N:=4) rfl ?_);refine bEv (cs:=#[.slice none 0 0,.slice none 0 0]) (t:=27) ?_;intro gb257 hg w64 hbox hb;have BK257:=aM (hbox);have GW257:=aM ((szX (below_size (bX1 HB.out GE256.out)) hg:w.heap.size≤gb257));have GE257:=GW257;replace HB:=aM (below_step (bX1 HB.out GE256.out) hb);have NB256_257:=aM (neX BK256.out hg);have NB257_256:=aM (nfX BK256.out hg);replace BK256:=aM (bbX BK256.out hb);clear hb hbox hg)|((with_reducible refine gate_dst (N:=5) rfl ?_);refine bEv (cs:=#[.slice none 0 0,.slice none 0 0]) (t:=27) ?_;intro gb258 hg w65 hbox hb;have BK258:=aM (hbox);have GW258:=aM ((szX (below_size (bX2 HB.out GE256.out GE257.out)) hg:w.heap.size≤gb258));have GE258:=GW258;replace HB:=aM (below_step (bX2 HB.out GE256.out GE257.out) hb);have NB256_258:=aM (neX BK256.out hg);have NB258_256:=aM (nfX BK256.out hg);replace BK256:=aM (bbX BK256.out hb);have NB257_258:=aM (neX BK257.out hg);have NB258_257:=aM (nfX BK257.out hg);replace BK257:=aM (bbX BK257.out hb);clear hb hbox hg;have hnb66:=NB258_256.out;have hnc66:=NB256_258.out;have hnb67:=NB258_257.out;have hnc67:=NB257_258.out;obtain ⟨hcz68_0,hcz68_1,hfz68_0,hfz68_1⟩:=f2Z BK258.out;have hnb69:=NB257_256.out;have hnc69:=NB256_257.out;obtain ⟨hcz70_0,hcz70_1,hfz70_0,hfz70_1⟩:=f2Z BK257.out))
 refine bodyPost_ret (results_cell_row rfl _ _ gb257 27 #[.slice none 0 0,.slice none 0 0] (0,0) _ rfl (by(with_reducible repeat(first|refine kN ?_ _|refine kD ?_|refine kA ?_ _));refine blk_put (cs:=#[.slice none 0 0,.slice none 0 0]) ?_ 1 _ rfl;(with_reducible repeat(first|refine kN ?_ _|refine kD ?_|refine kA ?_ _));refine blk_put (cs:=#[.slice none 0 0,.slice none 0 0]) ?_ 0 _ rfl;(with_reducible repeat(first|refine kN ?_ _|refine kD ?_|refine kA ?_ _));refine blk_far ?_ NB257_258.out _;(with_reducible repeat(first|refine kN ?_ _|refine kD ?_|refine kA ?_ _));refine blk_far ?_ NB257_258.out _;(with_reducible repeat(first|refine kN ?_ _|refine kD ?_|refine kA ?_ _));exact BK257.out) Try.underlying27 rfl (by kernel_rfl)) rfl ?_
 exact ⟨_,_,eX,by first|exact Kd.R_nil _ _ _ _ _|exact Kd.N_nil _ _ _ _ _|exact Kd.V_nil _ _ _ _ _|exact Kd.Q_nil _ _ _ _ _|exact Kd.S_nil _ _ _ _ _,by first|exact Kd.R_nil _ _ _ _ _|exact Kd.N_nil _ _ _ _ _|exact Kd.V_nil _ _ _ _ _|exact Kd.Q_nil _ _ _ _ _|exact Kd.S_nil _ _ _ _ _,bX3 HB.out GE256.out GE257.out GE258.out⟩
 }
 }
 }
 }

/-! ### slices_Equal_int_int: function 118 -/
def slices_Equal_int_int.l0 : Nat→List Int→List Int→Int→Int→Option (Bool)
 | 0,_,_,_,_=>none
 | k+1,x0,x1,x12,x13=>if x13<x12 then (if 0≤x13 then (if x13<(x0.length:Int) then (if x13<(x1.length:Int) then (if (rd x0 x13)=(rd x1 x13) then (slices_Equal_int_int.l0 k x0 x1 x12 (wrap64 (x13+1))) else (some false)) else (none)) else (none)) else (none)) else (some true)
def slices_Equal_int_int.f (k:Nat) (l0:List Int) (l1:List Int):Option (Bool):=if (l0.length:Int)=(l1.length:Int) then (slices_Equal_int_int.l0 k l0 l1 (l0.length:Int) 0) else (some false)
theorem slices_Equal_int_int.calls (k:Nat) (A0:Option Addr) (c0:Nat) (l0:List Int) (A1:Option Addr) (c1:Nat) (l1:List Int) (r:Bool) (w:World) (hr0:Kd.C (Kd.int .i64) w A0 l0.length l0) (hc0:l0.length≤c0) (hr1:Kd.C (Kd.int .i64) w A1 l1.length l1) (hc1:l1.length≤c1) (h:slices_Equal_int_int.f k l0 l1=some r) :
  Calls Try.prog 118 #[.slice A0 l0.length c0,.slice A1 l1.length c1] w fun e w'=>e = .returned (.bool r)∧Drawn0 w w':=by
 have HR0:=aM hr0
 have HC0:=aM hc0
 clear hr0 hc0
 have HR1:=aM hr1
 have HC1:=aM hc1
 clear hr1 hc1
 have H:(if (l0.length:Int)=(l1.length:Int) then (slices_Equal_int_int.l0 k l0 l1 (l0.length:Int) 0) else (some false))=some r:=h
 clear h
 by_cases c3:(l0.length:Int)=(l1.length:Int)
 {
 rw [if_pos c3] at H
 have c3b0:((l0.length:Int) == (l1.length:Int))=true:=beq_iff_eq.mpr c3
 have c3b1:((l0.length:Int) != (l1.length:Int))=false:=bne_eq_false_iff_eq.mpr c3
 have c3b2:(l0.length == l1.length)=true:=by first|simpa using c3|(simp at c3 ⊢;omega)
 clear c3
 have H':=aM H
 clear H
 go_enter Try.func118,Try.ntmps118
 go_wp2
 repeat(go_quiet (fail);try go_wp2)
 go_loopg [13] k (fun kq v13 w'=>∃ (x13_1:Int),v13 = .int .i64 x13_1∧Aside0 (slices_Equal_int_int.l0 kq l0 l1 (l0.length:Int) x13_1=some r)∧Aside0 (kq≤k)∧Drawn0 w w')
 case atStart=>exact ⟨(0),vX,H',⟨Nat.le_refl _⟩,by repeat(first|exact Drawn0.refl _|apply Drawn0.step)⟩
 case round =>
 clear H'
 try clear c1
 try clear c3
 try clear c3b0
 try clear c3b1
 try clear c3b2
 obtain ⟨x13_1,rfl,HA,HK1,⟨m1,rfl⟩⟩:=hrel
 cases gk with
 | zero=>exact absurd HA.out (by simp [slices_Equal_int_int.l0])
 | succ k1 =>
 have H:=HA.out
 clear HA
 simp only [slices_Equal_int_int.l0] at H
 by_cases c4:x13_1<(l0.length:Int)
 {
 rw [if_pos c4] at H
 have c4b0:=decide_eq_true c4
 clear c4
 by_cases c5:0≤x13_1
 {
 rw [if_pos c5] at H
 have c5b0:=decide_eq_true c5
 clear c5
 by_cases c6:x13_1<(l0.length:Int)
 {
 rw [if_pos c6] at H
 have c6b0:=decide_eq_true c6
 clear c6
 by_cases c7:x13_1<(l1.length:Int)
 {
 rw [if_pos c7] at H
 have c7b0:=decide_eq_true c7
 clear c7
 by_cases c8:(rd l0 x13_1)=(rd l1 x13_1)
 {
 rw [if_pos c8] at H
 have c8b0:((rd l0 x13_1) == (rd l1 x13_1))=true:=beq_iff_eq.mpr c8
 have c8b1:((rd l0 x13_1) != (rd l1 x13_1))=false:=bne_eq_false_iff_eq.mpr c8
 clear c8
 have H':=aM H
 clear H
 have p287:0≤(x13_1:Int):=dX
 have q287:x13_1<(l0.length:Int):=dX
 obtain ⟨ad287,e287,hx287_0⟩:=Kd.at_int HR0.out x13_1 p287 q287
 cases e287
 replace p287:=eq_true p287
 replace q287:=eq_true q287
 have p288:0≤(x13_1:Int):=dX
 have q288:x13_1<(l1.length:Int):=dX
 obtain ⟨ad288,e288,hx288_0⟩:=Kd.at_int HR1.out x13_1 p288 q288
 cases e288
 replace p288:=eq_true p288
 replace q288:=eq_true q288
 go_wp2
 repeat(go_quiet (fail);try go_wp2)
 go_roundg k1
 case measure=>have:=HK1.out;omega
 case rel=>exact ⟨(wrap64 (x13_1+1)),vX,H',⟨by have:=HK1.out;omega⟩,by repeat(first|exact Drawn0.refl _|apply Drawn0.step)⟩
 }
 {
 rw [if_neg c8] at H
 have c8b0:((rd l0 x13_1) == (rd l1 x13_1))=false:=beq_eq_false_iff_ne.mpr c8
 have c8b1:((rd l0 x13_1) != (rd l1 x13_1))=true:=bne_iff_ne.mpr c8
 obtain rfl:=Option.some.inj H
 have p287:0≤(x13_1:Int):=dX
 have q287:x13_1<(l0.length:Int):=dX
 obtain ⟨ad287,e287,hx287_0⟩:=Kd.at_int HR0.out x13_1 p287 q287
 cases e287
 replace p287:=eq_true p287
 replace q287:=eq_true q287
 have p288:0≤(x13_1:Int):=dX
 have q288:x13_1<(l1.length:Int):=dX
 obtain ⟨ad288,e288,hx288_0⟩:=Kd.at_int HR1.out x13_1 p288 q288
 cases e288
 replace p288:=eq_true p288
 replace q288:=eq_true q288
 go_wp2
 repeat(go_quiet (fail);try go_wp2)
 go_ret
 exact ⟨by first|rfl|(simp;done)|(simp [*];done),by repeat(first|exact Drawn0.refl _|apply Drawn0.step)⟩
 }
 }
 {
 rw [if_neg c7] at H
 exact absurd H (by simp)
 }
 }
 {
 rw [if_neg c6] at H
 exact absurd H (by simp)
 }
 }
 {
 rw [if_neg c5] at H
 exact absurd H (by simp)
 }
 }
 {
 rw [if_neg c4] at H
 have c4b0:=decide_eq_false c4
 clear c4
 obtain rfl:=Option.some.inj H
 go_wp2
 repeat(go_quiet (fail);try go_wp2)
 go_ret
 exact ⟨by first|rfl|(simp;done)|(simp [*];done),by repeat(first|exact Drawn0.refl _|apply Drawn0.step)⟩
 }
 }
 {
 rw [if_neg c3] at H
 have c3b0:((l0.length:Int) == (l1.length:Int))=false:=beq_eq_false_iff_ne.mpr c3
 have c3b1:((l0.length:Int) != (l1.length:Int))=true:=bne_iff_ne.mpr c3
 have c3b2:(l0.length == l1.length)=false:=by first|simpa using c3|(simp at c3 ⊢;omega)
 obtain rfl:=Option.some.inj H
 go_enter Try.func118,Try.ntmps118
 go_wp2
 repeat(go_quiet (fail);try go_wp2)
 go_ret
 exact ⟨by first|rfl|(simp;done)|(simp [*];done),by repeat(first|exact Drawn0.refl _|apply Drawn0.step)⟩
 }

/-! ### impl_SameList: function 95 -/
def impl_SameList.f (k:Nat) (l0:List Int) (l1:List Int):Option (Bool):=(slices_Equal_int_int.f k l0 l1).bind fun t289=>(some t289)
theorem impl_SameList.calls (k:Nat) (A0:Option Addr) (c0:Nat) (l0:List Int) (A1:Option Addr) (c1:Nat) (l1:List Int) (r:Bool) (w:World) (hr0:Kd.C (Kd.int .i64) w A0 l0.length l0) (hc0:l0.length≤c0) (hr1:Kd.C (Kd.int .i64) w A1 l1.length l1) (hc1:l1.length≤c1) (h:impl_SameList.f k l0 l1=some r) :
  Calls Try.prog 95 #[.slice A0 l0.length c0,.slice A1 l1.length c1] w fun e w'=>e = .returned (.bool r)∧Drawn0 w w':=by
 have HR0:=aM hr0
 have HC0:=aM hc0
 clear hr0 hc0
 have HR1:=aM hr1
 have HC1:=aM hc1
 clear hr1 hc1
 have H:((slices_Equal_int_int.f k l0 l1).bind fun t289=>(some t289))=some r:=h
 clear h
 replace H:=oB H
 obtain ⟨t289,A30,H⟩:=H
 have A3:=aM A30
 clear A30
 obtain rfl:=Option.some.inj H
 go_enter Try.func95,Try.ntmps95
 go_wp2_with (first|((with_reducible refine gate_callee (f:=118) rfl ?_);refine goesL_ (some 7) rfl rfl Try.func118 (by kernel_rfl) rfl #[.slice A0 l0.length c0,.slice A1 l1.length c1] rfl (by(try simp only [List.map_toArray,List.map_cons,List.map_nil]);first|done|rfl|(simp only [List.length_drop,List.length_take];rfl)) ?_;(with_reducible refine(slices_Equal_int_int.calls k _ _ l0 _ _ l1 t289 _ ?side1 ?side2 ?side3 ?side4 A3.out).mono ?_);(case side1=>exact cX HR0.out);(case side2=>exact HC0.out);(case side3=>exact cX HR1.out);(case side4=>exact HC1.out);rintro e w' ⟨rfl,⟨nd,rfl⟩⟩;refine ⟨_,rfl,?_⟩))
 go_ret
 exact ⟨by first|rfl|(simp;done)|(simp [*];done),by repeat(first|exact Drawn0.refl _|apply Drawn0.step)⟩

/-! ### impl_SameSurface: function 58 -/
def impl_SameSurface.f (k:Nat) (l0_0:List Int) (l0_1:List Int) (l1_0:List Int) (l1_1:List Int):Option (Bool):=(impl_SameList.f k l0_0 l1_0).bind fun t292=>(if t292=true then ((impl_SameList.f k l0_1 l1_1).bind fun t293=>(some t293)) else (some false))
theorem impl_SameSurface.calls (k:Nat) (A0_0:Option Addr) (c0_0:Nat) (l0_0:List Int) (A0_1:Option Addr) (c0_1:Nat) (l0_1:List Int) (A1_0:Option Addr) (c1_0:Nat) (l1_0:List Int) (A1_1:Option Addr) (c1_1:Nat) (l1_1:List Int) (r:Bool) (w:World) (hr0_0:Kd.C (Kd.int .i64) w A0_0 l0_0.length l0_0) (hc0_0:l0_0.length≤c0_0) (hr0_1:Kd.C (Kd.int .i64) w A0_1 l0_1.length l0_1) (hc0_1:l0_1.length≤c0_1) (hr1_0:Kd.C (Kd.int .i64) w A1_0 l1_0.length l1_0) (hc1_0:l1_0.length≤c1_0) (hr1_1:Kd.C (Kd.int .i64) w A1_1 l1_1.length l1_1) (hc1_1:l1_1.length≤c1_1) (h:impl_SameSurface.f k l0_0 l0_1 l1_0 l1_1=some r) :
  Calls Try.prog 58 #[.agg #[.slice A0_0 l0_0.length c0_0,.slice A0_1 l0_1.length c0_1],.agg #[.slice A1_0 l1_0.length c1_0,.slice A1_1 l1_1.length c1_1]] w fun e w'=>e = .returned (.bool r)∧Below w.heap.size w w':=by
 have hu27:=Try.underlying27
 have HR0_0:=aM hr0_0
 have HC0_0:=aM hc0_0
 clear hr0_0 hc0_0
 have HR0_1:=aM hr0_1
 have HC0_1:=aM hc0_1
 clear hr0_1 hc0_1
 have HR1_0:=aM hr1_0
 have HC1_0:=aM hc1_0
 clear hr1_0 hc1_0
 have HR1_1:=aM hr1_1
 have HC1_1:=aM hc1_1
 clear hr1_1 hc1_1
 have HB:=aM (Below.refl w.heap.size w)
 have H:((impl_SameList.f k l0_0 l1_0).bind fun t292=>(if t292=true then ((impl_SameList.f k l0_1 l1_1).bind fun t293=>(some t293)) else (some false)))=some r:=h
 clear h
 replace H:=oB H
 obtain ⟨t292,A30,H⟩:=H
 have A3:=aM A30
 clear A30
 by_cases c4:t292=true
 {
 subst c4
 have H1:((impl_SameList.f k l0_1 l1_1).bind fun t293=>(some t293))=some r:=by rw [if_pos rfl] at H;exact H
 clear H
 have H:=H1
 clear H1
 replace H:=oB H
 obtain ⟨t293,A50,H⟩:=H
 have A5:=aM A50
 clear A50
 obtain rfl:=Option.some.inj H
 go_enter Try.func58,Try.ntmps58
 go_wp2_with (first|((with_reducible refine gate_dst (N:=2) rfl ?_);refine bEv (cs:=#[.slice A0_0 l0_0.length c0_0,.slice A0_1 l0_1.length c0_1]) (t:=27) ?_;intro gb290 hg w6 hbox hb;have BK290:=aM (hbox);have GW290:=aM ((szX (below_size (bX HB.out)) hg:w.heap.size≤gb290));have GE290:=GW290;replace HB:=aM (below_step (bX HB.out) hb);clear hb hbox hg)|((with_reducible refine gate_dst (N:=3) rfl ?_);refine bEv (cs:=#[.slice A1_0 l1_0.length c1_0,.slice A1_1 l1_1.length c1_1]) (t:=27) ?_;intro gb291 hg w7 hbox hb;have BK291:=aM (hbox);have GW291:=aM ((szX (below_size (bX1 HB.out GE290.out)) hg:w.heap.size≤gb291));have GE291:=GW291;replace HB:=aM (below_step (bX1 HB.out GE290.out) hb);have NB290_291:=aM (neX BK290.out hg);have NB291_290:=aM (nfX BK290.out hg);replace BK290:=aM (bbX BK290.out hb);clear hb hbox hg;have hnb8:=NB290_291.out;have hnc8:=NB291_290.out;obtain ⟨hcz9_0,hcz9_1,hfz9_0,hfz9_1⟩:=f2Z BK290.out;have hcz10_0:w7.cell? ⟨gb291,0,none⟩=some (.slice A1_0 l1_0.length c1_0):=(blk_cell BK291.out 0).trans rfl;have hcz10_1:w7.cell? ⟨gb291,1,none⟩=some (.slice A1_1 l1_1.length c1_1):=(blk_cell BK291.out 1).trans rfl;have hfz10_0:=blk_frozen BK291.out 0;have hfz10_1:=blk_frozen BK291.out 1)|((with_reducible refine gate_callee (f:=95) rfl ?_);refine goesL_ (some 9) rfl rfl Try.func95 (by kernel_rfl) rfl #[.slice A0_0 l0_0.length c0_0,.slice A1_0 l1_0.length c1_0] rfl aX ?_;(with_reducible refine(impl_SameList.calls k _ _ l0_0 _ _ l1_0 true _ ?side1 ?side2 ?side3 ?side4 A3.out).mono ?_);(case side1=>exact cX (Kd.C_below HR0_0.out HB.out));(case side2=>exact HC0_0.out);(case side3=>exact cX (Kd.C_below HR1_0.out HB.out));(case side4=>exact HC1_0.out);rintro e w' ⟨rfl,⟨nd,rfl⟩⟩;refine ⟨_,rfl,?_⟩)|(go_at_call 95;(with_reducible refine(impl_SameList.calls k _ _ l0_1 _ _ l1_1 t293 _ ?side1 ?side2 ?side3 ?side4 A5.out).mono ?_);(case side1=>exact cX (Kd.C_below HR0_1.out (bX2 HB.out GE290.out GE291.out)));(case side2=>exact HC0_1.out);(case side3=>exact cX (Kd.C_below HR1_1.out (bX2 HB.out GE290.out GE291.out)));(case side4=>exact HC1_1.out);rintro e w' ⟨rfl,⟨nd,rfl⟩⟩))
 go_ret
 exact ⟨eX,bX2 HB.out GE290.out GE291.out⟩
 }
 {
 replace c4:=Bool.eq_false_iff.mpr c4
 subst c4
 have H1:(some false)=some r:=by rw [if_neg (show ¬ (false=true) by decide)] at H;exact H
 clear H
 have H:=H1
 clear H1
 obtain rfl:=Option.some.inj H
 go_enter Try.func58,Try.ntmps58
 go_wp2_with (first|((with_reducible refine gate_dst (N:=2) rfl ?_);refine bEv (cs:=#[.slice A0_0 l0_0.length c0_0,.slice A0_1 l0_1.length c0_1]) (t:=27) ?_;intro gb290 hg w11 hbox hb;have BK290:=aM (hbox);have GW290:=aM ((szX (below_size (bX HB.out)) hg:w.heap.size≤gb290));have GE290:=GW290;replace HB:=aM (below_step (bX HB.out) hb);clear hb hbox hg)|((with_reducible refine gate_dst (N:=3) rfl ?_);refine bEv (cs:=#[.slice A1_0 l1_0.length c1_0,.slice A1_1 l1_1.length c1_1]) (t:=27) ?_;intro gb291 hg w12 hbox hb;have BK291:=aM (hbox);have GW291:=aM ((szX (below_size (bX1 HB.out GE290.out)) hg:w.heap.size≤gb291));have GE291:=GW291;replace HB:=aM (below_step (bX1 HB.out GE290.out) hb);have NB290_291:=aM (neX BK290.out hg);have NB291_290:=aM (nfX BK290.out hg);replace BK290:=aM (bbX BK290.out hb);clear hb hbox hg;have hnb13:=NB290_291.out;have hnc13:=NB291_290.out;obtain ⟨hcz14_0,hcz14_1,hfz14_0,hfz14_1⟩:=f2Z BK290.out;have hcz15_0:w12.cell? ⟨gb291,0,none⟩=some (.slice A1_0 l1_0.length c1_0):=(blk_cell BK291.out 0).trans rfl;have hcz15_1:w12.cell? ⟨gb291,1,none⟩=some (.slice A1_1 l1_1.length c1_1):=(blk_cell BK291.out 1).trans rfl;have hfz15_0:=blk_frozen BK291.out 0;have hfz15_1:=blk_frozen BK291.out 1)|((with_reducible refine gate_callee (f:=95) rfl ?_);refine goesL_ (some 9) rfl rfl Try.func95 (by kernel_rfl) rfl #[.slice A0_0 l0_0.length c0_0,.slice A1_0 l1_0.length c1_0] rfl aX ?_;(with_reducible refine(impl_SameList.calls k _ _ l0_0 _ _ l1_0 false _ ?side1 ?side2 ?side3 ?side4 A3.out).mono ?_);(case side1=>exact cX (Kd.C_below HR0_0.out HB.out));(case side2=>exact HC0_0.out);(case side3=>exact cX (Kd.C_below HR1_0.out HB.out));(case side4=>exact HC1_0.out);rintro e w' ⟨rfl,⟨nd,rfl⟩⟩;refine ⟨_,rfl,?_⟩))
 go_ret
 exact ⟨eX,bX2 HB.out GE290.out GE291.out⟩
 }

/-! ### impl_IndexOf: function 12 -/
/-! by hand -/
-- @INFO:9@ @INFO:3@ @INFO:5@
section
variable {P : Program} {ops : Array Oper} {Q : Exit → Act → World → Prop} {md : Region.Mode} {S : World → Prop} {ds : List Nat} {oi : Oper} {v : Value} {fuel : Nat} {l : Array Bool} {a a' : Act} {w : World}
theorem pH (i n:Nat) (l':Array Bool) (hi:ops[i]? = some oi) (hN:oi.dst=some n) (h:wpAnyLast P md ops Q S ds fuel l' a' w) (hc:anyB md ops l l' i=true:=by kernel_rfl) (hQ:∀ c a w,Q (.panic c) (a.put oi.dst v) w→Q (.panic c) a w:=by exact fun _ _ _ h=>h) (hy:Yields P ops oi v a:=by refine Or.inl ⟨by kernel_rfl,?_⟩;intro w';go_simp;with_reducible rfl) (ha:a.put (some n) v=a':=by simp only [Act.put,zA,zB,zC,i64_w,i32_w];rfl):wpAnyLast P md ops Q S ds (fuel+1) l a w:=pure_ l' hi hN hc hQ hy ha h
theorem tH1 (i n:Nat) (l':Array Bool) (hi:ops[i]? = some oi) (hN:oi.dst=some n) (hS:S w) (h:wpAnyLast P md ops Q S ds fuel l' a' w) (hc:takeB md ops ds l l' i=true:=by kernel_rfl) (hQ:∀ c a w,Q (.panic c) (a.put oi.dst v) w→Q (.panic c) a w:=by exact fun _ _ _ h=>h) (hy:YieldsIf P ops S oi v a:=by refine Or.inl ⟨by kernel_rfl,?_⟩;rintro w' s0;go_simp;with_reducible rfl) (ha:a.put (some n) v=a':=by simp only [Act.put,zA,zB,zC,i64_w,i32_w];rfl):wpAnyLast P md ops Q S ds (fuel+1) l a w:=take_ l' hi hN hc hQ hy hS ha h
theorem tH2 (i n:Nat) (l':Array Bool) (hi:ops[i]? = some oi) (hN:oi.dst=some n) (hS:S w) (h:wpAnyLast P md ops Q S ds fuel l' a' w) (hc:takeB md ops ds l l' i=true:=by kernel_rfl) (hQ:∀ c a w,Q (.panic c) (a.put oi.dst v) w→Q (.panic c) a w:=by exact fun _ _ _ h=>h) (hy:YieldsIf P ops S oi v a:=by refine Or.inl ⟨by kernel_rfl,?_⟩;rintro w' ⟨s0,s1⟩;go_simp;with_reducible rfl) (ha:a.put (some n) v=a':=by simp only [Act.put,zA,zB,zC,i64_w,i32_w];rfl):wpAnyLast P md ops Q S ds (fuel+1) l a w:=take_ l' hi hN hc hQ hy hS ha h
theorem tH3 (i n:Nat) (l':Array Bool) (hi:ops[i]? = some oi) (hN:oi.dst=some n) (hS:S w) (h:wpAnyLast P md ops Q S ds fuel l' a' w) (hc:takeB md ops ds l l' i=true:=by kernel_rfl) (hQ:∀ c a w,Q (.panic c) (a.put oi.dst v) w→Q (.panic c) a w:=by exact fun _ _ _ h=>h) (hy:YieldsIf P ops S oi v a:=by refine Or.inl ⟨by kernel_rfl,?_⟩;rintro w' ⟨s0,s1,s2⟩;go_simp;with_reducible rfl) (ha:a.put (some n) v=a':=by simp only [Act.put,zA,zB,zC,i64_w,i32_w];rfl):wpAnyLast P md ops Q S ds (fuel+1) l a w:=take_ l' hi hN hc hQ hy hS ha h
theorem nH (n:Nat) (h:wpAnyLast P md ops Q S ds fuel l a' w) (ha:a.put (some n) v=a':=by simp only [Act.put,zA,zB,zC,i64_w,i32_w];rfl):wpAnyLast P md ops Q S ds fuel l (a.put (some n) v) w:=norm_ ha h
end
/-- Where a surface stands in a list, from a place on. -/
def idxGo (k:Nat) (y0 y1:List Int):List S27→Int→Option Int
  | [],_=>some (-1)
  | s :: l,i=>(impl_SameSurface.f k s.f0 s.f1 y0 y1).bind fun b=>if b=true then some i else idxGo k y0 y1 l (wrap64 (i+1))
structure OrbV where
  l:List S27
  ws:List ByteArray
  fr:List Int
  bs:List Int
  nt:List Int
  ns:List Int
def orbPut (c k:Int) (o:OrbV):OrbV:=if c=84 then { o with nt:=o.nt ++ [k] } else { o with ns:=o.ns ++ [k] }
def orbLet (k:Nat) (c i:Int) (o:OrbV):Option (Option OrbV):=(impl_letterSurface.f k (rd_T27 o.l i).f0 (rd_T27 o.l i).f1 c).bind fun y=>(impl_CanonOf.f k y.1 y.2).bind fun x=>(idxGo k x.1 x.2.1 o.l 0).bind fun t =>
  if t<0 then (if (o.l.length:Int)=120 then some none else (if i<(o.ws.length:Int) then (if (rdOf ByteArray.empty o.ws i).size≤1000 then some (some (orbPut c o.l.length { o with l:=o.l ++ [⟨x.1,x.2.1⟩],ws:=o.ws ++ [rdOf ByteArray.empty o.ws i ++ strOfNums [c]],fr:=o.fr ++ [i],bs:=o.bs ++ [c] })) else none) else none)) else some (some (orbPut c t o))
def orbLoop : Nat→Int→OrbV→Option (Option OrbV)
  | 0,_,_=>none
  | k+1,i,o=>if i<(o.l.length:Int) then (orbLet k 84 i o).bind fun a=>match a with
    | none=>some none
    | some o1=>(orbLet k 83 i o1).bind fun b=>match b with
      | none=>some none
      | some o2=>orbLoop k (wrap64 (i+1)) o2
    else some (some o)
def impl_orbitOf.f (k:Nat) (l0_0 l0_1:List Int):Option (Option OrbV):=(impl_CanonOf.f k l0_0 l0_1).bind fun x=>if x.2.2=true then orbLoop k 0 ⟨[⟨x.1,x.2.1⟩],[⟨#[]⟩],[-1],[0],[],[]⟩ else some none
theorem idxc_calls (k:Nat) (gs:Nat) (B0 B1 C0 C1:Option Addr) (b0 b1 d0 d1:Nat) (x0 x1 y0 y1:List Int) (b:Bool) (w:World) (hX:SurfC w C0 C1 d0 d1 x0 x1) (hY:SurfC w B0 B1 b0 b1 y0 y1) (hs:w.heap[gs]? = some (.cells #[.slice B0 y0.length b0,.slice B1 y1.length b1] 27 (0,0))) (h:impl_SameSurface.f k x0 x1 y0 y1=some b) :
    Calls Try.prog 81 #[.agg #[.slice C0 x0.length d0,.slice C1 x1.length d1],.pointer (some ⟨gs,0,none⟩)] w fun e w'=>e = .returned (.bool b)∧Below w.heap.size w w':=by
 have hu:=Try.underlying27
 have HX:=aM hX
 have HY:=aM hY
 have HS:=aM hs
 have HA:=aM h
 clear hX hY hs h
 go_enter Try.func81,Try.ntmps81
 go_wp2_with (first
  | ((with_reducible refine gate_dst (N:=2) rfl ?_);refine bEv (cs:=#[.slice C0 x0.length d0,.slice C1 x1.length d1]) (t:=27) ?_;intro gb2 hg w1 hbox hb;have BK:=aM hbox;have HB:=aM hb;have hcx0:w1.cell? ⟨gb2,0,none⟩=some (.slice C0 x0.length d0):=(blk_cell BK.out 0).trans rfl;have hcx1:w1.cell? ⟨gb2,1,none⟩=some (.slice C1 x1.length d1):=(blk_cell BK.out 1).trans rfl;have hcy0:w1.cell? ⟨gs,0,none⟩=some (.slice B0 y0.length b0):=(blk_cell (blk_below HS.out HB.out) 0).trans rfl;have hcy1:w1.cell? ⟨gs,1,none⟩=some (.slice B1 y1.length b1):=(blk_cell (blk_below HS.out HB.out) 1).trans rfl;clear hbox hb hg)
  | (go_at_call 58;(refine(impl_SameSurface.calls k C0 d0 x0 C1 d1 x1 B0 b0 y0 B1 b1 y1 b w1 (HX.out.below HB.out).g0 HX.out.l0 (HX.out.below HB.out).g1 HX.out.l1 (HY.out.below HB.out).g0 HY.out.l0 (HY.out.below HB.out).g1 HY.out.l1 HA.out).mono ?_);rintro e w2 ⟨rfl,hb⟩;have HBE:=aM (below_step HB.out hb);clear hb))
 go_ret
 exact ⟨rfl,HBE.out⟩
theorem idxf_calls (k:Nat) (gs:Nat) (B0 B1:Option Addr) (b0 b1:Nat) (y0 y1:List Int) (A0:Option Addr) (c0:Nat) (l0:List S27) (r:Int) (w:World) (ok:Nat→Prop) (hr0:Kd.F k27 w ok A0 l0.length l0) (hA:∀ a,A0=some a→ok a.block∧a.block<w.heap.size) (hbig:l0.length≤1000) (hY:SurfC w B0 B1 b0 b1 y0 y1) (hs:w.heap[gs]? = some (.cells #[.slice B0 y0.length b0,.slice B1 y1.length b1] 27 (0,0))) (h:idxGo k y0 y1 l0 0=some r) :
    Calls Try.prog 80 #[.slice A0 l0.length c0,.func (.func 81) #[] #[.pointer (some ⟨gs,0,none⟩)]] w fun e w'=>e = .returned (.int .i64 r)∧Below w.heap.size w w':=by
  have hu:=Try.underlying27
  have HR0:=aM hr0
  have HADR:=aM hA
  have HY:=aM hY
  have HS:=aM hs
  have HA:=aM h
  have HG:=aM hbig
  clear hr0 hA hY hs h hbig
  go_enter Try.func80,Try.ntmps80
  go_wp2
  go_loopg [8] l0.length (fun kq v8 w'=>∃ (i:Int),v8 = .int .i64 i∧Aside0 (0≤i∧i≤l0.length∧(kq:Int)+i=l0.length)∧Aside0 (idxGo k y0 y1 (l0.drop i.toNat) i=some r)∧Aside0 (Below w.heap.size w w'))
  case atStart=>exact ⟨0,rfl,⟨by omega⟩,HA,⟨Below.refl _ _⟩⟩
  case round =>
    clear HA
    obtain ⟨i,rfl,HI,HA,HB⟩:=hrel
    obtain ⟨hi0,hi1,hik⟩:=HI.out
    clear HI
    have HK:=aM hik
    clear hik
    by_cases hlt:i<(l0.length:Int)
    · obtain ⟨k1,rfl⟩:∃ q,gk=q+1:=⟨gk - 1,by have:=HK.out;omega⟩
      have c1:decide (i<(l0.length:Int))=true:=decide_eq_true hlt
      obtain ⟨ad2,C0,d0,C1,d1,e2,hy0,hy1,gy⟩:=surf_elem HR0.out HADR.out i hi0 hlt
      cases e2
      have GY:=aM gy
      clear gy
      replace hy0:=(HB.out.cell (World.block_lt_of_cell? w _ hy0)).trans hy0
      replace hy1:=(HB.out.cell (World.block_lt_of_cell? w _ hy1)).trans hy1
      have hdrop:l0.drop i.toNat=rd_T27 l0 i :: l0.drop (i+1).toNat:=by
        have h1:i.toNat<l0.length:=by omega
        rw [show (i+1).toNat=i.toNat+1 by omega,List.drop_eq_getElem_cons h1]
        simp [rd_T27,List.getD,h1]
      have hgo:=HA.out
      rw [hdrop,idxGo] at hgo
      clear HA hdrop
      generalize rd_T27 l0 i=x at *
      obtain ⟨b,hb,hgo⟩:=oB hgo
      have HCC:=aM hb
      have HGO:=aM hgo
      clear hb hgo
      have p0:decide (0≤i)=true:=decide_eq_true hi0
      have HW:=aM (show wrap64 (i+1)=i+1 from by have:=HG.out;unfold wrap64;omega)
      have HI0:=aM hi0
      have HI1:=aM hlt
      replace hi0:=eq_true hi0
      replace hlt:=eq_true hlt
      cases b with
      | true =>
        have hr:i=r:=by have h:=HGO.out;rw [if_pos rfl] at h;exact Option.some.inj h
        subst hr
        go_wp2_with (first
          | (go_at_call 81;(refine(idxc_calls k gs B0 B1 C0 C1 b0 b1 d0 d1 x.f0 x.f1 y0 y1 true wr (GY.out.below HB.out) (HY.out.below HB.out) (blk_below HS.out HB.out) HCC.out).mono ?_);rintro e w8 ⟨rfl,hb⟩;have HB8:=aM (below_step HB.out hb);clear hb))
        go_ret
        exact ⟨rfl,HB8.out⟩
      | false =>
        go_wp2_with (first
          | (go_at_call 81;(refine(idxc_calls k gs B0 B1 C0 C1 b0 b1 d0 d1 x.f0 x.f1 y0 y1 false wr (GY.out.below HB.out) (HY.out.below HB.out) (blk_below HS.out HB.out) HCC.out).mono ?_);rintro e w8 ⟨rfl,hb⟩;have HB8:=aM (below_step HB.out hb);clear hb))
        go_roundg k1
        case measure=>have:=HK.out;omega
        case rel=>exact ⟨i+1,by rw [HW.out],⟨by have:=HK.out;have:=HI1.out;have:=HI0.out;omega⟩,⟨by have h:=HGO.out;rw [if_neg (by decide),HW.out] at h;exact h⟩,HB8⟩
    · have hie:i=l0.length:=by omega
      have hr : -1=r:=by
        have h:=HA.out
        rw [show l0.drop i.toNat=[] from by rw [hie];simp,idxGo] at h
        exact Option.some.inj h
      subst hr
      have c1:decide (i<(l0.length:Int))=false:=decide_eq_false hlt
      clear hlt hie hi0 hi1
      go_wp2
      go_ret
      exact ⟨rfl,HB.out⟩
theorem index_calls (k:Nat) (go:Nat) (cs:Array Value) (A0:Option Addr) (c0:Nat) (l0:List S27) (B0 B1:Option Addr) (b0 b1:Nat) (y0 y1:List Int) (r:Int) (w:World) (ok:Nat→Prop) (ho:w.cell? ⟨go,0,none⟩=some (.slice A0 l0.length c0)) (hr0:Kd.F k27 w ok A0 l0.length l0) (hA:∀ a,A0=some a→ok a.block∧a.block<w.heap.size) (hbig:l0.length≤1000) (hY:SurfC w B0 B1 b0 b1 y0 y1) (h:idxGo k y0 y1 l0 0=some r) :
    Calls Try.prog 52 #[.pointer (some ⟨go,0,none⟩),.agg #[.slice B0 y0.length b0,.slice B1 y1.length b1]] w fun e w'=>e = .returned (.int .i64 r)∧Below w.heap.size w w':=by
 have hu:=Try.underlying27
 have hv:=Try.underlying57
 have HR0:=aM hr0
 have HADR:=aM hA
 have HY:=aM hY
 have HO:=aM ho
 have HA:=aM h
 have HG:=aM hbig
 clear hr0 hA hY h hbig ho
 go_enter Try.func52,Try.ntmps52
 go_wp2_with (first
  | ((with_reducible refine gate_dst (N:=3) rfl ?_);refine bEv (cs:=#[.slice B0 y0.length b0,.slice B1 y1.length b1]) (t:=27) ?_;intro gb3 hg w1 hbox hb;have BK:=aM hbox;have HB:=aM hb;have hco:w1.cell? ⟨go,0,none⟩=some (.slice A0 l0.length c0):=(HB.out.cell (World.block_lt_of_cell? _ _ HO.out)).trans HO.out;clear hbox hb hg)
  | (go_at_call 80;(refine(idxf_calls k gb3 B0 B1 b0 b1 y0 y1 A0 c0 l0 r w1 ok (Kd.F_below HR0.out HB.out) (fun a ha=>⟨(HADR.out a ha).1,Nat.lt_of_lt_of_le (HADR.out a ha).2 (below_size HB.out)⟩) HG.out (HY.out.below HB.out) BK.out HA.out).mono ?_);rintro e w2 ⟨rfl,hb⟩;have HBE:=aM (below_step HB.out hb);clear hb))
 go_ret
 exact ⟨rfl,HBE.out⟩
/-- The map's elements stand for themselves. -/
def tagR (v:Value):Option (DataW Value × List MemPlace):=some (.held v,[])
def MapW (w:World) (M n:Nat) (u:Int→Value):Prop:=∃ D:DataW Value,w.ownsMap Try.prog 5 tagR M n D∧∀ c:Int,c=84∨c=83→D.atKey (.int .u8 c) (.held (.slice none 0 0)) = .held (u c)
theorem map_keyed : Go.Maps.Keyed Try.prog 5:=Go.Maps.int_keyed Try.underlying5
theorem letter_key {c:Int} (hc:c=84∨c=83):Go.keyOf Try.prog 5 (.int .u8 c)=some (.int .u8 c):=Go.Maps.keyOf_int_mk Try.underlying5 (by rcases hc with rfl|rfl <;> decide)
theorem MapW.made (w:World):MapW (w.alloc (.map #[] 0)) w.heap.size 0 (fun _ => .slice none 0 0):=⟨.map [],World.ownsMap_made _ _ _ _,fun c hc=>rfl⟩
theorem MapW.obj {w:World} {M n:Nat} {u:Int→Value} (h:MapW w M n u):∃ es clock,w.heap[M]? = some (.map es clock):=by
 obtain ⟨D,⟨es,clock,hb,_⟩,_⟩:=h
 exact ⟨es,clock,hb⟩
theorem MapW.same {w w':World} {M n:Nat} {u:Int→Value} (h:MapW w M n u) (hg:w'.heap[M]? = w.heap[M]?):MapW w' M n u:=by
 obtain ⟨D,⟨es,clock,hb,r⟩,hu⟩:=h
 exact ⟨D,⟨es,clock,hg.trans hb,r⟩,hu⟩
theorem MapW.look {w:World} {M n:Nat} {u:Int→Value} (h:MapW w M n u) {c:Int} (hc:c=84∨c=83):(Instr.lookup 55 (.map (some M)) (.int .u8 c) false).run Try.prog w = .ok (u c) w:=by
 obtain ⟨D,ho,hu⟩:=h
 obtain ⟨v,ps,hrun,hv⟩:=ho.lookup map_keyed Try.underlying55 (z:=.slice none 0 0) (e:=22) (by kernel_rfl) (zd:=.held (.slice none 0 0)) (zp:=[]) rfl (letter_key hc)
 rw [hu c hc] at hv
 simp only [tagR,Option.some.injEq,Prod.mk.injEq,DataW.held.injEq] at hv
 rw [hrun,hv.1]
theorem MapW.put {w:World} {M n:Nat} {u:Int→Value} (h:MapW w M n u) {c:Int} (hc:c=84∨c=83) (hn:n<1000) (v:Value):∃ w',(Instr.mapUpdate 55 (.map (some M)) (.int .u8 c) v).run Try.prog w = .ok () w'∧MapW w' M (n+1) (fun d=>if d=c then v else u d)∧w.grownBy w' (some M):=by
  obtain ⟨D,ho,hu⟩:=h
  obtain ⟨w',hrun,h1,h2⟩:=ho.update map_keyed Try.underlying55 (by unfold maxLen;omega) (letter_key hc) (val:=v) (d:=.held v) (ps:=[]) rfl
  refine ⟨w',hrun,⟨_,h1,fun d hd => ?_⟩,h2⟩
  show _=DataW.held (if d=c then v else u d)
  by_cases e:d=c
  · subst e
    rw [if_pos rfl]
    exact Go.Maps.atKey_put_same ho.isMap (by rcases hd with rfl|rfl <;> trivial) _ _
  · rw [if_neg e,Go.Maps.atKey_put_other (by simpa using e)]
    exact hu d hd
/-- Two rows that are not one. -/
def Ap (a b:Value):Prop:=∀ k,a.ownBlock=some k→b.ownBlock≠some k
theorem Ap.symm {a b:Value} (h:Ap a b):Ap b a:=fun k hk ha=>h k ha hk
theorem Ap.ty {α β:Type} {d:Kd α} {d':Kd β} {e e' b b':Nat} {w:World} {ok ok':Nat→Prop} {u v:Value} {xs:List α} {ys:List β} (h:d.R e w b ok u xs) (h':d'.R e' w b' ok' v ys) (hne:e≠e'):Ap u v:=fun k hk hv=>by
  obtain ⟨c1,h1⟩:=Kd.R_typed h k hk
  exact Kd.R_ne h' h1 (fun e=>hne e.symm) hv.symm
theorem Ap.after {a a' b:Value} {w:World} (h:Ap a b) (hat:a'.ownBlock=a.ownBlock∨∃ k,a'.ownBlock=some k∧w.heap.size≤k) (hb:∀ k,b.ownBlock=some k→k<w.heap.size):Ap a' b:=fun k hk hv=>by
  rcases hat with e|⟨j,e,hj⟩
  · exact h k (e ▸ hk) hv
  · rw [e] at hk
    injection hk with hk
    have:=hb k hv
    omega
def OrbV.nx (o:OrbV) (c:Int):List Int:=if c=84 then o.nt else o.ns
def okO (N B M:Nat) (v1 v2 v3:Value) (u:Int→Value) (k:Nat):Prop:=N≤k∧k≠B∧k≠M∧some k≠v1.ownBlock∧some k≠v2.ownBlock∧some k≠v3.ownBlock∧∀ c:Int,c=84∨c=83→some k≠(u c).ownBlock
structure OrbW (N:Nat) (w:World) (B M:Nat) (v0 v1 v2 v3:Value) (u:Int→Value) (o:OrbV):Prop where
  hB:N≤B
  hM:N≤M
  blk:w.heap[B]? = some (.cells #[v0,v1,v2,v3,.map (some M)] 57 (0,0))
  map:MapW w M (o.nt.length+o.ns.length) u
  l:Kd.N k27 27 w N (okO N B M v1 v2 v3 u) v0 o.l
  ws:Kd.R Kd.string 9 w N (fun _=>True) v1 o.ws
  fr:Kd.R (Kd.int .i64) 3 w N (fun _=>True) v2 o.fr
  bs:Kd.R (Kd.int .u8) 5 w N (fun _=>True) v3 o.bs
  nx:∀ c:Int,c=84∨c=83→Kd.R (Kd.int .i64) 3 w N (fun _=>True) (u c) (o.nx c)
  a2:∀ c:Int,c=84∨c=83→Ap v2 (u c)
  a3:Ap (u 84) (u 83)
section
variable {N B M : Nat} {w w1 w2 : World} {v0 v1 v2 v3 v0' v1' v2' v3' : Value} {u : Int → Value} {o : OrbV}
theorem R_stays {α:Type} {d:Kd α} {e b:Nat} {v:Value} {xs:List α} {S:Nat→Prop} (hE:d.E=[]) (h:d.R e w b (fun _=>True) v xs) (hk:Kept w w1 S) (hv:∀ k,v.ownBlock=some k→¬ S k):d.R e w1 b (fun _=>True) v xs :=
  Kd.R_mono (Kd.R_kept (Kd.R_tight hE h) hk (fun k hk=>hv k hk.symm)) (fun _ _=>trivial)
theorem OrbW.hBM (h:OrbW N w B M v0 v1 v2 v3 u o):B≠M:=fun e=>by
  obtain ⟨es,clock,hb⟩:=h.map.obj
  have:=h.blk
  rw [e,hb] at this
  cases this
/-- No row is the box or the map. -/
theorem OrbW.offR (h:OrbW N w B M v0 v1 v2 v3 u o) {α:Type} {d:Kd α} {e b:Nat} {ok:Nat→Prop} {v:Value} {xs:List α} (hr:d.R e w b ok v xs) (hne:e≠57):∀ k,v.ownBlock=some k→k≠B∧k≠M:=fun k hk=>by
  obtain ⟨c1,h1⟩:=Kd.R_typed hr k hk
  refine ⟨fun e1 => ?_,fun e1 => ?_⟩
  · exact Kd.R_ne hr h.blk hne (by rw [hk,e1])
  · obtain ⟨es,clock,hb⟩:=h.map.obj
    rw [e1,hb] at h1
    cases h1
theorem OrbW.offN (h:OrbW N w B M v0 v1 v2 v3 u o):∀ k,v0.ownBlock=some k→k≠B∧k≠M:=fun k hk=>⟨(h.l.1 k hk).2.1,(h.l.1 k hk).2.2.1⟩
theorem OrbW.apN (h:OrbW N w B M v0 v1 v2 v3 u o) {v:Value} (hv:v=v1∨v=v2∨v=v3∨∃ c:Int,(c=84∨c=83)∧v=u c):Ap v0 v:=fun k hk he=>by
  have:=h.l.1 k hk
  rcases hv with rfl|rfl|rfl|⟨c,hc,rfl⟩
  · exact this.2.2.2.1 he.symm
  · exact this.2.2.2.2.1 he.symm
  · exact this.2.2.2.2.2.1 he.symm
  · exact this.2.2.2.2.2.2 c hc he.symm
/-- Where nothing but new blocks turned. -/
theorem OrbW.kept (h:OrbW N w B M v0 v1 v2 v3 u o) (hk:Kept w w1 (fun _=>False)):OrbW N w1 B M v0 v1 v2 v3 u o:=by
 have hs:∀ i,i<w.heap.size→w1.heap[i]? = w.heap[i]?:=fun i hi=>hk.2 i hi (fun x=>x)
 obtain ⟨es,clock,hb⟩:=h.map.obj
 exact ⟨h.hB,h.hM,(hs B (blk_lt h.blk)).trans h.blk,h.map.same (hs M (blk_lt hb)),Kd.N_kept h.l hk (fun _ _ x=>x),R_stays rfl h.ws hk (fun _ _ x=>x),R_stays rfl h.fr hk (fun _ _ x=>x),R_stays rfl h.bs hk (fun _ _ x=>x),fun c hc=>R_stays rfl (h.nx c hc) hk (fun _ _ x=>x),h.a2,h.a3⟩
theorem OrbW.below (h:OrbW N w B M v0 v1 v2 v3 u o) (hb:Below w.heap.size w w1):OrbW N w1 B M v0 v1 v2 v3 u o:=h.kept ⟨hb.size,fun i hi _=>hb.block i hi⟩
/-- A row grew: what stands beside it. -/
theorem OrbW.keptRow (_h:OrbW N w B M v0 v1 v2 v3 u o) {row:Option Nat} (hg:w.grownBy w1 row) (j:Nat) (x:Value):Kept w (w1.setCell ⟨B,j,none⟩ x) (fun k=>k=B∨some k=row):=by
  refine ⟨?_,fun i hi hs => ?_⟩
  · have:=hg.size
    have e:(w1.setCell ⟨B,j,none⟩ x).heap.size=w1.heap.size:=by simp
    omega
  · exact(Below.heap_setCell w1 ⟨B,j,none⟩ x i (fun e=>hs (Or.inl e))).trans (hg.block i hi (fun e=>hs (Or.inr e)))
theorem OrbW.setNew {α:Type} {d:Kd α} {e:Nat} {v:Value} {xs:List α} (hE:d.E=[]) (hb1:w1.heap[B]? = some (.cells #[v0,v1,v2,v3,.map (some M)] 57 (0,0))) (hne:e≠57) (h:d.R e w1 N (fun _=>True) v xs) (j:Nat) (x:Value):d.R e (w1.setCell ⟨B,j,none⟩ x) N (fun _=>True) v xs:=by
 refine R_stays (S:=fun k=>k=B) hE h ⟨by simp,fun i hi hs=>Below.heap_setCell w1 ⟨B,j,none⟩ x i hs⟩ (fun k hk e1 => ?_)
 subst e1
 exact Kd.R_ne h hb1 hne hk.symm
theorem OrbW.blk1 (h:OrbW N w B M v0 v1 v2 v3 u o) {row:Option Nat} (hg:w.grownBy w1 row) (hr:∀ k,row=some k→k≠B):w1.heap[B]? = some (.cells #[v0,v1,v2,v3,.map (some M)] 57 (0,0)):=(hg.block B (blk_lt h.blk) (fun e=>hr B e.symm rfl)).trans h.blk
theorem OrbW.map1 (h:OrbW N w B M v0 v1 v2 v3 u o) {S:Nat→Prop} (hk:Kept w w1 S) (hM:¬ S M):MapW w1 M (o.nt.length+o.ns.length) u:=by
 obtain ⟨es,clock,hb⟩:=h.map.obj
 exact h.map.same (hk.2 M (blk_lt hb) hM)
theorem after_ne {a a':Value} {W:World} {k:Nat} (hne:some k≠a.ownBlock) (hlt:k<W.heap.size) (hat:a'.ownBlock=a.ownBlock∨∃ j,a'.ownBlock=some j∧W.heap.size≤j):some k≠a'.ownBlock:=by
  rcases hat with e|⟨j,e,hj⟩
  · rw [e];exact hne
  · rw [e]
    intro e1
    injection e1 with e1
    omega
theorem OrbW.put0 (h:OrbW N w B M v0 v1 v2 v3 u o) {l':List S27} (hl:Kd.N k27 27 w1 N (okO N B M v1 v2 v3 u) v0' l') (hg:w.grownBy w1 v0.ownBlock):OrbW N (w1.setCell ⟨B,0,none⟩ v0') B M v0' v1 v2 v3 u { o with l:=l' }:=by
  have hk:=h.keptRow hg 0 v0'
  have hb:=h.blk1 hg (fun k hk=>(h.offN k hk).1)
  have off:∀ {α:Type} {d:Kd α} {e b:Nat} {ok:Nat→Prop} {v:Value} {xs:List α},d.R e w b ok v xs→e≠57→Ap v0 v→∀ k,v.ownBlock=some k→¬ (k=B∨some k=v0.ownBlock):=fun hr hne ha k hk=>by
    rintro (e1|e1)
    · exact(h.offR hr hne k hk).1 e1
    · exact ha k e1.symm hk
  refine ⟨h.hB,h.hM,(blk_set hb 0 v0').trans rfl,h.map1 hk ?_,?_,R_stays rfl h.ws hk (off h.ws (by decide) (h.apN (Or.inl rfl))),R_stays rfl h.fr hk (off h.fr (by decide) (h.apN (Or.inr (Or.inl rfl)))),R_stays rfl h.bs hk (off h.bs (by decide) (h.apN (Or.inr (Or.inr (Or.inl rfl))))),fun c hc=>R_stays rfl (h.nx c hc) hk (off (h.nx c hc) (by decide) (h.apN (Or.inr (Or.inr (Or.inr ⟨c,hc,rfl⟩))))),h.a2,h.a3⟩
  · rintro (e1|e1)
    · exact h.hBM e1.symm
    · exact(h.offN M e1.symm).2 rfl
  · exact Kd.N_far hl (fun k hk=>hk.2.1) _
theorem OrbW.lput (h:OrbW N w B M v0 v1 v2 v3 u o) {S:Nat→Prop} (hk:Kept w w1 S) (hS:∀ k,okO N B M v1 v2 v3 u k→¬ S k) {v1' v2' v3':Value} {u':Int→Value} (hok:∀ k,k<w.heap.size→okO N B M v1 v2 v3 u k→okO N B M v1' v2' v3' u' k):Kd.N k27 27 w1 N (okO N B M v1' v2' v3' u') v0 o.l :=
  Kd.N_mono (Kd.N_kept (Kd.N_bound h.l) hk (fun k hk=>hS k hk.1)) (fun k hk=>hok k hk.2 hk.1)
theorem OrbW.put1 (h:OrbW N w B M v0 v1 v2 v3 u o) {l':List ByteArray} (hl:Kd.R Kd.string 9 w1 N (fun _=>True) v1' l') (hg:w.grownBy w1 v1.ownBlock) (hat:v1'.ownBlock=v1.ownBlock∨∃ k,v1'.ownBlock=some k∧w.heap.size≤k):OrbW N (w1.setCell ⟨B,1,none⟩ v1') B M v0 v1' v2 v3 u { o with ws:=l' }:=by
  have hk:=h.keptRow hg 1 v1'
  have o1:=h.offR h.ws (by decide)
  have hb:=h.blk1 hg (fun k hk=>(o1 k hk).1)
  have off:∀ {α:Type} {d:Kd α} {e b:Nat} {ok:Nat→Prop} {v:Value} {xs:List α},d.R e w b ok v xs→e≠57→Ap v1 v→∀ k,v.ownBlock=some k→¬ (k=B∨some k=v1.ownBlock):=fun hr hne ha k hk=>by
    rintro (e1|e1)
    · exact(h.offR hr hne k hk).1 e1
    · exact ha k e1.symm hk
  refine ⟨h.hB,h.hM,(blk_set hb 1 v1').trans rfl,h.map1 hk ?_,h.lput hk ?_ ?_,OrbW.setNew rfl hb (by decide) hl 1 _,R_stays rfl h.fr hk (off h.fr (by decide) (Ap.ty h.ws h.fr (by decide))),R_stays rfl h.bs hk (off h.bs (by decide) (Ap.ty h.ws h.bs (by decide))),fun c hc=>R_stays rfl (h.nx c hc) hk (off (h.nx c hc) (by decide) (Ap.ty h.ws (h.nx c hc) (by decide))),h.a2,h.a3⟩
  · rintro (e1|e1)
    · exact h.hBM e1.symm
    · exact(o1 M e1.symm).2 rfl
  · rintro k hk (e1|e1)
    · exact hk.2.1 e1
    · exact hk.2.2.2.1 e1
  · intro k hlt hk
    exact ⟨hk.1,hk.2.1,hk.2.2.1,after_ne hk.2.2.2.1 hlt hat,hk.2.2.2.2⟩
theorem OrbW.put2 (h:OrbW N w B M v0 v1 v2 v3 u o) {l':List Int} (hl:Kd.R (Kd.int .i64) 3 w1 N (fun _=>True) v2' l') (hg:w.grownBy w1 v2.ownBlock) (hat:v2'.ownBlock=v2.ownBlock∨∃ k,v2'.ownBlock=some k∧w.heap.size≤k):OrbW N (w1.setCell ⟨B,2,none⟩ v2') B M v0 v1 v2' v3 u { o with fr:=l' }:=by
  have hk:=h.keptRow hg 2 v2'
  have o1:=h.offR h.fr (by decide)
  have hb:=h.blk1 hg (fun k hk=>(o1 k hk).1)
  have off:∀ {α:Type} {d:Kd α} {e b:Nat} {ok:Nat→Prop} {v:Value} {xs:List α},d.R e w b ok v xs→e≠57→Ap v2 v→∀ k,v.ownBlock=some k→¬ (k=B∨some k=v2.ownBlock):=fun hr hne ha k hk=>by
    rintro (e1|e1)
    · exact(h.offR hr hne k hk).1 e1
    · exact ha k e1.symm hk
  refine ⟨h.hB,h.hM,(blk_set hb 2 v2').trans rfl,h.map1 hk ?_,h.lput hk ?_ ?_,R_stays rfl h.ws hk (off h.ws (by decide) (Ap.ty h.fr h.ws (by decide))),OrbW.setNew rfl hb (by decide) hl 2 _,R_stays rfl h.bs hk (off h.bs (by decide) (Ap.ty h.fr h.bs (by decide))),fun c hc=>R_stays rfl (h.nx c hc) hk (off (h.nx c hc) (by decide) (h.a2 c hc)),fun c hc=>(h.a2 c hc).after hat (Kd.R_lt (h.nx c hc)),h.a3⟩
  · rintro (e1|e1)
    · exact h.hBM e1.symm
    · exact(o1 M e1.symm).2 rfl
  · rintro k hk (e1|e1)
    · exact hk.2.1 e1
    · exact hk.2.2.2.2.1 e1
  · intro k hlt hk
    exact ⟨hk.1,hk.2.1,hk.2.2.1,hk.2.2.2.1,after_ne hk.2.2.2.2.1 hlt hat,hk.2.2.2.2.2⟩
theorem OrbW.put3 (h:OrbW N w B M v0 v1 v2 v3 u o) {l':List Int} (hl:Kd.R (Kd.int .u8) 5 w1 N (fun _=>True) v3' l') (hg:w.grownBy w1 v3.ownBlock) (hat:v3'.ownBlock=v3.ownBlock∨∃ k,v3'.ownBlock=some k∧w.heap.size≤k):OrbW N (w1.setCell ⟨B,3,none⟩ v3') B M v0 v1 v2 v3' u { o with bs:=l' }:=by
  have hk:=h.keptRow hg 3 v3'
  have o1:=h.offR h.bs (by decide)
  have hb:=h.blk1 hg (fun k hk=>(o1 k hk).1)
  have off:∀ {α:Type} {d:Kd α} {e b:Nat} {ok:Nat→Prop} {v:Value} {xs:List α},d.R e w b ok v xs→e≠57→Ap v3 v→∀ k,v.ownBlock=some k→¬ (k=B∨some k=v3.ownBlock):=fun hr hne ha k hk=>by
    rintro (e1|e1)
    · exact(h.offR hr hne k hk).1 e1
    · exact ha k e1.symm hk
  refine ⟨h.hB,h.hM,(blk_set hb 3 v3').trans rfl,h.map1 hk ?_,h.lput hk ?_ ?_,R_stays rfl h.ws hk (off h.ws (by decide) (Ap.ty h.bs h.ws (by decide))),R_stays rfl h.fr hk (off h.fr (by decide) (Ap.ty h.bs h.fr (by decide))),OrbW.setNew rfl hb (by decide) hl 3 _,fun c hc=>R_stays rfl (h.nx c hc) hk (off (h.nx c hc) (by decide) (Ap.ty h.bs (h.nx c hc) (by decide))),h.a2,h.a3⟩
  · rintro (e1|e1)
    · exact h.hBM e1.symm
    · exact(o1 M e1.symm).2 rfl
  · rintro k hk (e1|e1)
    · exact hk.2.1 e1
    · exact hk.2.2.2.2.2.1 e1
  · intro k hlt hk
    exact ⟨hk.1,hk.2.1,hk.2.2.1,hk.2.2.2.1,hk.2.2.2.2.1,after_ne hk.2.2.2.2.2.1 hlt hat,hk.2.2.2.2.2.2⟩
theorem OrbW.putn (h:OrbW N w B M v0 v1 v2 v3 u o) {c t:Int} (hc:c=84∨c=83) {v':Value} (hl:Kd.R (Kd.int .i64) 3 w1 N (fun _=>True) v' (o.nx c ++ [t])) (hg:w.grownBy w1 (u c).ownBlock) (hat:v'.ownBlock=(u c).ownBlock∨∃ k,v'.ownBlock=some k∧w.heap.size≤k) (hn:o.nt.length+o.ns.length<1000) :
    ∃ w2,(Instr.mapUpdate 55 (.map (some M)) (.int .u8 c) v').run Try.prog w1 = .ok () w2∧OrbW N w2 B M v0 v1 v2 v3 (fun d=>if d=c then v' else u d) (orbPut c t o)∧w1.grownBy w2 (some M):=by
  have o1:=h.offR (h.nx c hc) (by decide)
  have k1:Kept w w1 (fun k=>some k=(u c).ownBlock):=⟨hg.size,fun i hi hs=>hg.block i hi hs⟩
  have m1:=h.map1 k1 (fun e1=>(o1 M e1.symm).2 rfl)
  obtain ⟨w2,hrun,m2,hg2⟩:=m1.put hc hn v'
  have hk:Kept w w2 (fun k=>k=M∨some k=(u c).ownBlock):=⟨Nat.le_trans hg.size hg2.size,fun i hi hs=>(hg2.block i (Nat.lt_of_lt_of_le hi hg.size) (fun e=>hs (Or.inl (Option.some.inj e)))).trans (hg.block i hi (fun e=>hs (Or.inr e)))⟩
  have off:∀ {α:Type} {d:Kd α} {e b:Nat} {ok:Nat→Prop} {v:Value} {xs:List α},d.R e w b ok v xs→e≠57→Ap (u c) v→∀ k,v.ownBlock=some k→¬ (k=M∨some k=(u c).ownBlock):=fun hr hne ha k hk=>by
    rintro (e1|e1)
    · exact(h.offR hr hne k hk).2 e1
    · exact ha k e1.symm hk
  have hnew:Kd.R (Kd.int .i64) 3 w2 N (fun _=>True) v' (o.nx c ++ [t]):=by
    refine R_stays (S:=fun k=>k=M) rfl hl ⟨hg2.size,fun i hi hs=>hg2.block i hi (fun e=>hs (Option.some.inj e))⟩ (fun j hj e1 => ?_)
    obtain ⟨c1,h1⟩:=Kd.R_typed hl j hj
    rw [e1] at h1
    obtain ⟨es,clock,hb⟩:=m1.obj
    rw [hb] at h1
    cases h1
  have hap:∀ d:Int,(d=84∨d=83)→d≠c→Ap (u c) (u d):=fun d hd hne=>by
    rcases hc with rfl|rfl <;> rcases hd with rfl|rfl
    · exact absurd rfl hne
    · exact h.a3
    · exact h.a3.symm
    · exact absurd rfl hne
  have hnx:∀ d:Int,(orbPut c t o).nx d=if d=c∧(d=84∨c≠84) then o.nx d ++ [t] else if c=84 then o.nx d else if d=84 then o.nx d else o.nx d ++ [t]:=fun d=>by
    unfold orbPut OrbV.nx
    by_cases e1:c=84 <;> by_cases e2:d=84 <;> by_cases e3:d=c <;> simp_all
  have hlen:(orbPut c t o).nt.length+(orbPut c t o).ns.length=o.nt.length+o.ns.length+1:=by
    unfold orbPut
    split <;> simp <;> omega
  have hrest:(orbPut c t o).l=o.l∧(orbPut c t o).ws=o.ws∧(orbPut c t o).fr=o.fr∧(orbPut c t o).bs=o.bs:=by
    unfold orbPut
    split <;> exact ⟨rfl,rfl,rfl,rfl⟩
  have hb2:w2.heap[B]? = some (.cells #[v0,v1,v2,v3,.map (some M)] 57 (0,0)):=(hk.2 B (blk_lt h.blk) (by
    rintro (e1|e1)
    · exact h.hBM e1
    · exact(o1 B e1.symm).1 rfl)).trans h.blk
  refine ⟨w2,hrun,⟨h.hB,h.hM,hb2,by rw [hlen];exact m2,?_,?_,?_,?_,fun d hd => ?_,fun d hd => ?_,?_⟩,hg2⟩
  · rw [hrest.1]
    refine h.lput hk ?_ ?_
    · rintro k hk (e1|e1)
      · exact hk.2.2.1 e1
      · exact hk.2.2.2.2.2.2 c hc e1
    · intro j hlt hj
      refine ⟨hj.1,hj.2.1,hj.2.2.1,hj.2.2.2.1,hj.2.2.2.2.1,hj.2.2.2.2.2.1,fun d hd => ?_⟩
      by_cases e:d=c
      · subst e
        simp only [if_pos]
        exact after_ne (hj.2.2.2.2.2.2 d hd) hlt hat
      · simp only [if_neg e]
        exact hj.2.2.2.2.2.2 d hd
  · rw [hrest.2.1]
    exact R_stays rfl h.ws hk (off h.ws (by decide) (Ap.ty (h.nx c hc) h.ws (by decide)))
  · rw [hrest.2.2.1]
    exact R_stays rfl h.fr hk (off h.fr (by decide) (h.a2 c hc).symm)
  · rw [hrest.2.2.2]
    exact R_stays rfl h.bs hk (off h.bs (by decide) (Ap.ty (h.nx c hc) h.bs (by decide)))
  · by_cases e:d=c
    · subst e
      simp only [if_pos]
      have:(orbPut d t o).nx d=o.nx d ++ [t]:=by
        unfold orbPut OrbV.nx
        by_cases e1:d=84 <;> simp [e1]
      rw [this]
      exact hnew
    · simp only [if_neg e]
      have:(orbPut c t o).nx d=o.nx d:=by
        unfold orbPut OrbV.nx
        by_cases e1:c=84
        · have:d≠84:=fun e2=>e (e2.trans e1.symm)
          simp [e1,this]
        · have hc3:c=83:=by omega
          have hd4:d=84:=by omega
          simp [hc3,hd4]
      rw [this]
      exact R_stays rfl (h.nx d hd) hk (off (h.nx d hd) (by decide) (hap d hd e))
  · by_cases e:d=c
    · subst e
      simp only [if_pos]
      exact((h.a2 d hd).symm.after hat (Kd.R_lt h.fr)).symm
    · simp only [if_neg e]
      exact h.a2 d hd
  · rcases hc with rfl|rfl
    · simp only [if_pos,if_neg (show ¬ (83:Int)=84 by decide)]
      exact h.a3.after hat (Kd.R_lt (h.nx 83 (Or.inr rfl)))
    · simp only [if_pos,if_neg (show ¬ (84:Int)=83 by decide)]
      exact(h.a3.symm.after hat (Kd.R_lt (h.nx 84 (Or.inl rfl)))).symm
end
theorem SurfF.belowF {w w1:World} {ok:Nat→Prop} {A0 A1:Option Addr} {c0 c1:Nat} {x y:List Int} (h:SurfF w ok A0 A1 c0 c1 x y) (hb:Below w.heap.size w w1):SurfF w1 ok A0 A1 c0 c1 x y:=Foot.step h (fun k _ hlt=>hb.block k hlt)
theorem SurfF.setBig {w w4:World} {ok:Nat→Prop} {g:Nat} {A0 A1:Option Addr} {c0 c1:Nat} {x y:List Int} (h:SurfF w ok A0 A1 c0 c1 x y) (hb:Below w.heap.size w w4) (hg:w.heap.size≤g) (cs:Array Value):SurfF (w4.setRow g cs) ok A0 A1 c0 c1 x y:=Foot.step h (fun k _ hlt=>(setRow_other w4 g k cs (by omega)).trans (hb.block k hlt))
/-- The letters' row, made in each round. -/
structure Letters (w:World) (gl:Nat) (v3:Value):Prop where
  blk:w.heap[gl]? = some (.cells #[.int .u8 84,.int .u8 83] 5 (0,0))
  ne:some gl≠v3.ownBlock
theorem Letters.below {w w1:World} {gl:Nat} {v3:Value} (h:Letters w gl v3) (hb:Below w.heap.size w w1):Letters w1 gl v3:=⟨blk_below h.blk hb,h.ne⟩
theorem Letters.at {w:World} {gl:Nat} {v3:Value} (h:Letters w gl v3) {j:Nat} (h1:j<2):w.cell? ⟨gl,j,none⟩=some (.int .u8 (rd [84,83] (j:Int))):=by
 rw [blk_cell h.blk]
 have:j=0∨j=1:=by omega
 rcases this with rfl|rfl <;> rfl
section
variable {N B M gl : Nat} {w w1 : World} {v0 v1 v2 v3 v3' : Value} {u : Int → Value} {o : OrbV}
/-- The letters' row behind a row's growing and the box's cell. -/
theorem Letters.put (h:Letters w gl v3) (ho:OrbW N w B M v0 v1 v2 v3 u o) {row:Option Nat} (hg:w.grownBy w1 row) (hr:some gl≠row) (hv:v3'=v3∨v3'.ownBlock=v3.ownBlock∨∃ k,v3'.ownBlock=some k∧w.heap.size≤k) (j:Nat) (x:Value):Letters (w1.setCell ⟨B,j,none⟩ x) gl v3':=by
  refine ⟨blk_far (blk_grown h.blk hg hr) (fun e => ?_) x,?_⟩
  · have e:gl=B:=e
    have h2:=ho.blk
    rw [← e,h.blk] at h2
    injection h2 with h2
    injection h2 with _ e2
    exact absurd e2 (by decide)
  · rcases hv with rfl|hv
    · exact h.ne
    · exact after_ne h.ne (blk_lt h.blk) hv
theorem Letters.offR (h:Letters w gl v3) {α:Type} {d:Kd α} {e b:Nat} {ok:Nat→Prop} {v:Value} {xs:List α} (hr:d.R e w b ok v xs) (hne:e≠5):some gl≠v.ownBlock:=Kd.R_ne hr h.blk hne
theorem Letters.putn (h:Letters w gl v3) (ho:OrbW N w B M v0 v1 v2 v3 u o) {row:Option Nat} {w2:World} (hg:w.grownBy w1 row) (hr:some gl≠row) (hg2:w1.grownBy w2 (some M)):Letters w2 gl v3:=by
 refine ⟨blk_grown (blk_grown h.blk hg hr) hg2 (fun e => ?_),h.ne⟩
 obtain ⟨es,clock,hb⟩:=ho.map.obj
 injection e with e
 rw [← e,h.blk] at hb
 cases hb
end
/-- What is known of an orbit under way. -/
structure OrbI (i:Int) (j:Nat) (o:OrbV):Prop where
  l:o.l.length≤120
  ws:o.ws.length=o.l.length
  fr:o.fr.length=o.l.length
  bs:o.bs.length=o.l.length
  nx:((o.nt.length+o.ns.length:Nat):Int)≤2*i+j
theorem OrbI.put {i:Int} {j:Nat} {o:OrbV} (h:OrbI i j o) (c t:Int):OrbI i (j+1) (orbPut c t o):=by
 obtain ⟨h1,h2,h3,h4,h5⟩:=h
 unfold orbPut
 split <;> exact ⟨h1,h2,h3,h4,by simp only [List.length_append,List.length_singleton];omega⟩
theorem OrbI.more {i:Int} {j:Nat} {o:OrbV} (h:OrbI i j o) (hl:o.l.length≠120) (x:S27) (s:ByteArray) (a b:Int):OrbI i j { o with l:=o.l ++ [x],ws:=o.ws ++ [s],fr:=o.fr ++ [a],bs:=o.bs ++ [b] }:=by
 obtain ⟨h1,h2,h3,h4,h5⟩:=h
 exact ⟨by simp only [List.length_append,List.length_singleton];omega,by simp [h2],by simp [h3],by simp [h4],h5⟩
/-- From a letter on. -/
def orbRest (k:Nat) (i:Int) (j:Nat) (o:OrbV):Option (Option OrbV) :=
  if j=0 then (orbLet k 84 i o).bind fun a=>match a with|none=>some none|some o1=>(orbLet k 83 i o1).bind fun b=>match b with|none=>some none|some o2=>orbLoop k (wrap64 (i+1)) o2
  else if j=1 then (orbLet k 83 i o).bind fun b=>match b with|none=>some none|some o2=>orbLoop k (wrap64 (i+1)) o2
  else orbLoop k (wrap64 (i+1)) o
theorem orbRest_step {k:Nat} {i:Int} {j:Nat} {o:OrbV} {r:Option OrbV} (h:orbRest k i j o=some r) (hj:j<2):∃ a,orbLet k (rd [84,83] j) i o=some a∧((a=none∧r=none)∨∃ o1,a=some o1∧orbRest k i (j+1) o1=some r):=by
  have hj:j=0∨j=1:=by omega
  rcases hj with rfl|rfl
  · rw [orbRest,if_pos rfl] at h
    obtain ⟨a,ha,h⟩:=oB h
    refine ⟨a,ha,?_⟩
    cases a with
    | none=>exact Or.inl ⟨rfl,(Option.some.inj h).symm⟩
    | some o1=>exact Or.inr ⟨o1,rfl,by rw [orbRest,if_neg (by decide),if_pos rfl];exact h⟩
  · rw [orbRest,if_neg (by decide),if_pos rfl] at h
    obtain ⟨a,ha,h⟩:=oB h
    refine ⟨a,ha,?_⟩
    cases a with
    | none=>exact Or.inl ⟨rfl,(Option.some.inj h).symm⟩
    | some o1=>exact Or.inr ⟨o1,rfl,by rw [orbRest,if_neg (by decide),if_neg (by decide)];exact h⟩
theorem heap_new (w:World) (o:Obj):(w.alloc o).heap[w.heap.size]? = some o:=(Go.MapKept.heap_alloc w o).1
theorem letter_or {j:Int} (h0:0≤j) (h1:j<2):rd [84,83] j=84∨rd [84,83] j=83:=by
  have:j=0∨j=1:=by omega
  rcases this with rfl|rfl
  · exact Or.inl rfl
  · exact Or.inr rfl
theorem FK_surf {w:World} {ok:Nat→Prop} {B0 B1:Option Addr} {b0 b1:Nat} {x0 x1:List Int} (h:SurfF w ok B0 B1 b0 b1 x0 x1):Kd.FK k27 w ok ⟨x0,x1⟩ [.slice B0 x0.length b0,.slice B1 x1.length b1]:=fun W' hW=>k27_mk W' ⟨x0,x1⟩ (h W' hW).l0 (h W' hW).g0 (h W' hW).l1 (h W' hW).g1
theorem OrbW.start {N gb:Nat} {w6 w7 w8 w9 w10:World} {v0 v1 v2 v3:Value} {x:S27} (hl:Kd.N k27 27 w6 N (fun k=>N≤k) v0 [x]) (hs:Kd.R Kd.string 9 w7 N (fun _=>True) v1 [⟨#[]⟩]) (hf:Kd.R (Kd.int .i64) 3 w8 N (fun _=>True) v2 [-1]) (hy:Kd.R (Kd.int .u8) 5 w9 N (fun _=>True) v3 [0]) (h67:w6.grownBy w7 none) (h78:w7.grownBy w8 none) (h89:w8.grownBy w9 none)
    (a1:∃ b,v1.ownBlock=some b∧w6.heap.size≤b) (a2:∃ b,v2.ownBlock=some b∧w7.heap.size≤b) (a3:∃ b,v3.ownBlock=some b∧w8.heap.size≤b) (hN:N≤w6.heap.size) (hg:gb=(w9.alloc (.map #[] 0)).heap.size) (hbox:w10.heap[gb]? = some (.cells #[v0,v1,v2,v3,.map (some w9.heap.size)] 57 (0,0))) (hb:Below (w9.alloc (.map #[] 0)).heap.size (w9.alloc (.map #[] 0)) w10) :
    OrbW N w10 gb w9.heap.size v0 v1 v2 v3 (fun _ => .slice none 0 0) ⟨[x],[⟨#[]⟩],[-1],[0],[],[]⟩:=by
  have s67:=h67.size
  have s78:=h78.size
  have s89:=h89.size
  have sz:(w9.alloc (.map #[] 0)).heap.size=w9.heap.size+1:=by simp
  have ba:Below w9.heap.size w9 w10:=(Below.refl _ _ |>.alloc (Nat.le_refl _) _).trans ⟨hb.os,hb.tape,hb.output,hb.size,fun k hk=>hb.block k (by rw [sz];omega)⟩
  have g9:w9.grownBy w10 none:=⟨ba.os,ba.tape,ba.output,ba.size,fun i hi _=>ba.block i hi⟩
  have nn:∀ {α:Type} {d:Kd α} {e:Nat} {v:Value} {xs:List α} {W W1:World},d.E=[]→d.R e W N (fun _=>True) v xs→W.grownBy W1 none→d.R e W1 N (fun _=>True) v xs:=fun hE h hg=>R_stays (S:=fun _=>False) hE h ⟨hg.size,fun i hi _=>hg.block i hi (by simp)⟩ (fun _ _ x=>x)
  have hl':Kd.N k27 27 w10 N (fun k=>N≤k∧k<w6.heap.size) v0 [x]:=Kd.N_grown (Kd.N_grown (Kd.N_grown (Kd.N_grown (Kd.N_bound hl) h67 (by simp)) h78 (by simp)) h89 (by simp)) g9 (by simp)
  refine ⟨by rw [hg,sz];omega,by omega,hbox,?_,Kd.N_mono hl' (fun k hk=>⟨hk.1,by rw [hg,sz];omega,by omega,?_,?_,?_,fun c hc=>by simp [Value.ownBlock]⟩),nn rfl (nn rfl (nn rfl hs h78) h89) g9,nn rfl (nn rfl hf h89) g9,nn rfl hy g9,fun c hc => ?_,fun c hc k hk=>by simp [Value.ownBlock],fun k hk=>by simp [Value.ownBlock] at hk⟩
  · exact(MapW.made w9).same (hb.block _ (by rw [sz];omega))
  · obtain ⟨b,e,h⟩:=a1
    rw [e];simp;omega
  · obtain ⟨b,e,h⟩:=a2
    rw [e];simp;omega
  · obtain ⟨b,e,h⟩:=a3
    rw [e];simp;omega
  · have:(⟨[x],[⟨#[]⟩],[-1],[0],[],[]⟩:OrbV).nx c=[]:=by unfold OrbV.nx;split <;> rfl
    rw [this]
    exact Kd.R_nil _ _ _ _ _
theorem OrbW.held {N B M:Nat} {w:World} {v0 v1 v2 v3:Value} {u:Int→Value} {o:OrbV} (h:OrbW N w B M v0 v1 v2 v3 u o) {c:Int} (hc:c=84∨c=83):w.cell? ⟨B,4,none⟩=some (.map (some M))∧(Instr.lookup 55 (.map (some M)) (.int .u8 c) false).run Try.prog w = .ok (u c) w:=⟨(blk_cell h.blk 4).trans rfl,h.map.look hc⟩
theorem OrbW.heldn {N B M:Nat} {w w1:World} {v0 v1 v2 v3:Value} {u:Int→Value} {o:OrbV} (h:OrbW N w B M v0 v1 v2 v3 u o) {c:Int} (hc:c=84∨c=83) (hg:w.grownBy w1 (u c).ownBlock):w1.cell? ⟨B,4,none⟩=some (.map (some M))∧(Instr.lookup 55 (.map (some M)) (.int .u8 c) false).run Try.prog w1 = .ok (u c) w1:=by
 have o1:=h.offR (h.nx c hc) (by decide)
 exact ⟨(blk_cell (h.blk1 hg (fun k hk=>(o1 k hk).1)) 4).trans rfl,(h.map1 (S:=fun k=>some k=(u c).ownBlock) ⟨hg.size,fun i hi hs=>hg.block i hi hs⟩ (fun e=>(o1 M e.symm).2 rfl)).look hc⟩
theorem orbPut_l (c t:Int) (o:OrbV):(orbPut c t o).l=o.l:=by
 unfold orbPut
 split <;> rfl
theorem OrbI.nxl {i:Int} {j:Nat} {o:OrbV} (h:OrbI i j o) (hi:i<120) (hj:j<2) (c:Int):o.nt.length+o.ns.length<1000∧(o.nx c).length<1000:=by
 have:=h.nx
 unfold OrbV.nx
 split <;> omega
theorem OrbW.fresh {N B M:Nat} {w:World} {v0 v1 v2 v3:Value} {u:Int→Value} {o:OrbV} (h:OrbW N w B M v0 v1 v2 v3 u o) {k:Nat} (hk:w.heap.size≤k):okO N B M v1 v2 v3 u k∧some k≠v0.ownBlock:=by
 have hB:=blk_lt h.blk
 obtain ⟨es,clock,hm⟩:=h.map.obj
 have hM:=blk_lt hm
 have nb:=h.hB
 have ne:∀ {v:Value},(∀ j,v.ownBlock=some j→j<w.heap.size)→some k≠v.ownBlock:=fun hv e=>by
  have:=hv k e.symm
  omega
 exact ⟨⟨by omega,by omega,by omega,ne (Kd.R_lt h.ws),ne (Kd.R_lt h.fr),ne (Kd.R_lt h.bs),fun c hc=>ne (Kd.R_lt (h.nx c hc))⟩,ne (Kd.N_lt h.l)⟩
theorem held2 {w w1:World} {a b:Addr} {x y:Value} (hb:Below w.heap.size w w1) (h1:w.cell? a=some x) (h2:w.cell? b=some y):w1.cell? a=some x∧w1.cell? b=some y:=⟨(hb.cell (World.block_lt_of_cell? _ _ h1)).trans h1,(hb.cell (World.block_lt_of_cell? _ _ h2)).trans h2⟩
def OrbPost (N:Nat) (r:Option OrbV) (e:Ending) (w':World):Prop:=match r with
  | none=>e = .returned (.tuple #[.pointer none,.bool false])
  | some o=>∃ B M v0 v1 v2 v3 u,e = .returned (.tuple #[.pointer (some ⟨B,0,none⟩),.bool true])∧OrbW N w' B M v0 v1 v2 v3 u o∧o.l.length≤120
theorem impl_orbitOf.calls (k:Nat) (A0_0:Option Addr) (c0_0:Nat) (l0_0:List Int) (A0_1:Option Addr) (c0_1:Nat) (l0_1:List Int) (r:Option OrbV) (w:World) (hs:SurfC w A0_0 A0_1 c0_0 c0_1 l0_0 l0_1) (h:impl_orbitOf.f k l0_0 l0_1=some r) :
    Calls Try.prog 30 #[.agg #[.slice A0_0 l0_0.length c0_0,.slice A0_1 l0_1.length c0_1]] w fun e w'=>Below w.heap.size w w'∧OrbPost w.heap.size r e w':=by
  have hu:=Try.underlying27
  have hv:=Try.underlying57
  have hmm:=@run_makeMap Try.prog
  have HS:=aM hs
  clear hs
  unfold impl_orbitOf.f at h
  obtain ⟨⟨x0,x1,okx⟩,hx,h⟩:=oB h
  have HX:=aM hx
  clear hx
  cases okx with
  | false =>
    have hr:none=r:=Option.some.inj h
    subst hr
    clear h
    go_enter Try.func30,Try.ntmps30
    go_wp2_with (first
      | ((with_reducible refine gate_dst (N:=1) rfl ?_);refine bEv (cs:=#[.slice A0_0 l0_0.length c0_0,.slice A0_1 l0_1.length c0_1]) (t:=27) ?_;intro gb1 hg1 w1 hbox1 hb1;have BK1:=aM hbox1;have HB1:=aM hb1;have hc10:w1.cell? ⟨gb1,0,none⟩=some (.slice A0_0 l0_0.length c0_0):=(blk_cell BK1.out 0).trans rfl;have hc11:w1.cell? ⟨gb1,1,none⟩=some (.slice A0_1 l0_1.length c0_1):=(blk_cell BK1.out 1).trans rfl;clear hbox1 hb1 hg1)
      | (go_at_call 50;(refine(impl_CanonOf.callsF k _ _ l0_0 _ _ l0_1 x0 x1 false w1 (HS.out.below HB1.out) HX.out).mono ?_);rintro e w2 ⟨B0,b0,B1,b1,rfl,hS,hb⟩;have HB2:=aM (below_step HB1.out hb);have HS2:=aM (Foot.mono hS (fun k hk=>Nat.le_trans (below_size HB1.out) hk));clear hc10 hc11 hb hS HB1 BK1)
      | ((with_reducible refine gate_dst (N:=4) rfl ?_);refine bEv (cs:=#[.slice none 0 0,.slice none 0 0]) (t:=27) ?_;intro gb4 hg4 w4 hbox4 hb4;have BK4:=aM hbox4;have HB4:=aM (below_step HB2.out hb4);have HG4:=aM (show w.heap.size≤gb4 by rw [hg4];exact below_size HB2.out);have HS4:=aM (SurfF.setBig HS2.out hb4 (Nat.le_of_eq hg4.symm) #[.slice B0 x0.length b0,.slice B1 x1.length b1]);clear hbox4 hb4 hg4 HB2 HS2)
      | (refine wpList_store_row rfl 27 (.tmp 4) (.tmp 16) rfl gb4 #[.slice B0 x0.length b0,.slice B1 x1.length b1] rfl rfl 27 #[.slice none 0 0,.slice none 0 0] BK4.out (by kernel_rfl) rfl (by simp [Value.oneCell']) ?_;have BK5:=aM (setRow_heap w4 gb4 _ #[.slice B0 x0.length b0,.slice B1 x1.length b1] _ _ BK4.out);have HB5:=aM (below_setRow HB4.out HG4.out #[.slice B0 x0.length b0,.slice B1 x1.length b1]);clear BK4 HB4;generalize w4.setRow gb4 #[.slice B0 x0.length b0,.slice B1 x1.length b1]=w5 at BK5 HB5 HS4 ⊢;have hc40:w5.cell? ⟨gb4,0,none⟩=some (.slice B0 x0.length b0):=(blk_cell BK5.out 0).trans rfl;have hc41:w5.cell? ⟨gb4,1,none⟩=some (.slice B1 x1.length b1):=(blk_cell BK5.out 1).trans rfl))
    go_ret2
    exact ⟨HB5.out,rfl⟩
  | true =>
    have h:orbLoop k 0 ⟨[⟨x0,x1⟩],[⟨#[]⟩],[-1],[0],[],[]⟩=some r:=h
    have H:=aM h
    clear h
    go_enter Try.func30,Try.ntmps30
    go_wp2_with (first
      | ((with_reducible refine gate_dst (N:=1) rfl ?_);refine bEv (cs:=#[.slice A0_0 l0_0.length c0_0,.slice A0_1 l0_1.length c0_1]) (t:=27) ?_;intro gb1 hg1 w1 hbox1 hb1;have BK1:=aM hbox1;have HB1:=aM hb1;have hc10:w1.cell? ⟨gb1,0,none⟩=some (.slice A0_0 l0_0.length c0_0):=(blk_cell BK1.out 0).trans rfl;have hc11:w1.cell? ⟨gb1,1,none⟩=some (.slice A0_1 l0_1.length c0_1):=(blk_cell BK1.out 1).trans rfl;clear hbox1 hb1 hg1)
      | (go_at_call 50;(refine(impl_CanonOf.callsF k _ _ l0_0 _ _ l0_1 x0 x1 true w1 (HS.out.below HB1.out) HX.out).mono ?_);rintro e w2 ⟨B0,b0,B1,b1,rfl,hS,hb⟩;have HB2:=aM (below_step HB1.out hb);have HS2:=aM (Foot.mono hS (fun k hk=>Nat.le_trans (below_size HB1.out) hk));clear hc10 hc11 hb hS HB1 BK1)
      | ((with_reducible refine gate_dst (N:=4) rfl ?_);refine bEv (cs:=#[.slice none 0 0,.slice none 0 0]) (t:=27) ?_;intro gb4 hg4 w4 hbox4 hb4;have BK4:=aM hbox4;have HB4:=aM (below_step HB2.out hb4);have HG4:=aM (show w.heap.size≤gb4 by rw [hg4];exact below_size HB2.out);have HS4:=aM (SurfF.setBig HS2.out hb4 (Nat.le_of_eq hg4.symm) #[.slice B0 x0.length b0,.slice B1 x1.length b1]);clear hbox4 hb4 hg4 HB2 HS2)
      | (refine wpList_store_row rfl 27 (.tmp 4) (.tmp 16) rfl gb4 #[.slice B0 x0.length b0,.slice B1 x1.length b1] rfl rfl 27 #[.slice none 0 0,.slice none 0 0] BK4.out (by kernel_rfl) rfl (by simp [Value.oneCell']) ?_;have BK5:=aM (setRow_heap w4 gb4 _ #[.slice B0 x0.length b0,.slice B1 x1.length b1] _ _ BK4.out);have HB5:=aM (below_setRow HB4.out HG4.out #[.slice B0 x0.length b0,.slice B1 x1.length b1]);clear BK4 HB4;generalize w4.setRow gb4 #[.slice B0 x0.length b0,.slice B1 x1.length b1]=w5 at BK5 HB5 HS4 ⊢;have hc40:w5.cell? ⟨gb4,0,none⟩=some (.slice B0 x0.length b0):=(blk_cell BK5.out 0).trans rfl;have hc41:w5.cell? ⟨gb4,1,none⟩=some (.slice B1 x1.length b1):=(blk_cell BK5.out 1).trans rfl)
      | ((with_reducible refine gate_dst (N:=21) rfl ?_);refine Kd.N_lit k27 (w0:=w) w.heap.size 27 ?hg (N':=21) ?hd (xs:=[⟨x0,x1⟩]) (inner:=[.slice B0 x0.length b0,.slice B1 x1.length b1]) (ok:=fun k=>w.heap.size≤k) (okp:=fun k=>w.heap.size≤k) ?hr ?hp (fun _ hk=>hk) (below_size HB5.out) HB5.out (below_size HB5.out) (by simp) ?_;(case hd=>rfl);(case hg=>rfl);(case hr=>first|(go_simp;done)|(go_simp;rfl));(case hp=>exact(Reps.c2 (FK_surf HS4.out) (Reps.none _ _)));intro v0 w6 hl hb hg hat;obtain ⟨A0,c0,e0⟩:=Kd.N_slice hl;subst e0;have HB6:=aM hb;have HL:=aM hl;clear hl hb hg hat hc40 hc41)
      | ((with_reducible refine gate_dst (N:=22) rfl ?_);refine Kd.R_lit (Kd.string) (w0:=w) w.heap.size 9 ?hg (N:=22) ?hd (xs:=[(⟨#[]⟩:ByteArray)]) (inner:=[.string ⟨#[]⟩]) (ok:=fun _=>True) (okp:=fun _=>True) ?hr ?hp (fun _ hk=>hk) trivial HB6.out (below_size HB6.out) (by simp) ?_;(case hd=>rfl);(case hg=>rfl);(case hr=>first|(go_simp;done)|(go_simp;rfl));(case hp=>exact(Reps.one (show Kd.M (Kd.string) _ _ _ _ [.string ⟨#[]⟩] from rfl) (Reps.none _ _)));intro v1 w7 hl hb hg hat;obtain ⟨Av1,cv1,e0⟩:=Kd.R_slice hl;subst e0;have HB7:=aM hb;have HW:=aM hl;have GHW:=aM hg;have AHW:=aM hat;clear hl hb hg hat)
      | ((with_reducible refine gate_dst (N:=23) rfl ?_);refine Kd.R_lit (Kd.int .i64) (w0:=w) w.heap.size 3 ?hg (N:=23) ?hd (xs:=[(-1:Int)]) (inner:=[.int .i64 (-1)]) (ok:=fun _=>True) (okp:=fun _=>True) ?hr ?hp (fun _ hk=>hk) trivial HB7.out (below_size HB7.out) (by simp) ?_;(case hd=>rfl);(case hg=>rfl);(case hr=>first|(go_simp;done)|(go_simp;rfl));(case hp=>exact(Reps.one (show Kd.M (Kd.int .i64) _ _ _ _ [.int .i64 (-1)] from rfl) (Reps.none _ _)));intro v2 w8 hl hb hg hat;obtain ⟨Av2,cv2,e0⟩:=Kd.R_slice hl;subst e0;have HB8:=aM hb;have HF:=aM hl;have GHF:=aM hg;have AHF:=aM hat;clear hl hb hg hat)
      | ((with_reducible refine gate_dst (N:=24) rfl ?_);refine Kd.R_lit (Kd.int .u8) (w0:=w) w.heap.size 5 ?hg (N:=24) ?hd (xs:=[(0:Int)]) (inner:=[.int .u8 0]) (ok:=fun _=>True) (okp:=fun _=>True) ?hr ?hp (fun _ hk=>hk) trivial HB8.out (below_size HB8.out) (by simp) ?_;(case hd=>rfl);(case hg=>rfl);(case hr=>first|(go_simp;done)|(go_simp;rfl));(case hp=>exact(Reps.one (show Kd.M (Kd.int .u8) _ _ _ _ [.int .u8 0] from rfl) (Reps.none _ _)));intro v3 w9 hl hb hg hat;obtain ⟨Av3,cv3,e0⟩:=Kd.R_slice hl;subst e0;have HB9:=aM hb;have HY:=aM hl;have GHY:=aM hg;have AHY:=aM hat;clear hl hb hg hat)
      | ((with_reducible refine gate_dst (N:=27) rfl ?_);refine bEv (cs:=#[.slice A0 [(⟨x0,x1⟩:S27)].length c0,.slice Av1 [(⟨#[]⟩:ByteArray)].length cv1,.slice Av2 [(-1:Int)].length cv2,.slice Av3 [(0:Int)].length cv3,.map (some w9.heap.size)]) (t:=57) ?_;intro gb hg w10 hbox hb;have HO:=aM (OrbW.start HL.out HW.out HF.out HY.out GHW.out GHF.out GHY.out AHW.out AHF.out AHY.out (below_size HB6.out) hg hbox hb);have HB:=aM (below_step (bA HB9.out _) hb);clear hg hbox hb HL HW HF HY GHW GHF GHY AHW AHF AHY HB6 HB7 HB8 HB9 HB5 HS4 BK5))
    have hi0:OrbI 0 0 ⟨[⟨x0,x1⟩],[⟨#[]⟩],[-1],[0],[],[]⟩:=⟨by simp,rfl,rfl,rfl,by simp⟩
    have HI0:=aM hi0
    clear hi0
    generalize w9.heap.size=M at HO ⊢
    go_loopg [7] k (fun kq v7 w'=>∃ (i:Int) (v0 v1 v2 v3:Value) (u:Int→Value) (o:OrbV),v7 = .int .i64 i∧Aside0 (orbLoop kq i o=some r)∧Aside0 (0≤i)∧Aside0 (OrbI i 0 o)∧Aside0 (OrbW w.heap.size w' gb M v0 v1 v2 v3 u o)∧Aside0 (Below w.heap.size w w'))
    case atStart=>exact ⟨0,_,_,_,_,_,_,rfl,H,⟨Int.le_refl _⟩,HI0,HO,HB⟩
    case round =>
      clear H HO HB HI0
      obtain ⟨i,v0,v1,v2,v3,u,o,rfl,H,HI0,HI,HO,HB⟩:=hrel
      obtain ⟨k1,rfl⟩:∃ q,gk=q+1:=by
        cases gk with
        | zero=>exact absurd H.out (by simp [orbLoop])
        | succ q=>exact ⟨q,rfl⟩
      obtain ⟨A0,c0,e0⟩:=Kd.N_slice HO.out.l
      subst e0
      have hco:wr.cell? ⟨gb,0,none⟩=some (.slice A0 o.l.length c0):=(blk_cell HO.out.blk 0).trans rfl
      by_cases hlt:i<(o.l.length:Int)
      · have h:=H.out
        rw [orbLoop,if_pos hlt] at h
        have HR:=aM (show orbRest k1 i 0 o=some r by rw [orbRest,if_pos rfl];exact h)
        clear h H
        have c1:decide (i<(o.l.length:Int))=true:=decide_eq_true hlt
        have HLT:=aM hlt
        clear hlt
        have HIR:=aM (show 0≤i∧i<120 from ⟨HI0.out,by have:=HI.out.l;have:=HLT.out;omega⟩)
        go_wp2
        have hgl:Letters (wr.alloc (.cells #[.int .u8 84,.int .u8 83] 5 (0,0))) wr.heap.size v3:=⟨heap_new _ _,fun e=>Nat.lt_irrefl _ (Kd.R_lt HO.out.bs _ e.symm)⟩
        have HGL:=aM hgl
        clear hgl
        generalize wr.heap.size=gl at HGL ⊢
        go_loopg [39] 2 (fun jq v39 w'=>∃ (j:Nat) (v0 v1 v2 v3:Value) (u:Int→Value) (o:OrbV),v39 = .int .i64 (j:Int)∧Aside0 (j+jq=2)∧Aside0 (orbRest k1 i j o=some r)∧Aside0 (OrbI i j o)∧Aside0 (i<(o.l.length:Int))∧Aside0 (OrbW w.heap.size w' gb M v0 v1 v2 v3 u o)∧Aside0 (Letters w' gl v3)∧Aside0 (Below w.heap.size w w'))
        case atStart=>exact ⟨0,_,_,_,_,_,_,rfl,⟨rfl⟩,HR,HI,HLT,⟨HO.out.below (below_alloc (Below.refl _ _) _)⟩,HGL,⟨bA HB.out _⟩⟩
        case round =>
          clear HR HI HLT HO HB hco HI0 c1 HGL
          obtain ⟨j,v0,v1,v2,v3,u,o,rfl,HJ,HR,HI,HLT,HO,HL,HB⟩:=hrel
          by_cases hj:j<2
          · obtain ⟨a,ha,hnext⟩:=orbRest_step HR.out hj
            have hc:=letter_or (j:=(j:Int)) (by omega) (by omega)
            have hcl:=HL.out.at hj
            generalize rd [84,83] (j:Int)=c at ha hc hcl
            have HC:=aM hc
            have HN:=aM hnext
            clear hc hnext HR
            unfold orbLet at ha
            obtain ⟨⟨y0,y1⟩,hy,ha⟩:=oB ha
            obtain ⟨⟨x0,x1,okx⟩,hx,ha⟩:=oB ha
            obtain ⟨t,ht,ha⟩:=oB ha
            obtain ⟨A0,c0,e0⟩:=Kd.N_slice HO.out.l
            subst e0
            have hco:wr.cell? ⟨gb,0,none⟩=some (.slice A0 o.l.length c0):=(blk_cell HO.out.blk 0).trans rfl
            have hadr:∀ a,A0=some a→okO w.heap.size gb M v1 v2 v3 u a.block∧a.block<wr.heap.size:=fun a ha=>by
              subst ha
              exact ⟨HO.out.l.1 _ rfl,Kd.N_lt HO.out.l _ rfl⟩
            have HADR:=aM hadr
            obtain ⟨ad2,C0,d0,C1,d1,e2,hy0,hy1,gy⟩:=surf_elem (Kd.N_F HO.out.l) hadr i HIR.out.1 HLT.out
            cases e2
            have GY:=aM gy
            clear gy hadr
            have HLS:=aM hy
            have HCN:=aM hx
            have HT:=aM ht
            have HA:=aM ha
            clear hy hx ht ha
            generalize rd_T27 o.l i=z at HLS hy0 hy1 GY
            have c2:decide ((j:Int)<2)=true:=decide_eq_true (by omega)
            have p0:decide (0≤(j:Int))=true:=decide_eq_true (by omega)
            have p1:decide (0≤i)=true:=decide_eq_true HIR.out.1
            have p2:decide (i<(o.l.length:Int))=true:=decide_eq_true HLT.out
            have p3:=eq_true HIR.out.1
            have p4:=eq_true HLT.out
            obtain ⟨q1,rfl⟩:∃ q,gk=q+1:=⟨gk - 1,by have:=HJ.out;omega⟩
            have HJ2:=aM hj
            have HW:=aM (show wrap64 ((j:Int)+1)=((j+1:Nat):Int) by unfold wrap64;omega)
            have p5:=eq_true (show (j:Int)<2 by omega)
            replace hj:=eq_true hj
            by_cases hneg:t<0
            · have q0:decide (t<0)=true:=decide_eq_true hneg
              by_cases hfull:(o.l.length:Int)=120
              · have q1_:((o.l.length:Int) == 120)=true:=beq_iff_eq.2 hfull
                have hr:r=none:=by
                  have h:=HA.out
                  rw [if_pos hneg,if_pos hfull] at h
                  rcases HN.out with ⟨_,h2⟩|⟨o1,h1,_⟩
                  · exact h2
                  · rw [h1] at h;cases h
                subst hr
                have p7:=eq_true HIR.out.2
                have p8:decide (i<120)=true:=decide_eq_true HIR.out.2
                clear hneg HA HN hfull
                go_wp2_with (first
                  | (go_at_call 51;(refine(impl_letterSurface.calls k1 C0 d0 z.f0 C1 d1 z.f1 c y0 y1 wr (Foot.now GY.out).g0 (Foot.now GY.out).l0 (Foot.now GY.out).g1 (Foot.now GY.out).l1 HLS.out).mono ?_);rintro e w1 ⟨q0_,q1_,rfl,hr0,hr1,hb⟩;obtain ⟨D0,f0,rfl⟩:=Kd.R_slice hr0;obtain ⟨D1,f1,rfl⟩:=Kd.R_slice hr1;have HY:=aM (show SurfC w1 D0 D1 f0 f1 y0 y1 from ⟨(Kd.R_reads' hr0).2.1,(Kd.R_reads' hr0).2.2,(Kd.R_reads' hr1).2.1,(Kd.R_reads' hr1).2.2⟩);have HB1:=aM hb;clear hr0 hr1 hb)
                  | (go_at_call 50;(refine(impl_CanonOf.callsF k1 D0 f0 y0 D1 f1 y1 x0 x1 okx w1 HY.out HCN.out).mono ?_);rintro e w2 ⟨B0,b0,B1,b1,rfl,hS,hb⟩;have HB2:=aM (below_step HB1.out hb);have HS2:=aM (Foot.mono hS (fun k hk=>Nat.le_trans (below_size HB1.out) hk));clear hS hb HB1 HY)
                  | ((with_reducible refine gate_dst (N:=10) rfl ?_);refine bEv (cs:=#[.slice none 0 0,.slice none 0 0]) (t:=27) ?_;intro gx hgx w3 hbox hb;have BX3:=aM hbox;have HB3:=aM (below_step HB2.out hb);have HGX:=aM (show wr.heap.size≤gx by rw [hgx];exact below_size HB2.out);have HS3:=aM (SurfF.setBig HS2.out hb (Nat.le_of_eq hgx.symm) #[.slice B0 x0.length b0,.slice B1 x1.length b1]);clear hbox hb hgx HB2 HS2)
                  | (refine wpList_store_row rfl 27 (.tmp 10) (.tmp 54) rfl gx #[.slice B0 x0.length b0,.slice B1 x1.length b1] rfl rfl 27 #[.slice none 0 0,.slice none 0 0] BX3.out (by kernel_rfl) rfl (by simp [Value.oneCell']) ?_;have BX:=aM (setRow_heap w3 gx _ #[.slice B0 x0.length b0,.slice B1 x1.length b1] _ _ BX3.out);have HBX:=aM (below_setRow HB3.out HGX.out #[.slice B0 x0.length b0,.slice B1 x1.length b1]);clear BX3 HB3;generalize w3.setRow gx #[.slice B0 x0.length b0,.slice B1 x1.length b1]=w4 at BX HBX HS3 ⊢;have hcx0:w4.cell? ⟨gx,0,none⟩=some (.slice B0 x0.length b0):=(blk_cell BX.out 0).trans rfl;have hcx1:w4.cell? ⟨gx,1,none⟩=some (.slice B1 x1.length b1):=(blk_cell BX.out 1).trans rfl)
                  | (go_at_call 52;(refine(index_calls k1 gb #[] (some ad2) c0 o.l B0 B1 b0 b1 x0 x1 t w4 _ ((blk_cell (HO.out.below HBX.out).blk 0).trans rfl) (Kd.N_F (HO.out.below HBX.out).l) (fun a ha=>⟨(HADR.out a ha).1,Nat.lt_of_lt_of_le (HADR.out a ha).2 (below_size HBX.out)⟩) (Nat.le_trans HI.out.l (by decide)) (Foot.now HS3.out) HT.out).mono ?_);rintro e w5 ⟨rfl,hb⟩;have HB5:=aM (below_step HBX.out hb);have HS5:=aM (SurfF.belowF HS3.out hb);have BX5:=aM (blk_below BX.out hb);have hco5:w5.cell? ⟨gb,0,none⟩=some (.slice (some ad2) o.l.length c0):=(blk_cell (HO.out.below HB5.out).blk 0).trans rfl;clear hb HBX HS3 BX hcx0 hcx1))
                go_ret2
                exact ⟨below_step HB.out HB5.out,rfl⟩
              · have q1_:((o.l.length:Int) == 120)=false:=beq_eq_false_iff_ne.2 hfull
                have hr:i<(o.ws.length:Int)∧(rdOf ByteArray.empty o.ws i).size≤1000∧orbRest k1 i (j+1) (orbPut c o.l.length ({ o with l:=o.l ++ [⟨x0,x1⟩],ws:=o.ws ++ [rdOf ByteArray.empty o.ws i ++ strOfNums [c]],fr:=o.fr ++ [i],bs:=o.bs ++ [c] }:OrbV))=some r:=by
                  have h:=HA.out
                  rw [if_pos hneg,if_neg hfull] at h
                  split at h
                  · rename_i hw
                    split at h
                    · rename_i hsz
                      refine ⟨hw,hsz,?_⟩
                      rcases HN.out with ⟨h1,_⟩|⟨o1,h1,h2⟩
                      · rw [h1] at h;cases h
                      · rw [h1] at h
                        rw [Option.some.inj (Option.some.inj h)]
                        exact h2
                    · cases h
                  · cases h
                have HR:=aM hr.2.2
                have HWS:=aM (And.intro hr.1 hr.2.1)
                have HFULL:=aM hfull
                clear hneg hr HA HN hfull
                go_wp2_with (first
                  | (go_at_call 51;(refine(impl_letterSurface.calls k1 C0 d0 z.f0 C1 d1 z.f1 c y0 y1 wr (Foot.now GY.out).g0 (Foot.now GY.out).l0 (Foot.now GY.out).g1 (Foot.now GY.out).l1 HLS.out).mono ?_);rintro e w1 ⟨q0_,q1_,rfl,hr0,hr1,hb⟩;obtain ⟨D0,f0,rfl⟩:=Kd.R_slice hr0;obtain ⟨D1,f1,rfl⟩:=Kd.R_slice hr1;have HY:=aM (show SurfC w1 D0 D1 f0 f1 y0 y1 from ⟨(Kd.R_reads' hr0).2.1,(Kd.R_reads' hr0).2.2,(Kd.R_reads' hr1).2.1,(Kd.R_reads' hr1).2.2⟩);have HB1:=aM hb;clear hr0 hr1 hb)
                  | (go_at_call 50;(refine(impl_CanonOf.callsF k1 D0 f0 y0 D1 f1 y1 x0 x1 okx w1 HY.out HCN.out).mono ?_);rintro e w2 ⟨B0,b0,B1,b1,rfl,hS,hb⟩;have HB2:=aM (below_step HB1.out hb);have HS2:=aM (Foot.mono hS (fun k hk=>Nat.le_trans (below_size HB1.out) hk));clear hS hb HB1 HY)
                  | ((with_reducible refine gate_dst (N:=10) rfl ?_);refine bEv (cs:=#[.slice none 0 0,.slice none 0 0]) (t:=27) ?_;intro gx hgx w3 hbox hb;have BX3:=aM hbox;have HB3:=aM (below_step HB2.out hb);have HGX:=aM (show wr.heap.size≤gx by rw [hgx];exact below_size HB2.out);have HS3:=aM (SurfF.setBig HS2.out hb (Nat.le_of_eq hgx.symm) #[.slice B0 x0.length b0,.slice B1 x1.length b1]);clear hbox hb hgx HB2 HS2)
                  | (refine wpList_store_row rfl 27 (.tmp 10) (.tmp 54) rfl gx #[.slice B0 x0.length b0,.slice B1 x1.length b1] rfl rfl 27 #[.slice none 0 0,.slice none 0 0] BX3.out (by kernel_rfl) rfl (by simp [Value.oneCell']) ?_;have BX:=aM (setRow_heap w3 gx _ #[.slice B0 x0.length b0,.slice B1 x1.length b1] _ _ BX3.out);have HBX:=aM (below_setRow HB3.out HGX.out #[.slice B0 x0.length b0,.slice B1 x1.length b1]);clear BX3 HB3;generalize w3.setRow gx #[.slice B0 x0.length b0,.slice B1 x1.length b1]=w4 at BX HBX HS3 ⊢;have hcx0:w4.cell? ⟨gx,0,none⟩=some (.slice B0 x0.length b0):=(blk_cell BX.out 0).trans rfl;have hcx1:w4.cell? ⟨gx,1,none⟩=some (.slice B1 x1.length b1):=(blk_cell BX.out 1).trans rfl)
                  | (go_at_call 52;(refine(index_calls k1 gb #[] (some ad2) c0 o.l B0 B1 b0 b1 x0 x1 t w4 _ ((blk_cell (HO.out.below HBX.out).blk 0).trans rfl) (Kd.N_F (HO.out.below HBX.out).l) (fun a ha=>⟨(HADR.out a ha).1,Nat.lt_of_lt_of_le (HADR.out a ha).2 (below_size HBX.out)⟩) (Nat.le_trans HI.out.l (by decide)) (Foot.now HS3.out) HT.out).mono ?_);rintro e w5 ⟨rfl,hb⟩;have HB5:=aM (below_step HBX.out hb);have HS5:=aM (SurfF.belowF HS3.out hb);have BX5:=aM (blk_below BX.out hb);have hco5:w5.cell? ⟨gb,0,none⟩=some (.slice (some ad2) o.l.length c0):=(blk_cell (HO.out.below HB5.out).blk 0).trans rfl;clear hb HBX HS3 BX hcx0 hcx1))
                have HO5:=aM (OrbW.below HO.out HB5.out)
                have HB5x:=aM (below_step HB.out HB5.out)
                have HL5:=aM (Letters.below HL.out HB5.out)
                have HFR:=aM (fun k (hk:wr.heap.size≤k)=>HO.out.fresh hk)
                clear HO HB HL HB5 hco hcl hy0 hy1 hco5
                refine start_ (n:=11) (S:=fun w'=>w'.cell? ⟨gb,0,none⟩=some (.slice (some ad2) o.l.length c0)∧w'.cell? ⟨gx,0,none⟩=some (.slice B0 x0.length b0)∧w'.cell? ⟨gx,1,none⟩=some (.slice B1 x1.length b1)) (ds:=[7,10]) #[ff,ff,ff,ff,ff,ff,ff,ff,ff,ff,ff] (by kernel_rfl) rfl rfl ⟨(blk_cell (blk_below HO5.out.blk (below_drew (Below.refl _ _))) 0).trans rfl,(blk_cell (blk_below BX5.out (below_drew (Below.refl _ _))) 0).trans rfl,(blk_cell (blk_below BX5.out (below_drew (Below.refl _ _))) 1).trans rfl⟩ (fun hHeld => ?_)
                have HOd:=aM (OrbW.below HO5.out (below_drew (Below.refl _ _)))
                have HBd:=aM (bD HB5x.out)
                have HLd:=aM (Letters.below HL5.out (below_drew (Below.refl _ _)))
                have HSd:=aM (SurfF.belowF HS5.out (below_drew (Below.refl _ _)))
                have HXd:=aM (blk_below BX5.out (below_drew (Below.refl _ _)))
                clear HO5 HB5x HL5 HS5 BX5
                generalize w5.drew=wd at HOd HBd HLd HSd HXd hHeld ⊢
                refine pH 0 68 (fl 11 1) rfl rfl ?_
                refine pH 1 69 (fl 11 3) rfl rfl ?_
                refine pH 2 70 (fl 11 7) rfl rfl ?_
                refine pH 3 71 (fl 11 15) rfl rfl ?_
                refine tH3 4 72 (fl 11 31) rfl rfl hHeld ?_
                refine tH3 5 73 (fl 11 63) rfl rfl hHeld ?_
                refine one_ (i:=6) (N:=some 74) #[tt,tt,tt,tt,tt,tt,tt,ff,ff,ff,ff] rfl rfl (by kernel_rfl) (by decide) (fun K hK => ?_)
                refine value_ (w1:=?_) (v:=?_) (by rfl) rfl ?_ ?_
                rotate_left 2
                · go_simp
                  constructor
                  · rfl
                  · rfl
                refine hK.out _ _ ⟨(blk_cell (blk_below HOd.out.blk (below_alloc (Below.refl _ _) _)) 0).trans rfl,(blk_cell (blk_below HXd.out (below_alloc (Below.refl _ _) _)) 0).trans rfl,(blk_cell (blk_below HXd.out (below_alloc (Below.refl _ _) _)) 1).trans rfl⟩ (fun hHeld => ?_)
                clear hK K
                refine nH 74 ?_
                refine last_ (i:=7) (N:=some 75) #[tt,tt,tt,tt,tt,tt,tt,tt,ff,ff,ff] rfl rfl (by kernel_rfl) (by decide) (fun K hK => ?_)
                refine Kd.N_append_step k27 (w0:=w) w.heap.size (by rfl) (.tmp 72) (.tmp 74) _ 27 (.agg #[(.slice none 0 0),(.slice none 0 0)]) 48 rfl (by kernel_rfl) info27 rfl (by decide) (by omega) (.slice (some ad2) o.l.length c0) o.l (⟨x0,x1⟩:S27) [.slice B0 x0.length b0,.slice B1 x1.length b1] (okO w.heap.size gb M v1 v2 v3 u) (fun k=>wr.heap.size≤k) rfl rfl (FK_surf HSd.out) (fun k hk=>HFR.out k hk) (fun k hk=>(HOd.out.fresh hk).1) HOd.out.l HBd.out (below_size HBd.out) (by have:=HI.out.l;omega) ?_
                intro vn we hl hb hg hat
                obtain ⟨An,cn,e0⟩:=Kd.N_slice hl
                subst e0
                have hcs:we.cell? ⟨gb,0,none⟩=some (.slice (some ad2) o.l.length c0):=(blk_cell (HOd.out.blk1 hg (fun k hk=>(HOd.out.offN k hk).1)) 0).trans rfl
                have hfz:we.frozen? ⟨gb,0,none⟩=false:=blk_frozen (HOd.out.blk1 hg (fun k hk=>(HOd.out.offN k hk).1)) 0
                have HO2:=aM (HOd.out.put0 hl hg)
                have HB2:=aM (below_set (g:=gb) (j:=0) (v:=.slice An (o.l ++ [(⟨x0,x1⟩:S27)]).length cn) hb HOd.out.hB)
                have HL2:=aM (HLd.out.put HOd.out hg (Kd.N_ne HOd.out.l HLd.out.blk (by decide)) (Or.inl rfl) 0 (.slice An (o.l ++ [(⟨x0,x1⟩:S27)]).length cn))
                clear hl hb hg hat
                refine hK.out _ _ ?_
                clear hK K
                refine nH 75 ?_
                refine pH 8 76 (fl 11 511) rfl rfl ?_
                refine pH 9 77 (fl 11 1023) rfl rfl ?_
                refine last_ (i:=10) (N:=none) #[tt,tt,tt,tt,tt,tt,tt,tt,tt,tt,tt] rfl rfl (by kernel_rfl) (by decide) (fun K hK => ?_)
                refine skip_ (w1:=we.setCell ⟨gb,0,none⟩ (.slice An (o.l ++ [(⟨x0,x1⟩:S27)]).length cn)) (by rfl) rfl (by first|(go_simp;done)|(go_simp;rfl)) ?_
                refine hK.out _ _ ?_
                clear hK K
                refine done_ (by kernel_rfl) ?_
                clear hcs hfz HOd HBd HLd HSd HXd hHeld
                generalize we.setCell ⟨gb,0,none⟩ (.slice An (o.l ++ [(⟨x0,x1⟩:S27)]).length cn)=wz1 at HO2 HB2 HL2 ⊢
                go_wp2
                obtain ⟨Aw,cw,e0⟩:=Kd.R_slice HO2.out.ws
                subst e0
                obtain ⟨adw,e1,hxw⟩:=Kd.at_string (Kd.R_reads' HO2.out.ws).2.2 i HIR.out.1 HWS.out.1
                cases e1
                have p6:=eq_true HWS.out.1
                have p9:=eq_false (show ¬ 9223372036854775807<(rdOf ByteArray.empty o.ws i).size+(strOfNums [c]).size by have:=HWS.out.2;have:(strOfNums [c]).size=1:=rfl;omega)
                refine start_ (n:=21) (S:=fun w'=>w'.cell? ⟨gb,1,none⟩=some (.slice (some adw) o.ws.length cw)∧w'.cell? (adw.add i.toNat)=some (.string (rdOf ByteArray.empty o.ws i))) (ds:=[17,20]) #[ff,ff,ff,ff,ff,ff,ff,ff,ff,ff,ff,ff,ff,ff,ff,ff,ff,ff,ff,ff,ff] (by kernel_rfl) rfl rfl (held2 (below_drew (Below.refl _ _)) ((blk_cell HO2.out.blk 1).trans rfl) hxw) (fun hHeld => ?_)
                have HOd:=aM (OrbW.below HO2.out (below_drew (Below.refl _ _)))
                have HBd:=aM (bD HB2.out)
                have HLd:=aM (Letters.below HL2.out (below_drew (Below.refl _ _)))
                clear HO2 HB2 HL2
                generalize wz1.drew=wd at HOd HBd HLd hHeld ⊢
                refine pH 0 78 (fl 21 1) rfl rfl ?_
                refine pH 1 79 (fl 21 3) rfl rfl ?_
                refine pH 2 80 (fl 21 7) rfl rfl ?_
                refine pH 3 81 (fl 21 15) rfl rfl ?_
                refine pH 5 83 (fl 21 47) rfl rfl ?_
                refine pH 6 84 (fl 21 111) rfl rfl ?_
                refine pH 7 85 (fl 21 239) rfl rfl ?_
                refine pH 9 87 (fl 21 751) rfl rfl ?_
                refine pH 12 90 (fl 21 4847) rfl rfl ?_
                refine tH2 4 82 (fl 21 4863) rfl rfl hHeld ?_
                refine tH2 8 86 (fl 21 5119) rfl rfl hHeld ?_
                refine pH 10 88 (fl 21 6143) rfl rfl ?_
                refine tH2 11 89 (fl 21 8191) rfl rfl hHeld ?_
                refine one_ (i:=13) (N:=some 91) #[tt,tt,tt,tt,tt,tt,tt,tt,tt,tt,tt,tt,tt,tt,ff,ff,ff,ff,ff,ff,ff] rfl rfl (by kernel_rfl) (by decide) (fun K hK => ?_)
                refine Kd.R_lit_step (Kd.int .u8) _ 5 ?hg (N:=91) ?hd (xs:=([c]:List Int)) (inner:=[.int .u8 c]) (ok:=fun _=>True) (okp:=fun _=>True) ?hr ?hp (fun _ hk=>hk) trivial (Below.refl _ _) (Nat.le_refl _) (by simp) ?_;(case hd=>rfl);(case hg=>rfl);(case hr=>first|(go_simp;done)|(go_simp;rfl));(case hp=>exact(Reps.one (show Kd.M (Kd.int .u8) _ _ _ c [.int .u8 c] from rfl) (Reps.none _ _)))
                intro vb wb hbo hbb hbg hbn
                have hh:=held2 hbb hHeld.1 hHeld.2
                have HOb:=aM (HOd.out.below hbb)
                have HBb:=aM (below_step HBd.out hbb)
                have HLb:=aM (Letters.below HLd.out hbb)
                have HVb:=aM hbo
                clear HOd HBd HLd hbo hbb hbg hbn
                refine hK.out _ _ hh (fun hHeld => ?_)
                clear hK K
                refine nH 91 ?_
                refine one_ (i:=14) (N:=some 92) #[tt,tt,tt,tt,tt,tt,tt,tt,tt,tt,tt,tt,tt,tt,tt,ff,ff,ff,ff,ff,ff] rfl rfl (by kernel_rfl) (by decide) (fun K hK => ?_)
                have hcv:=own_string (P:=Try.prog) Try.underlying31 Try.underlying5 Try.underlying9 (Kd.own_of_R HVb.out)
                refine value_ (w1:=?_) (v:=?_) (by rfl) rfl ?_ ?_
                rotate_left 2
                · go_simp
                  constructor
                  · rfl
                  · rfl
                refine hK.out _ _ hHeld (fun hHeld => ?_)
                clear hK K
                refine nH 92 ?_
                refine pH 15 93 (fl 21 65535) rfl rfl ?_
                refine one_ (i:=16) (N:=some 94) #[tt,tt,tt,tt,tt,tt,tt,tt,tt,tt,tt,tt,tt,tt,tt,tt,tt,ff,ff,ff,ff] rfl rfl (by kernel_rfl) (by decide) (fun K hK => ?_)
                refine value_ (w1:=?_) (v:=?_) (by rfl) rfl ?_ ?_
                rotate_left 2
                · go_simp
                  constructor
                  · rfl
                  · rfl
                refine hK.out _ _ (held2 (below_alloc (Below.refl _ _) _) hHeld.1 hHeld.2) (fun hHeld => ?_)
                clear hK K
                refine nH 94 ?_
                refine last_ (i:=17) (N:=some 95) #[tt,tt,tt,tt,tt,tt,tt,tt,tt,tt,tt,tt,tt,tt,tt,tt,tt,tt,ff,ff,ff] rfl rfl (by kernel_rfl) (by decide) (fun K hK => ?_)
                refine Kd.R_append_step Kd.string (w0:=w) w.heap.size (by rfl) (.tmp 82) (.tmp 94) 33 9 (.string ⟨#[]⟩) 16 rfl Try.underlying33 info9 rfl (by decide) (by omega) (.slice (some adw) o.ws.length cw) o.ws (rdOf ByteArray.empty o.ws i ++ strOfNums [c]) [.string (rdOf ByteArray.empty o.ws i ++ strOfNums [c])] (fun _=>True) (fun _=>False) rfl rfl rfl (fun _ hk=>hk.elim) (fun _ _=>trivial) HOb.out.ws HBb.out (below_size HBb.out) (by have:=HI.out.ws;have:=HI.out.l;omega) ?_
                intro vn we hl hb hg hat
                obtain ⟨An,cn,e0⟩:=Kd.R_slice hl
                subst e0
                have hcs:we.cell? ⟨gb,1,none⟩=some (.slice (some adw) o.ws.length cw):=(blk_cell (HOb.out.blk1 hg (fun k hk=>(HOb.out.offR HOb.out.ws (by decide) k hk).1)) 1).trans rfl
                have hfz:we.frozen? ⟨gb,1,none⟩=false:=blk_frozen (HOb.out.blk1 hg (fun k hk=>(HOb.out.offR HOb.out.ws (by decide) k hk).1)) 1
                have HO3:=aM (HOb.out.put1 hl hg hat)
                have HB3:=aM (below_set (g:=gb) (j:=1) (v:=.slice An (o.ws ++ [(rdOf ByteArray.empty o.ws i ++ strOfNums [c])]).length cn) hb HOb.out.hB)
                have HL3:=aM (HLb.out.put HOb.out hg (HLb.out.offR HOb.out.ws (by decide)) (Or.inl rfl) 1 (.slice An (o.ws ++ [(rdOf ByteArray.empty o.ws i ++ strOfNums [c])]).length cn))
                clear hl hb hg hat
                refine hK.out _ _ ?_
                clear hK K
                refine nH 95 ?_
                refine pH 18 96 (fl 21 524287) rfl rfl ?_
                refine pH 19 97 (fl 21 1048575) rfl rfl ?_
                refine last_ (i:=20) (N:=none) #[tt,tt,tt,tt,tt,tt,tt,tt,tt,tt,tt,tt,tt,tt,tt,tt,tt,tt,tt,tt,tt] rfl rfl (by kernel_rfl) (by decide) (fun K hK => ?_)
                refine skip_ (w1:=we.setCell ⟨gb,1,none⟩ (.slice An (o.ws ++ [(rdOf ByteArray.empty o.ws i ++ strOfNums [c])]).length cn)) (by rfl) rfl (by first|(go_simp;done)|(go_simp;rfl)) ?_
                refine hK.out _ _ ?_
                clear hK K
                refine done_ (by kernel_rfl) ?_
                clear hcs hfz HOb HBb HLb HVb hHeld hxw
                generalize we.setCell ⟨gb,1,none⟩ (.slice An (o.ws ++ [(rdOf ByteArray.empty o.ws i ++ strOfNums [c])]).length cn)=wz2 at HO3 HB3 HL3 ⊢
                obtain ⟨Aw,cAw,e0⟩:=Kd.R_slice HO3.out.fr
                subst e0
                obtain ⟨Ay,cAy,e0⟩:=Kd.R_slice HO3.out.bs
                subst e0
                have hcf:wz2.cell? ⟨gb,2,none⟩=some (.slice Aw o.fr.length cAw):=(blk_cell HO3.out.blk 2).trans rfl
                go_wp2_with (first
                  | ((with_reducible refine gate_builtin (b:=.append) (xs:=#[.tmp 102,.tmp 104]) rfl ?_);at_builtin;refine Kd.R_append (Kd.int .i64) (w0:=w) w.heap.size rfl (.tmp 102) (.tmp 104) 22 3 (.int .i64 0) 8 rfl Try.underlying22 info3 rfl (by decide) (by omega) (.slice Aw o.fr.length cAw) o.fr i [.int .i64 i] (fun _=>True) (fun _=>False) rfl rfl rfl (fun _ hk=>hk.elim) (fun _ _=>trivial) HO3.out.fr HB3.out (below_size HB3.out) (by have:=HI.out.fr;have:=HI.out.l;omega) ?_;intro vn we3 hl hb hg hat;obtain ⟨An,cn,e0⟩:=Kd.R_slice hl;subst e0;have hcs:we3.cell? ⟨gb,2,none⟩=some (.slice Aw o.fr.length cAw):=(blk_cell (HO3.out.blk1 hg (fun k hk=>(HO3.out.offR HO3.out.fr (by decide) k hk).1)) 2).trans rfl;have hfz:we3.frozen? ⟨gb,2,none⟩=false:=blk_frozen (HO3.out.blk1 hg (fun k hk=>(HO3.out.offR HO3.out.fr (by decide) k hk).1)) 2;have HO4:=aM (HO3.out.put2 hl hg hat);have HB4:=aM (below_set (g:=gb) (j:=2) (v:=.slice An (o.fr ++ [i]).length cn) hb HO3.out.hB);have HL4:=aM (HL3.out.put HO3.out hg (HL3.out.offR HO3.out.fr (by decide)) (Or.inl rfl) 2 (.slice An (o.fr ++ [i]).length cn));clear hl hb hg hat hcf)
                  | ((with_reducible refine gate_store (t:=22) (p:=107) rfl ?_);refine store_event (t:=22) (p:=107) (v:=?vo) (w1:=we3.setCell ⟨gb,2,none⟩ (.slice An (o.fr ++ [i]).length cn)) ?hg ?ho ?hn ?hr ?_;(case ho=>rfl);(case hg=>rfl);(case hn=>rfl);(case hr=>first|(go_simp;done)|(go_simp;rfl));intro wz3 hw;rw [← hw] at HO4 HB4 HL4;clear hw hcs hfz HO3 HB3 HL3;have hcf:wz3.cell? ⟨gb,3,none⟩=some (.slice Ay o.bs.length cAy):=(blk_cell HO4.out.blk 3).trans rfl)
                  | ((with_reducible refine gate_builtin (b:=.append) (xs:=#[.tmp 112,.tmp 114]) rfl ?_);at_builtin;refine Kd.R_append (Kd.int .u8) (w0:=w) w.heap.size rfl (.tmp 112) (.tmp 114) 31 5 (.int .u8 0) 1 rfl Try.underlying31 info5 rfl (by decide) (by omega) (.slice Ay o.bs.length cAy) o.bs c [.int .u8 c] (fun _=>True) (fun _=>False) rfl rfl rfl (fun _ hk=>hk.elim) (fun _ _=>trivial) HO4.out.bs HB4.out (below_size HB4.out) (by have:=HI.out.bs;have:=HI.out.l;omega) ?_;intro vn we4 hl hb hg hat;obtain ⟨An,cn,e0⟩:=Kd.R_slice hl;subst e0;have hcs:we4.cell? ⟨gb,3,none⟩=some (.slice Ay o.bs.length cAy):=(blk_cell (HO4.out.blk1 hg (fun k hk=>(HO4.out.offR HO4.out.bs (by decide) k hk).1)) 3).trans rfl;have hfz:we4.frozen? ⟨gb,3,none⟩=false:=blk_frozen (HO4.out.blk1 hg (fun k hk=>(HO4.out.offR HO4.out.bs (by decide) k hk).1)) 3;have HO5:=aM (HO4.out.put3 hl hg hat);have HB5x:=aM (below_set (g:=gb) (j:=3) (v:=.slice An (o.bs ++ [c]).length cn) hb HO4.out.hB);have HL5:=aM (HL4.out.put HO4.out hg HL4.out.ne (Or.inr hat) 3 (.slice An (o.bs ++ [c]).length cn));clear hl hb hg hat hcf)
                  | ((with_reducible refine gate_store (t:=31) (p:=117) rfl ?_);refine store_event (t:=31) (p:=117) (v:=?vo) (w1:=we4.setCell ⟨gb,3,none⟩ (.slice An (o.bs ++ [c]).length cn)) ?hg ?ho ?hn ?hr ?_;(case ho=>rfl);(case hg=>rfl);(case hn=>rfl);(case hr=>first|(go_simp;done)|(go_simp;rfl));intro wz4 hw;rw [← hw] at HO5 HB5x HL5;clear hw hcs hfz HO4 HB4 HL4;skip))
                rw [show (o.bs ++ [c]).length=o.bs.length+1 by simp] at HO5 HB5x HL5
                generalize we4.setCell ⟨gb,3,none⟩ (.slice An (o.bs.length+1) cn)=wz4 at HO5 HB5x HL5 ⊢
                obtain ⟨oN,eN⟩:∃ oN,oN=({ o with l:=o.l ++ [⟨x0,x1⟩],ws:=o.ws ++ [rdOf ByteArray.empty o.ws i ++ strOfNums [c]],fr:=o.fr ++ [i],bs:=o.bs ++ [c] }:OrbV):=⟨_,rfl⟩
                have HO6:=aM (show OrbW w.heap.size wz4 gb M _ _ _ _ u oN by rw [eN];exact HO5.out)
                have HR4:=aM (show orbRest k1 i (j+1) (orbPut c o.l.length oN)=some r by rw [eN];exact HR.out)
                have HI4:=aM (show OrbI i j oN by rw [eN];exact HI.out.more (by have:=HFULL.out;omega) _ _ _ _)
                have HLT4:=aM (show i<(oN.l.length:Int) by rw [eN];have:=HLT.out;simp only [List.length_append,List.length_singleton];omega)
                have HNX:=aM (HI4.out.nxl HIR.out.2 HJ2.out c)
                clear eN HO5 HR HI HLT
                refine start_ (n:=15) (S:=fun w'=>w'.cell? ⟨gb,4,none⟩=some (.map (some M))∧(Instr.lookup 55 (.map (some M)) (.int .u8 c) false).run Try.prog w' = .ok (u c) w') (ds:=[14]) #[ff,ff,ff,ff,ff,ff,ff,ff,ff,ff,ff,ff,ff,ff,ff] (by kernel_rfl) rfl rfl (OrbW.held (OrbW.below HO6.out (below_drew (Below.refl _ _))) HC.out) (fun hHeld => ?_)
                have HOd:=aM (OrbW.below HO6.out (below_drew (Below.refl _ _)))
                have HBd:=aM (bD HB5x.out)
                have HLd:=aM (Letters.below HL5.out (below_drew (Below.refl _ _)))
                clear HO6 HB5x HL5
                generalize wz4.drew=wd at HOd HBd HLd hHeld ⊢
                refine pH 0 118 (fl 15 1) rfl rfl ?_
                refine pH 1 119 (fl 15 3) rfl rfl ?_
                refine pH 2 120 (fl 15 7) rfl rfl ?_
                refine pH 4 122 (fl 15 23) rfl rfl ?_
                refine pH 5 123 (fl 15 55) rfl rfl ?_
                refine pH 6 124 (fl 15 119) rfl rfl ?_
                refine pH 7 125 (fl 15 247) rfl rfl ?_
                refine pH 9 127 (fl 15 759) rfl rfl ?_
                refine pH 11 129 (fl 15 2807) rfl rfl ?_
                refine tH2 3 121 (fl 15 2815) rfl rfl hHeld ?_
                refine tH2 8 126 (fl 15 3071) rfl rfl hHeld ?_
                refine tH2 10 128 (fl 15 4095) rfl rfl hHeld ?_
                refine one_ (i:=12) (N:=some 130) #[tt,tt,tt,tt,tt,tt,tt,tt,tt,tt,tt,tt,tt,ff,ff] rfl rfl (by kernel_rfl) (by decide) (fun K hK => ?_)
                refine value_ (w1:=?_) (v:=?_) (by rfl) rfl ?_ ?_
                rotate_left 2
                · go_simp
                  constructor
                  · rfl
                  · rfl
                refine hK.out _ _ (OrbW.held (OrbW.below HOd.out (below_alloc (Below.refl _ _) _)) HC.out) (fun hHeld => ?_)
                clear hK K
                refine nH 130 ?_
                refine one_ (i:=13) (N:=some 131) #[tt,tt,tt,tt,tt,tt,tt,tt,tt,tt,tt,tt,tt,tt,ff] rfl rfl (by kernel_rfl) (by decide) (fun K hK => ?_)
                refine Kd.R_append_step (Kd.int .i64) (w0:=w) w.heap.size (by rfl) (.tmp 128) (.tmp 130) 22 3 (.int .i64 0) 8 rfl Try.underlying22 info3 rfl (by decide) (by omega) (u c) (oN.nx c) (o.l.length:Int) [.int .i64 (o.l.length:Int)] (fun _=>True) (fun _=>False) rfl rfl rfl (fun _ hk=>hk.elim) (fun _ _=>trivial) (HOd.out.nx c HC.out) HBd.out (below_size HBd.out) (by have:=HNX.out.2;omega) ?_
                intro vn we hl hb hg hat
                obtain ⟨wf,hrun,ho2,hg2⟩:=HOd.out.putn HC.out hl hg hat HNX.out.1
                have HO2:=aM ho2
                have HB2:=aM (pw_below_grown hb (some M) (below_size hb) hg2 (fun k hk=>by cases hk;exact HOd.out.hM))
                have HL2:=aM (HLd.out.putn HOd.out hg (HLd.out.offR (HOd.out.nx c HC.out) (by decide)) hg2)
                have hh:=OrbW.heldn HOd.out HC.out hg
                clear hl hb hat ho2 hg2 hg
                refine hK.out _ _ hh (fun hHeld => ?_)
                clear hK K
                refine nH 131 ?_
                refine last_ (i:=14) (N:=none) #[tt,tt,tt,tt,tt,tt,tt,tt,tt,tt,tt,tt,tt,tt,tt] rfl rfl (by kernel_rfl) (by decide) (fun K hK => ?_)
                refine skip_ (w1:=wf) (by rfl) rfl ?_ ?_
                · go_simp
                refine hK.out _ _ ?_
                clear hK K
                refine done_ (by kernel_rfl) ?_
                go_wp2
                go_roundg q1
                case measure=>have:=HJ.out;omega
                case rel=>exact ⟨j+1,_,_,_,_,_,_,(by first|rfl|rw [HW.out]|(simp;done)),⟨by have:=HJ.out;omega⟩,HR4,⟨HI4.out.put c o.l.length⟩,⟨by rw [orbPut_l];exact HLT4.out⟩,HO2,HL2,HB2⟩
            · have q0:decide (t<0)=false:=decide_eq_false hneg
              have hr:orbRest k1 i (j+1) (orbPut c t o)=some r:=by
                have h:=HA.out
                rw [if_neg hneg] at h
                rcases HN.out with ⟨h1,_⟩|⟨o1,h1,h2⟩
                · rw [h1] at h;cases h
                · rw [h1] at h
                  rw [Option.some.inj (Option.some.inj h)]
                  exact h2
              have HR:=aM hr
              clear hneg hr HA HN
              go_wp2_with (first
                | (go_at_call 51;(refine(impl_letterSurface.calls k1 C0 d0 z.f0 C1 d1 z.f1 c y0 y1 wr (Foot.now GY.out).g0 (Foot.now GY.out).l0 (Foot.now GY.out).g1 (Foot.now GY.out).l1 HLS.out).mono ?_);rintro e w1 ⟨q0_,q1_,rfl,hr0,hr1,hb⟩;obtain ⟨D0,f0,rfl⟩:=Kd.R_slice hr0;obtain ⟨D1,f1,rfl⟩:=Kd.R_slice hr1;have HY:=aM (show SurfC w1 D0 D1 f0 f1 y0 y1 from ⟨(Kd.R_reads' hr0).2.1,(Kd.R_reads' hr0).2.2,(Kd.R_reads' hr1).2.1,(Kd.R_reads' hr1).2.2⟩);have HB1:=aM hb;clear hr0 hr1 hb)
                | (go_at_call 50;(refine(impl_CanonOf.callsF k1 D0 f0 y0 D1 f1 y1 x0 x1 okx w1 HY.out HCN.out).mono ?_);rintro e w2 ⟨B0,b0,B1,b1,rfl,hS,hb⟩;have HB2:=aM (below_step HB1.out hb);have HS2:=aM (Foot.mono hS (fun k hk=>Nat.le_trans (below_size HB1.out) hk));clear hS hb HB1 HY)
                | ((with_reducible refine gate_dst (N:=10) rfl ?_);refine bEv (cs:=#[.slice none 0 0,.slice none 0 0]) (t:=27) ?_;intro gx hgx w3 hbox hb;have BX3:=aM hbox;have HB3:=aM (below_step HB2.out hb);have HGX:=aM (show wr.heap.size≤gx by rw [hgx];exact below_size HB2.out);have HS3:=aM (SurfF.setBig HS2.out hb (Nat.le_of_eq hgx.symm) #[.slice B0 x0.length b0,.slice B1 x1.length b1]);clear hbox hb hgx HB2 HS2)
                | (refine wpList_store_row rfl 27 (.tmp 10) (.tmp 54) rfl gx #[.slice B0 x0.length b0,.slice B1 x1.length b1] rfl rfl 27 #[.slice none 0 0,.slice none 0 0] BX3.out (by kernel_rfl) rfl (by simp [Value.oneCell']) ?_;have BX:=aM (setRow_heap w3 gx _ #[.slice B0 x0.length b0,.slice B1 x1.length b1] _ _ BX3.out);have HBX:=aM (below_setRow HB3.out HGX.out #[.slice B0 x0.length b0,.slice B1 x1.length b1]);clear BX3 HB3;generalize w3.setRow gx #[.slice B0 x0.length b0,.slice B1 x1.length b1]=w4 at BX HBX HS3 ⊢;have hcx0:w4.cell? ⟨gx,0,none⟩=some (.slice B0 x0.length b0):=(blk_cell BX.out 0).trans rfl;have hcx1:w4.cell? ⟨gx,1,none⟩=some (.slice B1 x1.length b1):=(blk_cell BX.out 1).trans rfl)
                | (go_at_call 52;(refine(index_calls k1 gb #[] (some ad2) c0 o.l B0 B1 b0 b1 x0 x1 t w4 _ ((blk_cell (HO.out.below HBX.out).blk 0).trans rfl) (Kd.N_F (HO.out.below HBX.out).l) (fun a ha=>⟨(HADR.out a ha).1,Nat.lt_of_lt_of_le (HADR.out a ha).2 (below_size HBX.out)⟩) (Nat.le_trans HI.out.l (by decide)) (Foot.now HS3.out) HT.out).mono ?_);rintro e w5 ⟨rfl,hb⟩;have HB5:=aM (below_step HBX.out hb);have HS5:=aM (SurfF.belowF HS3.out hb);have BX5:=aM (blk_below BX.out hb);clear hb HBX HS3 BX hcx0 hcx1))
              have HO5:=aM (OrbW.below HO.out HB5.out)
              have HB5x:=aM (below_step HB.out HB5.out)
              have HL5:=aM (Letters.below HL.out HB5.out)
              have HNX:=aM (HI.out.nxl HIR.out.2 HJ2.out c)
              clear HO HB HL HB5 HS5 BX5 hco hcl hy0 hy1
              refine start_ (n:=15) (S:=fun w'=>w'.cell? ⟨gb,4,none⟩=some (.map (some M))∧(Instr.lookup 55 (.map (some M)) (.int .u8 c) false).run Try.prog w' = .ok (u c) w') (ds:=[14]) #[ff,ff,ff,ff,ff,ff,ff,ff,ff,ff,ff,ff,ff,ff,ff] (by kernel_rfl) rfl rfl (OrbW.held (OrbW.below HO5.out (below_drew (Below.refl _ _))) HC.out) (fun hHeld => ?_)
              have HOd:=aM (OrbW.below HO5.out (below_drew (Below.refl _ _)))
              have HBd:=aM (bD HB5x.out)
              have HLd:=aM (Letters.below HL5.out (below_drew (Below.refl _ _)))
              clear HO5 HB5x HL5
              generalize w5.drew=wd at HOd HBd HLd hHeld ⊢
              refine pH 0 118 (fl 15 1) rfl rfl ?_
              refine pH 1 119 (fl 15 3) rfl rfl ?_
              refine pH 2 120 (fl 15 7) rfl rfl ?_
              refine pH 4 122 (fl 15 23) rfl rfl ?_
              refine pH 5 123 (fl 15 55) rfl rfl ?_
              refine pH 6 124 (fl 15 119) rfl rfl ?_
              refine pH 7 125 (fl 15 247) rfl rfl ?_
              refine pH 9 127 (fl 15 759) rfl rfl ?_
              refine pH 11 129 (fl 15 2807) rfl rfl ?_
              refine tH2 3 121 (fl 15 2815) rfl rfl hHeld ?_
              refine tH2 8 126 (fl 15 3071) rfl rfl hHeld ?_
              refine tH2 10 128 (fl 15 4095) rfl rfl hHeld ?_
              refine one_ (i:=12) (N:=some 130) #[tt,tt,tt,tt,tt,tt,tt,tt,tt,tt,tt,tt,tt,ff,ff] rfl rfl (by kernel_rfl) (by decide) (fun K hK => ?_)
              refine value_ (w1:=?_) (v:=?_) (by rfl) rfl ?_ ?_
              rotate_left 2
              · go_simp
                constructor
                · rfl
                · rfl
              refine hK.out _ _ (OrbW.held (OrbW.below HOd.out (below_alloc (Below.refl _ _) _)) HC.out) (fun hHeld => ?_)
              clear hK K
              refine nH 130 ?_
              refine one_ (i:=13) (N:=some 131) #[tt,tt,tt,tt,tt,tt,tt,tt,tt,tt,tt,tt,tt,tt,ff] rfl rfl (by kernel_rfl) (by decide) (fun K hK => ?_)
              refine Kd.R_append_step (Kd.int .i64) (w0:=w) w.heap.size (by rfl) (.tmp 128) (.tmp 130) 22 3 (.int .i64 0) 8 rfl Try.underlying22 info3 rfl (by decide) (by omega) (u c) (o.nx c) t [.int .i64 t] (fun _=>True) (fun _=>False) rfl rfl rfl (fun _ hk=>hk.elim) (fun _ _=>trivial) (HOd.out.nx c HC.out) HBd.out (below_size HBd.out) (by have:=HNX.out.2;omega) ?_
              intro vn we hl hb hg hat
              obtain ⟨wf,hrun,ho2,hg2⟩:=HOd.out.putn HC.out hl hg hat HNX.out.1
              have HO2:=aM ho2
              have HB2:=aM (pw_below_grown hb (some M) (below_size hb) hg2 (fun k hk=>by cases hk;exact HOd.out.hM))
              have HL2:=aM (HLd.out.putn HOd.out hg (HLd.out.offR (HOd.out.nx c HC.out) (by decide)) hg2)
              have hh:=OrbW.heldn HOd.out HC.out hg
              clear hl hb hat ho2 hg2 hg
              refine hK.out _ _ hh (fun hHeld => ?_)
              clear hK K
              refine nH 131 ?_
              refine last_ (i:=14) (N:=none) #[tt,tt,tt,tt,tt,tt,tt,tt,tt,tt,tt,tt,tt,tt,tt] rfl rfl (by kernel_rfl) (by decide) (fun K hK => ?_)
              refine skip_ (w1:=wf) (by rfl) rfl ?_ ?_
              · go_simp
              refine hK.out _ _ ?_
              clear hK K
              refine done_ (by kernel_rfl) ?_
              go_wp2
              go_roundg q1
              case measure=>have:=HJ.out;omega
              case rel=>exact ⟨j+1,_,_,_,_,_,_,(by first|rfl|rw [HW.out]|(simp;done)),⟨by have:=HJ.out;omega⟩,HR,⟨HI.out.put c t⟩,⟨by rw [orbPut_l];exact HLT.out⟩,HO2,HL2,HB2⟩
          · have e2:j=2:=by have:=HJ.out;omega
            subst e2
            have h2:=HR.out
            rw [orbRest,if_neg (by decide),if_neg (by decide)] at h2
            have HR2:=aM h2
            have HW:=aM (show wrap64 (i+1)=i+1 by have:=HIR.out;unfold wrap64;omega)
            have HI2:=aM (show OrbI (i+1) 0 o from ⟨HI.out.l,HI.out.ws,HI.out.fr,HI.out.bs,by have:=HI.out.nx;omega⟩)
            clear h2 HR HJ hj HI
            have c2:decide (((2:Nat):Int)<2)=false:=by decide
            go_wp2
            go_roundg k1
            case measure=>omega
            case rel=>exact ⟨i+1,_,_,_,_,_,_,(by first|rfl|rw [HW.out]|(simp;done)),⟨by rw [← HW.out];exact HR2.out⟩,⟨by have:=HIR.out;omega⟩,HI2,HO,HB⟩
      · have c1:decide (i<(o.l.length:Int))=false:=decide_eq_false hlt
        have hr:some o=r:=by
          have h:=H.out
          rw [orbLoop,if_neg hlt] at h
          exact Option.some.inj h
        subst hr
        go_wp2
        go_ret2
        exact ⟨HB.out,gb,M,_,_,_,_,_,rfl,HO.out,HI.out.l⟩

def impl_IndexOf.f (k:Nat) (l0_0 l0_1:List Int):Option Int:=(impl_orbitOf.f k l0_0 l0_1).bind fun a=>match a with
  | none=>some (-1)
  | some o=>some (o.l.length:Int)
theorem impl_IndexOf.calls (k:Nat) (A0_0:Option Addr) (c0_0:Nat) (l0_0:List Int) (A0_1:Option Addr) (c0_1:Nat) (l0_1:List Int) (r:Int) (w:World) (hr0_0:Kd.C (Kd.int .i64) w A0_0 l0_0.length l0_0) (hc0_0:l0_0.length≤c0_0) (hr0_1:Kd.C (Kd.int .i64) w A0_1 l0_1.length l0_1) (hc0_1:l0_1.length≤c0_1) (h:impl_IndexOf.f k l0_0 l0_1=some r) :
    Calls Try.prog 12 #[.agg #[.slice A0_0 l0_0.length c0_0,.slice A0_1 l0_1.length c0_1]] w fun e w'=>e = .returned (.int .i64 r)∧Below w.heap.size w w':=by
 have hv:=Try.underlying57
 have hu:=Try.underlying27
 have HS:=aM (show SurfC w A0_0 A0_1 c0_0 c0_1 l0_0 l0_1 from ⟨hc0_0,hr0_0,hc0_1,hr0_1⟩)
 clear hr0_0 hc0_0 hr0_1 hc0_1
 unfold impl_IndexOf.f at h
 obtain ⟨a,ha,h⟩:=oB h
 have HA:=aM ha
 clear ha
 cases a with
 | none =>
  have hr : -1=r:=Option.some.inj h
  subst hr
  clear h
  go_enter Try.func12,Try.ntmps12
  go_wp2_with (first
   | ((with_reducible refine gate_dst (N:=1) rfl ?_);refine bEv (cs:=#[.slice A0_0 l0_0.length c0_0,.slice A0_1 l0_1.length c0_1]) (t:=27) ?_;intro gb1 hg1 w1 hbox1 hb1;have BK1:=aM hbox1;have HB1:=aM hb1;have hc10:w1.cell? ⟨gb1,0,none⟩=some (.slice A0_0 l0_0.length c0_0):=(blk_cell BK1.out 0).trans rfl;have hc11:w1.cell? ⟨gb1,1,none⟩=some (.slice A0_1 l0_1.length c0_1):=(blk_cell BK1.out 1).trans rfl;clear hbox1 hb1 hg1)
   | (go_at_call 30;(refine(impl_orbitOf.calls k _ _ l0_0 _ _ l0_1 (none) w1 (HS.out.below HB1.out) HA.out).mono ?_);rintro e w2 ⟨hb,hp⟩;have hp2:e = .returned (.tuple #[.pointer none,.bool false]):=hp;subst hp2;have HB2:=aM (below_step HB1.out hb);clear hb hp hc10 hc11 HB1 BK1))
  go_ret
  exact ⟨rfl,HB2.out⟩
 | some o =>
 have hr:(o.l.length:Int)=r:=Option.some.inj h
 subst hr
 clear h
 go_enter Try.func12,Try.ntmps12
 go_wp2_with (first
  | ((with_reducible refine gate_dst (N:=1) rfl ?_);refine bEv (cs:=#[.slice A0_0 l0_0.length c0_0,.slice A0_1 l0_1.length c0_1]) (t:=27) ?_;intro gb1 hg1 w1 hbox1 hb1;have BK1:=aM hbox1;have HB1:=aM hb1;have hc10:w1.cell? ⟨gb1,0,none⟩=some (.slice A0_0 l0_0.length c0_0):=(blk_cell BK1.out 0).trans rfl;have hc11:w1.cell? ⟨gb1,1,none⟩=some (.slice A0_1 l0_1.length c0_1):=(blk_cell BK1.out 1).trans rfl;clear hbox1 hb1 hg1)
  | (go_at_call 30;(refine(impl_orbitOf.calls k _ _ l0_0 _ _ l0_1 (some o) w1 (HS.out.below HB1.out) HA.out).mono ?_);rintro e w2 ⟨hb,hp⟩;obtain ⟨B,M,v0,v1,v2,v3,u,rfl,ho,hl⟩:=(show ∃ B M v0 v1 v2 v3 u,e = .returned (.tuple #[.pointer (some ⟨B,0,none⟩),.bool true])∧OrbW w1.heap.size w2 B M v0 v1 v2 v3 u o∧o.l.length≤120 from hp);obtain ⟨A0,c0,e0⟩:=Kd.N_slice ho.l;subst e0;have hco:w2.cell? ⟨B,0,none⟩=some (.slice A0 o.l.length c0):=(blk_cell ho.blk 0).trans rfl;have HB2:=aM (below_step HB1.out hb);have HO:=aM ho;have HLE:=aM hl;have HN:=aM (below_size HB1.out);clear hb hp ho hl hc10 hc11 HB1 BK1))
 go_ret
 exact ⟨rfl,HB2.out⟩

/-! ### strings_IndexByte: function 53 -/
/-! by hand -/
def strings_IndexByte.f (a0:ByteArray) (a1:Int):Option (Int):=some (Go.Lib.indexByte a0.data.toList a1.toNat.toUInt8)
theorem strings_IndexByte.calls (a0:ByteArray) (a1:Int) (r:Int) (w:World) (h:strings_IndexByte.f a0 a1=some r) :
    Calls Try.prog 53 #[.string a0,.int .u8 a1] w fun e w'=>e = .returned (.int .i64 r)∧Drawn0 w w':=by
 unfold strings_IndexByte.f at h
 obtain rfl:=Option.some.inj h
 refine(Try.strings_IndexByte a0 a1 w).mono ?_
 rintro e w' ⟨rfl,rfl⟩
 exact ⟨rfl,Drawn0.refl _⟩

/-! ### impl_WordOk: function 31 -/
def impl_WordOk.l0 : Nat→ByteArray→Int→Option (Bool)
 | 0,_,_=>none
 | k+1,x0,x3=>if x3<(x0.size:Int) then (if 0≤x3 then ((strings_IndexByte.f (⟨#[84,116,83,115]⟩:ByteArray) (bt x0 x3)).bind fun t294=>(if t294<0 then (some false) else (impl_WordOk.l0 k x0 (wrap64 (x3+1))))) else (none)) else (some (decide ((x0.size:Int)≤40)))
def impl_WordOk.f (k:Nat) (a0:ByteArray):Option (Bool):=impl_WordOk.l0 k a0 0
theorem impl_WordOk.calls (k:Nat) (a0:ByteArray) (r:Bool) (w:World) (h:impl_WordOk.f k a0=some r) :
  Calls Try.prog 31 #[.string a0] w fun e w'=>e = .returned (.bool r)∧Drawn0 w w':=by
 have H:(impl_WordOk.l0 k a0 0)=some r:=h
 clear h
 have H':=aM H
 clear H
 go_enter Try.func31,Try.ntmps31
 go_wp2
 go_loopg [3] k (fun kq v3 w'=>∃ (x3_1:Int),v3 = .int .i64 x3_1∧Aside0 (impl_WordOk.l0 kq a0 x3_1=some r)∧Aside0 (kq≤k)∧Drawn0 w w')
 case atStart=>exact ⟨(0),vX,H',⟨Nat.le_refl _⟩,by repeat(first|exact Drawn0.refl _|apply Drawn0.step)⟩
 case round =>
 clear H'
 obtain ⟨x3_1,rfl,HA,HK1,⟨m1,rfl⟩⟩:=hrel
 cases gk with
 | zero=>exact absurd HA.out (by simp [impl_WordOk.l0])
 | succ k1 =>
 have H:=HA.out
 clear HA
 simp only [impl_WordOk.l0] at H
 by_cases c2:x3_1<(a0.size:Int)
 {
 rw [if_pos c2] at H
 have c2b0:=decide_eq_true c2
 clear c2
 by_cases c3:0≤x3_1
 {
 rw [if_pos c3] at H
 have c3b0:=decide_eq_true c3
 clear c3
 replace H:=oB H
 obtain ⟨t294,A50,H⟩:=H
 have A5:=aM A50
 clear A50
 by_cases c6:t294<0
 {
 rw [if_pos c6] at H
 have c6b0:=decide_eq_true c6
 clear c6
 obtain rfl:=Option.some.inj H
 have p4:0≤(x3_1:Int):=dX
 have q4:x3_1<(a0.size:Int):=dX
 have hx4:=bt_at a0 x3_1
 replace p4:=eq_true p4
 replace q4:=eq_true q4
 go_wp2_with (first|((with_reducible refine gate_callee (f:=53) rfl ?_);refine goesL_ (some 13) rfl rfl Try.func53 (by kernel_rfl) rfl #[.string (⟨#[84,116,83,115]⟩:ByteArray),.int .u8 (bt a0 x3_1)] rfl aX ?_;(with_reducible refine(strings_IndexByte.calls (⟨#[84,116,83,115]⟩:ByteArray) (bt a0 x3_1) t294 _ A5.out).mono ?_);rintro e w' ⟨rfl,⟨nd,rfl⟩⟩;refine ⟨_,rfl,?_⟩))
 go_ret
 exact ⟨by first|rfl|(simp;done)|(simp [*];done),by repeat(first|exact Drawn0.refl _|apply Drawn0.step)⟩
 }
 {
 rw [if_neg c6] at H
 have c6b0:=decide_eq_false c6
 clear c6
 have H':=aM H
 clear H
 have p4:0≤(x3_1:Int):=dX
 have q4:x3_1<(a0.size:Int):=dX
 have hx4:=bt_at a0 x3_1
 replace p4:=eq_true p4
 replace q4:=eq_true q4
 go_wp2_with (first|((with_reducible refine gate_callee (f:=53) rfl ?_);refine goesL_ (some 13) rfl rfl Try.func53 (by kernel_rfl) rfl #[.string (⟨#[84,116,83,115]⟩:ByteArray),.int .u8 (bt a0 x3_1)] rfl aX ?_;(with_reducible refine(strings_IndexByte.calls (⟨#[84,116,83,115]⟩:ByteArray) (bt a0 x3_1) t294 _ A5.out).mono ?_);rintro e w' ⟨rfl,⟨nd,rfl⟩⟩;refine ⟨_,rfl,?_⟩))
 go_roundg k1
 case measure=>have:=HK1.out;omega
 case rel=>exact ⟨(wrap64 (x3_1+1)),vX,H',⟨by have:=HK1.out;omega⟩,by repeat(first|exact Drawn0.refl _|apply Drawn0.step)⟩
 }
 }
 {
 rw [if_neg c3] at H
 exact absurd H (by simp)
 }
 }
 {
 rw [if_neg c2] at H
 have c2b0:=decide_eq_false c2
 clear c2
 obtain rfl:=Option.some.inj H
 go_wp2
 go_ret
 exact ⟨by first|rfl|(simp;done)|(simp [*];done),by repeat(first|exact Drawn0.refl _|apply Drawn0.step)⟩
 }

/-! ### impl_InverseWord: function 16 -/
def impl_InverseWord.l0 : Nat→ByteArray→List Int→Int→Option (ByteArray)
 | 0,_,_,_=>none
 | k+1,x0,x3,x4=>if x4≥0 then (if 0≤x4 then (if x4<(x0.size:Int) then (if x3.length<140737488355328 then (impl_InverseWord.l0 k x0 (x3 ++ [Go.bits .xor .u8 (bt x0 x4) 32]) (wrap64 (x4 - 1))) else (none)) else (none)) else (none)) else (some (strOfNums x3))
def impl_InverseWord.f (k:Nat) (a0:ByteArray):Option (ByteArray):=(impl_WordOk.f k a0).bind fun t295=>(if t295=true then (impl_InverseWord.l0 k a0 (([]:List Int)) (wrap64 ((a0.size:Int) - 1))) else (some (⟨#[]⟩:ByteArray)))
theorem impl_InverseWord.calls (k:Nat) (a0:ByteArray) (r:ByteArray) (w:World) (h:impl_InverseWord.f k a0=some r) :
  Calls Try.prog 16 #[.string a0] w fun e w'=>e = .returned (.string r)∧Below w.heap.size w w':=by
 have HB:=aM (Below.refl w.heap.size w)
 have H:((impl_WordOk.f k a0).bind fun t295=>(if t295=true then (impl_InverseWord.l0 k a0 (([]:List Int)) (wrap64 ((a0.size:Int) - 1))) else (some (⟨#[]⟩:ByteArray))))=some r:=h
 clear h
 replace H:=oB H
 obtain ⟨t295,A20,H⟩:=H
 have A2:=aM A20
 clear A20
 by_cases c3:t295=true
 {
 subst c3
 have H1:(impl_InverseWord.l0 k a0 (([]:List Int)) (wrap64 ((a0.size:Int) - 1)))=some r:=by rw [if_pos rfl] at H;exact H
 clear H
 have H:=H1
 clear H1
 obtain ⟨y296,hy296⟩:∃ y_:List Int,y_=(([]:List Int)):=⟨_,rfl⟩
 replace H:(impl_InverseWord.l0 k a0 y296 (wrap64 ((a0.size:Int) - 1)))=some r:=by first|(rw [hy296];with_reducible exact H)|(have H2_:=(Option.bind_some _ _).symm.trans H;rw [hy296];with_reducible exact H2_)|(have H2_:=(Option.bind_some _ _).symm.trans H;with_reducible exact H2_)|with_reducible exact H|(rw [hy296];exact H)|exact H
 have Ny296:=aM hy296
 clear hy296
 have H':=aM H
 clear H
 go_enter Try.func16,Try.ntmps16
 go_wp2_with (first|((with_reducible refine gate_callee (f:=31) rfl ?_);refine goesL_ (some 6) rfl rfl Try.func31 (by kernel_rfl) rfl #[.string a0] rfl aX ?_;(with_reducible refine(impl_WordOk.calls k a0 true _ A2.out).mono ?_);rintro e w' ⟨rfl,⟨nd,rfl⟩⟩;refine ⟨_,rfl,?_⟩)|((with_reducible refine gate_dst (N:=8) rfl ?_);refine Kd.R_lit (Kd.int .u8) _ 5 ?hg (N:=8) ?hd (xs:=([]:List Int)) (inner:=[]) (ok:=fun _=>True) (okp:=fun _=>True) ?hr ?hp (fun _ hk=>hk) trivial (Below.refl _ _) (Nat.le_refl _) (by simp) ?_;(case hd=>rfl);(case hg=>rfl);(case hr=>first|(go_simp;done)|(go_simp;rfl));(case hp=>exact(Reps.none _ _));intro v297 w4 ho5 hb hg_ hnew_;clear hg_ hnew_;(first|rw [← Ny296.out] at ho5|(simp only [Int.reduceToNat] at ho5;rw [← Ny296.out] at ho5));have HO298:=aM (Kd.R_lower ho5 (below_size (bX HB.out)));replace HB:=aM (below_step (bX HB.out) hb);clear hb ho5))
 go_loopg [3,4] k (fun kq v3 v4 w'=>∃ (x3_1:List Int) (x4_1:Int),v4 = .int .i64 x4_1∧Aside0 (impl_InverseWord.l0 kq a0 x3_1 x4_1=some r)∧Aside0 (kq≤k)∧Aside0 (Kd.R (Kd.int .u8) 5 w' w.heap.size (fun _=>True) v3 x3_1)∧Aside0 (Below w.heap.size w w'))
 case atStart=>exact ⟨(y296),(wrap64 ((a0.size:Int) - 1)),vX,H',⟨Nat.le_refl _⟩,⟨rX HO298.out⟩,⟨bX HB.out⟩⟩
 case round =>
 clear H'
 try clear c3
 obtain ⟨x3_1,x4_1,rfl,HA,HK1,HO_3,HB⟩:=hrel
 cases gk with
 | zero=>exact absurd HA.out (by simp [impl_InverseWord.l0])
 | succ k1 =>
 have H:=HA.out
 clear HA
 simp only [impl_InverseWord.l0] at H
 by_cases c6:x4_1≥0
 {
 rw [if_pos c6] at H
 have c6b0:=decide_eq_true c6
 clear c6
 by_cases c7:0≤x4_1
 {
 rw [if_pos c7] at H
 have c7b0:=decide_eq_true c7
 clear c7
 by_cases c8:x4_1<(a0.size:Int)
 {
 rw [if_pos c8] at H
 have c8b0:=decide_eq_true c8
 clear c8
 by_cases c10:x3_1.length<140737488355328
 {
 rw [if_pos c10] at H
 have LMc10:=aM c10
 clear c10
 obtain ⟨y299,hy299⟩:∃ y_:List Int,y_=(x3_1 ++ [Go.bits .xor .u8 (bt a0 x4_1) 32]):=⟨_,rfl⟩
 replace H:(impl_InverseWord.l0 k1 a0 y299 (wrap64 (x4_1 - 1)))=some r:=by first|(rw [hy299];with_reducible exact H)|(have H2_:=(Option.bind_some _ _).symm.trans H;rw [hy299];with_reducible exact H2_)|(have H2_:=(Option.bind_some _ _).symm.trans H;with_reducible exact H2_)|with_reducible exact H|(rw [hy299];exact H)|exact H
 have Ny299:=aM hy299
 clear hy299
 have H':=aM H
 clear H
 have p9:0≤(x4_1:Int):=dX
 have q9:x4_1<(a0.size:Int):=dX
 have hx9:=bt_at a0 x4_1
 replace p9:=eq_true p9
 replace q9:=eq_true q9
 go_wp2_with (first|((with_reducible refine gate_builtin (b:=.append) (xs:=#[.tmp 16,.tmp 21]) rfl ?_);at_builtin;refine Kd.R_append (Kd.int .u8) (w0:=w) w.heap.size rfl (.tmp 16) (.tmp 21) 31 5 (.int .u8 0) 1 rfl Try.underlying31 info5 rfl (by decide) (by omega) u3 x3_1 (Go.bits .xor .u8 (bt a0 x4_1) 32) [.int .u8 (Go.bits .xor .u8 (bt a0 x4_1) 32)] (fun _=>True) (fun _=>False) rfl rfl ?aP (fun _ hk=>hk.elim) ?aF ?aO ?aB ?aS ?aL ?_;(case aP=>exact rfl);(case aB=>exact(bX HB.out));(case aF=>exact(fun _ _=>trivial));(case aO=>exact(rX HO_3.out));(case aS=>exact(below_size (bX HB.out)));(case aL=>have:=LMc10.out;omega);intro v300 w11 ho hb hg hat;rw [← Ny299.out] at ho;replace HB:=aM (hb);have HO301:=aM (ho);clear HO_3 ho hb hg hat))
 go_roundg k1
 case measure=>have:=HK1.out;omega
 case rel=>exact ⟨(y299),(wrap64 (x4_1 - 1)),vX,H',⟨by have:=HK1.out;omega⟩,⟨rX HO301.out⟩,⟨bX HB.out⟩⟩
 }
 {
 rw [if_neg c10] at H
 exact absurd H (by simp)
 }
 }
 {
 rw [if_neg c8] at H
 exact absurd H (by simp)
 }
 }
 {
 rw [if_neg c7] at H
 exact absurd H (by simp)
 }
 }
 {
 rw [if_neg c6] at H
 have c6b0:=decide_eq_false c6
 clear c6
 obtain rfl:=Option.some.inj H
 have hcv12:=own_string (P:=Try.prog) Try.underlying31 Try.underlying5 Try.underlying9 (Kd.own_of_R HO_3.out)
 go_wp2
 go_ret
 exact ⟨eX,bX HB.out⟩
 }
 }
 {
 replace c3:=Bool.eq_false_iff.mpr c3
 subst c3
 have H1:(some (⟨#[]⟩:ByteArray))=some r:=by rw [if_neg (show ¬ (false=true) by decide)] at H;exact H
 clear H
 have H:=H1
 clear H1
 obtain rfl:=Option.some.inj H
 go_enter Try.func16,Try.ntmps16
 go_wp2_with (first|((with_reducible refine gate_callee (f:=31) rfl ?_);refine goesL_ (some 6) rfl rfl Try.func31 (by kernel_rfl) rfl #[.string a0] rfl aX ?_;(with_reducible refine(impl_WordOk.calls k a0 false _ A2.out).mono ?_);rintro e w' ⟨rfl,⟨nd,rfl⟩⟩;refine ⟨_,rfl,?_⟩))
 go_ret
 exact ⟨eX,bX HB.out⟩
 }

end Go.Proofs.Ytmhjcbcjpidegaa.S
