-- PRINTED by print.py (a twelfth state) out of the translation. Not trusted: Lean checks it.
import Derived.Test.YtmhjcbcjpidegaaS0
import Derived.Test.YtmhjcbcjpidegaaS1
import Derived.Test.YtmhjcbcjpidegaaS3
import Derived.Test.YtmhjcbcjpidegaaS4
import Derived.Test.YtmhjcbcjpidegaaS5
import Derived.Test.YtmhjcbcjpidegaaS6
namespace Go.Proofs.Ytmhjcbcjpidegaa.S
set_option maxHeartbeats 8000000
set_option maxRecDepth 100000
open Go.RowKit Go.Proofs.YtmhjcbcjpidegaaW.PrintWords Go.Proofs.YtmhjcbcjpidegaaW.PrintLast Go.Proofs.YtmhjcbcjpidegaaW.PrintMore
attribute [local go_sem] max2_int min2_int max_two min_two max_three min_three max_four min_four   -- for this text's walks alone
set_option linter.unusedVariables false
set_option linter.unusedSimpArgs false

/-! ### impl_RunWord: function 34 -/
mutual
def impl_RunWord.j0 : Nat→ByteArray→Bool→List Int→List Int→Option (List Int × List Int × Bool)
 | 0,_,_,_,_=>none
 | k+1,x1,x15,x428000,x428001=>if x15=true then (some (([]:List Int),([]:List Int),false)) else ((impl_copySurface.f x428000 x428001).bind fun bt431=>(impl_RunWord.l0 k x1 0 bt431.1 bt431.2))
def impl_RunWord.l0 : Nat→ByteArray→Int→List Int→List Int→Option (List Int × List Int × Bool)
 | 0,_,_,_,_=>none
 | k+1,x1,x7,x438000,x438001=>if x7<(x1.size:Int) then (if 0≤x7 then ((impl_letterSurface.f k x438000 x438001 (bt x1 x7)).bind fun bt438=>(impl_RunWord.l0 k x1 (wrap64 (x7+1)) bt438.1 bt438.2)) else (none)) else (some (x438000,x438001,true))
end
def impl_RunWord.f (k:Nat) (l0_0:List Int) (l0_1:List Int) (a1:ByteArray):Option (List Int × List Int × Bool):=(impl_SurfaceOk.f k l0_0 l0_1).bind fun t429=>(if t429=true then ((impl_WordOk.f k a1).bind fun t430=>(impl_RunWord.j0 k a1 (!t430) l0_0 l0_1)) else (impl_RunWord.j0 k a1 true l0_0 l0_1))
theorem impl_RunWord.calls (k:Nat) (A0_0:Option Addr) (c0_0:Nat) (l0_0:List Int) (A0_1:Option Addr) (c0_1:Nat) (l0_1:List Int) (a1:ByteArray) (r1:List Int) (r2:List Int) (r3:Bool) (w:World) (hr0_0:Kd.C (Kd.int .i64) w A0_0 l0_0.length l0_0) (hc0_0:l0_0.length≤c0_0) (hr0_1:Kd.C (Kd.int .i64) w A0_1 l0_1.length l0_1) (hc0_1:l0_1.length≤c0_1) (h:impl_RunWord.f k l0_0 l0_1 a1=some (r1,r2,r3)) :
  Calls Try.prog 34 #[.agg #[.slice A0_0 l0_0.length c0_0,.slice A0_1 l0_1.length c0_1],.string a1] w fun e w'=>∃ v0_ v1_:Value,e = .returned (.tuple #[.agg #[v0_,v1_],.bool r3])∧Kd.R (Kd.int .i64) 3 w' w.heap.size (fun k_=>some k_≠(v1_:Value).ownBlock) v0_ r1∧Kd.R (Kd.int .i64) 3 w' w.heap.size (fun k_=>some k_≠(v0_:Value).ownBlock) v1_ r2∧Below w.heap.size w w':=by
 have hu27:=Try.underlying27
 have HR0_0:=aM hr0_0
 have HC0_0:=aM hc0_0
 clear hr0_0 hc0_0
 have HR0_1:=aM hr0_1
 have HC0_1:=aM hc0_1
 clear hr0_1 hc0_1
 have HB:=aM (Below.refl w.heap.size w)
 have H:((impl_SurfaceOk.f k l0_0 l0_1).bind fun t429=>(if t429=true then ((impl_WordOk.f k a1).bind fun t430=>(impl_RunWord.j0 k a1 (!t430) l0_0 l0_1)) else (impl_RunWord.j0 k a1 true l0_0 l0_1)))=some (r1,r2,r3):=h
 clear h
 have HC3:=aM H
 clear H
 go_enter Try.func34,Try.ntmps34
 go_upto_region 1 with (first|((with_reducible refine gate_dst (N:=2) rfl ?_);refine bEv (cs:=#[.slice A0_0 l0_0.length c0_0,.slice A0_1 l0_1.length c0_1]) (t:=27) ?_;intro gb427 hg w4 hbox hb;have BK427:=aM (hbox);have GW427:=aM ((szX (below_size (bX HB.out)) hg:w.heap.size≤gb427));have GE427:=GW427;replace HB:=aM (below_step (bX HB.out) hb);clear hb hbox hg)|((with_reducible refine gate_dst (N:=4) rfl ?_);refine bEv (cs:=#[.slice none 0 0,.slice none 0 0]) (t:=27) ?_;intro gb428 hg w5 hbox hb;have BK428:=aM (hbox);have GW428:=aM ((szX (below_size (bX1 HB.out GE427.out)) hg:w.heap.size≤gb428));have GE428:=GW428;replace HB:=aM (below_step (bX1 HB.out GE427.out) hb);have NB427_428:=aM (neX BK427.out hg);have NB428_427:=aM (nfX BK427.out hg);replace BK427:=aM (bbX BK427.out hb);clear hb hbox hg))
 (try simp only [Act.put,List.setIfInBounds_toArray,List.set_cons_zero,List.set_cons_succ])
 go_cut [15] (fun v15 wc=>∃ (kq:Nat) (x15_2:Bool),v15 = .bool x15_2∧Aside0 (impl_RunWord.j0 kq a1 x15_2 l0_0 l0_1=some (r1,r2,r3))∧Aside0 (kq≤k)∧Aside0 (wc.heap[gb427]? = some (.cells #[(.slice A0_0 l0_0.length c0_0),(.slice A0_1 l0_1.length c0_1)] 27 (0,0)))∧Aside0 (wc.heap[gb428]? = some (.cells #[(.slice none 0 0),(.slice none 0 0)] 27 (0,0)))∧Aside0 (Below w.heap.size w wc))
 case first =>
  have H:=HC3.out
  clear HC3
  replace H:=oB H
  obtain ⟨t429,A60,H⟩:=H
  have A6:=aM A60
  clear A60
  by_cases c7:t429=true
  {
  subst c7
  have H1:((impl_WordOk.f k a1).bind fun t430=>(impl_RunWord.j0 k a1 (!t430) l0_0 l0_1))=some (r1,r2,r3):=by rw [if_pos rfl] at H;exact H
  clear H
  have H:=H1
  clear H1
  replace H:=oB H
  obtain ⟨t430,A80,H⟩:=H
  have A8:=aM A80
  clear A80
  have H':=aM H
  clear H
  have hnb9:=NB427_428.out
  have hnc9:=NB428_427.out
  obtain ⟨hcz10_0,hcz10_1,hfz10_0,hfz10_1⟩:=f2Z BK427.out
  go_wp2_with (first|((with_reducible refine gate_callee (f:=56) rfl ?_);refine goesL_ (some 9) rfl rfl Try.func56 (by kernel_rfl) rfl #[.agg #[.slice A0_0 l0_0.length c0_0,.slice A0_1 l0_1.length c0_1]] rfl aX ?_;(with_reducible refine(impl_SurfaceOk.calls k _ _ l0_0 _ _ l0_1 true _ ?side1 ?side2 ?side3 ?side4 A6.out).mono ?_);(case side1=>exact cX (Kd.C_below HR0_0.out HB.out));(case side2=>exact HC0_0.out);(case side3=>exact cX (Kd.C_below HR0_1.out HB.out));(case side4=>exact HC0_1.out);rintro e w11 ⟨rfl,hb⟩;refine ⟨_,rfl,?_⟩;replace BK427:=aM (bbX BK427.out hb);replace BK428:=aM (bbX BK428.out hb);replace HB:=aM (below_step (bX2 HB.out GE427.out GE428.out) hb);(try clear hb);(try clear hk))|(go_at_call 31;(with_reducible refine(impl_WordOk.calls k a1 t430 _ A8.out).mono ?_);rintro e w' ⟨rfl,⟨nd,rfl⟩⟩))
  go_meet
  case rel=>exact ⟨_,(!t430),vX,H',⟨by first|omega|exact Nat.le_refl _⟩,⟨kX BK427.out⟩,⟨kX BK428.out⟩,⟨bX2 HB.out GE427.out GE428.out⟩⟩
  }
  {
  replace c7:=Bool.eq_false_iff.mpr c7
  subst c7
  have H1:(impl_RunWord.j0 k a1 true l0_0 l0_1)=some (r1,r2,r3):=by rw [if_neg (show ¬ (false=true) by decide)] at H;exact H
  clear H
  have H:=H1
  clear H1
  have H':=aM H
  clear H
  have hnb12:=NB427_428.out
  have hnc12:=NB428_427.out
  obtain ⟨hcz13_0,hcz13_1,hfz13_0,hfz13_1⟩:=f2Z BK427.out
  go_wp2_with (first|((with_reducible refine gate_callee (f:=56) rfl ?_);refine goesL_ (some 9) rfl rfl Try.func56 (by kernel_rfl) rfl #[.agg #[.slice A0_0 l0_0.length c0_0,.slice A0_1 l0_1.length c0_1]] rfl aX ?_;(with_reducible refine(impl_SurfaceOk.calls k _ _ l0_0 _ _ l0_1 false _ ?side1 ?side2 ?side3 ?side4 A6.out).mono ?_);(case side1=>exact cX (Kd.C_below HR0_0.out HB.out));(case side2=>exact HC0_0.out);(case side3=>exact cX (Kd.C_below HR0_1.out HB.out));(case side4=>exact HC0_1.out);rintro e w14 ⟨rfl,hb⟩;refine ⟨_,rfl,?_⟩;replace BK427:=aM (bbX BK427.out hb);replace BK428:=aM (bbX BK428.out hb);replace HB:=aM (below_step (bX2 HB.out GE427.out GE428.out) hb);(try clear hb);(try clear hk)))
  go_meet
  case rel=>exact ⟨_,(true),vX,H',⟨by first|omega|exact Nat.le_refl _⟩,⟨kX BK427.out⟩,⟨kX BK428.out⟩,⟨bX2 HB.out GE427.out GE428.out⟩⟩
  }
 case rest =>
 clear HC3
 try clear c7
 try clear hcz10_0
 try clear hcz10_1
 try clear hcz13_0
 try clear hcz13_1
 try clear hfz10_0
 try clear hfz10_1
 try clear hfz13_0
 try clear hfz13_1
 obtain ⟨kq,x15_2,rfl,HA,HJ2,BK427,BK428,HB⟩:=hcut
 cases kq with
 | zero=>exact absurd HA.out (by simp [impl_RunWord.j0])
 | succ kj2 =>
 have H:=HA.out
 clear HA
 simp only [impl_RunWord.j0] at H
 by_cases c15:x15_2=true
 {
 subst c15
 have H1:(some (([]:List Int),([]:List Int),false))=some (r1,r2,r3):=by rw [if_pos rfl] at H;exact H
 clear H
 have H:=H1
 clear H1
 simp only [Option.some.injEq,Prod.mk.injEq] at H
 obtain ⟨rfl,rfl,rfl⟩:=H
 have hnb16:=NB428_427.out
 have hnc16:=NB427_428.out
 obtain ⟨hcz17_0,hcz17_1,hfz17_0,hfz17_1⟩:=f2Z BK428.out
 go_wp2
 refine bodyPost_ret (results_ct rfl _ _ gb428 27 #[.slice none 0 0,.slice none 0 0] (0,0) _ rfl (by(with_reducible repeat(first|refine kN ?_ _|refine kD ?_|refine kA ?_ _));refine blk_put (cs:=#[.slice none 0 0,.slice none 0 0]) ?_ 1 _ rfl;(with_reducible repeat(first|refine kN ?_ _|refine kD ?_|refine kA ?_ _));refine blk_put (cs:=#[.slice none 0 0,.slice none 0 0]) ?_ 0 _ rfl;(with_reducible repeat(first|refine kN ?_ _|refine kD ?_|refine kA ?_ _));exact BK428.out) Try.underlying27 rfl (by kernel_rfl)) rfl ?_
 exact ⟨_,_,eX,by first|exact Kd.R_nil _ _ _ _ _|exact Kd.N_nil _ _ _ _ _|exact Kd.V_nil _ _ _ _ _|exact Kd.Q_nil _ _ _ _ _|exact Kd.S_nil _ _ _ _ _,by first|exact Kd.R_nil _ _ _ _ _|exact Kd.N_nil _ _ _ _ _|exact Kd.V_nil _ _ _ _ _|exact Kd.Q_nil _ _ _ _ _|exact Kd.S_nil _ _ _ _ _,bX2 HB.out GE427.out GE428.out⟩
 }
 {
 replace c15:=Bool.eq_false_iff.mpr c15
 subst c15
 have H1:((impl_copySurface.f l0_0 l0_1).bind fun bt431=>(impl_RunWord.l0 kj2 a1 0 bt431.1 bt431.2))=some (r1,r2,r3):=by rw [if_neg (show ¬ (false=true) by decide)] at H;exact H
 clear H
 have H:=H1
 clear H1
 replace H:=oB H
 obtain ⟨⟨t431,t434⟩,A180,H⟩:=H
 replace H:(impl_RunWord.l0 kj2 a1 0 t431 t434)=some (r1,r2,r3):=H
 have A18:=aM A180
 clear A180
 have H':=aM H
 clear H
 have hnb19:=NB427_428.out
 have hnc19:=NB428_427.out
 obtain ⟨hcz20_0,hcz20_1,hfz20_0,hfz20_1⟩:=f2Z BK427.out
 go_wp2_with (first|((with_reducible refine gate_callee (f:=57) rfl ?_);refine goesL_ (some 18) rfl rfl Try.func57 (by kernel_rfl) rfl #[.agg #[.slice A0_0 l0_0.length c0_0,.slice A0_1 l0_1.length c0_1]] rfl aX ?_;(with_reducible refine(impl_copySurface.calls _ _ l0_0 _ _ l0_1 t431 t434 _ ?side1 ?side2 ?side3 ?side4 A18.out).mono ?_);(case side1=>exact cX (Kd.C_below HR0_0.out HB.out));(case side2=>exact HC0_0.out);(case side3=>exact cX (Kd.C_below HR0_1.out HB.out));(case side4=>exact HC0_1.out);rintro e w21 ⟨v432,v435,rfl,ho0,ho1,hb⟩;refine ⟨_,rfl,?_⟩;have HO433:=aM (Kd.R_lower ho0 (below_size (bX2 HB.out GE427.out GE428.out)));have HO436:=aM (Kd.R_lower ho1 (below_size (bX2 HB.out GE427.out GE428.out)));replace BK427:=aM (bbX BK427.out hb);replace BK428:=aM (bbX BK428.out hb);replace HB:=aM (below_step (bX2 HB.out GE427.out GE428.out) hb);(try clear hb);(try clear hk);(try clear ho0);(try clear ho1))|((with_reducible refine gate_dst (N:=6) rfl ?_);refine bEv (cs:=#[.slice none 0 0,.slice none 0 0]) (t:=27) ?_;intro gb437 hg w22 hbox hb;replace HO433:=aM (Kd.R_below (rX HO433.out) hb);replace HO436:=aM (Kd.R_below (rX HO436.out) hb);have BK437:=aM (hbox);have GW437:=aM ((szX (below_size (bX2 HB.out GE427.out GE428.out)) hg:w.heap.size≤gb437));have GE437:=GW437;replace HB:=aM (below_step (bX2 HB.out GE427.out GE428.out) hb);have NB427_437:=aM (neX BK427.out hg);have NB437_427:=aM (nfX BK427.out hg);replace BK427:=aM (bbX BK427.out hb);have NB428_437:=aM (neX BK428.out hg);have NB437_428:=aM (nfX BK428.out hg);replace BK428:=aM (bbX BK428.out hb);clear hb hbox hg;obtain ⟨Ao23,co23,eo23⟩:=Kd.R_slice HO433.out;subst eo23;have hnb24:=NB437_427.out;have hnc24:=NB427_437.out;have hnb25:=NB437_428.out;have hnc25:=NB428_437.out;obtain ⟨hcz26_0,hcz26_1,hfz26_0,hfz26_1⟩:=f2Z BK437.out;obtain ⟨Ao27,co27,eo27⟩:=Kd.R_slice HO436.out;subst eo27))
 go_loopg [7] kj2 (fun kq v7 w'=>∃ (x7_2:Int) (x438000_2:List Int) (x438001_2:List Int) (u438000:Value) (u438001:Value),v7 = .int .i64 x7_2∧Aside0 (impl_RunWord.l0 kq a1 x7_2 x438000_2 x438001_2=some (r1,r2,r3))∧Aside0 (kq≤kj2)∧Aside0 (Kd.R (Kd.int .i64) 3 w' w.heap.size (fun k_=>some k_≠(u438001:Value).ownBlock) u438000 x438000_2)∧Aside0 (Kd.R (Kd.int .i64) 3 w' w.heap.size (fun k_=>some k_≠(u438000:Value).ownBlock) u438001 x438001_2)∧Aside0 (w'.heap[gb427]? = some (.cells #[(.slice A0_0 l0_0.length c0_0),(.slice A0_1 l0_1.length c0_1)] 27 (0,0)))∧Aside0 (w'.heap[gb428]? = some (.cells #[(.slice none 0 0),(.slice none 0 0)] 27 (0,0)))∧Aside0 (w'.heap[gb437]? = some (.cells #[u438000,u438001] 27 (0,0)))∧Aside0 (Below w.heap.size w w'))
 case atStart=>exact ⟨(0),(t431),(t434),(.slice Ao23 t431.length co23),(.slice Ao27 t434.length co27),vX,H',⟨Nat.le_refl _⟩,⟨by(with_reducible repeat(first|apply rA|apply rN|apply rD));exact Kd.R_mono (Kd.R_far (p:=⟨gb437,1,none⟩) (Kd.R_far (p:=⟨gb437,0,none⟩) (Kd.R_types HO433.out BK437.out (by decide)) (fun _ hk=>hk.2) (.slice Ao23 t431.length co23)) (fun _ hk=>hk.2) (.slice Ao27 t434.length co27)) (fun _ hk=>hk.1)⟩,⟨by(with_reducible repeat(first|apply rA|apply rN|apply rD));exact Kd.R_mono (Kd.R_far (p:=⟨gb437,1,none⟩) (Kd.R_far (p:=⟨gb437,0,none⟩) (Kd.R_types HO436.out BK437.out (by decide)) (fun _ hk=>hk.2) (.slice Ao23 t431.length co23)) (fun _ hk=>hk.2) (.slice Ao27 t434.length co27)) (fun _ hk=>hk.1)⟩,⟨by(with_reducible repeat(first|refine kN ?_ _|refine kD ?_|refine kA ?_ _));refine blk_far ?_ NB427_437.out _;(with_reducible repeat(first|refine kN ?_ _|refine kD ?_|refine kA ?_ _));refine blk_far ?_ NB427_437.out _;(with_reducible repeat(first|refine kN ?_ _|refine kD ?_|refine kA ?_ _));exact BK427.out⟩,⟨by(with_reducible repeat(first|refine kN ?_ _|refine kD ?_|refine kA ?_ _));refine blk_far ?_ NB428_437.out _;(with_reducible repeat(first|refine kN ?_ _|refine kD ?_|refine kA ?_ _));refine blk_far ?_ NB428_437.out _;(with_reducible repeat(first|refine kN ?_ _|refine kD ?_|refine kA ?_ _));exact BK428.out⟩,⟨by(with_reducible repeat(first|refine kN ?_ _|refine kD ?_|refine kA ?_ _));refine blk_put (cs:=#[.slice Ao23 t431.length co23,.slice none 0 0]) ?_ 1 _ rfl;(with_reducible repeat(first|refine kN ?_ _|refine kD ?_|refine kA ?_ _));refine blk_put (cs:=#[.slice none 0 0,.slice none 0 0]) ?_ 0 _ rfl;(with_reducible repeat(first|refine kN ?_ _|refine kD ?_|refine kA ?_ _));exact BK437.out⟩,⟨bX3 HB.out GE427.out GE428.out GE437.out⟩⟩
 case round =>
 clear H'
 try clear c7
 try clear c15
 try clear hcz10_0
 try clear hcz10_1
 try clear hcz13_0
 try clear hcz13_1
 try clear hcz17_0
 try clear hcz17_1
 try clear hcz20_0
 try clear hcz20_1
 try clear hcz26_0
 try clear hcz26_1
 try clear hfz10_0
 try clear hfz10_1
 try clear hfz13_0
 try clear hfz13_1
 try clear hfz17_0
 try clear hfz17_1
 try clear hfz20_0
 try clear hfz20_1
 try clear hfz26_0
 try clear hfz26_1
 obtain ⟨x7_2,x438000_2,x438001_2,u438000,u438001,rfl,HA,HK2,HO_438000,HO_438001,BK427,BK428,BK437,HB⟩:=hrel
 cases gk with
 | zero=>exact absurd HA.out (by simp [impl_RunWord.l0])
 | succ k2 =>
 have H:=HA.out
 clear HA
 simp only [impl_RunWord.l0] at H
 by_cases c28:x7_2<(a1.size:Int)
 {
 rw [if_pos c28] at H
 have c28b0:=decide_eq_true c28
 clear c28
 by_cases c29:0≤x7_2
 {
 rw [if_pos c29] at H
 have c29b0:=decide_eq_true c29
 clear c29
 replace H:=oB H
 obtain ⟨⟨t438,t441⟩,A310,H⟩:=H
 replace H:(impl_RunWord.l0 k2 a1 (wrap64 (x7_2+1)) t438 t441)=some (r1,r2,r3):=H
 have A31:=aM A310
 clear A310
 have H':=aM H
 clear H
 try go_wp2
 replace HO_438000:=aM (Kd.R_drew HO_438000.out)
 replace HO_438001:=aM (Kd.R_drew HO_438001.out)
 replace BK427:=aM (blk_drew BK427.out)
 replace BK428:=aM (blk_drew BK428.out)
 replace BK437:=aM (blk_drew BK437.out)
 replace HB:=aM (below_drew1 HB.out)
 have p30:0≤(x7_2:Int):=dX
 have q30:x7_2<(a1.size:Int):=dX
 have hx30:=bt_at a1 x7_2
 replace p30:=eq_true p30
 replace q30:=eq_true q30
 obtain ⟨Ao33,co33,eo33⟩:=Kd.R_slice HO_438000.out
 (first|subst eo33|(injection eo33 with f1_ f2_ f3_;have f4_:=f1_.symm;have f5_:=f3_.symm;clear f1_ f2_ f3_;subst f4_;subst f5_))
 obtain ⟨Ao34,co34,eo34⟩:=Kd.R_slice HO_438001.out
 (first|subst eo34|(injection eo34 with f1_ f2_ f3_;have f4_:=f1_.symm;have f5_:=f3_.symm;clear f1_ f2_ f3_;subst f4_;subst f5_))
 refine start_ (n:=6) (S:=fun w'=>w'.cell? ⟨gb437,0,none⟩=some (.slice Ao33 x438000_2.length co33)∧w'.cell? ⟨gb437,1,none⟩=some (.slice Ao34 x438001_2.length co34)) (ds:=[5]) #[false,false,false,false,false,false] (by kernel_rfl) rfl rfl ⟨cz20 BK437.out,cz21 BK437.out⟩ (fun hHeld => ?_)
 generalize wr.drew=w32 at HO_438000 HO_438001 BK427 BK428 BK437 HB hHeld ⊢
 refine pure_ (i:=1) (N:=some 26) (v:=?_) (a':=?_) #[false,true,false,false,false,false] rfl rfl (by kernel_rfl) (fun _ _ _ h=>h) (Or.inl ⟨by rfl,?_⟩) ?_ ?_
 rotate_left
 {
 intro w'
 go_simp
 with_reducible rfl
 }
 rotate_left
 {
 simp only [Act.put,zA,zB,zC,i64_w,i32_w]
 rfl
 }
 refine pure_ (i:=2) (N:=some 27) (v:=?_) (a':=?_) #[false,true,true,false,false,false] rfl rfl (by kernel_rfl) (fun _ _ _ h=>h) (Or.inl ⟨by rfl,?_⟩) ?_ ?_
 rotate_left
 {
 intro w'
 go_simp
 with_reducible rfl
 }
 rotate_left
 {
 simp only [Act.put,zA,zB,zC,i64_w,i32_w]
 rfl
 }
 refine take_ (i:=0) (N:=some 25) (v:=?_) (a':=?_) #[true,true,true,false,false,false] rfl rfl (by kernel_rfl) (fun _ _ _ h=>h) (Or.inl ⟨by rfl,?_⟩) hHeld ?_ ?_
 rotate_left
 {
 rintro w' ⟨s0,s1⟩
 go_simp
 with_reducible rfl
 }
 rotate_left
 {
 simp only [Act.put,zA,zB,zC,i64_w,i32_w]
 rfl
 }
 refine take_ (i:=3) (N:=some 28) (v:=?_) (a':=?_) #[true,true,true,true,false,false] rfl rfl (by kernel_rfl) (fun _ _ _ h=>h) (Or.inl ⟨by rfl,?_⟩) hHeld ?_ ?_
 rotate_left
 {
 rintro w' ⟨s0,s1⟩
 go_simp
 with_reducible rfl
 }
 rotate_left
 {
 simp only [Act.put,zA,zB,zC,i64_w,i32_w]
 rfl
 }
 refine one_ (i:=4) (N:=some 29) #[true,true,true,true,true,false] rfl rfl (by kernel_rfl) (by decide) (fun K hK => ?_)
 refine goes_ Try.func51 (by kernel_rfl) rfl #[.agg #[.slice Ao33 x438000_2.length co33,.slice Ao34 x438001_2.length co34],.int .u8 (bt a1 x7_2)] (by rfl) rfl rfl aX ?_
 with_reducible refine(impl_letterSurface.calls k2 _ _ x438000_2 _ _ x438001_2 (bt a1 x7_2) t438 t441 _ ?side1 ?side2 ?side3 ?side4 A31.out).mono ?_
 (case side1=>exact cX (Kd.R_reads' HO_438000.out).2.2)
 (case side2=>exact(Kd.R_reads' HO_438000.out).2.1)
 (case side3=>exact cX (Kd.R_reads' HO_438001.out).2.2)
 (case side4=>exact(Kd.R_reads' HO_438001.out).2.1)
 rintro e w35 ⟨v439,v442,rfl,ho0,ho1,hb⟩
 refine ⟨_,rfl,?_⟩
 have HO440:=aM (Kd.R_lower (Kd.R_new' (Kd.R_new' ho0 (Kd.R_lt (rX HO_438000.out))) (Kd.R_lt (rX HO_438001.out))) (below_size (bX3 HB.out GE427.out GE428.out GE437.out)))
 have HO443:=aM (Kd.R_lower (Kd.R_new' (Kd.R_new' ho1 (Kd.R_lt (rX HO_438000.out))) (Kd.R_lt (rX HO_438001.out))) (below_size (bX3 HB.out GE427.out GE428.out GE437.out)))
 replace HO_438000:=aM (Kd.R_mono (Kd.R_told (Kd.R_told (Kd.R_old (rX HO_438000.out) hb) (Kd.R_base ho0)) (Kd.R_base ho1)) (fun _ h_=>h_.1))
 replace HO_438001:=aM (Kd.R_mono (Kd.R_told (Kd.R_told (Kd.R_old (rX HO_438001.out) hb) (Kd.R_base ho0)) (Kd.R_base ho1)) (fun _ h_=>h_.1))
 replace BK427:=aM (bbX BK427.out hb)
 replace BK428:=aM (bbX BK428.out hb)
 replace BK437:=aM (bbX BK437.out hb)
 replace HB:=aM (below_step (bX3 HB.out GE427.out GE428.out GE437.out) hb)
 (try clear hb)
 (try clear hk)
 (try clear ho0)
 (try clear ho1)
 obtain ⟨Ao36,co36,eo36⟩:=Kd.R_slice HO440.out
 (first|subst eo36|(injection eo36 with f1_ f2_ f3_;have f4_:=f1_.symm;have f5_:=f3_.symm;clear f1_ f2_ f3_;subst f4_;subst f5_))
 obtain ⟨Ao38,co38,eo38⟩:=Kd.R_slice HO443.out
 (first|subst eo38|(injection eo38 with f1_ f2_ f3_;have f4_:=f1_.symm;have f5_:=f3_.symm;clear f1_ f2_ f3_;subst f4_;subst f5_))
 refine hK.out _ _ ⟨cz20 BK437.out,cz21 BK437.out⟩ (fun hHeld => ?_)
 clear hK K
 refine norm_ (a':=?_) ?_ ?_
 rotate_left
 {
 show Act.put _ (some 29) _=_
 simp only [Act.put,zA,zB,zC,i64_w,i32_w]
 rfl
 }
 refine last_ (i:=5) (N:=none) #[true,true,true,true,true,true] rfl rfl (by kernel_rfl) (by decide) (fun K hK => ?_)
 have hs37:w35.cell? ⟨gb437,0,none⟩=some (.slice Ao33 x438000_2.length co33):=cz20 BK437.out
 have hfs37:=blk_frozen BK437.out 0
 have hns37_0:=NB427_437.out
 have hns37_1:=NB428_437.out
 have hms37_0:=NB437_427.out
 have hms37_1:=NB437_428.out
 have hs39:w35.cell? ⟨gb437,1,none⟩=some (.slice Ao34 x438001_2.length co34):=cz21 BK437.out
 have hfs39:=blk_frozen BK437.out 1
 have hns39_0:=NB427_437.out
 have hns39_1:=NB428_437.out
 have hms39_0:=NB437_427.out
 have hms39_1:=NB437_428.out
 refine skip_ (w1:=?_) (by rfl) rfl ?_ ?_
 rotate_left
 {
 go_simp
 rfl
 }
 refine hK.out _ _ ?_
 clear hK K
 refine done_ (by kernel_rfl) ?_
 try go_wp2
 go_roundg k2
 case measure=>have:=HJ2.out;have:=HK2.out;omega
 case rel=>exact ⟨(wrap64 (x7_2+1)),(t438),(t441),(.slice Ao36 t438.length co36),(.slice Ao38 t441.length co38),vX,H',⟨by have:=HJ2.out;have:=HK2.out;omega⟩,⟨by(with_reducible repeat(first|apply rA|apply rN|apply rD));exact Kd.R_mono (Kd.R_far (p:=⟨gb437,1,none⟩) (Kd.R_far (p:=⟨gb437,0,none⟩) (Kd.R_types HO440.out BK437.out (by decide)) (fun _ hk=>hk.2) (.slice Ao36 t438.length co36)) (fun _ hk=>hk.2) (.slice Ao38 t441.length co38)) (fun _ hk=>hk.1.1.1)⟩,⟨by(with_reducible repeat(first|apply rA|apply rN|apply rD));exact Kd.R_mono (Kd.R_far (p:=⟨gb437,1,none⟩) (Kd.R_far (p:=⟨gb437,0,none⟩) (Kd.R_types HO443.out BK437.out (by decide)) (fun _ hk=>hk.2) (.slice Ao36 t438.length co36)) (fun _ hk=>hk.2) (.slice Ao38 t441.length co38)) (fun _ hk=>hk.1.1.1)⟩,⟨by(with_reducible repeat(first|refine kN ?_ _|refine kD ?_|refine kA ?_ _));refine blk_far ?_ NB427_437.out _;(with_reducible repeat(first|refine kN ?_ _|refine kD ?_|refine kA ?_ _));refine blk_far ?_ NB427_437.out _;(with_reducible repeat(first|refine kN ?_ _|refine kD ?_|refine kA ?_ _));exact BK427.out⟩,⟨by(with_reducible repeat(first|refine kN ?_ _|refine kD ?_|refine kA ?_ _));refine blk_far ?_ NB428_437.out _;(with_reducible repeat(first|refine kN ?_ _|refine kD ?_|refine kA ?_ _));refine blk_far ?_ NB428_437.out _;(with_reducible repeat(first|refine kN ?_ _|refine kD ?_|refine kA ?_ _));exact BK428.out⟩,⟨by(with_reducible repeat(first|refine kN ?_ _|refine kD ?_|refine kA ?_ _));refine blk_put (cs:=#[.slice Ao36 t438.length co36,.slice Ao34 x438001_2.length co34]) ?_ 1 _ rfl;(with_reducible repeat(first|refine kN ?_ _|refine kD ?_|refine kA ?_ _));refine blk_put (cs:=#[.slice Ao33 x438000_2.length co33,.slice Ao34 x438001_2.length co34]) ?_ 0 _ rfl;(with_reducible repeat(first|refine kN ?_ _|refine kD ?_|refine kA ?_ _));exact BK437.out⟩,⟨bX3 HB.out GE427.out GE428.out GE437.out⟩⟩
 }
 {
 rw [if_neg c29] at H
 exact absurd H (by simp)
 }
 }
 {
 rw [if_neg c28] at H
 have c28b0:=decide_eq_false c28
 clear c28
 simp only [Option.some.injEq,Prod.mk.injEq] at H
 obtain ⟨rfl,rfl,rfl⟩:=H
 have hnb40:=NB437_427.out
 have hnc40:=NB427_437.out
 have hnb41:=NB437_428.out
 have hnc41:=NB428_437.out
 obtain ⟨hcz42_0,hcz42_1,hfz42_0,hfz42_1⟩:=f2Z BK437.out
 obtain ⟨Ao43,co43,eo43⟩:=Kd.R_slice HO_438000.out
 subst eo43
 have hnb44:=NB428_427.out
 have hnc44:=NB427_428.out
 obtain ⟨hcz45_0,hcz45_1,hfz45_0,hfz45_1⟩:=f2Z BK428.out
 obtain ⟨Ao46,co46,eo46⟩:=Kd.R_slice HO_438001.out
 subst eo46
 go_wp2
 refine bodyPost_ret (results_ct rfl _ _ gb428 27 #[.slice Ao43 x438000_2.length co43,.slice Ao46 x438001_2.length co46] (0,0) _ rfl (by(with_reducible repeat(first|refine kN ?_ _|refine kD ?_|refine kA ?_ _));refine blk_put (cs:=#[.slice Ao43 x438000_2.length co43,.slice none 0 0]) ?_ 1 _ rfl;(with_reducible repeat(first|refine kN ?_ _|refine kD ?_|refine kA ?_ _));refine blk_put (cs:=#[.slice none 0 0,.slice none 0 0]) ?_ 0 _ rfl;(with_reducible repeat(first|refine kN ?_ _|refine kD ?_|refine kA ?_ _));exact BK428.out) Try.underlying27 rfl (by kernel_rfl)) rfl ?_
 exact ⟨_,_,eX,by(with_reducible repeat(first|apply rA|apply rN|apply rD));exact Kd.R_mono (Kd.R_far (p:=⟨gb428,1,none⟩) (Kd.R_far (p:=⟨gb428,0,none⟩) (Kd.R_types HO_438000.out BK428.out (by decide)) (fun _ hk=>hk.2) (.slice Ao43 x438000_2.length co43)) (fun _ hk=>hk.2) (.slice Ao46 x438001_2.length co46)) (fun _ hk=>hk.1),by(with_reducible repeat(first|apply rA|apply rN|apply rD));exact Kd.R_mono (Kd.R_far (p:=⟨gb428,1,none⟩) (Kd.R_far (p:=⟨gb428,0,none⟩) (Kd.R_types HO_438001.out BK428.out (by decide)) (fun _ hk=>hk.2) (.slice Ao43 x438000_2.length co43)) (fun _ hk=>hk.2) (.slice Ao46 x438001_2.length co46)) (fun _ hk=>hk.1),bX3 HB.out GE427.out GE428.out GE437.out⟩
 }
 }

/-! ### impl_AreIsomorphic: function 35 -/
/-! by hand -/
def impl_AreIsomorphic.f (k:Nat) (l0_0 l0_1 l1_0 l1_1:List Int):Option Bool:=(impl_CanonOf.f k l0_0 l0_1).bind fun x=>(impl_CanonOf.f k l1_0 l1_1).bind fun y=>if x.2.2=true then (if y.2.2=true then impl_SameSurface.f k x.1 x.2.1 y.1 y.2.1 else some false) else some false
theorem impl_AreIsomorphic.calls (k:Nat) (A0_0:Option Addr) (c0_0:Nat) (l0_0:List Int) (A0_1:Option Addr) (c0_1:Nat) (l0_1:List Int) (A1_0:Option Addr) (c1_0:Nat) (l1_0:List Int) (A1_1:Option Addr) (c1_1:Nat) (l1_1:List Int) (r:Bool) (w:World) (hr0_0:Kd.C (Kd.int .i64) w A0_0 l0_0.length l0_0) (hc0_0:l0_0.length≤c0_0) (hr0_1:Kd.C (Kd.int .i64) w A0_1 l0_1.length l0_1) (hc0_1:l0_1.length≤c0_1) (hr1_0:Kd.C (Kd.int .i64) w A1_0 l1_0.length l1_0) (hc1_0:l1_0.length≤c1_0) (hr1_1:Kd.C (Kd.int .i64) w A1_1 l1_1.length l1_1) (hc1_1:l1_1.length≤c1_1) (h:impl_AreIsomorphic.f k l0_0 l0_1 l1_0 l1_1=some r) :
    Calls Try.prog 35 #[.agg #[.slice A0_0 l0_0.length c0_0,.slice A0_1 l0_1.length c0_1],.agg #[.slice A1_0 l1_0.length c1_0,.slice A1_1 l1_1.length c1_1]] w fun e w'=>e = .returned (.bool r)∧Below w.heap.size w w':=by
 have hu:=Try.underlying27
 have HS:Aside0 (SurfC w A0_0 A0_1 c0_0 c0_1 l0_0 l0_1):=⟨⟨hc0_0,hr0_0,hc0_1,hr0_1⟩⟩
 have HT:Aside0 (SurfC w A1_0 A1_1 c1_0 c1_1 l1_0 l1_1):=⟨⟨hc1_0,hr1_0,hc1_1,hr1_1⟩⟩
 clear hr0_0 hc0_0 hr0_1 hc0_1 hr1_0 hc1_0 hr1_1 hc1_1
 unfold impl_AreIsomorphic.f at h
 obtain ⟨⟨q1,q2,q3⟩,hq,h⟩:=oB h
 obtain ⟨⟨p1,p2,p3⟩,hp,h⟩:=oB h
 have HQ:=aM hq
 have HP:=aM hp
 clear hq hp
 cases q3 with
 | true =>
  cases p3 with
  | true =>
   have HA:=aM (show impl_SameSurface.f k q1 q2 p1 p2=some r from h)
   clear h
   go_enter Try.func35,Try.ntmps35
   go_wp2_with (first
    | ((with_reducible refine gate_dst (N:=2) rfl ?_);refine bEv (cs:=#[.slice A0_0 l0_0.length c0_0,.slice A0_1 l0_1.length c0_1]) (t:=27) ?_;intro gb2 hg2 w1 hbox hb;have BK2:=aM hbox;have HB1:=aM hb;have HG2:=aM hg2;clear hbox hb hg2)
    | ((with_reducible refine gate_dst (N:=3) rfl ?_);refine bEv (cs:=#[.slice A1_0 l1_0.length c1_0,.slice A1_1 l1_1.length c1_1]) (t:=27) ?_;intro gb3 hg3 w2 hbox hb;have HB2:=aM (below_step HB1.out hb);have BK22:=aM (blk_below BK2.out hb);have BK3:=aM hbox;have HNE23:=aM (show gb2≠gb3 by have:=blk_lt BK2.out;omega);clear hbox hb hg3 BK2 HB1;have hcgb20:(w2).cell? ⟨gb2,0,none⟩=some (.slice A0_0 l0_0.length c0_0):=(blk_cell BK22.out 0).trans rfl;have hcgb21:(w2).cell? ⟨gb2,1,none⟩=some (.slice A0_1 l0_1.length c0_1):=(blk_cell BK22.out 1).trans rfl;skip)
    | (go_at_call 50;(refine(impl_CanonOf.calls k _ _ l0_0 _ _ l0_1 q1 q2 _ w2 (HS.out.below HB2.out) HQ.out).mono ?_);rintro e w3 ⟨B0,b0,B1,b1,rfl,hS,hb⟩;have HB3:=aM (below_step HB2.out hb);have BK33:=aM (blk_below BK3.out hb);have HS3:=aM hS;clear hcgb20 hcgb21 hb hS BK3 BK22 HB2)
    | ((with_reducible refine gate_dst (N:=5) rfl ?_);refine bEv (cs:=#[.slice none 0 0,.slice none 0 0]) (t:=27) ?_;intro gb5 hg5 w4 hbox hb;have BK5:=aM hbox;have HB4:=aM (below_step HB3.out hb);have HG5:=aM (show w.heap.size≤gb5 by rw [hg5];exact below_size HB3.out);have BK34:=aM (blk_below BK33.out hb);have HNE:=aM (show gb3≠gb5 by have:=blk_lt BK33.out;omega);have HG35:=aM (show w3.heap.size≤gb5 by omega);have HB34:=aM hb;clear hbox hb hg5 BK33 HB3)
    | (refine wpList_store_row rfl 27 (.tmp 5) (.tmp 12) rfl gb5 #[.slice B0 q1.length b0,.slice B1 q2.length b1] rfl rfl 27 #[.slice none 0 0,.slice none 0 0] BK5.out (by kernel_rfl) rfl (by simp [Value.oneCell']) ?_;have BK35:=aM ((setRow_other w4 gb5 gb3 #[.slice B0 q1.length b0,.slice B1 q2.length b1] HNE.out).trans BK34.out);have HB5:=aM (below_setRow HB4.out HG5.out #[.slice B0 q1.length b0,.slice B1 q2.length b1]);have HC5:=aM (setRow_heap w4 gb5 _ #[.slice B0 q1.length b0,.slice B1 q2.length b1] _ _ BK5.out);have HS5:=aM (HS3.out.below (below_setRow HB34.out HG35.out #[.slice B0 q1.length b0,.slice B1 q2.length b1]));clear BK34 HB4 BK5;have hcgb30:(w4.setRow gb5 #[.slice B0 q1.length b0,.slice B1 q2.length b1]).cell? ⟨gb3,0,none⟩=some (.slice A1_0 l1_0.length c1_0):=(blk_cell BK35.out 0).trans rfl;have hcgb31:(w4.setRow gb5 #[.slice B0 q1.length b0,.slice B1 q2.length b1]).cell? ⟨gb3,1,none⟩=some (.slice A1_1 l1_1.length c1_1):=(blk_cell BK35.out 1).trans rfl; skip)
    | (go_at_call 50;(refine(impl_CanonOf.calls k _ _ l1_0 _ _ l1_1 p1 p2 _ (w4.setRow gb5 #[.slice B0 q1.length b0,.slice B1 q2.length b1]) (HT.out.below HB5.out) HP.out).mono ?_);rintro e w6 ⟨D0,d0,D1,d1,rfl,hS,hb⟩;have HB6:=aM (below_step HB5.out hb);have HC6:=aM (blk_below HC5.out hb);have HS6:=aM (HS5.out.below hb);have HT6:=aM hS;clear hcgb30 hcgb31 hb hS BK35 HB5 HC5 HS5)
    | ((with_reducible refine gate_dst (N:=7) rfl ?_);refine bEv (cs:=#[.slice none 0 0,.slice none 0 0]) (t:=27) ?_;intro gb7 hg7 w7 hbox hb;have BK7:=aM hbox;have HB7:=aM (below_step HB6.out hb);have HG7:=aM (show w.heap.size≤gb7 by rw [hg7];exact below_size HB6.out);have HC7:=aM (blk_below HC6.out hb);have HNE7:=aM (show gb7≠gb5 by have:=blk_lt HC6.out;omega);have HG67:=aM (show w6.heap.size≤gb7 by omega);have HB67:=aM hb;clear hbox hb hg7 HC6 HB6)
    | (refine wpList_store_row rfl 27 (.tmp 7) (.tmp 17) rfl gb7 #[.slice D0 p1.length d0,.slice D1 p2.length d1] rfl rfl 27 #[.slice none 0 0,.slice none 0 0] BK7.out (by kernel_rfl) rfl (by simp [Value.oneCell']) ?_;have HD9:=aM (setRow_heap w7 gb7 _ #[.slice D0 p1.length d0,.slice D1 p2.length d1] _ _ BK7.out);have HC9:=aM ((setRow_other w7 gb7 gb5 #[.slice D0 p1.length d0,.slice D1 p2.length d1] HNE7.out.symm).trans HC7.out);have HB9:=aM (below_setRow HB7.out HG7.out #[.slice D0 p1.length d0,.slice D1 p2.length d1]);have HS9:=aM (HS6.out.below (below_setRow HB67.out HG67.out #[.slice D0 p1.length d0,.slice D1 p2.length d1]));have HT9:=aM (HT6.out.below (below_setRow HB67.out HG67.out #[.slice D0 p1.length d0,.slice D1 p2.length d1]));clear BK7 HC7 HB7;have hcgb50:(w7.setRow gb7 #[.slice D0 p1.length d0,.slice D1 p2.length d1]).cell? ⟨gb5,0,none⟩=some (.slice B0 q1.length b0):=(blk_cell HC9.out 0).trans rfl;have hcgb51:(w7.setRow gb7 #[.slice D0 p1.length d0,.slice D1 p2.length d1]).cell? ⟨gb5,1,none⟩=some (.slice B1 q2.length b1):=(blk_cell HC9.out 1).trans rfl; have hcgb70:(w7.setRow gb7 #[.slice D0 p1.length d0,.slice D1 p2.length d1]).cell? ⟨gb7,0,none⟩=some (.slice D0 p1.length d0):=(blk_cell HD9.out 0).trans rfl;have hcgb71:(w7.setRow gb7 #[.slice D0 p1.length d0,.slice D1 p2.length d1]).cell? ⟨gb7,1,none⟩=some (.slice D1 p2.length d1):=(blk_cell HD9.out 1).trans rfl; skip)
    | (go_at_call 58;(refine(impl_SameSurface.calls k B0 b0 q1 B1 b1 q2 D0 d0 p1 D1 d1 p2 r (w7.setRow gb7 #[.slice D0 p1.length d0,.slice D1 p2.length d1]) HS9.out.g0 HS9.out.l0 HS9.out.g1 HS9.out.l1 HT9.out.g0 HT9.out.l0 HT9.out.g1 HT9.out.l1 HA.out).mono ?_);rintro e w8 ⟨rfl,hb⟩;have HBE:=aM (below_step HB9.out hb);clear hcgb50 hcgb51 hcgb70 hcgb71 hb))
   go_ret
   exact ⟨rfl,HBE.out⟩
  | false =>
  have hr:r=false:=(Option.some.inj h).symm
  clear h
  subst hr
  go_enter Try.func35,Try.ntmps35
  go_wp2_with (first
   | ((with_reducible refine gate_dst (N:=2) rfl ?_);refine bEv (cs:=#[.slice A0_0 l0_0.length c0_0,.slice A0_1 l0_1.length c0_1]) (t:=27) ?_;intro gb2 hg2 w1 hbox hb;have BK2:=aM hbox;have HB1:=aM hb;have HG2:=aM hg2;clear hbox hb hg2)
   | ((with_reducible refine gate_dst (N:=3) rfl ?_);refine bEv (cs:=#[.slice A1_0 l1_0.length c1_0,.slice A1_1 l1_1.length c1_1]) (t:=27) ?_;intro gb3 hg3 w2 hbox hb;have HB2:=aM (below_step HB1.out hb);have BK22:=aM (blk_below BK2.out hb);have BK3:=aM hbox;have HNE23:=aM (show gb2≠gb3 by have:=blk_lt BK2.out;omega);clear hbox hb hg3 BK2 HB1;have hcgb20:(w2).cell? ⟨gb2,0,none⟩=some (.slice A0_0 l0_0.length c0_0):=(blk_cell BK22.out 0).trans rfl;have hcgb21:(w2).cell? ⟨gb2,1,none⟩=some (.slice A0_1 l0_1.length c0_1):=(blk_cell BK22.out 1).trans rfl;skip)
   | (go_at_call 50;(refine(impl_CanonOf.calls k _ _ l0_0 _ _ l0_1 q1 q2 _ w2 (HS.out.below HB2.out) HQ.out).mono ?_);rintro e w3 ⟨B0,b0,B1,b1,rfl,hS,hb⟩;have HB3:=aM (below_step HB2.out hb);have BK33:=aM (blk_below BK3.out hb);have HS3:=aM hS;clear hcgb20 hcgb21 hb hS BK3 BK22 HB2)
   | ((with_reducible refine gate_dst (N:=5) rfl ?_);refine bEv (cs:=#[.slice none 0 0,.slice none 0 0]) (t:=27) ?_;intro gb5 hg5 w4 hbox hb;have BK5:=aM hbox;have HB4:=aM (below_step HB3.out hb);have HG5:=aM (show w.heap.size≤gb5 by rw [hg5];exact below_size HB3.out);have BK34:=aM (blk_below BK33.out hb);have HNE:=aM (show gb3≠gb5 by have:=blk_lt BK33.out;omega);have HG35:=aM (show w3.heap.size≤gb5 by omega);have HB34:=aM hb;clear hbox hb hg5 BK33 HB3)
   | (refine wpList_store_row rfl 27 (.tmp 5) (.tmp 12) rfl gb5 #[.slice B0 q1.length b0,.slice B1 q2.length b1] rfl rfl 27 #[.slice none 0 0,.slice none 0 0] BK5.out (by kernel_rfl) rfl (by simp [Value.oneCell']) ?_;have BK35:=aM ((setRow_other w4 gb5 gb3 #[.slice B0 q1.length b0,.slice B1 q2.length b1] HNE.out).trans BK34.out);have HB5:=aM (below_setRow HB4.out HG5.out #[.slice B0 q1.length b0,.slice B1 q2.length b1]);have HC5:=aM (setRow_heap w4 gb5 _ #[.slice B0 q1.length b0,.slice B1 q2.length b1] _ _ BK5.out);have HS5:=aM (HS3.out.below (below_setRow HB34.out HG35.out #[.slice B0 q1.length b0,.slice B1 q2.length b1]));clear BK34 HB4 BK5;have hcgb30:(w4.setRow gb5 #[.slice B0 q1.length b0,.slice B1 q2.length b1]).cell? ⟨gb3,0,none⟩=some (.slice A1_0 l1_0.length c1_0):=(blk_cell BK35.out 0).trans rfl;have hcgb31:(w4.setRow gb5 #[.slice B0 q1.length b0,.slice B1 q2.length b1]).cell? ⟨gb3,1,none⟩=some (.slice A1_1 l1_1.length c1_1):=(blk_cell BK35.out 1).trans rfl; skip)
   | (go_at_call 50;(refine(impl_CanonOf.calls k _ _ l1_0 _ _ l1_1 p1 p2 _ (w4.setRow gb5 #[.slice B0 q1.length b0,.slice B1 q2.length b1]) (HT.out.below HB5.out) HP.out).mono ?_);rintro e w6 ⟨D0,d0,D1,d1,rfl,hS,hb⟩;have HB6:=aM (below_step HB5.out hb);have HC6:=aM (blk_below HC5.out hb);have HS6:=aM (HS5.out.below hb);have HT6:=aM hS;clear hcgb30 hcgb31 hb hS BK35 HB5 HC5 HS5)
   | ((with_reducible refine gate_dst (N:=7) rfl ?_);refine bEv (cs:=#[.slice none 0 0,.slice none 0 0]) (t:=27) ?_;intro gb7 hg7 w7 hbox hb;have BK7:=aM hbox;have HB7:=aM (below_step HB6.out hb);have HG7:=aM (show w.heap.size≤gb7 by rw [hg7];exact below_size HB6.out);have HC7:=aM (blk_below HC6.out hb);have HNE7:=aM (show gb7≠gb5 by have:=blk_lt HC6.out;omega);have HG67:=aM (show w6.heap.size≤gb7 by omega);have HB67:=aM hb;clear hbox hb hg7 HC6 HB6)
   | (refine wpList_store_row rfl 27 (.tmp 7) (.tmp 17) rfl gb7 #[.slice D0 p1.length d0,.slice D1 p2.length d1] rfl rfl 27 #[.slice none 0 0,.slice none 0 0] BK7.out (by kernel_rfl) rfl (by simp [Value.oneCell']) ?_;have HD9:=aM (setRow_heap w7 gb7 _ #[.slice D0 p1.length d0,.slice D1 p2.length d1] _ _ BK7.out);have HC9:=aM ((setRow_other w7 gb7 gb5 #[.slice D0 p1.length d0,.slice D1 p2.length d1] HNE7.out.symm).trans HC7.out);have HB9:=aM (below_setRow HB7.out HG7.out #[.slice D0 p1.length d0,.slice D1 p2.length d1]);have HS9:=aM (HS6.out.below (below_setRow HB67.out HG67.out #[.slice D0 p1.length d0,.slice D1 p2.length d1]));have HT9:=aM (HT6.out.below (below_setRow HB67.out HG67.out #[.slice D0 p1.length d0,.slice D1 p2.length d1]));clear BK7 HC7 HB7;have hcgb50:(w7.setRow gb7 #[.slice D0 p1.length d0,.slice D1 p2.length d1]).cell? ⟨gb5,0,none⟩=some (.slice B0 q1.length b0):=(blk_cell HC9.out 0).trans rfl;have hcgb51:(w7.setRow gb7 #[.slice D0 p1.length d0,.slice D1 p2.length d1]).cell? ⟨gb5,1,none⟩=some (.slice B1 q2.length b1):=(blk_cell HC9.out 1).trans rfl; have hcgb70:(w7.setRow gb7 #[.slice D0 p1.length d0,.slice D1 p2.length d1]).cell? ⟨gb7,0,none⟩=some (.slice D0 p1.length d0):=(blk_cell HD9.out 0).trans rfl;have hcgb71:(w7.setRow gb7 #[.slice D0 p1.length d0,.slice D1 p2.length d1]).cell? ⟨gb7,1,none⟩=some (.slice D1 p2.length d1):=(blk_cell HD9.out 1).trans rfl; skip))
  go_ret
  exact ⟨rfl,HB9.out⟩
 | false =>
 have hr:r=false:=(Option.some.inj h).symm
 clear h
 subst hr
 go_enter Try.func35,Try.ntmps35
 go_wp2_with (first
  | ((with_reducible refine gate_dst (N:=2) rfl ?_);refine bEv (cs:=#[.slice A0_0 l0_0.length c0_0,.slice A0_1 l0_1.length c0_1]) (t:=27) ?_;intro gb2 hg2 w1 hbox hb;have BK2:=aM hbox;have HB1:=aM hb;have HG2:=aM hg2;clear hbox hb hg2)
  | ((with_reducible refine gate_dst (N:=3) rfl ?_);refine bEv (cs:=#[.slice A1_0 l1_0.length c1_0,.slice A1_1 l1_1.length c1_1]) (t:=27) ?_;intro gb3 hg3 w2 hbox hb;have HB2:=aM (below_step HB1.out hb);have BK22:=aM (blk_below BK2.out hb);have BK3:=aM hbox;have HNE23:=aM (show gb2≠gb3 by have:=blk_lt BK2.out;omega);clear hbox hb hg3 BK2 HB1;have hcgb20:(w2).cell? ⟨gb2,0,none⟩=some (.slice A0_0 l0_0.length c0_0):=(blk_cell BK22.out 0).trans rfl;have hcgb21:(w2).cell? ⟨gb2,1,none⟩=some (.slice A0_1 l0_1.length c0_1):=(blk_cell BK22.out 1).trans rfl;skip)
  | (go_at_call 50;(refine(impl_CanonOf.calls k _ _ l0_0 _ _ l0_1 q1 q2 _ w2 (HS.out.below HB2.out) HQ.out).mono ?_);rintro e w3 ⟨B0,b0,B1,b1,rfl,hS,hb⟩;have HB3:=aM (below_step HB2.out hb);have BK33:=aM (blk_below BK3.out hb);have HS3:=aM hS;clear hcgb20 hcgb21 hb hS BK3 BK22 HB2)
  | ((with_reducible refine gate_dst (N:=5) rfl ?_);refine bEv (cs:=#[.slice none 0 0,.slice none 0 0]) (t:=27) ?_;intro gb5 hg5 w4 hbox hb;have BK5:=aM hbox;have HB4:=aM (below_step HB3.out hb);have HG5:=aM (show w.heap.size≤gb5 by rw [hg5];exact below_size HB3.out);have BK34:=aM (blk_below BK33.out hb);have HNE:=aM (show gb3≠gb5 by have:=blk_lt BK33.out;omega);have HG35:=aM (show w3.heap.size≤gb5 by omega);have HB34:=aM hb;clear hbox hb hg5 BK33 HB3)
  | (refine wpList_store_row rfl 27 (.tmp 5) (.tmp 12) rfl gb5 #[.slice B0 q1.length b0,.slice B1 q2.length b1] rfl rfl 27 #[.slice none 0 0,.slice none 0 0] BK5.out (by kernel_rfl) rfl (by simp [Value.oneCell']) ?_;have BK35:=aM ((setRow_other w4 gb5 gb3 #[.slice B0 q1.length b0,.slice B1 q2.length b1] HNE.out).trans BK34.out);have HB5:=aM (below_setRow HB4.out HG5.out #[.slice B0 q1.length b0,.slice B1 q2.length b1]);have HC5:=aM (setRow_heap w4 gb5 _ #[.slice B0 q1.length b0,.slice B1 q2.length b1] _ _ BK5.out);have HS5:=aM (HS3.out.below (below_setRow HB34.out HG35.out #[.slice B0 q1.length b0,.slice B1 q2.length b1]));clear BK34 HB4 BK5;have hcgb30:(w4.setRow gb5 #[.slice B0 q1.length b0,.slice B1 q2.length b1]).cell? ⟨gb3,0,none⟩=some (.slice A1_0 l1_0.length c1_0):=(blk_cell BK35.out 0).trans rfl;have hcgb31:(w4.setRow gb5 #[.slice B0 q1.length b0,.slice B1 q2.length b1]).cell? ⟨gb3,1,none⟩=some (.slice A1_1 l1_1.length c1_1):=(blk_cell BK35.out 1).trans rfl; skip)
  | (go_at_call 50;(refine(impl_CanonOf.calls k _ _ l1_0 _ _ l1_1 p1 p2 _ (w4.setRow gb5 #[.slice B0 q1.length b0,.slice B1 q2.length b1]) (HT.out.below HB5.out) HP.out).mono ?_);rintro e w6 ⟨D0,d0,D1,d1,rfl,hS,hb⟩;have HB6:=aM (below_step HB5.out hb);have HC6:=aM (blk_below HC5.out hb);have HS6:=aM (HS5.out.below hb);have HT6:=aM hS;clear hcgb30 hcgb31 hb hS BK35 HB5 HC5 HS5)
  | ((with_reducible refine gate_dst (N:=7) rfl ?_);refine bEv (cs:=#[.slice none 0 0,.slice none 0 0]) (t:=27) ?_;intro gb7 hg7 w7 hbox hb;have BK7:=aM hbox;have HB7:=aM (below_step HB6.out hb);have HG7:=aM (show w.heap.size≤gb7 by rw [hg7];exact below_size HB6.out);have HC7:=aM (blk_below HC6.out hb);have HNE7:=aM (show gb7≠gb5 by have:=blk_lt HC6.out;omega);have HG67:=aM (show w6.heap.size≤gb7 by omega);have HB67:=aM hb;clear hbox hb hg7 HC6 HB6)
  | (refine wpList_store_row rfl 27 (.tmp 7) (.tmp 17) rfl gb7 #[.slice D0 p1.length d0,.slice D1 p2.length d1] rfl rfl 27 #[.slice none 0 0,.slice none 0 0] BK7.out (by kernel_rfl) rfl (by simp [Value.oneCell']) ?_;have HD9:=aM (setRow_heap w7 gb7 _ #[.slice D0 p1.length d0,.slice D1 p2.length d1] _ _ BK7.out);have HC9:=aM ((setRow_other w7 gb7 gb5 #[.slice D0 p1.length d0,.slice D1 p2.length d1] HNE7.out.symm).trans HC7.out);have HB9:=aM (below_setRow HB7.out HG7.out #[.slice D0 p1.length d0,.slice D1 p2.length d1]);have HS9:=aM (HS6.out.below (below_setRow HB67.out HG67.out #[.slice D0 p1.length d0,.slice D1 p2.length d1]));have HT9:=aM (HT6.out.below (below_setRow HB67.out HG67.out #[.slice D0 p1.length d0,.slice D1 p2.length d1]));clear BK7 HC7 HB7;have hcgb50:(w7.setRow gb7 #[.slice D0 p1.length d0,.slice D1 p2.length d1]).cell? ⟨gb5,0,none⟩=some (.slice B0 q1.length b0):=(blk_cell HC9.out 0).trans rfl;have hcgb51:(w7.setRow gb7 #[.slice D0 p1.length d0,.slice D1 p2.length d1]).cell? ⟨gb5,1,none⟩=some (.slice B1 q2.length b1):=(blk_cell HC9.out 1).trans rfl; have hcgb70:(w7.setRow gb7 #[.slice D0 p1.length d0,.slice D1 p2.length d1]).cell? ⟨gb7,0,none⟩=some (.slice D0 p1.length d0):=(blk_cell HD9.out 0).trans rfl;have hcgb71:(w7.setRow gb7 #[.slice D0 p1.length d0,.slice D1 p2.length d1]).cell? ⟨gb7,1,none⟩=some (.slice D1 p2.length d1):=(blk_cell HD9.out 1).trans rfl; skip))
 go_ret
 exact ⟨rfl,HB9.out⟩

/-! ### impl_IsFixedBy: function 14 -/
def impl_IsFixedBy.f (k:Nat) (l0_0:List Int) (l0_1:List Int) (a1:ByteArray):Option (Bool):=(impl_RunWord.f k l0_0 l0_1 a1).bind fun bt445=>(if bt445.2.2=true then ((impl_AreIsomorphic.f k bt445.1 bt445.2.1 l0_0 l0_1).bind fun t453=>(some t453)) else (some false))
theorem impl_IsFixedBy.calls (k:Nat) (A0_0:Option Addr) (c0_0:Nat) (l0_0:List Int) (A0_1:Option Addr) (c0_1:Nat) (l0_1:List Int) (a1:ByteArray) (r:Bool) (w:World) (hr0_0:Kd.C (Kd.int .i64) w A0_0 l0_0.length l0_0) (hc0_0:l0_0.length≤c0_0) (hr0_1:Kd.C (Kd.int .i64) w A0_1 l0_1.length l0_1) (hc0_1:l0_1.length≤c0_1) (h:impl_IsFixedBy.f k l0_0 l0_1 a1=some r) :
  Calls Try.prog 14 #[.agg #[.slice A0_0 l0_0.length c0_0,.slice A0_1 l0_1.length c0_1],.string a1] w fun e w'=>e = .returned (.bool r)∧Below w.heap.size w w':=by
 have hu27:=Try.underlying27
 have HR0_0:=aM hr0_0
 have HC0_0:=aM hc0_0
 clear hr0_0 hc0_0
 have HR0_1:=aM hr0_1
 have HC0_1:=aM hc0_1
 clear hr0_1 hc0_1
 have HB:=aM (Below.refl w.heap.size w)
 have H:((impl_RunWord.f k l0_0 l0_1 a1).bind fun bt445=>(if bt445.2.2=true then ((impl_AreIsomorphic.f k bt445.1 bt445.2.1 l0_0 l0_1).bind fun t453=>(some t453)) else (some false)))=some r:=h
 clear h
 replace H:=oB H
 obtain ⟨⟨t445,t448,t451⟩,A30,H⟩:=H
 replace H:(if t451=true then ((impl_AreIsomorphic.f k t445 t448 l0_0 l0_1).bind fun t453=>(some t453)) else (some false))=some r:=H
 have A3:=aM A30
 clear A30
 by_cases c4:t451=true
 {
 subst c4
 have H1:((impl_AreIsomorphic.f k t445 t448 l0_0 l0_1).bind fun t453=>(some t453))=some r:=by rw [if_pos rfl] at H;exact H
 clear H
 have H:=H1
 clear H1
 replace H:=oB H
 obtain ⟨t453,A50,H⟩:=H
 have A5:=aM A50
 clear A50
 obtain rfl:=Option.some.inj H
 go_enter Try.func14,Try.ntmps14
 go_wp2_with (first|((with_reducible refine gate_dst (N:=2) rfl ?_);refine bEv (cs:=#[.slice A0_0 l0_0.length c0_0,.slice A0_1 l0_1.length c0_1]) (t:=27) ?_;intro gb444 hg w6 hbox hb;have BK444:=aM (hbox);have GW444:=aM ((szX (below_size (bX HB.out)) hg:w.heap.size≤gb444));have GE444:=GW444;replace HB:=aM (below_step (bX HB.out) hb);clear hb hbox hg;obtain ⟨hcz7_0,hcz7_1,hfz7_0,hfz7_1⟩:=f2Z BK444.out)|((with_reducible refine gate_callee (f:=34) rfl ?_);refine goesL_ (some 10) rfl rfl Try.func34 (by kernel_rfl) rfl #[.agg #[.slice A0_0 l0_0.length c0_0,.slice A0_1 l0_1.length c0_1],.string a1] rfl aX ?_;(with_reducible refine(impl_RunWord.calls k _ _ l0_0 _ _ l0_1 a1 t445 t448 true _ ?side1 ?side2 ?side3 ?side4 A3.out).mono ?_);(case side1=>exact cX (Kd.C_below HR0_0.out HB.out));(case side2=>exact HC0_0.out);(case side3=>exact cX (Kd.C_below HR0_1.out HB.out));(case side4=>exact HC0_1.out);rintro e w8 ⟨v446,v449,rfl,ho0,ho1,hb⟩;refine ⟨_,rfl,?_⟩;have HO447:=aM (Kd.R_lower ho0 (below_size (bX1 HB.out GE444.out)));have HO450:=aM (Kd.R_lower ho1 (below_size (bX1 HB.out GE444.out)));replace BK444:=aM (bbX BK444.out hb);replace HB:=aM (below_step (bX1 HB.out GE444.out) hb);(try clear hb);(try clear ho0);(try clear ho1))|((with_reducible refine gate_dst (N:=5) rfl ?_);refine bEv (cs:=#[.slice none 0 0,.slice none 0 0]) (t:=27) ?_;intro gb452 hg w9 hbox hb;replace HO447:=aM (Kd.R_below (rX HO447.out) hb);replace HO450:=aM (Kd.R_below (rX HO450.out) hb);have BK452:=aM (hbox);have GW452:=aM ((szX (below_size (bX1 HB.out GE444.out)) hg:w.heap.size≤gb452));have GE452:=GW452;replace HB:=aM (below_step (bX1 HB.out GE444.out) hb);have NB444_452:=aM (neX BK444.out hg);have NB452_444:=aM (nfX BK444.out hg);replace BK444:=aM (bbX BK444.out hb);clear hb hbox hg;obtain ⟨Ao10,co10,eo10⟩:=Kd.R_slice HO447.out;subst eo10;have hnb11:=NB452_444.out;have hnc11:=NB444_452.out;obtain ⟨hcz12_0,hcz12_1,hfz12_0,hfz12_1⟩:=f2Z BK452.out;obtain ⟨Ao13,co13,eo13⟩:=Kd.R_slice HO450.out;subst eo13;obtain ⟨hcz14_0,hcz14_1,hfz14_0,hfz14_1⟩:=f2Z BK444.out)|(go_at_call 35;(with_reducible refine(impl_AreIsomorphic.calls k _ _ t445 _ _ t448 _ _ l0_0 _ _ l0_1 t453 _ ?side1 ?side2 ?side3 ?side4 ?side5 ?side6 ?side7 ?side8 A5.out).mono ?_);(case side1=>exact rcX (fr2 HO447.out BK452.out (.slice Ao10 t445.length co10) (.slice Ao13 t448.length co13)));(case side2=>exact(Kd.R_reads' HO447.out).2.1);(case side3=>exact rcX (fr2 HO450.out BK452.out (.slice Ao10 t445.length co10) (.slice Ao13 t448.length co13)));(case side4=>exact(Kd.R_reads' HO450.out).2.1);(case side5=>exact Kd.C_below HR0_0.out (bX2 HB.out GE444.out GE452.out));(case side6=>exact HC0_0.out);(case side7=>exact Kd.C_below HR0_1.out (bX2 HB.out GE444.out GE452.out));(case side8=>exact HC0_1.out);rintro e w15 ⟨rfl,hb⟩;replace HO447:=aM (Kd.R_below (rX (fr2 HO447.out BK452.out (.slice Ao10 t445.length co10) (.slice Ao13 t448.length co13))) hb);replace HO450:=aM (Kd.R_below (rX (fr2 HO450.out BK452.out (.slice Ao10 t445.length co10) (.slice Ao13 t448.length co13))) hb);replace BK444:=aM (blk_below (g:=gb444) (o:=.cells #[.slice A0_0 l0_0.length c0_0,.slice A0_1 l0_1.length c0_1] 27 (0,0)) (by(with_reducible repeat(first|refine kN ?_ _|refine kD ?_|refine kA ?_ _));refine blk_far ?_ NB444_452.out _;(with_reducible repeat(first|refine kN ?_ _|refine kD ?_|refine kA ?_ _));refine blk_far ?_ NB444_452.out _;(with_reducible repeat(first|refine kN ?_ _|refine kD ?_|refine kA ?_ _));exact BK444.out) hb);replace BK452:=aM (blk_below (g:=gb452) (o:=.cells #[.slice Ao10 t445.length co10,.slice Ao13 t448.length co13] 27 (0,0)) (by(with_reducible repeat(first|refine kN ?_ _|refine kD ?_|refine kA ?_ _));refine blk_put (cs:=#[.slice Ao10 t445.length co10,.slice none 0 0]) ?_ 1 _ rfl;(with_reducible repeat(first|refine kN ?_ _|refine kD ?_|refine kA ?_ _));refine blk_put (cs:=#[.slice none 0 0,.slice none 0 0]) ?_ 0 _ rfl;(with_reducible repeat(first|refine kN ?_ _|refine kD ?_|refine kA ?_ _));exact BK452.out) hb);replace HB:=aM (below_step (bX2 HB.out GE444.out GE452.out) hb);(try clear hb)))
 go_ret
 exact ⟨eX,bX2 HB.out GE444.out GE452.out⟩
 }
 {
 replace c4:=Bool.eq_false_iff.mpr c4
 subst c4
 have H1:(some false)=some r:=by rw [if_neg (show ¬ (false=true) by decide)] at H;exact H
 clear H
 have H:=H1
 clear H1
 obtain rfl:=Option.some.inj H
 go_enter Try.func14,Try.ntmps14
 go_wp2_with (first|((with_reducible refine gate_dst (N:=2) rfl ?_);refine bEv (cs:=#[.slice A0_0 l0_0.length c0_0,.slice A0_1 l0_1.length c0_1]) (t:=27) ?_;intro gb444 hg w16 hbox hb;have BK444:=aM (hbox);have GW444:=aM ((szX (below_size (bX HB.out)) hg:w.heap.size≤gb444));have GE444:=GW444;replace HB:=aM (below_step (bX HB.out) hb);clear hb hbox hg;obtain ⟨hcz17_0,hcz17_1,hfz17_0,hfz17_1⟩:=f2Z BK444.out)|((with_reducible refine gate_callee (f:=34) rfl ?_);refine goesL_ (some 10) rfl rfl Try.func34 (by kernel_rfl) rfl #[.agg #[.slice A0_0 l0_0.length c0_0,.slice A0_1 l0_1.length c0_1],.string a1] rfl aX ?_;(with_reducible refine(impl_RunWord.calls k _ _ l0_0 _ _ l0_1 a1 t445 t448 false _ ?side1 ?side2 ?side3 ?side4 A3.out).mono ?_);(case side1=>exact cX (Kd.C_below HR0_0.out HB.out));(case side2=>exact HC0_0.out);(case side3=>exact cX (Kd.C_below HR0_1.out HB.out));(case side4=>exact HC0_1.out);rintro e w18 ⟨v446,v449,rfl,ho0,ho1,hb⟩;refine ⟨_,rfl,?_⟩;have HO447:=aM (Kd.R_lower ho0 (below_size (bX1 HB.out GE444.out)));have HO450:=aM (Kd.R_lower ho1 (below_size (bX1 HB.out GE444.out)));replace BK444:=aM (bbX BK444.out hb);replace HB:=aM (below_step (bX1 HB.out GE444.out) hb);(try clear hb);(try clear ho0);(try clear ho1))|((with_reducible refine gate_dst (N:=5) rfl ?_);refine bEv (cs:=#[.slice none 0 0,.slice none 0 0]) (t:=27) ?_;intro gb452 hg w19 hbox hb;replace HO447:=aM (Kd.R_below (rX HO447.out) hb);replace HO450:=aM (Kd.R_below (rX HO450.out) hb);have BK452:=aM (hbox);have GW452:=aM ((szX (below_size (bX1 HB.out GE444.out)) hg:w.heap.size≤gb452));have GE452:=GW452;replace HB:=aM (below_step (bX1 HB.out GE444.out) hb);have NB444_452:=aM (neX BK444.out hg);have NB452_444:=aM (nfX BK444.out hg);replace BK444:=aM (bbX BK444.out hb);clear hb hbox hg;obtain ⟨Ao20,co20,eo20⟩:=Kd.R_slice HO447.out;subst eo20;have hnb21:=NB452_444.out;have hnc21:=NB444_452.out;obtain ⟨hcz22_0,hcz22_1,hfz22_0,hfz22_1⟩:=f2Z BK452.out;obtain ⟨Ao23,co23,eo23⟩:=Kd.R_slice HO450.out;subst eo23))
 go_ret
 exact ⟨eX,bX2 HB.out GE444.out GE452.out⟩
 }

/-! ### spec_l20New: function 36 -/
/-! by hand -/
def spec_l20New.l0 : Nat→List Int→Int→Int→Int→Int→Option (List Int × Int × Int)
  | 0,_,_,_,_,_=>none
  | k+1,l,n,i,s1,s2=>if i<n then ((spec_l01Byte.f l s1 s2).bind fun bt=>(spec_l20New.l0 k l n (wrap64 (i+1)) bt.2.1 bt.2.2)) else (some (l,s1,s2))
def spec_l20New.f (k:Nat) (l0:List Int) (a1:Int):Option (List Int × Int × Int):=(spec_l01New.f k l0).bind fun bt=>(spec_l20New.l0 k bt.1 a1 0 bt.2.1 bt.2.2)
theorem below_keepNew {w0 w w1 w2:World} {g:Nat} (hB:Below w0.heap.size w0 w) (h:Below w.heap.size w w1) (hb:Below w0.heap.size w0 w2) (hk:KeepBut w1 w2 g none) (hg:w.heap.size≤g):Below w.heap.size w w2 :=
  ⟨hb.os.trans hB.os.symm,hb.tape.trans hB.tape.symm,hb.output.trans hB.output.symm,Nat.le_trans h.size hk.1,fun k hlt=>(hk.2 k (by have:=h.size;omega) (by omega) (by simp)).trans (h.block k hlt)⟩
theorem spec_l20New.calls (k:Nat) (A0:Option Addr) (c0:Nat) (l0:List Int) (a1:Int) (r1:List Int) (r2:Int) (r3:Int) (w0 w:World) (hB:Below w0.heap.size w0 w) (hr0:Kd.C (Kd.int .u8) w0 A0 l0.length l0) (hc0:l0.length≤c0) (h:spec_l20New.f k l0 a1=some (r1,r2,r3)) :
    Calls Try.prog 36 #[.slice A0 l0.length c0,.int .i64 a1] w fun e w'=>∃ g_:Nat,e = .returned (.pointer (some ⟨g_,0,none⟩))∧IsS76 w0 w' g_ r1 r2 r3∧Below w0.heap.size w0 w'∧Below w.heap.size w w':=by
  have HR0:=aM hr0
  have HC0:=aM hc0
  clear hr0 hc0
  have HBW:=aM (Below.refl w.heap.size w)
  have HB:=aM hB
  have HBS:=aM hB
  clear hB
  unfold spec_l20New.f at h
  obtain ⟨⟨q1,q2,q3⟩,A20,h⟩:=oB h
  have A2:=aM A20
  clear A20
  have H':=aM (show spec_l20New.l0 k q1 a1 0 q2 q3=some (r1,r2,r3) from h)
  clear h
  go_enter Try.func36,Try.ntmps36
  go_wp2_with (first|((with_reducible refine gate_callee (f:=29) rfl ?_);refine goesL_ (some 8) rfl rfl Try.func29 (by kernel_rfl) rfl #[.slice A0 l0.length c0] rfl (by(try simp only [List.map_toArray,List.map_cons,List.map_nil]);first|done|rfl) ?_;(with_reducible refine(spec_l01New.calls2 k _ _ l0 q1 q2 q3 w0 _ ?side1 ?side2 ?side3 A2.out).mono ?_);(case side1=>exact HB.out);(case side2=>exact HR0.out);(case side3=>exact HC0.out);rintro e w5 ⟨g5,rfl,hi,hb,hb2,hge⟩;refine ⟨_,rfl,?_⟩;have HI5:=aM hi;have HB5:=aM hb;have HBW5:=aM hb2;have HG5:=aM hge;clear hi hb hb2 hge HB HBW))
  go_loopg [6] k (fun kq v6 w'=>∃ (i s1 s2:Int),v6 = .int .i64 i∧Aside0 (spec_l20New.l0 kq q1 a1 i s1 s2=some (r1,r2,r3))∧Aside0 (kq≤k)∧Aside0 (IsS76 w0 w' g5 q1 s1 s2)∧Aside0 (Below w0.heap.size w0 w')∧Aside0 (Below w.heap.size w w'))
  case atStart=>exact ⟨0,q2,q3,rfl,H',⟨Nat.le_refl _⟩,HI5,HB5,HBW5⟩
  case round =>
    clear H' HI5 HB5 HBW5
    obtain ⟨i,s1,s2,rfl,HA,HK1,HI,HB,HBW⟩:=hrel
    cases gk with
    | zero=>exact absurd HA.out (by simp [spec_l20New.l0])
    | succ k1 =>
      have H:=HA.out
      clear HA
      simp only [spec_l20New.l0] at H
      by_cases c2:i<a1
      · rw [if_pos c2] at H
        have c2b0:=decide_eq_true c2
        clear c2
        obtain ⟨⟨t1,t2,t3⟩,A30,H⟩:=oB H
        have A3:=aM A30
        clear A30
        have H1:=aM (show spec_l20New.l0 k1 q1 a1 (wrap64 (i+1)) t2 t3=some (r1,r2,r3) from H)
        clear H
        go_wp2_with (first|((with_reducible refine gate_callee (f:=37) rfl ?_);refine goesL_ (some 15) rfl rfl Try.func37 (by kernel_rfl) rfl #[.pointer (some ⟨g5,0,none⟩)] rfl (by(try simp only [List.map_toArray,List.map_cons,List.map_nil]);first|done|rfl) ?_;(with_reducible refine(spec_l01Byte.calls g5 q1 s1 s2 t1 t2 t3 w0 _ ?side1 ?side2 A3.out).mono ?_);(case side1=>exact HI.out);(case side2=>exact HB.out);rintro e w6 ⟨rfl,hi,hb,hk⟩;refine ⟨_,rfl,?_⟩;have HI6:=aM hi;have HB6:=aM hb;have HK6:=aM hk;have HBW6:=aM (below_keepNew HBS.out HBW.out hb hk HG5.out);clear hi hb hk HB HI HBW))
        go_roundg k1
        case measure=>have:=HK1.out;omega
        case rel=>exact ⟨wrap64 (i+1),t2,t3,rfl,H1,⟨by have:=HK1.out;omega⟩,HI6,HB6,HBW6⟩
      · rw [if_neg c2] at H
        have c2b0:=decide_eq_false c2
        clear c2
        simp only [Option.some.injEq,Prod.mk.injEq] at H
        obtain ⟨rfl,rfl,rfl⟩:=H
        go_wp2
        go_ret
        exact ⟨g5,rfl,HI.out,HB.out,HBW.out⟩

/-! ### spec_MakeNum: function 15 -/
def spec_MakeNum.f (k:Nat) (l0:List Int) (a1:Int):Option (Int):=(spec_l20New.f k l0 a1).bind fun bt454=>((spec_l01Byte.f bt454.1 bt454.2.1 bt454.2.2).bind fun bt458=>((spec_l01Byte.f bt454.1 bt458.2.1 bt458.2.2).bind fun bt461=>(some (wrap64 ((wrap64 (bt458.1*256))+bt461.1)))))
theorem spec_MakeNum.calls (k:Nat) (A0:Option Addr) (c0:Nat) (l0:List Int) (a1:Int) (r:Int) (w:World) (hr0:Kd.C (Kd.int .u8) w A0 l0.length l0) (hc0:l0.length≤c0) (h:spec_MakeNum.f k l0 a1=some r) :
  Calls Try.prog 15 #[.slice A0 l0.length c0,.int .i64 a1] w fun e w'=>e = .returned (.int .i64 r)∧Below w.heap.size w w':=by
 have HR0:=aM hr0
 have HC0:=aM hc0
 clear hr0 hc0
 have HB:=aM (Below.refl w.heap.size w)
 have H:((spec_l20New.f k l0 a1).bind fun bt454=>((spec_l01Byte.f bt454.1 bt454.2.1 bt454.2.2).bind fun bt458=>((spec_l01Byte.f bt454.1 bt458.2.1 bt458.2.2).bind fun bt461=>(some (wrap64 ((wrap64 (bt458.1*256))+bt461.1))))))=some r:=h
 clear h
 replace H:=oB H
 obtain ⟨⟨t454,t455,t456⟩,A30,H⟩:=H
 replace H:((spec_l01Byte.f t454 t455 t456).bind fun bt458=>((spec_l01Byte.f t454 bt458.2.1 bt458.2.2).bind fun bt461=>(some (wrap64 ((wrap64 (bt458.1*256))+bt461.1)))))=some r:=H
 have A3:=aM A30
 clear A30
 replace H:=oB H
 obtain ⟨⟨t458,t459,t460⟩,A40,H⟩:=H
 replace H:((spec_l01Byte.f t454 t459 t460).bind fun bt461=>(some (wrap64 ((wrap64 (t458*256))+bt461.1))))=some r:=H
 have A4:=aM A40
 clear A40
 replace H:=oB H
 obtain ⟨⟨t461,t462,t463⟩,A50,H⟩:=H
 replace H:(some (wrap64 ((wrap64 (t458*256))+t461)))=some r:=H
 have A5:=aM A50
 clear A50
 obtain rfl:=Option.some.inj H
 go_enter Try.func15,Try.ntmps15
 go_wp2_with (first|((with_reducible refine gate_callee (f:=36) rfl ?_);refine goesL_ (some 8) rfl rfl Try.func36 (by kernel_rfl) rfl #[.slice A0 l0.length c0,.int .i64 a1] rfl aX ?_;(with_reducible refine(spec_l20New.calls k _ _ l0 a1 t454 t455 t456 w _ ?side1 ?side2 ?side3 A3.out).mono ?_);(case side1=>repeat(first|(with_reducible first|exact HB.out|apply bA|apply bN|apply bD)|exact HB.out));(case side2=>exact HR0.out);(case side3=>exact HC0.out);rintro e w6 ⟨g457,rfl,hi,hb,hb2⟩;refine ⟨_,rfl,?_⟩;replace HB:=aM (hb);have HI457:=aM (hi);(try clear hb);(try clear hb2);(try clear hk);(try clear hi))|((with_reducible refine gate_callee (f:=37) rfl ?_);refine goesL_ (some 10) rfl rfl Try.func37 (by kernel_rfl) rfl #[.pointer (some ⟨g457,0,none⟩)] rfl aX ?_;(with_reducible refine(spec_l01Byte.calls g457 t454 t455 t456 t458 t459 t460 w _ ?side1 ?side2 A4.out).mono ?_);(case side1=>repeat(first|(with_reducible first|exact HI457.out|apply IsS76.alloc|apply IsS76.drewN|apply IsS76.drew|apply IsS76.set_1|apply IsS76.set_2)|exact HI457.out));(case side2=>repeat(first|(with_reducible first|exact HB.out|apply bA|apply bN|apply bD|refine below_set ?_ (IsS76.ge HI457.out))|exact HB.out));rintro e w7 ⟨rfl,hi,hb,hk⟩;refine ⟨_,rfl,?_⟩;replace HB:=aM (hb);replace HI457:=aM (hi);(try clear hb);(try clear hb2);(try clear hk);(try clear hi))|((with_reducible refine gate_callee (f:=37) rfl ?_);refine goesL_ (some 13) rfl rfl Try.func37 (by kernel_rfl) rfl #[.pointer (some ⟨g457,0,none⟩)] rfl aX ?_;(with_reducible refine(spec_l01Byte.calls g457 t454 t459 t460 t461 t462 t463 w _ ?side1 ?side2 A5.out).mono ?_);(case side1=>repeat(first|(with_reducible first|exact HI457.out|apply IsS76.alloc|apply IsS76.drewN|apply IsS76.drew|apply IsS76.set_1|apply IsS76.set_2)|exact HI457.out));(case side2=>repeat(first|(with_reducible first|exact HB.out|apply bA|apply bN|apply bD|refine below_set ?_ (IsS76.ge HI457.out))|exact HB.out));rintro e w8 ⟨rfl,hi,hb,hk⟩;refine ⟨_,rfl,?_⟩;replace HB:=aM (hb);replace HI457:=aM (hi);(try clear hb);(try clear hb2);(try clear hk);(try clear hi)))
 go_ret
 exact ⟨eX,bX1 HB.out (IsS76.ge HI457.out)⟩

/-! ### impl_HasHalfTurn: function 17 -/
def impl_HasHalfTurn.f (k:Nat) (l0_0:List Int) (l0_1:List Int):Option (Bool):=(impl_IsFixedBy.f k l0_0 l0_1 (⟨#[83,83]⟩:ByteArray)).bind fun t465=>(some t465)
theorem impl_HasHalfTurn.calls (k:Nat) (A0_0:Option Addr) (c0_0:Nat) (l0_0:List Int) (A0_1:Option Addr) (c0_1:Nat) (l0_1:List Int) (r:Bool) (w:World) (hr0_0:Kd.C (Kd.int .i64) w A0_0 l0_0.length l0_0) (hc0_0:l0_0.length≤c0_0) (hr0_1:Kd.C (Kd.int .i64) w A0_1 l0_1.length l0_1) (hc0_1:l0_1.length≤c0_1) (h:impl_HasHalfTurn.f k l0_0 l0_1=some r) :
  Calls Try.prog 17 #[.agg #[.slice A0_0 l0_0.length c0_0,.slice A0_1 l0_1.length c0_1]] w fun e w'=>e = .returned (.bool r)∧Below w.heap.size w w':=by
 have hu27:=Try.underlying27
 have HR0_0:=aM hr0_0
 have HC0_0:=aM hc0_0
 clear hr0_0 hc0_0
 have HR0_1:=aM hr0_1
 have HC0_1:=aM hc0_1
 clear hr0_1 hc0_1
 have HB:=aM (Below.refl w.heap.size w)
 have H:((impl_IsFixedBy.f k l0_0 l0_1 (⟨#[83,83]⟩:ByteArray)).bind fun t465=>(some t465))=some r:=h
 clear h
 replace H:=oB H
 obtain ⟨t465,A20,H⟩:=H
 have A2:=aM A20
 clear A20
 obtain rfl:=Option.some.inj H
 go_enter Try.func17,Try.ntmps17
 go_wp2_with (first|((with_reducible refine gate_dst (N:=1) rfl ?_);refine bEv (cs:=#[.slice A0_0 l0_0.length c0_0,.slice A0_1 l0_1.length c0_1]) (t:=27) ?_;intro gb464 hg w3 hbox hb;have BK464:=aM (hbox);have GW464:=aM ((szX (below_size (bX HB.out)) hg:w.heap.size≤gb464));have GE464:=GW464;replace HB:=aM (below_step (bX HB.out) hb);clear hb hbox hg;obtain ⟨hcz4_0,hcz4_1,hfz4_0,hfz4_1⟩:=f2Z BK464.out)|((with_reducible refine gate_callee (f:=14) rfl ?_);refine goesL_ (some 4) rfl rfl Try.func14 (by kernel_rfl) rfl #[.agg #[.slice A0_0 l0_0.length c0_0,.slice A0_1 l0_1.length c0_1],.string (⟨#[83,83]⟩:ByteArray)] rfl aX ?_;(with_reducible refine(impl_IsFixedBy.calls k _ _ l0_0 _ _ l0_1 (⟨#[83,83]⟩:ByteArray) t465 _ ?side1 ?side2 ?side3 ?side4 A2.out).mono ?_);(case side1=>exact cX (Kd.C_below HR0_0.out HB.out));(case side2=>exact HC0_0.out);(case side3=>exact cX (Kd.C_below HR0_1.out HB.out));(case side4=>exact HC0_1.out);rintro e w5 ⟨rfl,hb⟩;refine ⟨_,rfl,?_⟩;replace BK464:=aM (bbX BK464.out hb);replace HB:=aM (below_step (bX1 HB.out GE464.out) hb);(try clear hb)))
 go_ret
 exact ⟨eX,bX1 HB.out GE464.out⟩

/-! ### impl_fixedInOrbit: function 38 -/
/-! by hand -/
def fixGo7 (k:Nat) (w:ByteArray):List S27→Int→Option Int
  | [],n=>some n
  | s :: l,n=>(impl_IsFixedBy.f k s.f0 s.f1 w).bind fun b=>fixGo7 k w l (if b=true then wrap64 (n+1) else n)
def impl_fixedInOrbit.f (k:Nat) (l0_0 l0_1:List Int) (w:ByteArray):Option Int:=(impl_orbitOf.f k l0_0 l0_1).bind fun a=>match a with
  | none=>some (-1)
  | some o=>if o.l.length≤1000 then fixGo7 k w o.l 0 else none
theorem impl_fixedInOrbit.calls (k:Nat) (A0_0:Option Addr) (c0_0:Nat) (l0_0:List Int) (A0_1:Option Addr) (c0_1:Nat) (l0_1:List Int) (a1:ByteArray) (r:Int) (w:World) (hr0_0:Kd.C (Kd.int .i64) w A0_0 l0_0.length l0_0) (hc0_0:l0_0.length≤c0_0) (hr0_1:Kd.C (Kd.int .i64) w A0_1 l0_1.length l0_1) (hc0_1:l0_1.length≤c0_1) (h:impl_fixedInOrbit.f k l0_0 l0_1 a1=some r) :
    Calls Try.prog 38 #[.agg #[.slice A0_0 l0_0.length c0_0,.slice A0_1 l0_1.length c0_1],.string a1] w fun e w'=>e = .returned (.int .i64 r)∧Below w.heap.size w w':=by
  have hv:=Try.underlying57
  have hu:=Try.underlying27
  have HS:=aM (show SurfC w A0_0 A0_1 c0_0 c0_1 l0_0 l0_1 from ⟨hc0_0,hr0_0,hc0_1,hr0_1⟩)
  clear hr0_0 hc0_0 hr0_1 hc0_1
  unfold impl_fixedInOrbit.f at h
  obtain ⟨a,ha,h⟩:=oB h
  have HA:=aM ha
  clear ha
  cases a with
  | none =>
    have hr : -1=r:=Option.some.inj h
    subst hr
    clear h
    go_enter Try.func38,Try.ntmps38
    go_wp2_with (first
      | ((with_reducible refine gate_dst (N:=2) rfl ?_);refine bEv (cs:=#[.slice A0_0 l0_0.length c0_0,.slice A0_1 l0_1.length c0_1]) (t:=27) ?_;intro gb1 hg1 w1 hbox1 hb1;have BK1:=aM hbox1;have HB1:=aM hb1;have hc10:w1.cell? ⟨gb1,0,none⟩=some (.slice A0_0 l0_0.length c0_0):=(blk_cell BK1.out 0).trans rfl;have hc11:w1.cell? ⟨gb1,1,none⟩=some (.slice A0_1 l0_1.length c0_1):=(blk_cell BK1.out 1).trans rfl;clear hbox1 hb1 hg1)
      | (go_at_call 30;(refine(impl_orbitOf.calls k _ _ l0_0 _ _ l0_1 (none) w1 (HS.out.below HB1.out) HA.out).mono ?_);rintro e w2 ⟨hb,hp⟩;have hp2:e = .returned (.tuple #[.pointer none,.bool false]):=hp;subst hp2;have HB2:=aM (below_step HB1.out hb);clear hb hp hc10 hc11 HB1 BK1))
    go_ret
    exact ⟨rfl,HB2.out⟩
  | some o =>
    have h:(if o.l.length≤1000 then fixGo7 k a1 o.l 0 else none)=some r:=h
    have hgo:fixGo7 k a1 o.l 0=some r:=by
      split at h
      · exact h
      · cases h
    have HGO0:=aM hgo
    clear h hgo
    go_enter Try.func38,Try.ntmps38
    go_wp2_with (first
      | ((with_reducible refine gate_dst (N:=2) rfl ?_);refine bEv (cs:=#[.slice A0_0 l0_0.length c0_0,.slice A0_1 l0_1.length c0_1]) (t:=27) ?_;intro gb1 hg1 w1 hbox1 hb1;have BK1:=aM hbox1;have HB1:=aM hb1;have hc10:w1.cell? ⟨gb1,0,none⟩=some (.slice A0_0 l0_0.length c0_0):=(blk_cell BK1.out 0).trans rfl;have hc11:w1.cell? ⟨gb1,1,none⟩=some (.slice A0_1 l0_1.length c0_1):=(blk_cell BK1.out 1).trans rfl;clear hbox1 hb1 hg1)
      | (go_at_call 30;(refine(impl_orbitOf.calls k _ _ l0_0 _ _ l0_1 (some o) w1 (HS.out.below HB1.out) HA.out).mono ?_);rintro e w2 ⟨hb,hp⟩;obtain ⟨B,M,v0,v1,v2,v3,u,rfl,ho,hl⟩:=(show ∃ B M v0 v1 v2 v3 u,e = .returned (.tuple #[.pointer (some ⟨B,0,none⟩),.bool true])∧OrbW w1.heap.size w2 B M v0 v1 v2 v3 u o∧o.l.length≤120 from hp);obtain ⟨A0,c0,e0⟩:=Kd.N_slice ho.l;subst e0;have hco:w2.cell? ⟨B,0,none⟩=some (.slice A0 o.l.length c0):=(blk_cell ho.blk 0).trans rfl;have HB2:=aM (below_step HB1.out hb);have HO:=aM ho;have HLE:=aM hl;have HN:=aM (below_size HB1.out);clear hb hp ho hl hc10 hc11 HB1 BK1))
    go_loopg [7,22] o.l.length (fun kq v7 v22 w'=>∃ (i n:Int),v7 = .int .i64 n∧v22 = .int .i64 i∧Aside0 (0≤i∧i≤o.l.length∧(kq:Int)+i=o.l.length)∧Aside0 (fixGo7 k a1 (o.l.drop i.toNat) n=some r)∧Aside0 (Below w2.heap.size w2 w'))
    case atStart=>exact ⟨0,0,rfl,rfl,⟨by omega⟩,HGO0,⟨Below.refl _ _⟩⟩
    case round =>
      clear HGO0
      obtain ⟨i,n,rfl,rfl,HI,HG,HBL⟩:=hrel
      obtain ⟨hi0,hi1,hik⟩:=HI.out
      clear HI
      have HK:=aM hik
      clear hik
      by_cases hlt:i<(o.l.length:Int)
      · obtain ⟨k1,rfl⟩:∃ q,gk=q+1:=⟨gk - 1,by have:=HK.out;omega⟩
        have c1:decide (i<(o.l.length:Int))=true:=decide_eq_true hlt
        have hadr:∀ a,A0=some a→okO w1.heap.size B M v1 v2 v3 u a.block∧a.block<w2.heap.size:=fun a ha=>by
          subst ha
          exact ⟨HO.out.l.1 _ rfl,Kd.N_lt HO.out.l _ rfl⟩
        obtain ⟨ad2,C0,d0,C1,d1,e2,hy0,hy1,gy⟩:=surf_elem (Kd.N_F HO.out.l) hadr i hi0 hlt
        cases e2
        have GY:=aM gy
        clear gy hadr
        replace hy0:=(HBL.out.cell (World.block_lt_of_cell? w2 _ hy0)).trans hy0
        replace hy1:=(HBL.out.cell (World.block_lt_of_cell? w2 _ hy1)).trans hy1
        have hdrop:o.l.drop i.toNat=rd_T27 o.l i :: o.l.drop (i+1).toNat:=by
          have h1:i.toNat<o.l.length:=by omega
          rw [show (i+1).toNat=i.toNat+1 by omega,List.drop_eq_getElem_cons h1]
          simp [rd_T27,List.getD,h1]
        have hgo:=HG.out
        rw [hdrop,fixGo7] at hgo
        clear HG hdrop
        generalize rd_T27 o.l i=z at *
        obtain ⟨b,hb,hgo⟩:=oB hgo
        have HCC:=aM hb
        have HGO:=aM hgo
        clear hb hgo
        have p0:decide (0≤i)=true:=decide_eq_true hi0
        have HW:=aM (show wrap64 (i+1)=i+1 from by have:=HLE.out;unfold wrap64;omega)
        have HI0:=aM hi0
        have HI1:=aM hlt
        replace hi0:=eq_true hi0
        replace hlt:=eq_true hlt
        cases b with
        | true =>
          go_wp2_with (first
            | ((with_reducible refine gate_dst (N:=9) rfl ?_);refine bEv (cs:=#[.slice none 0 0,.slice none 0 0]) (t:=27) ?_;intro gx hgx w3 hbox hb;have BX3:=aM hbox;have HB3:=aM hb;have HGX:=aM (show wr.heap.size≤gx by rw [hgx];exact Nat.le_refl _);clear hbox hb hgx)
            | (refine wpList_store_row rfl 27 (.tmp 9) (.tmp 25) rfl gx #[.slice C0 z.f0.length d0,.slice C1 z.f1.length d1] rfl rfl 27 #[.slice none 0 0,.slice none 0 0] BX3.out (by kernel_rfl) rfl (by simp [Value.oneCell']) ?_;have BX:=aM (setRow_heap w3 gx _ #[.slice C0 z.f0.length d0,.slice C1 z.f1.length d1] _ _ BX3.out);have HBX:=aM (below_setRow HB3.out HGX.out #[.slice C0 z.f0.length d0,.slice C1 z.f1.length d1]);clear BX3 HB3;generalize w3.setRow gx #[.slice C0 z.f0.length d0,.slice C1 z.f1.length d1]=w4 at BX HBX ⊢;have hcx0:w4.cell? ⟨gx,0,none⟩=some (.slice C0 z.f0.length d0):=(blk_cell BX.out 0).trans rfl;have hcx1:w4.cell? ⟨gx,1,none⟩=some (.slice C1 z.f1.length d1):=(blk_cell BX.out 1).trans rfl)
            | (go_at_call 14;(refine(impl_IsFixedBy.calls k C0 d0 z.f0 C1 d1 z.f1 a1 true w4 (GY.out.below (below_step HBL.out HBX.out)).g0 GY.out.l0 (GY.out.below (below_step HBL.out HBX.out)).g1 GY.out.l1 HCC.out).mono ?_);rintro e w5 ⟨rfl,hb⟩;have HB5:=aM (below_step (below_step HBL.out HBX.out) hb);clear hb hcx0 hcx1 BX HBX))
          go_roundg k1
          case measure=>have:=HK.out;omega
          case rel=>exact ⟨i+1,_,rfl,by rw [HW.out],⟨by have:=HK.out;have:=HI1.out;have:=HI0.out;omega⟩,⟨HGO.out⟩,HB5⟩
        | false =>
          go_wp2_with (first
            | ((with_reducible refine gate_dst (N:=9) rfl ?_);refine bEv (cs:=#[.slice none 0 0,.slice none 0 0]) (t:=27) ?_;intro gx hgx w3 hbox hb;have BX3:=aM hbox;have HB3:=aM hb;have HGX:=aM (show wr.heap.size≤gx by rw [hgx];exact Nat.le_refl _);clear hbox hb hgx)
            | (refine wpList_store_row rfl 27 (.tmp 9) (.tmp 25) rfl gx #[.slice C0 z.f0.length d0,.slice C1 z.f1.length d1] rfl rfl 27 #[.slice none 0 0,.slice none 0 0] BX3.out (by kernel_rfl) rfl (by simp [Value.oneCell']) ?_;have BX:=aM (setRow_heap w3 gx _ #[.slice C0 z.f0.length d0,.slice C1 z.f1.length d1] _ _ BX3.out);have HBX:=aM (below_setRow HB3.out HGX.out #[.slice C0 z.f0.length d0,.slice C1 z.f1.length d1]);clear BX3 HB3;generalize w3.setRow gx #[.slice C0 z.f0.length d0,.slice C1 z.f1.length d1]=w4 at BX HBX ⊢;have hcx0:w4.cell? ⟨gx,0,none⟩=some (.slice C0 z.f0.length d0):=(blk_cell BX.out 0).trans rfl;have hcx1:w4.cell? ⟨gx,1,none⟩=some (.slice C1 z.f1.length d1):=(blk_cell BX.out 1).trans rfl)
            | (go_at_call 14;(refine(impl_IsFixedBy.calls k C0 d0 z.f0 C1 d1 z.f1 a1 false w4 (GY.out.below (below_step HBL.out HBX.out)).g0 GY.out.l0 (GY.out.below (below_step HBL.out HBX.out)).g1 GY.out.l1 HCC.out).mono ?_);rintro e w5 ⟨rfl,hb⟩;have HB5:=aM (below_step (below_step HBL.out HBX.out) hb);clear hb hcx0 hcx1 BX HBX))
          go_roundg k1
          case measure=>have:=HK.out;omega
          case rel=>exact ⟨i+1,_,rfl,by rw [HW.out],⟨by have:=HK.out;have:=HI1.out;have:=HI0.out;omega⟩,⟨HGO.out⟩,HB5⟩
      · have hie:i=o.l.length:=by omega
        have hr:n=r:=by
          have h:=HG.out
          rw [show o.l.drop i.toNat=[] from by rw [hie];simp,fixGo7] at h
          exact Option.some.inj h
        subst hr
        have c1:decide (i<(o.l.length:Int))=false:=decide_eq_false hlt
        clear hlt hie hi0 hi1
        go_wp2
        go_ret
        exact ⟨rfl,below_step HB2.out HBL.out⟩

/-! ### impl_TurnsInOrbit: function 19 -/
def impl_TurnsInOrbit.f (k:Nat) (l0_0:List Int) (l0_1:List Int):Option (Int):=(impl_fixedInOrbit.f k l0_0 l0_1 (⟨#[83]⟩:ByteArray)).bind fun t467=>(some t467)
theorem impl_TurnsInOrbit.calls (k:Nat) (A0_0:Option Addr) (c0_0:Nat) (l0_0:List Int) (A0_1:Option Addr) (c0_1:Nat) (l0_1:List Int) (r:Int) (w:World) (hr0_0:Kd.C (Kd.int .i64) w A0_0 l0_0.length l0_0) (hc0_0:l0_0.length≤c0_0) (hr0_1:Kd.C (Kd.int .i64) w A0_1 l0_1.length l0_1) (hc0_1:l0_1.length≤c0_1) (h:impl_TurnsInOrbit.f k l0_0 l0_1=some r) :
  Calls Try.prog 19 #[.agg #[.slice A0_0 l0_0.length c0_0,.slice A0_1 l0_1.length c0_1]] w fun e w'=>e = .returned (.int .i64 r)∧Below w.heap.size w w':=by
 have hu27:=Try.underlying27
 have HR0_0:=aM hr0_0
 have HC0_0:=aM hc0_0
 clear hr0_0 hc0_0
 have HR0_1:=aM hr0_1
 have HC0_1:=aM hc0_1
 clear hr0_1 hc0_1
 have HB:=aM (Below.refl w.heap.size w)
 have H:((impl_fixedInOrbit.f k l0_0 l0_1 (⟨#[83]⟩:ByteArray)).bind fun t467=>(some t467))=some r:=h
 clear h
 replace H:=oB H
 obtain ⟨t467,A20,H⟩:=H
 have A2:=aM A20
 clear A20
 obtain rfl:=Option.some.inj H
 go_enter Try.func19,Try.ntmps19
 go_wp2_with (first|((with_reducible refine gate_dst (N:=1) rfl ?_);refine bEv (cs:=#[.slice A0_0 l0_0.length c0_0,.slice A0_1 l0_1.length c0_1]) (t:=27) ?_;intro gb466 hg w3 hbox hb;have BK466:=aM (hbox);have GW466:=aM ((szX (below_size (bX HB.out)) hg:w.heap.size≤gb466));have GE466:=GW466;replace HB:=aM (below_step (bX HB.out) hb);clear hb hbox hg;obtain ⟨hcz4_0,hcz4_1,hfz4_0,hfz4_1⟩:=f2Z BK466.out)|((with_reducible refine gate_callee (f:=38) rfl ?_);refine goesL_ (some 4) rfl rfl Try.func38 (by kernel_rfl) rfl #[.agg #[.slice A0_0 l0_0.length c0_0,.slice A0_1 l0_1.length c0_1],.string (⟨#[83]⟩:ByteArray)] rfl aX ?_;(with_reducible refine(impl_fixedInOrbit.calls k _ _ l0_0 _ _ l0_1 (⟨#[83]⟩:ByteArray) t467 _ ?side1 ?side2 ?side3 ?side4 A2.out).mono ?_);(case side1=>exact cX (Kd.C_below HR0_0.out HB.out));(case side2=>exact HC0_0.out);(case side3=>exact cX (Kd.C_below HR0_1.out HB.out));(case side4=>exact HC0_1.out);rintro e w5 ⟨rfl,hb⟩;refine ⟨_,rfl,?_⟩;replace BK466:=aM (bbX BK466.out hb);replace HB:=aM (below_step (bX1 HB.out GE466.out) hb);(try clear hb)))
 go_ret
 exact ⟨eX,bX1 HB.out GE466.out⟩

/-! ### impl_SixthsInOrbit: function 20 -/
def impl_SixthsInOrbit.f (k:Nat) (l0_0:List Int) (l0_1:List Int):Option (Int):=(impl_fixedInOrbit.f k l0_0 l0_1 (⟨#[84,83]⟩:ByteArray)).bind fun t469=>(some t469)
theorem impl_SixthsInOrbit.calls (k:Nat) (A0_0:Option Addr) (c0_0:Nat) (l0_0:List Int) (A0_1:Option Addr) (c0_1:Nat) (l0_1:List Int) (r:Int) (w:World) (hr0_0:Kd.C (Kd.int .i64) w A0_0 l0_0.length l0_0) (hc0_0:l0_0.length≤c0_0) (hr0_1:Kd.C (Kd.int .i64) w A0_1 l0_1.length l0_1) (hc0_1:l0_1.length≤c0_1) (h:impl_SixthsInOrbit.f k l0_0 l0_1=some r) :
  Calls Try.prog 20 #[.agg #[.slice A0_0 l0_0.length c0_0,.slice A0_1 l0_1.length c0_1]] w fun e w'=>e = .returned (.int .i64 r)∧Below w.heap.size w w':=by
 have hu27:=Try.underlying27
 have HR0_0:=aM hr0_0
 have HC0_0:=aM hc0_0
 clear hr0_0 hc0_0
 have HR0_1:=aM hr0_1
 have HC0_1:=aM hc0_1
 clear hr0_1 hc0_1
 have HB:=aM (Below.refl w.heap.size w)
 have H:((impl_fixedInOrbit.f k l0_0 l0_1 (⟨#[84,83]⟩:ByteArray)).bind fun t469=>(some t469))=some r:=h
 clear h
 replace H:=oB H
 obtain ⟨t469,A20,H⟩:=H
 have A2:=aM A20
 clear A20
 obtain rfl:=Option.some.inj H
 go_enter Try.func20,Try.ntmps20
 go_wp2_with (first|((with_reducible refine gate_dst (N:=1) rfl ?_);refine bEv (cs:=#[.slice A0_0 l0_0.length c0_0,.slice A0_1 l0_1.length c0_1]) (t:=27) ?_;intro gb468 hg w3 hbox hb;have BK468:=aM (hbox);have GW468:=aM ((szX (below_size (bX HB.out)) hg:w.heap.size≤gb468));have GE468:=GW468;replace HB:=aM (below_step (bX HB.out) hb);clear hb hbox hg;obtain ⟨hcz4_0,hcz4_1,hfz4_0,hfz4_1⟩:=f2Z BK468.out)|((with_reducible refine gate_callee (f:=38) rfl ?_);refine goesL_ (some 4) rfl rfl Try.func38 (by kernel_rfl) rfl #[.agg #[.slice A0_0 l0_0.length c0_0,.slice A0_1 l0_1.length c0_1],.string (⟨#[84,83]⟩:ByteArray)] rfl aX ?_;(with_reducible refine(impl_fixedInOrbit.calls k _ _ l0_0 _ _ l0_1 (⟨#[84,83]⟩:ByteArray) t469 _ ?side1 ?side2 ?side3 ?side4 A2.out).mono ?_);(case side1=>exact cX (Kd.C_below HR0_0.out HB.out));(case side2=>exact HC0_0.out);(case side3=>exact cX (Kd.C_below HR0_1.out HB.out));(case side4=>exact HC0_1.out);rintro e w5 ⟨rfl,hb⟩;refine ⟨_,rfl,?_⟩;replace BK468:=aM (bbX BK468.out hb);replace HB:=aM (below_step (bX1 HB.out GE468.out) hb);(try clear hb)))
 go_ret
 exact ⟨eX,bX1 HB.out GE468.out⟩

/-! ### impl_CurveGenus: function 18 -/
def impl_CurveGenus.j0 : Nat→List Int→Bool→List Int→List Int→Option (Int)
 | 0,_,_,_,_=>none
 | k+1,x3,x16,x471000,x471001=>if x16=true then (some (-1)) else ((impl_IndexOf.f k x471000 x471001).bind fun t476=>((impl_TurnsInOrbit.f k x471000 x471001).bind fun t477=>((impl_SixthsInOrbit.f k x471000 x471001).bind fun t478=>(some (wrap64 (Int.tdiv (wrap64 ((wrap64 ((wrap64 ((wrap64 (12+t476)) - (wrap64 (3*t477)))) - (wrap64 (4*t478)))) - (wrap64 (6*(x3.length:Int))))) 12))))))
def impl_CurveGenus.f (k:Nat) (l0_0:List Int) (l0_1:List Int):Option (Int):=(impl_CuspsOf.f k l0_0 l0_1).bind fun bt471=>((impl_HasHalfTurn.f k l0_0 l0_1).bind fun t475=>(if t475=true then (impl_CurveGenus.j0 k bt471.1 (!bt471.2) l0_0 l0_1) else (impl_CurveGenus.j0 k bt471.1 true l0_0 l0_1)))
def impl_CurveGenus.T4 : Bool × List (List Nat × List Nat):=(true,[([],[]),([0],[0]),([1],[1]),([],[]),([3,1],[3]),([4],[4]),([2,5],[2,5]),([],[]),([7,4],[7]),([8],[8]),([6,9],[6,9]),([],[]),([11],[11]),([12],[12]),([10,13],[10,13]),([14],[14]),([15,8,0,1,2,3,4,5,6,7,8,9,10,11,12,13,14,15],[15])])
def impl_CurveGenus.B4 : List Nat:=[0,1,3,0,11,27,63,0,155,411,1023,0,2048,6144,16383,32767,65535]
theorem impl_CurveGenus.tab4 : rtab .any (opsOf Try.f18 4)=impl_CurveGenus.T4:=by kernel_rfl
theorem impl_CurveGenus.bits4 : waitsOk impl_CurveGenus.T4.2 impl_CurveGenus.B4=true:=by kernel_rfl
theorem impl_CurveGenus.calls (k:Nat) (A0_0:Option Addr) (c0_0:Nat) (l0_0:List Int) (A0_1:Option Addr) (c0_1:Nat) (l0_1:List Int) (r:Int) (w:World) (hr0_0:Kd.C (Kd.int .i64) w A0_0 l0_0.length l0_0) (hc0_0:l0_0.length≤c0_0) (hr0_1:Kd.C (Kd.int .i64) w A0_1 l0_1.length l0_1) (hc0_1:l0_1.length≤c0_1) (h:impl_CurveGenus.f k l0_0 l0_1=some r) :
  Calls Try.prog 18 #[.agg #[.slice A0_0 l0_0.length c0_0,.slice A0_1 l0_1.length c0_1]] w fun e w'=>e = .returned (.int .i64 r)∧Below w.heap.size w w':=by
 have hu27:=Try.underlying27
 have HR0_0:=aM hr0_0
 have HC0_0:=aM hc0_0
 clear hr0_0 hc0_0
 have HR0_1:=aM hr0_1
 have HC0_1:=aM hc0_1
 clear hr0_1 hc0_1
 have HB:=aM (Below.refl w.heap.size w)
 have H:((impl_CuspsOf.f k l0_0 l0_1).bind fun bt471=>((impl_HasHalfTurn.f k l0_0 l0_1).bind fun t475=>(if t475=true then (impl_CurveGenus.j0 k bt471.1 (!bt471.2) l0_0 l0_1) else (impl_CurveGenus.j0 k bt471.1 true l0_0 l0_1))))=some r:=h
 clear h
 replace H:=oB H
 obtain ⟨⟨t471,t474⟩,A20,H⟩:=H
 replace H:((impl_HasHalfTurn.f k l0_0 l0_1).bind fun t475=>(if t475=true then (impl_CurveGenus.j0 k t471 (!t474) l0_0 l0_1) else (impl_CurveGenus.j0 k t471 true l0_0 l0_1)))=some r:=H
 have A2:=aM A20
 clear A20
 have HC3:=aM H
 clear H
 go_enter Try.func18,Try.ntmps18
 go_upto_region 2 with (first|((with_reducible refine gate_dst (N:=1) rfl ?_);refine bEv (cs:=#[.slice A0_0 l0_0.length c0_0,.slice A0_1 l0_1.length c0_1]) (t:=27) ?_;intro gb470 hg w4 hbox hb;have BK470:=aM (hbox);have GW470:=aM ((szX (below_size (bX HB.out)) hg:w.heap.size≤gb470));have GE470:=GW470;replace HB:=aM (below_step (bX HB.out) hb);clear hb hbox hg;obtain ⟨hcz5_0,hcz5_1,hfz5_0,hfz5_1⟩:=f2Z BK470.out)|((with_reducible refine gate_callee (f:=13) rfl ?_);refine goesL_ (some 7) rfl rfl Try.func13 (by kernel_rfl) rfl #[.agg #[.slice A0_0 l0_0.length c0_0,.slice A0_1 l0_1.length c0_1]] rfl aX ?_;(with_reducible refine(impl_CuspsOf.calls k _ _ l0_0 _ _ l0_1 t471 t474 _ ?side1 ?side2 ?side3 ?side4 A2.out).mono ?_);(case side1=>exact cX (Kd.C_below HR0_0.out HB.out));(case side2=>exact HC0_0.out);(case side3=>exact cX (Kd.C_below HR0_1.out HB.out));(case side4=>exact HC0_1.out);rintro e w6 ⟨v472,rfl,ho0,hb⟩;refine ⟨_,rfl,?_⟩;have HO473:=aM (Kd.R_lower ho0 (below_size (bX1 HB.out GE470.out)));replace BK470:=aM (bbX BK470.out hb);replace HB:=aM (below_step (bX1 HB.out GE470.out) hb);(try clear hb);(try clear ho0)))
 (try simp only [Act.put,List.setIfInBounds_toArray,List.set_cons_zero,List.set_cons_succ])
 go_cut [16] (fun v16 wc=>∃ (kq:Nat) (x16_2:Bool),v16 = .bool x16_2∧Aside0 (impl_CurveGenus.j0 kq t471 x16_2 l0_0 l0_1=some r)∧Aside0 (kq≤k)∧Aside0 (Kd.R (Kd.int .i64) 3 wc w.heap.size (fun _=>True) v472 t471)∧Aside0 (wc.heap[gb470]? = some (.cells #[(.slice A0_0 l0_0.length c0_0),(.slice A0_1 l0_1.length c0_1)] 27 (0,0)))∧Aside0 (Below w.heap.size w wc))
 case first =>
  have H:=HC3.out
  clear HC3
  replace H:=oB H
  obtain ⟨t475,A70,H⟩:=H
  have A7:=aM A70
  clear A70
  by_cases c8:t475=true
  {
  subst c8
  have H1:(impl_CurveGenus.j0 k t471 (!t474) l0_0 l0_1)=some r:=by rw [if_pos rfl] at H;exact H
  clear H
  have H:=H1
  clear H1
  have H':=aM H
  clear H
  obtain ⟨hcz9_0,hcz9_1,hfz9_0,hfz9_1⟩:=f2Z BK470.out
  go_wp2_with (first|((with_reducible refine gate_callee (f:=17) rfl ?_);refine goesL_ (some 11) rfl rfl Try.func17 (by kernel_rfl) rfl #[.agg #[.slice A0_0 l0_0.length c0_0,.slice A0_1 l0_1.length c0_1]] rfl aX ?_;(with_reducible refine(impl_HasHalfTurn.calls k _ _ l0_0 _ _ l0_1 true _ ?side1 ?side2 ?side3 ?side4 A7.out).mono ?_);(case side1=>exact cX (Kd.C_below HR0_0.out HB.out));(case side2=>exact HC0_0.out);(case side3=>exact cX (Kd.C_below HR0_1.out HB.out));(case side4=>exact HC0_1.out);rintro e w10 ⟨rfl,hb⟩;refine ⟨_,rfl,?_⟩;replace HO473:=aM (Kd.R_below (rX HO473.out) hb);replace BK470:=aM (bbX BK470.out hb);replace HB:=aM (below_step (bX1 HB.out GE470.out) hb);(try clear hb)))
  go_meet
  case rel=>exact ⟨_,(!t474),vX,H',⟨by first|omega|exact Nat.le_refl _⟩,⟨rX HO473.out⟩,⟨kX BK470.out⟩,⟨bX1 HB.out GE470.out⟩⟩
  }
  {
  replace c8:=Bool.eq_false_iff.mpr c8
  subst c8
  have H1:(impl_CurveGenus.j0 k t471 true l0_0 l0_1)=some r:=by rw [if_neg (show ¬ (false=true) by decide)] at H;exact H
  clear H
  have H:=H1
  clear H1
  have H':=aM H
  clear H
  obtain ⟨hcz11_0,hcz11_1,hfz11_0,hfz11_1⟩:=f2Z BK470.out
  go_wp2_with (first|((with_reducible refine gate_callee (f:=17) rfl ?_);refine goesL_ (some 11) rfl rfl Try.func17 (by kernel_rfl) rfl #[.agg #[.slice A0_0 l0_0.length c0_0,.slice A0_1 l0_1.length c0_1]] rfl aX ?_;(with_reducible refine(impl_HasHalfTurn.calls k _ _ l0_0 _ _ l0_1 false _ ?side1 ?side2 ?side3 ?side4 A7.out).mono ?_);(case side1=>exact cX (Kd.C_below HR0_0.out HB.out));(case side2=>exact HC0_0.out);(case side3=>exact cX (Kd.C_below HR0_1.out HB.out));(case side4=>exact HC0_1.out);rintro e w12 ⟨rfl,hb⟩;refine ⟨_,rfl,?_⟩;replace HO473:=aM (Kd.R_below (rX HO473.out) hb);replace BK470:=aM (bbX BK470.out hb);replace HB:=aM (below_step (bX1 HB.out GE470.out) hb);(try clear hb)))
  go_meet
  case rel=>exact ⟨_,(true),vX,H',⟨by first|omega|exact Nat.le_refl _⟩,⟨rX HO473.out⟩,⟨kX BK470.out⟩,⟨bX1 HB.out GE470.out⟩⟩
  }
 case rest =>
 clear HC3
 try clear c8
 try clear hcz11_0
 try clear hcz11_1
 try clear hcz5_0
 try clear hcz5_1
 try clear hcz9_0
 try clear hcz9_1
 try clear hfz11_0
 try clear hfz11_1
 try clear hfz5_0
 try clear hfz5_1
 try clear hfz9_0
 try clear hfz9_1
 obtain ⟨kq,x16_2,rfl,HA,HJ2,HO_3,BK470,HB⟩:=hcut
 cases kq with
 | zero=>exact absurd HA.out (by simp [impl_CurveGenus.j0])
 | succ kj2 =>
 have H:=HA.out
 clear HA
 simp only [impl_CurveGenus.j0] at H
 by_cases c13:x16_2=true
 {
 subst c13
 have H1:(some (-1))=some r:=by rw [if_pos rfl] at H;exact H
 clear H
 have H:=H1
 clear H1
 obtain rfl:=Option.some.inj H
 go_wp2
 go_ret
 exact ⟨eX,bX1 HB.out GE470.out⟩
 }
 {
 replace c13:=Bool.eq_false_iff.mpr c13
 subst c13
 have H1:((impl_IndexOf.f kj2 l0_0 l0_1).bind fun t476=>((impl_TurnsInOrbit.f kj2 l0_0 l0_1).bind fun t477=>((impl_SixthsInOrbit.f kj2 l0_0 l0_1).bind fun t478=>(some (wrap64 (Int.tdiv (wrap64 ((wrap64 ((wrap64 ((wrap64 (12+t476)) - (wrap64 (3*t477)))) - (wrap64 (4*t478)))) - (wrap64 (6*(t471.length:Int))))) 12))))))=some r:=by rw [if_neg (show ¬ (false=true) by decide)] at H;exact H
 clear H
 have H:=H1
 clear H1
 replace H:=oB H
 obtain ⟨t476,A140,H⟩:=H
 have A14:=aM A140
 clear A140
 replace H:=oB H
 obtain ⟨t477,A150,H⟩:=H
 have A15:=aM A150
 clear A150
 replace H:=oB H
 obtain ⟨t478,A160,H⟩:=H
 have A16:=aM A160
 clear A160
 obtain rfl:=Option.some.inj H
 try go_wp2
 replace HO_3:=aM (Kd.R_drew HO_3.out)
 replace BK470:=aM (blk_drew BK470.out)
 replace HB:=aM (below_drew1 HB.out)
 obtain ⟨Ao18,co18,eo18⟩:=Kd.R_slice HO_3.out
 (first|subst eo18|(injection eo18 with f1_ f2_ f3_;have f4_:=f1_.symm;have f5_:=f3_.symm;clear f1_ f2_ f3_;subst f4_;subst f5_))
 refine start_ (n:=17) (S:=fun w'=>w'.cell? ⟨gb470,0,none⟩=some (.slice A0_0 l0_0.length c0_0)∧w'.cell? ⟨gb470,1,none⟩=some (.slice A0_1 l0_1.length c0_1)) (ds:=[]) #[ff,ff,ff,ff,ff,ff,ff,ff,ff,ff,ff,ff,ff,ff,ff,ff,ff] (by kernel_rfl) rfl rfl ⟨cz20 BK470.out,cz21 BK470.out⟩ (fun hHeld => ?_);refine with_tabW impl_CurveGenus.tab4 impl_CurveGenus.bits4 (fun HT_ HW_ => ?_)
 generalize wc.drew=w17 at HO_3 BK470 HB hHeld ⊢
 refine pX 11 28 (fl 17 2048) rfl rfl HT_.out ?_
 refine pX 12 29 (fl 17 6144) rfl rfl HT_.out ?_
 refine pX 13 30 (fl 17 14336) rfl rfl HT_.out ?_
 refine tX2 0 17 (fl 17 14337) rfl rfl HT_.out HW_.out hHeld ?_
 refine tX2 3 20 (fl 17 14345) rfl rfl HT_.out HW_.out hHeld ?_
 refine tX2 7 24 (fl 17 14473) rfl rfl HT_.out HW_.out hHeld ?_
 refine one_ (i:=1) (N:=some 18) #[tt,tt,ff,tt,ff,ff,ff,tt,ff,ff,ff,tt,tt,tt,ff,ff,ff] rfl rfl (one_of HT_.out (by kernel_rfl)) (by decide) (fun K hK => ?_)
 refine goes_ Try.func12 (by kernel_rfl) rfl #[.agg #[.slice A0_0 l0_0.length c0_0,.slice A0_1 l0_1.length c0_1]] (by rfl) rfl rfl aX ?_
 with_reducible refine(impl_IndexOf.calls kj2 _ _ l0_0 _ _ l0_1 t476 _ ?side1 ?side2 ?side3 ?side4 A14.out).mono ?_
 (case side1=>exact cX (Kd.C_below HR0_0.out HB.out))
 (case side2=>exact HC0_0.out)
 (case side3=>exact cX (Kd.C_below HR0_1.out HB.out))
 (case side4=>exact HC0_1.out)
 rintro e w19 ⟨rfl,hb⟩
 refine ⟨_,rfl,?_⟩
 replace HO_3:=aM (Kd.R_below (rX HO_3.out) hb)
 replace BK470:=aM (bbX BK470.out hb)
 replace HB:=aM (below_step (bX1 HB.out GE470.out) hb)
 (try clear hb)
 refine hK.out _ _ ⟨cz20 BK470.out,cz21 BK470.out⟩ (fun hHeld => ?_)
 clear hK K
 refine norm_ (a':=?_) ?_ ?_
 rotate_left
 {
 show Act.put _ (some 18) _=_
 simp only [Act.put,zA,zB,zC,i64_w,i32_w]
 rfl
 }
 refine pX 2 19 (fl 17 14479) rfl rfl HT_.out ?_
 refine one_ (i:=4) (N:=some 21) #[tt,tt,tt,tt,tt,ff,ff,tt,ff,ff,ff,tt,tt,tt,ff,ff,ff] rfl rfl (one_of HT_.out (by kernel_rfl)) (by decide) (fun K hK => ?_)
 refine goes_ Try.func19 (by kernel_rfl) rfl #[.agg #[.slice A0_0 l0_0.length c0_0,.slice A0_1 l0_1.length c0_1]] (by rfl) rfl rfl aX ?_
 with_reducible refine(impl_TurnsInOrbit.calls kj2 _ _ l0_0 _ _ l0_1 t477 _ ?side1 ?side2 ?side3 ?side4 A15.out).mono ?_
 (case side1=>exact cX (Kd.C_below HR0_0.out HB.out))
 (case side2=>exact HC0_0.out)
 (case side3=>exact cX (Kd.C_below HR0_1.out HB.out))
 (case side4=>exact HC0_1.out)
 rintro e w20 ⟨rfl,hb⟩
 refine ⟨_,rfl,?_⟩
 replace HO_3:=aM (Kd.R_below (rX HO_3.out) hb)
 replace BK470:=aM (bbX BK470.out hb)
 replace HB:=aM (below_step (bX1 HB.out GE470.out) hb)
 (try clear hb)
 refine hK.out _ _ ⟨cz20 BK470.out,cz21 BK470.out⟩ (fun hHeld => ?_)
 clear hK K
 refine norm_ (a':=?_) ?_ ?_
 rotate_left
 {
 show Act.put _ (some 21) _=_
 simp only [Act.put,zA,zB,zC,i64_w,i32_w]
 rfl
 }
 refine pX 5 22 (fl 17 14527) rfl rfl HT_.out ?_
 refine pX 6 23 (fl 17 14591) rfl rfl HT_.out ?_
 refine one_ (i:=8) (N:=some 25) #[tt,tt,tt,tt,tt,tt,tt,tt,tt,ff,ff,tt,tt,tt,ff,ff,ff] rfl rfl (one_of HT_.out (by kernel_rfl)) (by decide) (fun K hK => ?_)
 refine goes_ Try.func20 (by kernel_rfl) rfl #[.agg #[.slice A0_0 l0_0.length c0_0,.slice A0_1 l0_1.length c0_1]] (by rfl) rfl rfl aX ?_
 with_reducible refine(impl_SixthsInOrbit.calls kj2 _ _ l0_0 _ _ l0_1 t478 _ ?side1 ?side2 ?side3 ?side4 A16.out).mono ?_
 (case side1=>exact cX (Kd.C_below HR0_0.out HB.out))
 (case side2=>exact HC0_0.out)
 (case side3=>exact cX (Kd.C_below HR0_1.out HB.out))
 (case side4=>exact HC0_1.out)
 rintro e w21 ⟨rfl,hb⟩
 refine ⟨_,rfl,?_⟩
 replace HO_3:=aM (Kd.R_below (rX HO_3.out) hb)
 replace BK470:=aM (bbX BK470.out hb)
 replace HB:=aM (below_step (bX1 HB.out GE470.out) hb)
 (try clear hb)
 refine hK.out _ _ ⟨cz20 BK470.out,cz21 BK470.out⟩ (fun hHeld => ?_)
 clear hK K
 refine norm_ (a':=?_) ?_ ?_
 rotate_left
 {
 show Act.put _ (some 25) _=_
 simp only [Act.put,zA,zB,zC,i64_w,i32_w]
 rfl
 }
 refine pX 9 26 (fl 17 15359) rfl rfl HT_.out ?_
 refine pX 10 27 (fl 17 16383) rfl rfl HT_.out ?_
 refine pX 14 31 (fl 17 32767) rfl rfl HT_.out ?_
 refine pX 15 32 (fl 17 65535) rfl rfl HT_.out ?_
 refine pX 16 2 (fl 17 131071) rfl rfl HT_.out ?_
 refine done_ (done_of HT_.out (by kernel_rfl)) ?_
 try go_wp2
 go_ret
 exact ⟨eX,bX1 HB.out GE470.out⟩
 }

/-! ### impl_IsFullGroup: function 21 -/
def impl_IsFullGroup.f (k:Nat) (l0_0:List Int) (l0_1:List Int):Option (Bool):=(impl_IndexOf.f k l0_0 l0_1).bind fun t480=>(some (t480 == 1))
theorem impl_IsFullGroup.calls (k:Nat) (A0_0:Option Addr) (c0_0:Nat) (l0_0:List Int) (A0_1:Option Addr) (c0_1:Nat) (l0_1:List Int) (r:Bool) (w:World) (hr0_0:Kd.C (Kd.int .i64) w A0_0 l0_0.length l0_0) (hc0_0:l0_0.length≤c0_0) (hr0_1:Kd.C (Kd.int .i64) w A0_1 l0_1.length l0_1) (hc0_1:l0_1.length≤c0_1) (h:impl_IsFullGroup.f k l0_0 l0_1=some r) :
  Calls Try.prog 21 #[.agg #[.slice A0_0 l0_0.length c0_0,.slice A0_1 l0_1.length c0_1]] w fun e w'=>e = .returned (.bool r)∧Below w.heap.size w w':=by
 have hu27:=Try.underlying27
 have HR0_0:=aM hr0_0
 have HC0_0:=aM hc0_0
 clear hr0_0 hc0_0
 have HR0_1:=aM hr0_1
 have HC0_1:=aM hc0_1
 clear hr0_1 hc0_1
 have HB:=aM (Below.refl w.heap.size w)
 have H:((impl_IndexOf.f k l0_0 l0_1).bind fun t480=>(some (t480 == 1)))=some r:=h
 clear h
 replace H:=oB H
 obtain ⟨t480,A20,H⟩:=H
 have A2:=aM A20
 clear A20
 obtain rfl:=Option.some.inj H
 go_enter Try.func21,Try.ntmps21
 go_wp2_with (first|((with_reducible refine gate_dst (N:=1) rfl ?_);refine bEv (cs:=#[.slice A0_0 l0_0.length c0_0,.slice A0_1 l0_1.length c0_1]) (t:=27) ?_;intro gb479 hg w3 hbox hb;have BK479:=aM (hbox);have GW479:=aM ((szX (below_size (bX HB.out)) hg:w.heap.size≤gb479));have GE479:=GW479;replace HB:=aM (below_step (bX HB.out) hb);clear hb hbox hg;obtain ⟨hcz4_0,hcz4_1,hfz4_0,hfz4_1⟩:=f2Z BK479.out)|((with_reducible refine gate_callee (f:=12) rfl ?_);refine goesL_ (some 4) rfl rfl Try.func12 (by kernel_rfl) rfl #[.agg #[.slice A0_0 l0_0.length c0_0,.slice A0_1 l0_1.length c0_1]] rfl aX ?_;(with_reducible refine(impl_IndexOf.calls k _ _ l0_0 _ _ l0_1 t480 _ ?side1 ?side2 ?side3 ?side4 A2.out).mono ?_);(case side1=>exact cX (Kd.C_below HR0_0.out HB.out));(case side2=>exact HC0_0.out);(case side3=>exact cX (Kd.C_below HR0_1.out HB.out));(case side4=>exact HC0_1.out);rintro e w5 ⟨rfl,hb⟩;refine ⟨_,rfl,?_⟩;replace BK479:=aM (bbX BK479.out hb);replace HB:=aM (below_step (bX1 HB.out GE479.out) hb);(try clear hb)))
 go_ret
 exact ⟨eX,bX1 HB.out GE479.out⟩

end Go.Proofs.Ytmhjcbcjpidegaa.S
