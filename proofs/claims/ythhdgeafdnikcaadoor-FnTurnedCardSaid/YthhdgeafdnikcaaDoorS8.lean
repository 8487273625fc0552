-- PRINTED by print.py (a twelfth state) out of the translation. Not trusted: Lean checks it.
import Derived.Test.YthhdgeafdnikcaaDoorS0
import Derived.Test.YthhdgeafdnikcaaDoorS3
import Derived.Test.YthhdgeafdnikcaaDoorS6
import Derived.Test.YthhdgeafdnikcaaDoorS7
namespace Go.Proofs.YthhdgeafdnikcaaDoor.S
set_option maxHeartbeats 8000000
set_option maxRecDepth 100000
open Go.RowKit Go.Proofs.YthhdgeafdnikcaaDoorW.PrintWords Go.Proofs.YthhdgeafdnikcaaDoorW.PrintLast Go.Proofs.YthhdgeafdnikcaaDoorW.PrintMore
attribute [local go_sem] max2_int min2_int max_two min_two max_three min_three max_four min_four   -- for this text's walks alone
set_option linter.unusedVariables false
set_option linter.unusedSimpArgs false

/-! ### i_RunWord: function 49 -/
mutual
def i_RunWord.j0 : Nat→ByteArray→Bool→List Int→List Int→Option (List Int × List Int × Bool)
 | 0,_,_,_,_=>none
 | k+1,x1,x15,x603000,x603001=>if x15=true then (some (([]:List Int),([]:List Int),false)) else ((i_copySurface.f x603000 x603001).bind fun bt606=>(i_RunWord.l0 k x1 0 bt606.1 bt606.2))
def i_RunWord.l0 : Nat→ByteArray→Int→List Int→List Int→Option (List Int × List Int × Bool)
 | 0,_,_,_,_=>none
 | k+1,x1,x7,x613000,x613001=>if x7<(x1.size:Int) then (if 0≤x7 then ((i_letterSurface.f k x613000 x613001 (bt x1 x7)).bind fun bt613=>(i_RunWord.l0 k x1 (wrap64 (x7+1)) bt613.1 bt613.2)) else (none)) else (some (x613000,x613001,true))
end
def i_RunWord.f (k:Nat) (l0_0:List Int) (l0_1:List Int) (a1:ByteArray):Option (List Int × List Int × Bool):=(i_SurfaceOk.f k l0_0 l0_1).bind fun t604=>(if t604=true then ((i_WordOk.f k a1).bind fun t605=>(i_RunWord.j0 k a1 (!t605) l0_0 l0_1)) else (i_RunWord.j0 k a1 true l0_0 l0_1))
theorem i_RunWord.calls (k:Nat) (A0_0:Option Addr) (c0_0:Nat) (l0_0:List Int) (A0_1:Option Addr) (c0_1:Nat) (l0_1:List Int) (a1:ByteArray) (r1:List Int) (r2:List Int) (r3:Bool) (w:World) (hr0_0:Kd.C (Kd.int .i64) w A0_0 l0_0.length l0_0) (hc0_0:l0_0.length≤c0_0) (hr0_1:Kd.C (Kd.int .i64) w A0_1 l0_1.length l0_1) (hc0_1:l0_1.length≤c0_1) (h:i_RunWord.f k l0_0 l0_1 a1=some (r1,r2,r3)) :
  Calls Tryd.prog 49 #[.agg #[.slice A0_0 l0_0.length c0_0,.slice A0_1 l0_1.length c0_1],.string a1] w fun e w'=>∃ v0_ v1_:Value,e = .returned (.tuple #[.agg #[v0_,v1_],.bool r3])∧Kd.R (Kd.int .i64) 3 w' w.heap.size (fun k_=>some k_≠(v1_:Value).ownBlock) v0_ r1∧Kd.R (Kd.int .i64) 3 w' w.heap.size (fun k_=>some k_≠(v0_:Value).ownBlock) v1_ r2∧Below w.heap.size w w':=by
 have hu25:=Tryd.underlying25
 have HR0_0:=aM hr0_0
 have HC0_0:=aM hc0_0
 clear hr0_0 hc0_0
 have HR0_1:=aM hr0_1
 have HC0_1:=aM hc0_1
 clear hr0_1 hc0_1
 have HB:=aM (Below.refl w.heap.size w)
 have H:((i_SurfaceOk.f k l0_0 l0_1).bind fun t604=>(if t604=true then ((i_WordOk.f k a1).bind fun t605=>(i_RunWord.j0 k a1 (!t605) l0_0 l0_1)) else (i_RunWord.j0 k a1 true l0_0 l0_1)))=some (r1,r2,r3):=h
 clear h
 have HC3:=aM H
 clear H
 go_enter Tryd.func49,Tryd.ntmps49
 go_upto_region 1 with (first|((with_reducible refine gate_dst (N:=2) rfl ?_);refine bEv (cs:=#[.slice A0_0 l0_0.length c0_0,.slice A0_1 l0_1.length c0_1]) (t:=25) ?_;intro gb602 hg w4 hbox hb;have BK602:=aM (hbox);have GW602:=aM ((szX (below_size (bX HB.out)) hg:w.heap.size≤gb602));have GE602:=GW602;replace HB:=aM (below_step (bX HB.out) hb);clear hb hbox hg)|((with_reducible refine gate_dst (N:=4) rfl ?_);refine bEv (cs:=#[.slice none 0 0,.slice none 0 0]) (t:=25) ?_;intro gb603 hg w5 hbox hb;have BK603:=aM (hbox);have GW603:=aM ((szX (below_size (bX1 HB.out GE602.out)) hg:w.heap.size≤gb603));have GE603:=GW603;replace HB:=aM (below_step (bX1 HB.out GE602.out) hb);have NB602_603:=aM (neX BK602.out hg);have NB603_602:=aM (nfX BK602.out hg);replace BK602:=aM (bbX BK602.out hb);clear hb hbox hg))
 (try simp only [Act.put,List.setIfInBounds_toArray,List.set_cons_zero,List.set_cons_succ])
 go_cut [15] (fun v15 wc=>∃ (kq:Nat) (x15_2:Bool),v15 = .bool x15_2∧Aside0 (i_RunWord.j0 kq a1 x15_2 l0_0 l0_1=some (r1,r2,r3))∧Aside0 (kq≤k)∧Aside0 (wc.heap[gb602]? = some (.cells #[(.slice A0_0 l0_0.length c0_0),(.slice A0_1 l0_1.length c0_1)] 25 (0,0)))∧Aside0 (wc.heap[gb603]? = some (.cells #[(.slice none 0 0),(.slice none 0 0)] 25 (0,0)))∧Aside0 (Below w.heap.size w wc))
 case first =>
  have H:=HC3.out
  clear HC3
  replace H:=oB H
  obtain ⟨t604,A60,H⟩:=H
  have A6:=aM A60
  clear A60
  by_cases c7:t604=true
  {
  subst c7
  have H1:((i_WordOk.f k a1).bind fun t605=>(i_RunWord.j0 k a1 (!t605) l0_0 l0_1))=some (r1,r2,r3):=by rw [if_pos rfl] at H;exact H
  clear H
  have H:=H1
  clear H1
  replace H:=oB H
  obtain ⟨t605,A80,H⟩:=H
  have A8:=aM A80
  clear A80
  have H':=aM H
  clear H
  have hnb9:=NB602_603.out
  have hnc9:=NB603_602.out
  obtain ⟨hcz10_0,hcz10_1,hfz10_0,hfz10_1⟩:=f2Z BK602.out
  go_wp2_with (first|((with_reducible refine gate_callee (f:=22) rfl ?_);refine goesL_ (some 9) rfl rfl Tryd.func22 (by kernel_rfl) rfl #[.agg #[.slice A0_0 l0_0.length c0_0,.slice A0_1 l0_1.length c0_1]] rfl aX ?_;(with_reducible refine(i_SurfaceOk.calls k _ _ l0_0 _ _ l0_1 true _ ?side1 ?side2 ?side3 ?side4 A6.out).mono ?_);(case side1=>exact cX (Kd.C_below HR0_0.out HB.out));(case side2=>exact HC0_0.out);(case side3=>exact cX (Kd.C_below HR0_1.out HB.out));(case side4=>exact HC0_1.out);rintro e w11 ⟨rfl,hb⟩;refine ⟨_,rfl,?_⟩;replace BK602:=aM (bbX BK602.out hb);replace BK603:=aM (bbX BK603.out hb);replace HB:=aM (below_step (bX2 HB.out GE602.out GE603.out) hb);(try clear hb);(try clear hk))|(go_at_call 58;(with_reducible refine(i_WordOk.calls k a1 t605 _ A8.out).mono ?_);rintro e w' ⟨rfl,⟨nd,rfl⟩⟩))
  go_meet
  case rel=>exact ⟨_,(!t605),vX,H',⟨by first|omega|exact Nat.le_refl _⟩,⟨kX BK602.out⟩,⟨kX BK603.out⟩,⟨bX2 HB.out GE602.out GE603.out⟩⟩
  }
  {
  replace c7:=Bool.eq_false_iff.mpr c7
  subst c7
  have H1:(i_RunWord.j0 k a1 true l0_0 l0_1)=some (r1,r2,r3):=by rw [if_neg (show ¬ (false=true) by decide)] at H;exact H
  clear H
  have H:=H1
  clear H1
  have H':=aM H
  clear H
  have hnb12:=NB602_603.out
  have hnc12:=NB603_602.out
  obtain ⟨hcz13_0,hcz13_1,hfz13_0,hfz13_1⟩:=f2Z BK602.out
  go_wp2_with (first|((with_reducible refine gate_callee (f:=22) rfl ?_);refine goesL_ (some 9) rfl rfl Tryd.func22 (by kernel_rfl) rfl #[.agg #[.slice A0_0 l0_0.length c0_0,.slice A0_1 l0_1.length c0_1]] rfl aX ?_;(with_reducible refine(i_SurfaceOk.calls k _ _ l0_0 _ _ l0_1 false _ ?side1 ?side2 ?side3 ?side4 A6.out).mono ?_);(case side1=>exact cX (Kd.C_below HR0_0.out HB.out));(case side2=>exact HC0_0.out);(case side3=>exact cX (Kd.C_below HR0_1.out HB.out));(case side4=>exact HC0_1.out);rintro e w14 ⟨rfl,hb⟩;refine ⟨_,rfl,?_⟩;replace BK602:=aM (bbX BK602.out hb);replace BK603:=aM (bbX BK603.out hb);replace HB:=aM (below_step (bX2 HB.out GE602.out GE603.out) hb);(try clear hb);(try clear hk)))
  go_meet
  case rel=>exact ⟨_,(true),vX,H',⟨by first|omega|exact Nat.le_refl _⟩,⟨kX BK602.out⟩,⟨kX BK603.out⟩,⟨bX2 HB.out GE602.out GE603.out⟩⟩
  }
 case rest =>
 clear HC3
 try clear c7
 try clear hcz10_0
 try clear hcz10_1
 try clear hcz13_0
 try clear hcz13_1
 try clear hfz10_0
 try clear hfz10_1
 try clear hfz13_0
 try clear hfz13_1
 obtain ⟨kq,x15_2,rfl,HA,HJ2,BK602,BK603,HB⟩:=hcut
 cases kq with
 | zero=>exact absurd HA.out (by simp [i_RunWord.j0])
 | succ kj2 =>
 have H:=HA.out
 clear HA
 simp only [i_RunWord.j0] at H
 by_cases c15:x15_2=true
 {
 subst c15
 have H1:(some (([]:List Int),([]:List Int),false))=some (r1,r2,r3):=by rw [if_pos rfl] at H;exact H
 clear H
 have H:=H1
 clear H1
 simp only [Option.some.injEq,Prod.mk.injEq] at H
 obtain ⟨rfl,rfl,rfl⟩:=H
 have hnb16:=NB603_602.out
 have hnc16:=NB602_603.out
 obtain ⟨hcz17_0,hcz17_1,hfz17_0,hfz17_1⟩:=f2Z BK603.out
 go_wp2
 refine bodyPost_ret (results_ct rfl _ _ gb603 25 #[.slice none 0 0,.slice none 0 0] (0,0) _ rfl (by(with_reducible repeat(first|refine kN ?_ _|refine kD ?_|refine kA ?_ _));refine blk_put (cs:=#[.slice none 0 0,.slice none 0 0]) ?_ 1 _ rfl;(with_reducible repeat(first|refine kN ?_ _|refine kD ?_|refine kA ?_ _));refine blk_put (cs:=#[.slice none 0 0,.slice none 0 0]) ?_ 0 _ rfl;(with_reducible repeat(first|refine kN ?_ _|refine kD ?_|refine kA ?_ _));exact BK603.out) Tryd.underlying25 rfl (by kernel_rfl)) rfl ?_
 exact ⟨_,_,eX,by first|exact Kd.R_nil _ _ _ _ _|exact Kd.N_nil _ _ _ _ _|exact Kd.V_nil _ _ _ _ _|exact Kd.Q_nil _ _ _ _ _|exact Kd.S_nil _ _ _ _ _,by first|exact Kd.R_nil _ _ _ _ _|exact Kd.N_nil _ _ _ _ _|exact Kd.V_nil _ _ _ _ _|exact Kd.Q_nil _ _ _ _ _|exact Kd.S_nil _ _ _ _ _,bX2 HB.out GE602.out GE603.out⟩
 }
 {
 replace c15:=Bool.eq_false_iff.mpr c15
 subst c15
 have H1:((i_copySurface.f l0_0 l0_1).bind fun bt606=>(i_RunWord.l0 kj2 a1 0 bt606.1 bt606.2))=some (r1,r2,r3):=by rw [if_neg (show ¬ (false=true) by decide)] at H;exact H
 clear H
 have H:=H1
 clear H1
 replace H:=oB H
 obtain ⟨⟨t606,t609⟩,A180,H⟩:=H
 replace H:(i_RunWord.l0 kj2 a1 0 t606 t609)=some (r1,r2,r3):=H
 have A18:=aM A180
 clear A180
 have H':=aM H
 clear H
 have hnb19:=NB602_603.out
 have hnc19:=NB603_602.out
 obtain ⟨hcz20_0,hcz20_1,hfz20_0,hfz20_1⟩:=f2Z BK602.out
 go_wp2_with (first|((with_reducible refine gate_callee (f:=59) rfl ?_);refine goesL_ (some 18) rfl rfl Tryd.func59 (by kernel_rfl) rfl #[.agg #[.slice A0_0 l0_0.length c0_0,.slice A0_1 l0_1.length c0_1]] rfl aX ?_;(with_reducible refine(i_copySurface.calls _ _ l0_0 _ _ l0_1 t606 t609 _ ?side1 ?side2 ?side3 ?side4 A18.out).mono ?_);(case side1=>exact cX (Kd.C_below HR0_0.out HB.out));(case side2=>exact HC0_0.out);(case side3=>exact cX (Kd.C_below HR0_1.out HB.out));(case side4=>exact HC0_1.out);rintro e w21 ⟨v607,v610,rfl,ho0,ho1,hb⟩;refine ⟨_,rfl,?_⟩;have HO608:=aM (Kd.R_lower ho0 (below_size (bX2 HB.out GE602.out GE603.out)));have HO611:=aM (Kd.R_lower ho1 (below_size (bX2 HB.out GE602.out GE603.out)));replace BK602:=aM (bbX BK602.out hb);replace BK603:=aM (bbX BK603.out hb);replace HB:=aM (below_step (bX2 HB.out GE602.out GE603.out) hb);(try clear hb);(try clear hk);(try clear ho0);(try clear ho1))|((with_reducible refine gate_dst (N:=6) rfl ?_);refine bEv (cs:=#[.slice none 0 0,.slice none 0 0]) (t:=25) ?_;intro gb612 hg w22 hbox hb;replace HO608:=aM (Kd.R_below (rX HO608.out) hb);replace HO611:=aM (Kd.R_below (rX HO611.out) hb);have BK612:=aM (hbox);have GW612:=aM ((szX (below_size (bX2 HB.out GE602.out GE603.out)) hg:w.heap.size≤gb612));have GE612:=GW612;replace HB:=aM (below_step (bX2 HB.out GE602.out GE603.out) hb);have NB602_612:=aM (neX BK602.out hg);have NB612_602:=aM (nfX BK602.out hg);replace BK602:=aM (bbX BK602.out hb);have NB603_612:=aM (neX BK603.out hg);have NB612_603:=aM (nfX BK603.out hg);replace BK603:=aM (bbX BK603.out hb);clear hb hbox hg;obtain ⟨Ao23,co23,eo23⟩:=Kd.R_slice HO608.out;subst eo23;have hnb24:=NB612_602.out;have hnc24:=NB602_612.out;have hnb25:=NB612_603.out;have hnc25:=NB603_612.out;obtain ⟨hcz26_0,hcz26_1,hfz26_0,hfz26_1⟩:=f2Z BK612.out;obtain ⟨Ao27,co27,eo27⟩:=Kd.R_slice HO611.out;subst eo27))
 go_loopg [7] kj2 (fun kq v7 w'=>∃ (x7_2:Int) (x613000_2:List Int) (x613001_2:List Int) (u613000:Value) (u613001:Value),v7 = .int .i64 x7_2∧Aside0 (i_RunWord.l0 kq a1 x7_2 x613000_2 x613001_2=some (r1,r2,r3))∧Aside0 (kq≤kj2)∧Aside0 (Kd.R (Kd.int .i64) 3 w' w.heap.size (fun k_=>some k_≠(u613001:Value).ownBlock) u613000 x613000_2)∧Aside0 (Kd.R (Kd.int .i64) 3 w' w.heap.size (fun k_=>some k_≠(u613000:Value).ownBlock) u613001 x613001_2)∧Aside0 (w'.heap[gb602]? = some (.cells #[(.slice A0_0 l0_0.length c0_0),(.slice A0_1 l0_1.length c0_1)] 25 (0,0)))∧Aside0 (w'.heap[gb603]? = some (.cells #[(.slice none 0 0),(.slice none 0 0)] 25 (0,0)))∧Aside0 (w'.heap[gb612]? = some (.cells #[u613000,u613001] 25 (0,0)))∧Aside0 (Below w.heap.size w w'))
 case atStart=>exact ⟨(0),(t606),(t609),(.slice Ao23 t606.length co23),(.slice Ao27 t609.length co27),vX,H',⟨Nat.le_refl _⟩,⟨by(with_reducible repeat(first|apply rA|apply rN|apply rD));exact Kd.R_mono (Kd.R_far (p:=⟨gb612,1,none⟩) (Kd.R_far (p:=⟨gb612,0,none⟩) (Kd.R_types HO608.out BK612.out (by decide)) (fun _ hk=>hk.2) (.slice Ao23 t606.length co23)) (fun _ hk=>hk.2) (.slice Ao27 t609.length co27)) (fun _ hk=>hk.1)⟩,⟨by(with_reducible repeat(first|apply rA|apply rN|apply rD));exact Kd.R_mono (Kd.R_far (p:=⟨gb612,1,none⟩) (Kd.R_far (p:=⟨gb612,0,none⟩) (Kd.R_types HO611.out BK612.out (by decide)) (fun _ hk=>hk.2) (.slice Ao23 t606.length co23)) (fun _ hk=>hk.2) (.slice Ao27 t609.length co27)) (fun _ hk=>hk.1)⟩,⟨by(with_reducible repeat(first|refine kN ?_ _|refine kD ?_|refine kA ?_ _));refine blk_far ?_ NB602_612.out _;(with_reducible repeat(first|refine kN ?_ _|refine kD ?_|refine kA ?_ _));refine blk_far ?_ NB602_612.out _;(with_reducible repeat(first|refine kN ?_ _|refine kD ?_|refine kA ?_ _));exact BK602.out⟩,⟨by(with_reducible repeat(first|refine kN ?_ _|refine kD ?_|refine kA ?_ _));refine blk_far ?_ NB603_612.out _;(with_reducible repeat(first|refine kN ?_ _|refine kD ?_|refine kA ?_ _));refine blk_far ?_ NB603_612.out _;(with_reducible repeat(first|refine kN ?_ _|refine kD ?_|refine kA ?_ _));exact BK603.out⟩,⟨by(with_reducible repeat(first|refine kN ?_ _|refine kD ?_|refine kA ?_ _));refine blk_put (cs:=#[.slice Ao23 t606.length co23,.slice none 0 0]) ?_ 1 _ rfl;(with_reducible repeat(first|refine kN ?_ _|refine kD ?_|refine kA ?_ _));refine blk_put (cs:=#[.slice none 0 0,.slice none 0 0]) ?_ 0 _ rfl;(with_reducible repeat(first|refine kN ?_ _|refine kD ?_|refine kA ?_ _));exact BK612.out⟩,⟨bX3 HB.out GE602.out GE603.out GE612.out⟩⟩
 case round =>
 clear H'
 try clear c7
 try clear c15
 try clear hcz10_0
 try clear hcz10_1
 try clear hcz13_0
 try clear hcz13_1
 try clear hcz17_0
 try clear hcz17_1
 try clear hcz20_0
 try clear hcz20_1
 try clear hcz26_0
 try clear hcz26_1
 try clear hfz10_0
 try clear hfz10_1
 try clear hfz13_0
 try clear hfz13_1
 try clear hfz17_0
 try clear hfz17_1
 try clear hfz20_0
 try clear hfz20_1
 try clear hfz26_0
 try clear hfz26_1
 obtain ⟨x7_2,x613000_2,x613001_2,u613000,u613001,rfl,HA,HK2,HO_613000,HO_613001,BK602,BK603,BK612,HB⟩:=hrel
 cases gk with
 | zero=>exact absurd HA.out (by simp [i_RunWord.l0])
 | succ k2 =>
 have H:=HA.out
 clear HA
 simp only [i_RunWord.l0] at H
 by_cases c28:x7_2<(a1.size:Int)
 {
 rw [if_pos c28] at H
 have c28b0:=decide_eq_true c28
 clear c28
 by_cases c29:0≤x7_2
 {
 rw [if_pos c29] at H
 have c29b0:=decide_eq_true c29
 clear c29
 replace H:=oB H
 obtain ⟨⟨t613,t616⟩,A310,H⟩:=H
 replace H:(i_RunWord.l0 k2 a1 (wrap64 (x7_2+1)) t613 t616)=some (r1,r2,r3):=H
 have A31:=aM A310
 clear A310
 have H':=aM H
 clear H
 try go_wp2
 replace HO_613000:=aM (Kd.R_drew HO_613000.out)
 replace HO_613001:=aM (Kd.R_drew HO_613001.out)
 replace BK602:=aM (blk_drew BK602.out)
 replace BK603:=aM (blk_drew BK603.out)
 replace BK612:=aM (blk_drew BK612.out)
 replace HB:=aM (below_drew1 HB.out)
 have p30:0≤(x7_2:Int):=dX
 have q30:x7_2<(a1.size:Int):=dX
 have hx30:=bt_at a1 x7_2
 replace p30:=eq_true p30
 replace q30:=eq_true q30
 obtain ⟨Ao33,co33,eo33⟩:=Kd.R_slice HO_613000.out
 (first|subst eo33|(injection eo33 with f1_ f2_ f3_;have f4_:=f1_.symm;have f5_:=f3_.symm;clear f1_ f2_ f3_;subst f4_;subst f5_))
 obtain ⟨Ao34,co34,eo34⟩:=Kd.R_slice HO_613001.out
 (first|subst eo34|(injection eo34 with f1_ f2_ f3_;have f4_:=f1_.symm;have f5_:=f3_.symm;clear f1_ f2_ f3_;subst f4_;subst f5_))
 refine start_ (n:=6) (S:=fun w'=>w'.cell? ⟨gb612,0,none⟩=some (.slice Ao33 x613000_2.length co33)∧w'.cell? ⟨gb612,1,none⟩=some (.slice Ao34 x613001_2.length co34)) (ds:=[5]) #[false,false,false,false,false,false] (by kernel_rfl) rfl rfl ⟨cz20 BK612.out,cz21 BK612.out⟩ (fun hHeld => ?_)
 generalize wr.drew=w32 at HO_613000 HO_613001 BK602 BK603 BK612 HB hHeld ⊢
 refine pure_ (i:=1) (N:=some 26) (v:=?_) (a':=?_) #[false,true,false,false,false,false] rfl rfl (by kernel_rfl) (fun _ _ _ h=>h) (Or.inl ⟨by rfl,?_⟩) ?_ ?_
 rotate_left
 {
 intro w'
 go_simp
 with_reducible rfl
 }
 rotate_left
 {
 simp only [Act.put,zA,zB,zC,i64_w,i32_w]
 rfl
 }
 refine pure_ (i:=2) (N:=some 27) (v:=?_) (a':=?_) #[false,true,true,false,false,false] rfl rfl (by kernel_rfl) (fun _ _ _ h=>h) (Or.inl ⟨by rfl,?_⟩) ?_ ?_
 rotate_left
 {
 intro w'
 go_simp
 with_reducible rfl
 }
 rotate_left
 {
 simp only [Act.put,zA,zB,zC,i64_w,i32_w]
 rfl
 }
 refine take_ (i:=0) (N:=some 25) (v:=?_) (a':=?_) #[true,true,true,false,false,false] rfl rfl (by kernel_rfl) (fun _ _ _ h=>h) (Or.inl ⟨by rfl,?_⟩) hHeld ?_ ?_
 rotate_left
 {
 rintro w' ⟨s0,s1⟩
 go_simp
 with_reducible rfl
 }
 rotate_left
 {
 simp only [Act.put,zA,zB,zC,i64_w,i32_w]
 rfl
 }
 refine take_ (i:=3) (N:=some 28) (v:=?_) (a':=?_) #[true,true,true,true,false,false] rfl rfl (by kernel_rfl) (fun _ _ _ h=>h) (Or.inl ⟨by rfl,?_⟩) hHeld ?_ ?_
 rotate_left
 {
 rintro w' ⟨s0,s1⟩
 go_simp
 with_reducible rfl
 }
 rotate_left
 {
 simp only [Act.put,zA,zB,zC,i64_w,i32_w]
 rfl
 }
 refine one_ (i:=4) (N:=some 29) #[true,true,true,true,true,false] rfl rfl (by kernel_rfl) (by decide) (fun K hK => ?_)
 refine goes_ Tryd.func60 (by kernel_rfl) rfl #[.agg #[.slice Ao33 x613000_2.length co33,.slice Ao34 x613001_2.length co34],.int .u8 (bt a1 x7_2)] (by rfl) rfl rfl aX ?_
 with_reducible refine(i_letterSurface.calls k2 _ _ x613000_2 _ _ x613001_2 (bt a1 x7_2) t613 t616 _ ?side1 ?side2 ?side3 ?side4 A31.out).mono ?_
 (case side1=>exact cX (Kd.R_reads' HO_613000.out).2.2)
 (case side2=>exact(Kd.R_reads' HO_613000.out).2.1)
 (case side3=>exact cX (Kd.R_reads' HO_613001.out).2.2)
 (case side4=>exact(Kd.R_reads' HO_613001.out).2.1)
 rintro e w35 ⟨v614,v617,rfl,ho0,ho1,hb⟩
 refine ⟨_,rfl,?_⟩
 have HO615:=aM (Kd.R_lower (Kd.R_new' (Kd.R_new' ho0 (Kd.R_lt (rX HO_613000.out))) (Kd.R_lt (rX HO_613001.out))) (below_size (bX3 HB.out GE602.out GE603.out GE612.out)))
 have HO618:=aM (Kd.R_lower (Kd.R_new' (Kd.R_new' ho1 (Kd.R_lt (rX HO_613000.out))) (Kd.R_lt (rX HO_613001.out))) (below_size (bX3 HB.out GE602.out GE603.out GE612.out)))
 replace HO_613000:=aM (Kd.R_mono (Kd.R_told (Kd.R_told (Kd.R_old (rX HO_613000.out) hb) (Kd.R_base ho0)) (Kd.R_base ho1)) (fun _ h_=>h_.1))
 replace HO_613001:=aM (Kd.R_mono (Kd.R_told (Kd.R_told (Kd.R_old (rX HO_613001.out) hb) (Kd.R_base ho0)) (Kd.R_base ho1)) (fun _ h_=>h_.1))
 replace BK602:=aM (bbX BK602.out hb)
 replace BK603:=aM (bbX BK603.out hb)
 replace BK612:=aM (bbX BK612.out hb)
 replace HB:=aM (below_step (bX3 HB.out GE602.out GE603.out GE612.out) hb)
 (try clear hb)
 (try clear hk)
 (try clear ho0)
 (try clear ho1)
 obtain ⟨Ao36,co36,eo36⟩:=Kd.R_slice HO615.out
 (first|subst eo36|(injection eo36 with f1_ f2_ f3_;have f4_:=f1_.symm;have f5_:=f3_.symm;clear f1_ f2_ f3_;subst f4_;subst f5_))
 obtain ⟨Ao38,co38,eo38⟩:=Kd.R_slice HO618.out
 (first|subst eo38|(injection eo38 with f1_ f2_ f3_;have f4_:=f1_.symm;have f5_:=f3_.symm;clear f1_ f2_ f3_;subst f4_;subst f5_))
 refine hK.out _ _ ⟨cz20 BK612.out,cz21 BK612.out⟩ (fun hHeld => ?_)
 clear hK K
 refine norm_ (a':=?_) ?_ ?_
 rotate_left
 {
 show Act.put _ (some 29) _=_
 simp only [Act.put,zA,zB,zC,i64_w,i32_w]
 rfl
 }
 refine last_ (i:=5) (N:=none) #[true,true,true,true,true,true] rfl rfl (by kernel_rfl) (by decide) (fun K hK => ?_)
 have hs37:w35.cell? ⟨gb612,0,none⟩=some (.slice Ao33 x613000_2.length co33):=cz20 BK612.out
 have hfs37:=blk_frozen BK612.out 0
 have hns37_0:=NB602_612.out
 have hns37_1:=NB603_612.out
 have hms37_0:=NB612_602.out
 have hms37_1:=NB612_603.out
 have hs39:w35.cell? ⟨gb612,1,none⟩=some (.slice Ao34 x613001_2.length co34):=cz21 BK612.out
 have hfs39:=blk_frozen BK612.out 1
 have hns39_0:=NB602_612.out
 have hns39_1:=NB603_612.out
 have hms39_0:=NB612_602.out
 have hms39_1:=NB612_603.out
 refine skip_ (w1:=?_) (by rfl) rfl ?_ ?_
 rotate_left
 {
 go_simp
 rfl
 }
 refine hK.out _ _ ?_
 clear hK K
 refine done_ (by kernel_rfl) ?_
 try go_wp2
 go_roundg k2
 case measure=>have:=HJ2.out;have:=HK2.out;omega
 case rel=>exact ⟨(wrap64 (x7_2+1)),(t613),(t616),(.slice Ao36 t613.length co36),(.slice Ao38 t616.length co38),vX,H',⟨by have:=HJ2.out;have:=HK2.out;omega⟩,⟨by(with_reducible repeat(first|apply rA|apply rN|apply rD));exact Kd.R_mono (Kd.R_far (p:=⟨gb612,1,none⟩) (Kd.R_far (p:=⟨gb612,0,none⟩) (Kd.R_types HO615.out BK612.out (by decide)) (fun _ hk=>hk.2) (.slice Ao36 t613.length co36)) (fun _ hk=>hk.2) (.slice Ao38 t616.length co38)) (fun _ hk=>hk.1.1.1)⟩,⟨by(with_reducible repeat(first|apply rA|apply rN|apply rD));exact Kd.R_mono (Kd.R_far (p:=⟨gb612,1,none⟩) (Kd.R_far (p:=⟨gb612,0,none⟩) (Kd.R_types HO618.out BK612.out (by decide)) (fun _ hk=>hk.2) (.slice Ao36 t613.length co36)) (fun _ hk=>hk.2) (.slice Ao38 t616.length co38)) (fun _ hk=>hk.1.1.1)⟩,⟨by(with_reducible repeat(first|refine kN ?_ _|refine kD ?_|refine kA ?_ _));refine blk_far ?_ NB602_612.out _;(with_reducible repeat(first|refine kN ?_ _|refine kD ?_|refine kA ?_ _));refine blk_far ?_ NB602_612.out _;(with_reducible repeat(first|refine kN ?_ _|refine kD ?_|refine kA ?_ _));exact BK602.out⟩,⟨by(with_reducible repeat(first|refine kN ?_ _|refine kD ?_|refine kA ?_ _));refine blk_far ?_ NB603_612.out _;(with_reducible repeat(first|refine kN ?_ _|refine kD ?_|refine kA ?_ _));refine blk_far ?_ NB603_612.out _;(with_reducible repeat(first|refine kN ?_ _|refine kD ?_|refine kA ?_ _));exact BK603.out⟩,⟨by(with_reducible repeat(first|refine kN ?_ _|refine kD ?_|refine kA ?_ _));refine blk_put (cs:=#[.slice Ao36 t613.length co36,.slice Ao34 x613001_2.length co34]) ?_ 1 _ rfl;(with_reducible repeat(first|refine kN ?_ _|refine kD ?_|refine kA ?_ _));refine blk_put (cs:=#[.slice Ao33 x613000_2.length co33,.slice Ao34 x613001_2.length co34]) ?_ 0 _ rfl;(with_reducible repeat(first|refine kN ?_ _|refine kD ?_|refine kA ?_ _));exact BK612.out⟩,⟨bX3 HB.out GE602.out GE603.out GE612.out⟩⟩
 }
 {
 rw [if_neg c29] at H
 exact absurd H (by simp)
 }
 }
 {
 rw [if_neg c28] at H
 have c28b0:=decide_eq_false c28
 clear c28
 simp only [Option.some.injEq,Prod.mk.injEq] at H
 obtain ⟨rfl,rfl,rfl⟩:=H
 have hnb40:=NB612_602.out
 have hnc40:=NB602_612.out
 have hnb41:=NB612_603.out
 have hnc41:=NB603_612.out
 obtain ⟨hcz42_0,hcz42_1,hfz42_0,hfz42_1⟩:=f2Z BK612.out
 obtain ⟨Ao43,co43,eo43⟩:=Kd.R_slice HO_613000.out
 subst eo43
 have hnb44:=NB603_602.out
 have hnc44:=NB602_603.out
 obtain ⟨hcz45_0,hcz45_1,hfz45_0,hfz45_1⟩:=f2Z BK603.out
 obtain ⟨Ao46,co46,eo46⟩:=Kd.R_slice HO_613001.out
 subst eo46
 go_wp2
 refine bodyPost_ret (results_ct rfl _ _ gb603 25 #[.slice Ao43 x613000_2.length co43,.slice Ao46 x613001_2.length co46] (0,0) _ rfl (by(with_reducible repeat(first|refine kN ?_ _|refine kD ?_|refine kA ?_ _));refine blk_put (cs:=#[.slice Ao43 x613000_2.length co43,.slice none 0 0]) ?_ 1 _ rfl;(with_reducible repeat(first|refine kN ?_ _|refine kD ?_|refine kA ?_ _));refine blk_put (cs:=#[.slice none 0 0,.slice none 0 0]) ?_ 0 _ rfl;(with_reducible repeat(first|refine kN ?_ _|refine kD ?_|refine kA ?_ _));exact BK603.out) Tryd.underlying25 rfl (by kernel_rfl)) rfl ?_
 exact ⟨_,_,eX,by(with_reducible repeat(first|apply rA|apply rN|apply rD));exact Kd.R_mono (Kd.R_far (p:=⟨gb603,1,none⟩) (Kd.R_far (p:=⟨gb603,0,none⟩) (Kd.R_types HO_613000.out BK603.out (by decide)) (fun _ hk=>hk.2) (.slice Ao43 x613000_2.length co43)) (fun _ hk=>hk.2) (.slice Ao46 x613001_2.length co46)) (fun _ hk=>hk.1),by(with_reducible repeat(first|apply rA|apply rN|apply rD));exact Kd.R_mono (Kd.R_far (p:=⟨gb603,1,none⟩) (Kd.R_far (p:=⟨gb603,0,none⟩) (Kd.R_types HO_613001.out BK603.out (by decide)) (fun _ hk=>hk.2) (.slice Ao43 x613000_2.length co43)) (fun _ hk=>hk.2) (.slice Ao46 x613001_2.length co46)) (fun _ hk=>hk.1),bX3 HB.out GE602.out GE603.out GE612.out⟩
 }
 }

/-! ### i_AreIsomorphic: function 50 -/
/-! by hand -/
def i_AreIsomorphic.f (k:Nat) (l0_0 l0_1 l1_0 l1_1:List Int):Option Bool:=(i_CanonOf.f k l0_0 l0_1).bind fun x=>(i_CanonOf.f k l1_0 l1_1).bind fun y=>if x.2.2=true then (if y.2.2=true then i_SameSurface.f k x.1 x.2.1 y.1 y.2.1 else some false) else some false
theorem i_AreIsomorphic.calls (k:Nat) (A0_0:Option Addr) (c0_0:Nat) (l0_0:List Int) (A0_1:Option Addr) (c0_1:Nat) (l0_1:List Int) (A1_0:Option Addr) (c1_0:Nat) (l1_0:List Int) (A1_1:Option Addr) (c1_1:Nat) (l1_1:List Int) (r:Bool) (w:World) (hr0_0:Kd.C (Kd.int .i64) w A0_0 l0_0.length l0_0) (hc0_0:l0_0.length≤c0_0) (hr0_1:Kd.C (Kd.int .i64) w A0_1 l0_1.length l0_1) (hc0_1:l0_1.length≤c0_1) (hr1_0:Kd.C (Kd.int .i64) w A1_0 l1_0.length l1_0) (hc1_0:l1_0.length≤c1_0) (hr1_1:Kd.C (Kd.int .i64) w A1_1 l1_1.length l1_1) (hc1_1:l1_1.length≤c1_1) (h:i_AreIsomorphic.f k l0_0 l0_1 l1_0 l1_1=some r) :
    Calls Tryd.prog 50 #[.agg #[.slice A0_0 l0_0.length c0_0,.slice A0_1 l0_1.length c0_1],.agg #[.slice A1_0 l1_0.length c1_0,.slice A1_1 l1_1.length c1_1]] w fun e w'=>e = .returned (.bool r)∧Below w.heap.size w w':=by
 have hu:=Tryd.underlying25
 have HS:Aside0 (SurfC w A0_0 A0_1 c0_0 c0_1 l0_0 l0_1):=⟨⟨hc0_0,hr0_0,hc0_1,hr0_1⟩⟩
 have HT:Aside0 (SurfC w A1_0 A1_1 c1_0 c1_1 l1_0 l1_1):=⟨⟨hc1_0,hr1_0,hc1_1,hr1_1⟩⟩
 clear hr0_0 hc0_0 hr0_1 hc0_1 hr1_0 hc1_0 hr1_1 hc1_1
 unfold i_AreIsomorphic.f at h
 obtain ⟨⟨q1,q2,q3⟩,hq,h⟩:=oB h
 obtain ⟨⟨p1,p2,p3⟩,hp,h⟩:=oB h
 have HQ:=aM hq
 have HP:=aM hp
 clear hq hp
 cases q3 with
 | true =>
  cases p3 with
  | true =>
   have HA:=aM (show i_SameSurface.f k q1 q2 p1 p2=some r from h)
   clear h
   go_enter Tryd.func50,Tryd.ntmps50
   go_wp2_with (first
    | ((with_reducible refine gate_dst (N:=2) rfl ?_);refine bEv (cs:=#[.slice A0_0 l0_0.length c0_0,.slice A0_1 l0_1.length c0_1]) (t:=25) ?_;intro gb2 hg2 w1 hbox hb;have BK2:=aM hbox;have HB1:=aM hb;have HG2:=aM hg2;clear hbox hb hg2)
    | ((with_reducible refine gate_dst (N:=3) rfl ?_);refine bEv (cs:=#[.slice A1_0 l1_0.length c1_0,.slice A1_1 l1_1.length c1_1]) (t:=25) ?_;intro gb3 hg3 w2 hbox hb;have HB2:=aM (below_step HB1.out hb);have BK22:=aM (blk_below BK2.out hb);have BK3:=aM hbox;have HNE23:=aM (show gb2≠gb3 by have:=blk_lt BK2.out;omega);clear hbox hb hg3 BK2 HB1;have hcgb20:(w2).cell? ⟨gb2,0,none⟩=some (.slice A0_0 l0_0.length c0_0):=(blk_cell BK22.out 0).trans rfl;have hcgb21:(w2).cell? ⟨gb2,1,none⟩=some (.slice A0_1 l0_1.length c0_1):=(blk_cell BK22.out 1).trans rfl;skip)
    | (go_at_call 26;(refine(i_CanonOf.calls k _ _ l0_0 _ _ l0_1 q1 q2 _ w2 (HS.out.below HB2.out) HQ.out).mono ?_);rintro e w3 ⟨B0,b0,B1,b1,rfl,hS,hb⟩;have HB3:=aM (below_step HB2.out hb);have BK33:=aM (blk_below BK3.out hb);have HS3:=aM hS;clear hcgb20 hcgb21 hb hS BK3 BK22 HB2)
    | ((with_reducible refine gate_dst (N:=5) rfl ?_);refine bEv (cs:=#[.slice none 0 0,.slice none 0 0]) (t:=25) ?_;intro gb5 hg5 w4 hbox hb;have BK5:=aM hbox;have HB4:=aM (below_step HB3.out hb);have HG5:=aM (show w.heap.size≤gb5 by rw [hg5];exact below_size HB3.out);have BK34:=aM (blk_below BK33.out hb);have HNE:=aM (show gb3≠gb5 by have:=blk_lt BK33.out;omega);have HG35:=aM (show w3.heap.size≤gb5 by omega);have HB34:=aM hb;clear hbox hb hg5 BK33 HB3)
    | (refine wpList_store_row rfl 25 (.tmp 5) (.tmp 12) rfl gb5 #[.slice B0 q1.length b0,.slice B1 q2.length b1] rfl rfl 25 #[.slice none 0 0,.slice none 0 0] BK5.out (by kernel_rfl) rfl (by simp [Value.oneCell']) ?_;have BK35:=aM ((setRow_other w4 gb5 gb3 #[.slice B0 q1.length b0,.slice B1 q2.length b1] HNE.out).trans BK34.out);have HB5:=aM (below_setRow HB4.out HG5.out #[.slice B0 q1.length b0,.slice B1 q2.length b1]);have HC5:=aM (setRow_heap w4 gb5 _ #[.slice B0 q1.length b0,.slice B1 q2.length b1] _ _ BK5.out);have HS5:=aM (HS3.out.below (below_setRow HB34.out HG35.out #[.slice B0 q1.length b0,.slice B1 q2.length b1]));clear BK34 HB4 BK5;have hcgb30:(w4.setRow gb5 #[.slice B0 q1.length b0,.slice B1 q2.length b1]).cell? ⟨gb3,0,none⟩=some (.slice A1_0 l1_0.length c1_0):=(blk_cell BK35.out 0).trans rfl;have hcgb31:(w4.setRow gb5 #[.slice B0 q1.length b0,.slice B1 q2.length b1]).cell? ⟨gb3,1,none⟩=some (.slice A1_1 l1_1.length c1_1):=(blk_cell BK35.out 1).trans rfl; skip)
    | (go_at_call 26;(refine(i_CanonOf.calls k _ _ l1_0 _ _ l1_1 p1 p2 _ (w4.setRow gb5 #[.slice B0 q1.length b0,.slice B1 q2.length b1]) (HT.out.below HB5.out) HP.out).mono ?_);rintro e w6 ⟨D0,d0,D1,d1,rfl,hS,hb⟩;have HB6:=aM (below_step HB5.out hb);have HC6:=aM (blk_below HC5.out hb);have HS6:=aM (HS5.out.below hb);have HT6:=aM hS;clear hcgb30 hcgb31 hb hS BK35 HB5 HC5 HS5)
    | ((with_reducible refine gate_dst (N:=7) rfl ?_);refine bEv (cs:=#[.slice none 0 0,.slice none 0 0]) (t:=25) ?_;intro gb7 hg7 w7 hbox hb;have BK7:=aM hbox;have HB7:=aM (below_step HB6.out hb);have HG7:=aM (show w.heap.size≤gb7 by rw [hg7];exact below_size HB6.out);have HC7:=aM (blk_below HC6.out hb);have HNE7:=aM (show gb7≠gb5 by have:=blk_lt HC6.out;omega);have HG67:=aM (show w6.heap.size≤gb7 by omega);have HB67:=aM hb;clear hbox hb hg7 HC6 HB6)
    | (refine wpList_store_row rfl 25 (.tmp 7) (.tmp 17) rfl gb7 #[.slice D0 p1.length d0,.slice D1 p2.length d1] rfl rfl 25 #[.slice none 0 0,.slice none 0 0] BK7.out (by kernel_rfl) rfl (by simp [Value.oneCell']) ?_;have HD9:=aM (setRow_heap w7 gb7 _ #[.slice D0 p1.length d0,.slice D1 p2.length d1] _ _ BK7.out);have HC9:=aM ((setRow_other w7 gb7 gb5 #[.slice D0 p1.length d0,.slice D1 p2.length d1] HNE7.out.symm).trans HC7.out);have HB9:=aM (below_setRow HB7.out HG7.out #[.slice D0 p1.length d0,.slice D1 p2.length d1]);have HS9:=aM (HS6.out.below (below_setRow HB67.out HG67.out #[.slice D0 p1.length d0,.slice D1 p2.length d1]));have HT9:=aM (HT6.out.below (below_setRow HB67.out HG67.out #[.slice D0 p1.length d0,.slice D1 p2.length d1]));clear BK7 HC7 HB7;have hcgb50:(w7.setRow gb7 #[.slice D0 p1.length d0,.slice D1 p2.length d1]).cell? ⟨gb5,0,none⟩=some (.slice B0 q1.length b0):=(blk_cell HC9.out 0).trans rfl;have hcgb51:(w7.setRow gb7 #[.slice D0 p1.length d0,.slice D1 p2.length d1]).cell? ⟨gb5,1,none⟩=some (.slice B1 q2.length b1):=(blk_cell HC9.out 1).trans rfl; have hcgb70:(w7.setRow gb7 #[.slice D0 p1.length d0,.slice D1 p2.length d1]).cell? ⟨gb7,0,none⟩=some (.slice D0 p1.length d0):=(blk_cell HD9.out 0).trans rfl;have hcgb71:(w7.setRow gb7 #[.slice D0 p1.length d0,.slice D1 p2.length d1]).cell? ⟨gb7,1,none⟩=some (.slice D1 p2.length d1):=(blk_cell HD9.out 1).trans rfl; skip)
    | (go_at_call 28;(refine(i_SameSurface.calls k B0 b0 q1 B1 b1 q2 D0 d0 p1 D1 d1 p2 r (w7.setRow gb7 #[.slice D0 p1.length d0,.slice D1 p2.length d1]) HS9.out.g0 HS9.out.l0 HS9.out.g1 HS9.out.l1 HT9.out.g0 HT9.out.l0 HT9.out.g1 HT9.out.l1 HA.out).mono ?_);rintro e w8 ⟨rfl,hb⟩;have HBE:=aM (below_step HB9.out hb);clear hcgb50 hcgb51 hcgb70 hcgb71 hb))
   go_ret
   exact ⟨rfl,HBE.out⟩
  | false =>
  have hr:r=false:=(Option.some.inj h).symm
  clear h
  subst hr
  go_enter Tryd.func50,Tryd.ntmps50
  go_wp2_with (first
   | ((with_reducible refine gate_dst (N:=2) rfl ?_);refine bEv (cs:=#[.slice A0_0 l0_0.length c0_0,.slice A0_1 l0_1.length c0_1]) (t:=25) ?_;intro gb2 hg2 w1 hbox hb;have BK2:=aM hbox;have HB1:=aM hb;have HG2:=aM hg2;clear hbox hb hg2)
   | ((with_reducible refine gate_dst (N:=3) rfl ?_);refine bEv (cs:=#[.slice A1_0 l1_0.length c1_0,.slice A1_1 l1_1.length c1_1]) (t:=25) ?_;intro gb3 hg3 w2 hbox hb;have HB2:=aM (below_step HB1.out hb);have BK22:=aM (blk_below BK2.out hb);have BK3:=aM hbox;have HNE23:=aM (show gb2≠gb3 by have:=blk_lt BK2.out;omega);clear hbox hb hg3 BK2 HB1;have hcgb20:(w2).cell? ⟨gb2,0,none⟩=some (.slice A0_0 l0_0.length c0_0):=(blk_cell BK22.out 0).trans rfl;have hcgb21:(w2).cell? ⟨gb2,1,none⟩=some (.slice A0_1 l0_1.length c0_1):=(blk_cell BK22.out 1).trans rfl;skip)
   | (go_at_call 26;(refine(i_CanonOf.calls k _ _ l0_0 _ _ l0_1 q1 q2 _ w2 (HS.out.below HB2.out) HQ.out).mono ?_);rintro e w3 ⟨B0,b0,B1,b1,rfl,hS,hb⟩;have HB3:=aM (below_step HB2.out hb);have BK33:=aM (blk_below BK3.out hb);have HS3:=aM hS;clear hcgb20 hcgb21 hb hS BK3 BK22 HB2)
   | ((with_reducible refine gate_dst (N:=5) rfl ?_);refine bEv (cs:=#[.slice none 0 0,.slice none 0 0]) (t:=25) ?_;intro gb5 hg5 w4 hbox hb;have BK5:=aM hbox;have HB4:=aM (below_step HB3.out hb);have HG5:=aM (show w.heap.size≤gb5 by rw [hg5];exact below_size HB3.out);have BK34:=aM (blk_below BK33.out hb);have HNE:=aM (show gb3≠gb5 by have:=blk_lt BK33.out;omega);have HG35:=aM (show w3.heap.size≤gb5 by omega);have HB34:=aM hb;clear hbox hb hg5 BK33 HB3)
   | (refine wpList_store_row rfl 25 (.tmp 5) (.tmp 12) rfl gb5 #[.slice B0 q1.length b0,.slice B1 q2.length b1] rfl rfl 25 #[.slice none 0 0,.slice none 0 0] BK5.out (by kernel_rfl) rfl (by simp [Value.oneCell']) ?_;have BK35:=aM ((setRow_other w4 gb5 gb3 #[.slice B0 q1.length b0,.slice B1 q2.length b1] HNE.out).trans BK34.out);have HB5:=aM (below_setRow HB4.out HG5.out #[.slice B0 q1.length b0,.slice B1 q2.length b1]);have HC5:=aM (setRow_heap w4 gb5 _ #[.slice B0 q1.length b0,.slice B1 q2.length b1] _ _ BK5.out);have HS5:=aM (HS3.out.below (below_setRow HB34.out HG35.out #[.slice B0 q1.length b0,.slice B1 q2.length b1]));clear BK34 HB4 BK5;have hcgb30:(w4.setRow gb5 #[.slice B0 q1.length b0,.slice B1 q2.length b1]).cell? ⟨gb3,0,none⟩=some (.slice A1_0 l1_0.length c1_0):=(blk_cell BK35.out 0).trans rfl;have hcgb31:(w4.setRow gb5 #[.slice B0 q1.length b0,.slice B1 q2.length b1]).cell? ⟨gb3,1,none⟩=some (.slice A1_1 l1_1.length c1_1):=(blk_cell BK35.out 1).trans rfl; skip)
   | (go_at_call 26;(refine(i_CanonOf.calls k _ _ l1_0 _ _ l1_1 p1 p2 _ (w4.setRow gb5 #[.slice B0 q1.length b0,.slice B1 q2.length b1]) (HT.out.below HB5.out) HP.out).mono ?_);rintro e w6 ⟨D0,d0,D1,d1,rfl,hS,hb⟩;have HB6:=aM (below_step HB5.out hb);have HC6:=aM (blk_below HC5.out hb);have HS6:=aM (HS5.out.below hb);have HT6:=aM hS;clear hcgb30 hcgb31 hb hS BK35 HB5 HC5 HS5)
   | ((with_reducible refine gate_dst (N:=7) rfl ?_);refine bEv (cs:=#[.slice none 0 0,.slice none 0 0]) (t:=25) ?_;intro gb7 hg7 w7 hbox hb;have BK7:=aM hbox;have HB7:=aM (below_step HB6.out hb);have HG7:=aM (show w.heap.size≤gb7 by rw [hg7];exact below_size HB6.out);have HC7:=aM (blk_below HC6.out hb);have HNE7:=aM (show gb7≠gb5 by have:=blk_lt HC6.out;omega);have HG67:=aM (show w6.heap.size≤gb7 by omega);have HB67:=aM hb;clear hbox hb hg7 HC6 HB6)
   | (refine wpList_store_row rfl 25 (.tmp 7) (.tmp 17) rfl gb7 #[.slice D0 p1.length d0,.slice D1 p2.length d1] rfl rfl 25 #[.slice none 0 0,.slice none 0 0] BK7.out (by kernel_rfl) rfl (by simp [Value.oneCell']) ?_;have HD9:=aM (setRow_heap w7 gb7 _ #[.slice D0 p1.length d0,.slice D1 p2.length d1] _ _ BK7.out);have HC9:=aM ((setRow_other w7 gb7 gb5 #[.slice D0 p1.length d0,.slice D1 p2.length d1] HNE7.out.symm).trans HC7.out);have HB9:=aM (below_setRow HB7.out HG7.out #[.slice D0 p1.length d0,.slice D1 p2.length d1]);have HS9:=aM (HS6.out.below (below_setRow HB67.out HG67.out #[.slice D0 p1.length d0,.slice D1 p2.length d1]));have HT9:=aM (HT6.out.below (below_setRow HB67.out HG67.out #[.slice D0 p1.length d0,.slice D1 p2.length d1]));clear BK7 HC7 HB7;have hcgb50:(w7.setRow gb7 #[.slice D0 p1.length d0,.slice D1 p2.length d1]).cell? ⟨gb5,0,none⟩=some (.slice B0 q1.length b0):=(blk_cell HC9.out 0).trans rfl;have hcgb51:(w7.setRow gb7 #[.slice D0 p1.length d0,.slice D1 p2.length d1]).cell? ⟨gb5,1,none⟩=some (.slice B1 q2.length b1):=(blk_cell HC9.out 1).trans rfl; have hcgb70:(w7.setRow gb7 #[.slice D0 p1.length d0,.slice D1 p2.length d1]).cell? ⟨gb7,0,none⟩=some (.slice D0 p1.length d0):=(blk_cell HD9.out 0).trans rfl;have hcgb71:(w7.setRow gb7 #[.slice D0 p1.length d0,.slice D1 p2.length d1]).cell? ⟨gb7,1,none⟩=some (.slice D1 p2.length d1):=(blk_cell HD9.out 1).trans rfl; skip))
  go_ret
  exact ⟨rfl,HB9.out⟩
 | false =>
 have hr:r=false:=(Option.some.inj h).symm
 clear h
 subst hr
 go_enter Tryd.func50,Tryd.ntmps50
 go_wp2_with (first
  | ((with_reducible refine gate_dst (N:=2) rfl ?_);refine bEv (cs:=#[.slice A0_0 l0_0.length c0_0,.slice A0_1 l0_1.length c0_1]) (t:=25) ?_;intro gb2 hg2 w1 hbox hb;have BK2:=aM hbox;have HB1:=aM hb;have HG2:=aM hg2;clear hbox hb hg2)
  | ((with_reducible refine gate_dst (N:=3) rfl ?_);refine bEv (cs:=#[.slice A1_0 l1_0.length c1_0,.slice A1_1 l1_1.length c1_1]) (t:=25) ?_;intro gb3 hg3 w2 hbox hb;have HB2:=aM (below_step HB1.out hb);have BK22:=aM (blk_below BK2.out hb);have BK3:=aM hbox;have HNE23:=aM (show gb2≠gb3 by have:=blk_lt BK2.out;omega);clear hbox hb hg3 BK2 HB1;have hcgb20:(w2).cell? ⟨gb2,0,none⟩=some (.slice A0_0 l0_0.length c0_0):=(blk_cell BK22.out 0).trans rfl;have hcgb21:(w2).cell? ⟨gb2,1,none⟩=some (.slice A0_1 l0_1.length c0_1):=(blk_cell BK22.out 1).trans rfl;skip)
  | (go_at_call 26;(refine(i_CanonOf.calls k _ _ l0_0 _ _ l0_1 q1 q2 _ w2 (HS.out.below HB2.out) HQ.out).mono ?_);rintro e w3 ⟨B0,b0,B1,b1,rfl,hS,hb⟩;have HB3:=aM (below_step HB2.out hb);have BK33:=aM (blk_below BK3.out hb);have HS3:=aM hS;clear hcgb20 hcgb21 hb hS BK3 BK22 HB2)
  | ((with_reducible refine gate_dst (N:=5) rfl ?_);refine bEv (cs:=#[.slice none 0 0,.slice none 0 0]) (t:=25) ?_;intro gb5 hg5 w4 hbox hb;have BK5:=aM hbox;have HB4:=aM (below_step HB3.out hb);have HG5:=aM (show w.heap.size≤gb5 by rw [hg5];exact below_size HB3.out);have BK34:=aM (blk_below BK33.out hb);have HNE:=aM (show gb3≠gb5 by have:=blk_lt BK33.out;omega);have HG35:=aM (show w3.heap.size≤gb5 by omega);have HB34:=aM hb;clear hbox hb hg5 BK33 HB3)
  | (refine wpList_store_row rfl 25 (.tmp 5) (.tmp 12) rfl gb5 #[.slice B0 q1.length b0,.slice B1 q2.length b1] rfl rfl 25 #[.slice none 0 0,.slice none 0 0] BK5.out (by kernel_rfl) rfl (by simp [Value.oneCell']) ?_;have BK35:=aM ((setRow_other w4 gb5 gb3 #[.slice B0 q1.length b0,.slice B1 q2.length b1] HNE.out).trans BK34.out);have HB5:=aM (below_setRow HB4.out HG5.out #[.slice B0 q1.length b0,.slice B1 q2.length b1]);have HC5:=aM (setRow_heap w4 gb5 _ #[.slice B0 q1.length b0,.slice B1 q2.length b1] _ _ BK5.out);have HS5:=aM (HS3.out.below (below_setRow HB34.out HG35.out #[.slice B0 q1.length b0,.slice B1 q2.length b1]));clear BK34 HB4 BK5;have hcgb30:(w4.setRow gb5 #[.slice B0 q1.length b0,.slice B1 q2.length b1]).cell? ⟨gb3,0,none⟩=some (.slice A1_0 l1_0.length c1_0):=(blk_cell BK35.out 0).trans rfl;have hcgb31:(w4.setRow gb5 #[.slice B0 q1.length b0,.slice B1 q2.length b1]).cell? ⟨gb3,1,none⟩=some (.slice A1_1 l1_1.length c1_1):=(blk_cell BK35.out 1).trans rfl; skip)
  | (go_at_call 26;(refine(i_CanonOf.calls k _ _ l1_0 _ _ l1_1 p1 p2 _ (w4.setRow gb5 #[.slice B0 q1.length b0,.slice B1 q2.length b1]) (HT.out.below HB5.out) HP.out).mono ?_);rintro e w6 ⟨D0,d0,D1,d1,rfl,hS,hb⟩;have HB6:=aM (below_step HB5.out hb);have HC6:=aM (blk_below HC5.out hb);have HS6:=aM (HS5.out.below hb);have HT6:=aM hS;clear hcgb30 hcgb31 hb hS BK35 HB5 HC5 HS5)
  | ((with_reducible refine gate_dst (N:=7) rfl ?_);refine bEv (cs:=#[.slice none 0 0,.slice none 0 0]) (t:=25) ?_;intro gb7 hg7 w7 hbox hb;have BK7:=aM hbox;have HB7:=aM (below_step HB6.out hb);have HG7:=aM (show w.heap.size≤gb7 by rw [hg7];exact below_size HB6.out);have HC7:=aM (blk_below HC6.out hb);have HNE7:=aM (show gb7≠gb5 by have:=blk_lt HC6.out;omega);have HG67:=aM (show w6.heap.size≤gb7 by omega);have HB67:=aM hb;clear hbox hb hg7 HC6 HB6)
  | (refine wpList_store_row rfl 25 (.tmp 7) (.tmp 17) rfl gb7 #[.slice D0 p1.length d0,.slice D1 p2.length d1] rfl rfl 25 #[.slice none 0 0,.slice none 0 0] BK7.out (by kernel_rfl) rfl (by simp [Value.oneCell']) ?_;have HD9:=aM (setRow_heap w7 gb7 _ #[.slice D0 p1.length d0,.slice D1 p2.length d1] _ _ BK7.out);have HC9:=aM ((setRow_other w7 gb7 gb5 #[.slice D0 p1.length d0,.slice D1 p2.length d1] HNE7.out.symm).trans HC7.out);have HB9:=aM (below_setRow HB7.out HG7.out #[.slice D0 p1.length d0,.slice D1 p2.length d1]);have HS9:=aM (HS6.out.below (below_setRow HB67.out HG67.out #[.slice D0 p1.length d0,.slice D1 p2.length d1]));have HT9:=aM (HT6.out.below (below_setRow HB67.out HG67.out #[.slice D0 p1.length d0,.slice D1 p2.length d1]));clear BK7 HC7 HB7;have hcgb50:(w7.setRow gb7 #[.slice D0 p1.length d0,.slice D1 p2.length d1]).cell? ⟨gb5,0,none⟩=some (.slice B0 q1.length b0):=(blk_cell HC9.out 0).trans rfl;have hcgb51:(w7.setRow gb7 #[.slice D0 p1.length d0,.slice D1 p2.length d1]).cell? ⟨gb5,1,none⟩=some (.slice B1 q2.length b1):=(blk_cell HC9.out 1).trans rfl; have hcgb70:(w7.setRow gb7 #[.slice D0 p1.length d0,.slice D1 p2.length d1]).cell? ⟨gb7,0,none⟩=some (.slice D0 p1.length d0):=(blk_cell HD9.out 0).trans rfl;have hcgb71:(w7.setRow gb7 #[.slice D0 p1.length d0,.slice D1 p2.length d1]).cell? ⟨gb7,1,none⟩=some (.slice D1 p2.length d1):=(blk_cell HD9.out 1).trans rfl; skip))
 go_ret
 exact ⟨rfl,HB9.out⟩

/-! ### i_IsFixedBy: function 29 -/
def i_IsFixedBy.f (k:Nat) (l0_0:List Int) (l0_1:List Int) (a1:ByteArray):Option (Bool):=(i_RunWord.f k l0_0 l0_1 a1).bind fun bt620=>(if bt620.2.2=true then ((i_AreIsomorphic.f k bt620.1 bt620.2.1 l0_0 l0_1).bind fun t628=>(some t628)) else (some false))
theorem i_IsFixedBy.calls (k:Nat) (A0_0:Option Addr) (c0_0:Nat) (l0_0:List Int) (A0_1:Option Addr) (c0_1:Nat) (l0_1:List Int) (a1:ByteArray) (r:Bool) (w:World) (hr0_0:Kd.C (Kd.int .i64) w A0_0 l0_0.length l0_0) (hc0_0:l0_0.length≤c0_0) (hr0_1:Kd.C (Kd.int .i64) w A0_1 l0_1.length l0_1) (hc0_1:l0_1.length≤c0_1) (h:i_IsFixedBy.f k l0_0 l0_1 a1=some r) :
  Calls Tryd.prog 29 #[.agg #[.slice A0_0 l0_0.length c0_0,.slice A0_1 l0_1.length c0_1],.string a1] w fun e w'=>e = .returned (.bool r)∧Below w.heap.size w w':=by
 have hu25:=Tryd.underlying25
 have HR0_0:=aM hr0_0
 have HC0_0:=aM hc0_0
 clear hr0_0 hc0_0
 have HR0_1:=aM hr0_1
 have HC0_1:=aM hc0_1
 clear hr0_1 hc0_1
 have HB:=aM (Below.refl w.heap.size w)
 have H:((i_RunWord.f k l0_0 l0_1 a1).bind fun bt620=>(if bt620.2.2=true then ((i_AreIsomorphic.f k bt620.1 bt620.2.1 l0_0 l0_1).bind fun t628=>(some t628)) else (some false)))=some r:=h
 clear h
 replace H:=oB H
 obtain ⟨⟨t620,t623,t626⟩,A30,H⟩:=H
 replace H:(if t626=true then ((i_AreIsomorphic.f k t620 t623 l0_0 l0_1).bind fun t628=>(some t628)) else (some false))=some r:=H
 have A3:=aM A30
 clear A30
 by_cases c4:t626=true
 {
 subst c4
 have H1:((i_AreIsomorphic.f k t620 t623 l0_0 l0_1).bind fun t628=>(some t628))=some r:=by rw [if_pos rfl] at H;exact H
 clear H
 have H:=H1
 clear H1
 replace H:=oB H
 obtain ⟨t628,A50,H⟩:=H
 have A5:=aM A50
 clear A50
 obtain rfl:=Option.some.inj H
 go_enter Tryd.func29,Tryd.ntmps29
 go_wp2_with (first|((with_reducible refine gate_dst (N:=2) rfl ?_);refine bEv (cs:=#[.slice A0_0 l0_0.length c0_0,.slice A0_1 l0_1.length c0_1]) (t:=25) ?_;intro gb619 hg w6 hbox hb;have BK619:=aM (hbox);have GW619:=aM ((szX (below_size (bX HB.out)) hg:w.heap.size≤gb619));have GE619:=GW619;replace HB:=aM (below_step (bX HB.out) hb);clear hb hbox hg;obtain ⟨hcz7_0,hcz7_1,hfz7_0,hfz7_1⟩:=f2Z BK619.out)|((with_reducible refine gate_callee (f:=49) rfl ?_);refine goesL_ (some 10) rfl rfl Tryd.func49 (by kernel_rfl) rfl #[.agg #[.slice A0_0 l0_0.length c0_0,.slice A0_1 l0_1.length c0_1],.string a1] rfl aX ?_;(with_reducible refine(i_RunWord.calls k _ _ l0_0 _ _ l0_1 a1 t620 t623 true _ ?side1 ?side2 ?side3 ?side4 A3.out).mono ?_);(case side1=>exact cX (Kd.C_below HR0_0.out HB.out));(case side2=>exact HC0_0.out);(case side3=>exact cX (Kd.C_below HR0_1.out HB.out));(case side4=>exact HC0_1.out);rintro e w8 ⟨v621,v624,rfl,ho0,ho1,hb⟩;refine ⟨_,rfl,?_⟩;have HO622:=aM (Kd.R_lower ho0 (below_size (bX1 HB.out GE619.out)));have HO625:=aM (Kd.R_lower ho1 (below_size (bX1 HB.out GE619.out)));replace BK619:=aM (bbX BK619.out hb);replace HB:=aM (below_step (bX1 HB.out GE619.out) hb);(try clear hb);(try clear ho0);(try clear ho1))|((with_reducible refine gate_dst (N:=5) rfl ?_);refine bEv (cs:=#[.slice none 0 0,.slice none 0 0]) (t:=25) ?_;intro gb627 hg w9 hbox hb;replace HO622:=aM (Kd.R_below (rX HO622.out) hb);replace HO625:=aM (Kd.R_below (rX HO625.out) hb);have BK627:=aM (hbox);have GW627:=aM ((szX (below_size (bX1 HB.out GE619.out)) hg:w.heap.size≤gb627));have GE627:=GW627;replace HB:=aM (below_step (bX1 HB.out GE619.out) hb);have NB619_627:=aM (neX BK619.out hg);have NB627_619:=aM (nfX BK619.out hg);replace BK619:=aM (bbX BK619.out hb);clear hb hbox hg;obtain ⟨Ao10,co10,eo10⟩:=Kd.R_slice HO622.out;subst eo10;have hnb11:=NB627_619.out;have hnc11:=NB619_627.out;obtain ⟨hcz12_0,hcz12_1,hfz12_0,hfz12_1⟩:=f2Z BK627.out;obtain ⟨Ao13,co13,eo13⟩:=Kd.R_slice HO625.out;subst eo13;obtain ⟨hcz14_0,hcz14_1,hfz14_0,hfz14_1⟩:=f2Z BK619.out)|(go_at_call 50;(with_reducible refine(i_AreIsomorphic.calls k _ _ t620 _ _ t623 _ _ l0_0 _ _ l0_1 t628 _ ?side1 ?side2 ?side3 ?side4 ?side5 ?side6 ?side7 ?side8 A5.out).mono ?_);(case side1=>exact rcX (fr2 HO622.out BK627.out (.slice Ao10 t620.length co10) (.slice Ao13 t623.length co13)));(case side2=>exact(Kd.R_reads' HO622.out).2.1);(case side3=>exact rcX (fr2 HO625.out BK627.out (.slice Ao10 t620.length co10) (.slice Ao13 t623.length co13)));(case side4=>exact(Kd.R_reads' HO625.out).2.1);(case side5=>exact Kd.C_below HR0_0.out (bX2 HB.out GE619.out GE627.out));(case side6=>exact HC0_0.out);(case side7=>exact Kd.C_below HR0_1.out (bX2 HB.out GE619.out GE627.out));(case side8=>exact HC0_1.out);rintro e w15 ⟨rfl,hb⟩;replace HO622:=aM (Kd.R_below (rX (fr2 HO622.out BK627.out (.slice Ao10 t620.length co10) (.slice Ao13 t623.length co13))) hb);replace HO625:=aM (Kd.R_below (rX (fr2 HO625.out BK627.out (.slice Ao10 t620.length co10) (.slice Ao13 t623.length co13))) hb);replace BK619:=aM (blk_below (g:=gb619) (o:=.cells #[.slice A0_0 l0_0.length c0_0,.slice A0_1 l0_1.length c0_1] 25 (0,0)) (by(with_reducible repeat(first|refine kN ?_ _|refine kD ?_|refine kA ?_ _));refine blk_far ?_ NB619_627.out _;(with_reducible repeat(first|refine kN ?_ _|refine kD ?_|refine kA ?_ _));refine blk_far ?_ NB619_627.out _;(with_reducible repeat(first|refine kN ?_ _|refine kD ?_|refine kA ?_ _));exact BK619.out) hb);replace BK627:=aM (blk_below (g:=gb627) (o:=.cells #[.slice Ao10 t620.length co10,.slice Ao13 t623.length co13] 25 (0,0)) (by(with_reducible repeat(first|refine kN ?_ _|refine kD ?_|refine kA ?_ _));refine blk_put (cs:=#[.slice Ao10 t620.length co10,.slice none 0 0]) ?_ 1 _ rfl;(with_reducible repeat(first|refine kN ?_ _|refine kD ?_|refine kA ?_ _));refine blk_put (cs:=#[.slice none 0 0,.slice none 0 0]) ?_ 0 _ rfl;(with_reducible repeat(first|refine kN ?_ _|refine kD ?_|refine kA ?_ _));exact BK627.out) hb);replace HB:=aM (below_step (bX2 HB.out GE619.out GE627.out) hb);(try clear hb)))
 go_ret
 exact ⟨eX,bX2 HB.out GE619.out GE627.out⟩
 }
 {
 replace c4:=Bool.eq_false_iff.mpr c4
 subst c4
 have H1:(some false)=some r:=by rw [if_neg (show ¬ (false=true) by decide)] at H;exact H
 clear H
 have H:=H1
 clear H1
 obtain rfl:=Option.some.inj H
 go_enter Tryd.func29,Tryd.ntmps29
 go_wp2_with (first|((with_reducible refine gate_dst (N:=2) rfl ?_);refine bEv (cs:=#[.slice A0_0 l0_0.length c0_0,.slice A0_1 l0_1.length c0_1]) (t:=25) ?_;intro gb619 hg w16 hbox hb;have BK619:=aM (hbox);have GW619:=aM ((szX (below_size (bX HB.out)) hg:w.heap.size≤gb619));have GE619:=GW619;replace HB:=aM (below_step (bX HB.out) hb);clear hb hbox hg;obtain ⟨hcz17_0,hcz17_1,hfz17_0,hfz17_1⟩:=f2Z BK619.out)|((with_reducible refine gate_callee (f:=49) rfl ?_);refine goesL_ (some 10) rfl rfl Tryd.func49 (by kernel_rfl) rfl #[.agg #[.slice A0_0 l0_0.length c0_0,.slice A0_1 l0_1.length c0_1],.string a1] rfl aX ?_;(with_reducible refine(i_RunWord.calls k _ _ l0_0 _ _ l0_1 a1 t620 t623 false _ ?side1 ?side2 ?side3 ?side4 A3.out).mono ?_);(case side1=>exact cX (Kd.C_below HR0_0.out HB.out));(case side2=>exact HC0_0.out);(case side3=>exact cX (Kd.C_below HR0_1.out HB.out));(case side4=>exact HC0_1.out);rintro e w18 ⟨v621,v624,rfl,ho0,ho1,hb⟩;refine ⟨_,rfl,?_⟩;have HO622:=aM (Kd.R_lower ho0 (below_size (bX1 HB.out GE619.out)));have HO625:=aM (Kd.R_lower ho1 (below_size (bX1 HB.out GE619.out)));replace BK619:=aM (bbX BK619.out hb);replace HB:=aM (below_step (bX1 HB.out GE619.out) hb);(try clear hb);(try clear ho0);(try clear ho1))|((with_reducible refine gate_dst (N:=5) rfl ?_);refine bEv (cs:=#[.slice none 0 0,.slice none 0 0]) (t:=25) ?_;intro gb627 hg w19 hbox hb;replace HO622:=aM (Kd.R_below (rX HO622.out) hb);replace HO625:=aM (Kd.R_below (rX HO625.out) hb);have BK627:=aM (hbox);have GW627:=aM ((szX (below_size (bX1 HB.out GE619.out)) hg:w.heap.size≤gb627));have GE627:=GW627;replace HB:=aM (below_step (bX1 HB.out GE619.out) hb);have NB619_627:=aM (neX BK619.out hg);have NB627_619:=aM (nfX BK619.out hg);replace BK619:=aM (bbX BK619.out hb);clear hb hbox hg;obtain ⟨Ao20,co20,eo20⟩:=Kd.R_slice HO622.out;subst eo20;have hnb21:=NB627_619.out;have hnc21:=NB619_627.out;obtain ⟨hcz22_0,hcz22_1,hfz22_0,hfz22_1⟩:=f2Z BK627.out;obtain ⟨Ao23,co23,eo23⟩:=Kd.R_slice HO625.out;subst eo23))
 go_ret
 exact ⟨eX,bX2 HB.out GE619.out GE627.out⟩
 }

/-! ### i_HasHalfTurn: function 8 -/
def i_HasHalfTurn.f (k:Nat) (l0_0:List Int) (l0_1:List Int):Option (Bool):=(i_IsFixedBy.f k l0_0 l0_1 (⟨#[83,83]⟩:ByteArray)).bind fun t630=>(some t630)
theorem i_HasHalfTurn.calls (k:Nat) (A0_0:Option Addr) (c0_0:Nat) (l0_0:List Int) (A0_1:Option Addr) (c0_1:Nat) (l0_1:List Int) (r:Bool) (w:World) (hr0_0:Kd.C (Kd.int .i64) w A0_0 l0_0.length l0_0) (hc0_0:l0_0.length≤c0_0) (hr0_1:Kd.C (Kd.int .i64) w A0_1 l0_1.length l0_1) (hc0_1:l0_1.length≤c0_1) (h:i_HasHalfTurn.f k l0_0 l0_1=some r) :
  Calls Tryd.prog 8 #[.agg #[.slice A0_0 l0_0.length c0_0,.slice A0_1 l0_1.length c0_1]] w fun e w'=>e = .returned (.bool r)∧Below w.heap.size w w':=by
 have hu25:=Tryd.underlying25
 have HR0_0:=aM hr0_0
 have HC0_0:=aM hc0_0
 clear hr0_0 hc0_0
 have HR0_1:=aM hr0_1
 have HC0_1:=aM hc0_1
 clear hr0_1 hc0_1
 have HB:=aM (Below.refl w.heap.size w)
 have H:((i_IsFixedBy.f k l0_0 l0_1 (⟨#[83,83]⟩:ByteArray)).bind fun t630=>(some t630))=some r:=h
 clear h
 replace H:=oB H
 obtain ⟨t630,A20,H⟩:=H
 have A2:=aM A20
 clear A20
 obtain rfl:=Option.some.inj H
 go_enter Tryd.func8,Tryd.ntmps8
 go_wp2_with (first|((with_reducible refine gate_dst (N:=1) rfl ?_);refine bEv (cs:=#[.slice A0_0 l0_0.length c0_0,.slice A0_1 l0_1.length c0_1]) (t:=25) ?_;intro gb629 hg w3 hbox hb;have BK629:=aM (hbox);have GW629:=aM ((szX (below_size (bX HB.out)) hg:w.heap.size≤gb629));have GE629:=GW629;replace HB:=aM (below_step (bX HB.out) hb);clear hb hbox hg;obtain ⟨hcz4_0,hcz4_1,hfz4_0,hfz4_1⟩:=f2Z BK629.out)|((with_reducible refine gate_callee (f:=29) rfl ?_);refine goesL_ (some 4) rfl rfl Tryd.func29 (by kernel_rfl) rfl #[.agg #[.slice A0_0 l0_0.length c0_0,.slice A0_1 l0_1.length c0_1],.string (⟨#[83,83]⟩:ByteArray)] rfl aX ?_;(with_reducible refine(i_IsFixedBy.calls k _ _ l0_0 _ _ l0_1 (⟨#[83,83]⟩:ByteArray) t630 _ ?side1 ?side2 ?side3 ?side4 A2.out).mono ?_);(case side1=>exact cX (Kd.C_below HR0_0.out HB.out));(case side2=>exact HC0_0.out);(case side3=>exact cX (Kd.C_below HR0_1.out HB.out));(case side4=>exact HC0_1.out);rintro e w5 ⟨rfl,hb⟩;refine ⟨_,rfl,?_⟩;replace BK629:=aM (bbX BK629.out hb);replace HB:=aM (below_step (bX1 HB.out GE629.out) hb);(try clear hb)))
 go_ret
 exact ⟨eX,bX1 HB.out GE629.out⟩

end Go.Proofs.YthhdgeafdnikcaaDoor.S
