-- PRINTED by print.py (a twelfth state) out of the translation. Not trusted: Lean checks it.
import Derived.Test.YthhdgeafdnikcaaDoorS0
import Derived.Test.YthhdgeafdnikcaaDoorS2
import Derived.Test.YthhdgeafdnikcaaDoorS3
import Derived.Test.YthhdgeafdnikcaaDoorS4
import Derived.Test.YthhdgeafdnikcaaDoorS5
import Derived.Test.YthhdgeafdnikcaaDoorS6
import Derived.Test.YthhdgeafdnikcaaDoorS8
import Derived.Test.YthhdgeafdnikcaaDoorS9
import Derived.Test.YthhdgeafdnikcaaDoorS10
namespace Go.Proofs.YthhdgeafdnikcaaDoor.S
open Go.RowKit Go.Proofs.YthhdgeafdnikcaaDoorW.PrintWords Go.Proofs.YthhdgeafdnikcaaDoorW.PrintLast Go.Proofs.YthhdgeafdnikcaaDoorW.PrintMore
attribute [local go_sem] max2_int min2_int max_two min_two max_three min_three max_four min_four   -- for this text's walks alone
set_option linter.unusedVariables false
set_option linter.unusedSimpArgs false

/-! ### laws_FnTurned: function 3 -/
mutual
def laws_FnTurned.j0 : Nat→List (List Int)→Int→Bool→List Int→List Int→Option (Bool)
 | 0,_,_,_,_,_=>none
 | k+1,x4,x5,x51,x729000,x729001=>if x51=true then (some false) else (laws_FnTurned.l0 k x5 x4 (x4.length:Int) 0 x729000 x729001)
def laws_FnTurned.l0 : Nat→Int→List (List Int)→Int→Int→List Int→List Int→Option (Bool)
 | 0,_,_,_,_,_,_=>none
 | k+1,x5,x52,x53,x54,x729000,x729001=>if x54<x53 then (if 0≤x54 then (if x54<(x52.length:Int) then ((i_FixedPoints.f k x729000 x729001 (rd_L2 x52 x54)).bind fun bt740=>((i_CountFixed.f k x729000 x729001 (rd_L2 x52 x54)).bind fun t744=>((i_QuotientGenus.f k x729000 x729001 (rd_L2 x52 x54)).bind fun t745=>(if bt740.2=true then ((i_IsTurn.f k x729000 x729001 (rd_L2 x52 x54)).bind fun t746=>(if t746=true then (if (bt740.1.length:Int)=4 then ((laws_total.f k bt740.1).bind fun t747=>(if t747=t744 then (if t745≥0 then (if (wrap64 (4*t745))=(wrap64 ((wrap64 ((wrap64 (2*x5))+2)) - t744)) then (if x5=1 then (if t744=4 then (if t745=0 then (if t744=(wrap64 ((wrap64 (2*x5))+2)) then (laws_FnTurned.l0 k x5 x52 x53 (wrap64 (x54+1)) x729000 x729001) else (some false)) else (laws_FnTurned.l0 k x5 x52 x53 (wrap64 (x54+1)) x729000 x729001)) else (some false)) else (if t745=0 then (if t744=(wrap64 ((wrap64 (2*x5))+2)) then (laws_FnTurned.l0 k x5 x52 x53 (wrap64 (x54+1)) x729000 x729001) else (some false)) else (laws_FnTurned.l0 k x5 x52 x53 (wrap64 (x54+1)) x729000 x729001))) else (some false)) else (if x5=1 then (if t744=4 then (if t745=0 then (if t744=(wrap64 ((wrap64 (2*x5))+2)) then (laws_FnTurned.l0 k x5 x52 x53 (wrap64 (x54+1)) x729000 x729001) else (some false)) else (laws_FnTurned.l0 k x5 x52 x53 (wrap64 (x54+1)) x729000 x729001)) else (some false)) else (if t745=0 then (if t744=(wrap64 ((wrap64 (2*x5))+2)) then (laws_FnTurned.l0 k x5 x52 x53 (wrap64 (x54+1)) x729000 x729001) else (some false)) else (laws_FnTurned.l0 k x5 x52 x53 (wrap64 (x54+1)) x729000 x729001)))) else (some false))) else (some false)) else (some false))) else (some false))))) else (none)) else (none)) else ((i_TurnLine.f k x729000 x729001).bind fun t738=>(some (t738.toList != ([]:List UInt8))))
end
def laws_FnTurned.f (k:Nat) (l0:List Int):Option (Bool):=if (l0.length:Int) > 1048576 then (some true) else ((s_MakeSurface.f k l0).bind fun bt722=>((i_TurnsOf.f k bt722.1 bt722.2).bind fun t729=>((i_GenusOf.f k bt722.1 bt722.2).bind fun t732=>(if (t729.length:Int)=0 then ((i_HasHalfTurn.f k bt722.1 bt722.2).bind fun t733=>(if (t733 != (decide ((t729.length:Int) > 0)))=true then (laws_FnTurned.j0 k t729 t732 true bt722.1 bt722.2) else (if t732<1 then (laws_FnTurned.j0 k t729 t732 true bt722.1 bt722.2) else (if t732≤2 then ((i_IsHyperelliptic.f k bt722.1 bt722.2).bind fun t734=>(laws_FnTurned.j0 k t729 t732 (!t734) bt722.1 bt722.2)) else (laws_FnTurned.j0 k t729 t732 false bt722.1 bt722.2))))) else ((i_CountSymmetries.f k bt722.1 bt722.2).bind fun t735=>(if (t729.length:Int)=t735 then ((i_HasHalfTurn.f k bt722.1 bt722.2).bind fun t736=>(if (t736 != (decide ((t729.length:Int) > 0)))=true then (laws_FnTurned.j0 k t729 t732 true bt722.1 bt722.2) else (if t732<1 then (laws_FnTurned.j0 k t729 t732 true bt722.1 bt722.2) else (if t732≤2 then ((i_IsHyperelliptic.f k bt722.1 bt722.2).bind fun t737=>(laws_FnTurned.j0 k t729 t732 (!t737) bt722.1 bt722.2)) else (laws_FnTurned.j0 k t729 t732 false bt722.1 bt722.2))))) else (laws_FnTurned.j0 k t729 t732 true bt722.1 bt722.2)))))))
set_option maxHeartbeats 8000000 in
set_option maxRecDepth 100000 in
theorem laws_FnTurned.calls (k:Nat) (A0:Option Addr) (c0:Nat) (l0:List Int) (r:Bool) (w:World) (hr0:Kd.C (Kd.int .u8) w A0 l0.length l0) (hc0:l0.length≤c0) (htab_:PowTab w) (hrt_:r=true) (h:laws_FnTurned.f k l0=some r) :
  Calls Tryd.prog 3 #[.slice A0 l0.length c0] w fun e w'=>e = .returned (.bool r)∧Below w.heap.size w w':=by
 have hu25:=Tryd.underlying25
 have HR0:=aM hr0
 have HC0:=aM hc0
 clear hr0 hc0
 have HB:=aM (Below.refl w.heap.size w)
 have H:(if (l0.length:Int) > 1048576 then (some true) else ((s_MakeSurface.f k l0).bind fun bt722=>((i_TurnsOf.f k bt722.1 bt722.2).bind fun t729=>((i_GenusOf.f k bt722.1 bt722.2).bind fun t732=>(if (t729.length:Int)=0 then ((i_HasHalfTurn.f k bt722.1 bt722.2).bind fun t733=>(if (t733 != (decide ((t729.length:Int) > 0)))=true then (laws_FnTurned.j0 k t729 t732 true bt722.1 bt722.2) else (if t732<1 then (laws_FnTurned.j0 k t729 t732 true bt722.1 bt722.2) else (if t732≤2 then ((i_IsHyperelliptic.f k bt722.1 bt722.2).bind fun t734=>(laws_FnTurned.j0 k t729 t732 (!t734) bt722.1 bt722.2)) else (laws_FnTurned.j0 k t729 t732 false bt722.1 bt722.2))))) else ((i_CountSymmetries.f k bt722.1 bt722.2).bind fun t735=>(if (t729.length:Int)=t735 then ((i_HasHalfTurn.f k bt722.1 bt722.2).bind fun t736=>(if (t736 != (decide ((t729.length:Int) > 0)))=true then (laws_FnTurned.j0 k t729 t732 true bt722.1 bt722.2) else (if t732<1 then (laws_FnTurned.j0 k t729 t732 true bt722.1 bt722.2) else (if t732≤2 then ((i_IsHyperelliptic.f k bt722.1 bt722.2).bind fun t737=>(laws_FnTurned.j0 k t729 t732 (!t737) bt722.1 bt722.2)) else (laws_FnTurned.j0 k t729 t732 false bt722.1 bt722.2))))) else (laws_FnTurned.j0 k t729 t732 true bt722.1 bt722.2))))))))=some r:=h
 clear h
 have HTAB:=aM htab_
 clear htab_
 have HRT:=aM hrt_
 clear hrt_
 by_cases c2:(l0.length:Int) > 1048576
 {
 rw [if_pos c2] at H
 have c2b0:=decide_eq_true c2
 have c2b1:decide (1048576<l0.length)=true:=decide_eq_true (by omega)
 clear c2
 obtain rfl:=Option.some.inj H
 go_enter Tryd.func3,Tryd.ntmps3
 go_wp2
 go_ret
 exact ⟨eX,bX HB.out⟩
 }
 {
 rw [if_neg c2] at H
 have c2b0:=decide_eq_false c2
 have c2b1:decide (1048576<l0.length)=false:=decide_eq_false (by omega)
 clear c2
 replace H:=oB H
 obtain ⟨⟨t722,t725⟩,A30,H⟩:=H
 replace H:((i_TurnsOf.f k t722 t725).bind fun t729=>((i_GenusOf.f k t722 t725).bind fun t732=>(if (t729.length:Int)=0 then ((i_HasHalfTurn.f k t722 t725).bind fun t733=>(if (t733 != (decide ((t729.length:Int) > 0)))=true then (laws_FnTurned.j0 k t729 t732 true t722 t725) else (if t732<1 then (laws_FnTurned.j0 k t729 t732 true t722 t725) else (if t732≤2 then ((i_IsHyperelliptic.f k t722 t725).bind fun t734=>(laws_FnTurned.j0 k t729 t732 (!t734) t722 t725)) else (laws_FnTurned.j0 k t729 t732 false t722 t725))))) else ((i_CountSymmetries.f k t722 t725).bind fun t735=>(if (t729.length:Int)=t735 then ((i_HasHalfTurn.f k t722 t725).bind fun t736=>(if (t736 != (decide ((t729.length:Int) > 0)))=true then (laws_FnTurned.j0 k t729 t732 true t722 t725) else (if t732<1 then (laws_FnTurned.j0 k t729 t732 true t722 t725) else (if t732≤2 then ((i_IsHyperelliptic.f k t722 t725).bind fun t737=>(laws_FnTurned.j0 k t729 t732 (!t737) t722 t725)) else (laws_FnTurned.j0 k t729 t732 false t722 t725))))) else (laws_FnTurned.j0 k t729 t732 true t722 t725))))))=some r:=H
 have A3:=aM A30
 clear A30
 replace H:=oB H
 obtain ⟨t729,A40,H⟩:=H
 have A4:=aM A40
 clear A40
 replace H:=oB H
 obtain ⟨t732,A50,H⟩:=H
 have A5:=aM A50
 clear A50
 have HC6:=aM H
 clear H
 go_enter Tryd.func3,Tryd.ntmps3
 go_upto_region 6 with (first|((with_reducible refine gate_callee (f:=4) rfl ?_);refine goesL_ (some 16) rfl rfl Tryd.func4 (by kernel_rfl) rfl #[.slice A0 l0.length c0] rfl aX ?_;(with_reducible refine(s_MakeSurface.calls k _ _ l0 t722 t725 _ ?side1 ?side2 A3.out).mono ?_);(case side1=>exact cX HR0.out);(case side2=>exact HC0.out);rintro e w7 ⟨v723,v726,rfl,ho0,ho1,hb⟩;refine ⟨_,rfl,?_⟩;have HO724:=aM (Kd.R_lower ho0 (below_size (bX HB.out)));have HO727:=aM (Kd.R_lower ho1 (below_size (bX HB.out)));replace HB:=aM (below_step (bX HB.out) hb);(try clear hb);(try clear hk);(try clear ho0);(try clear ho1))|((with_reducible refine gate_dst (N:=3) rfl ?_);(try(refine gate_guard (by rfl) ?_;dsimp only));refine bEv (cs:=#[.slice none 0 0,.slice none 0 0]) (t:=25) ?_;intro gb728 hg w8 hbox hb;replace HO724:=aM (Kd.R_below (rX HO724.out) hb);replace HO727:=aM (Kd.R_below (rX HO727.out) hb);have BK728:=aM (hbox);have GW728:=aM ((szX (below_size (bX HB.out)) hg:w.heap.size≤gb728));have GE728:=GW728;replace HB:=aM (below_step (bX HB.out) hb);clear hb hbox hg;obtain ⟨Ao9,co9,eo9⟩:=Kd.R_slice HO724.out;subst eo9;obtain ⟨hcz10_0,hcz10_1,hfz10_0,hfz10_1⟩:=f2Z BK728.out;obtain ⟨Ao11,co11,eo11⟩:=Kd.R_slice HO727.out;subst eo11)|((with_reducible refine gate_callee (f:=5) rfl ?_);refine goesL_ (some 18) rfl rfl Tryd.func5 (by kernel_rfl) rfl #[.agg #[.slice Ao9 t722.length co9,.slice Ao11 t725.length co11]] rfl aX ?_;(with_reducible refine(i_TurnsOf.calls k _ _ t722 _ _ t725 t729 _ ?side1 ?side2 ?side3 ?side4 A4.out).mono ?_);(case side1=>exact rcX (fr2 HO724.out BK728.out (.slice Ao9 t722.length co9) (.slice Ao11 t725.length co11)));(case side2=>exact(Kd.R_reads' HO724.out).2.1);(case side3=>exact rcX (fr2 HO727.out BK728.out (.slice Ao9 t722.length co9) (.slice Ao11 t725.length co11)));(case side4=>exact(Kd.R_reads' HO727.out).2.1);rintro e w12 ⟨v730,rfl,ho0,hb⟩;refine ⟨_,rfl,?_⟩;have HO731:=aM (Kd.S_lower (Kd.S_new' (Kd.S_new' ho0 (Kd.R_lt (rX (fr2 HO724.out BK728.out (.slice Ao9 t722.length co9) (.slice Ao11 t725.length co11))))) (Kd.R_lt (rX (fr2 HO727.out BK728.out (.slice Ao9 t722.length co9) (.slice Ao11 t725.length co11))))) (below_size (bX1 HB.out GE728.out)));replace HO724:=aM (Kd.R_below (rX (fr2 HO724.out BK728.out (.slice Ao9 t722.length co9) (.slice Ao11 t725.length co11))) hb);replace HO727:=aM (Kd.R_below (rX (fr2 HO727.out BK728.out (.slice Ao9 t722.length co9) (.slice Ao11 t725.length co11))) hb);replace BK728:=aM (blk_below (g:=gb728) (o:=.cells #[.slice Ao9 t722.length co9,.slice Ao11 t725.length co11] 25 (0,0)) (by(with_reducible repeat(first|refine kN ?_ _|refine kD ?_|refine kA ?_ _));refine blk_put (cs:=#[.slice Ao9 t722.length co9,.slice none 0 0]) ?_ 1 _ rfl;(with_reducible repeat(first|refine kN ?_ _|refine kD ?_|refine kA ?_ _));refine blk_put (cs:=#[.slice none 0 0,.slice none 0 0]) ?_ 0 _ rfl;(with_reducible repeat(first|refine kN ?_ _|refine kD ?_|refine kA ?_ _));exact BK728.out) hb);replace HB:=aM (below_step (bX1 HB.out GE728.out) hb);(try clear hb);(try clear hk);(try clear ho0);obtain ⟨hcz13_0,hcz13_1,hfz13_0,hfz13_1⟩:=f2Z BK728.out)|((with_reducible refine gate_callee (f:=6) rfl ?_);refine goesL_ (some 20) rfl rfl Tryd.func6 (by kernel_rfl) rfl #[.agg #[.slice Ao9 t722.length co9,.slice Ao11 t725.length co11]] rfl aX ?_;(with_reducible refine(i_GenusOf.calls k _ _ t722 _ _ t725 t732 _ ?side1 ?side2 ?side3 ?side4 A5.out).mono ?_);(case side1=>exact cX (Kd.R_reads' HO724.out).2.2);(case side2=>exact(Kd.R_reads' HO724.out).2.1);(case side3=>exact cX (Kd.R_reads' HO727.out).2.2);(case side4=>exact(Kd.R_reads' HO727.out).2.1);rintro e w14 ⟨rfl,hb⟩;refine ⟨_,rfl,?_⟩;replace HO724:=aM (Kd.R_below (rX HO724.out) hb);replace HO727:=aM (Kd.R_below (rX HO727.out) hb);replace HO731:=aM (Kd.S_below (sX HO731.out) hb);replace BK728:=aM (bbX BK728.out hb);replace HB:=aM (below_step (bX1 HB.out GE728.out) hb);(try clear hb);(try clear hk)))
 (try simp only [Act.put,List.setIfInBounds_toArray,List.set_cons_zero,List.set_cons_succ])
 go_cut [51] (fun v51 wc=>∃ (kq:Nat) (x51_5:Bool),v51 = .bool x51_5∧Aside0 (laws_FnTurned.j0 kq t729 t732 x51_5 t722 t725=some r)∧Aside0 (kq≤k)∧Aside0 (Kd.S (Kd.slice 3 (Kd.int .i64)) 23 wc w.heap.size (fun k_=>some k_≠((.slice Ao9 t722.length co9):Value).ownBlock∧some k_≠((.slice Ao11 t725.length co11):Value).ownBlock) v730 t729)∧Aside0 (Kd.R (Kd.int .i64) 3 wc w.heap.size (fun k_=>some k_≠((.slice Ao11 t725.length co11):Value).ownBlock) (.slice Ao9 t722.length co9) t722)∧Aside0 (Kd.R (Kd.int .i64) 3 wc w.heap.size (fun k_=>some k_≠((.slice Ao9 t722.length co9):Value).ownBlock) (.slice Ao11 t725.length co11) t725)∧Aside0 (wc.heap[gb728]? = some (.cells #[(.slice Ao9 t722.length co9),(.slice Ao11 t725.length co11)] 25 (0,0)))∧Aside0 (Below w.heap.size w wc))
 case first =>
  have H:=HC6.out
  clear HC6
  by_cases c15:(t729.length:Int)=0
  {
  rw [if_pos c15] at H
  have c15b0:((t729.length:Int) == 0)=true:=beq_iff_eq.mpr c15
  have c15b1:((t729.length:Int) != 0)=false:=bne_eq_false_iff_eq.mpr c15
  have c15z:decide (0<t729.length)=false:=decide_eq_false (by omega)
  clear c15
  (first|rw [c15b0]|(simp only [i64_w,i32_w];rw [c15b0])|skip)
  replace H:=oB H
  obtain ⟨t733,A160,H⟩:=H
  have A16:=aM A160
  clear A160
  by_cases c17:(t733 != (decide ((t729.length:Int) > 0)))=true
  {
  rw [if_pos c17] at H
  have c17b0:(t733 != (decide ((t729.length:Int) > 0)))=true:=c17
  have c17v:t733=true:=by (have hq:decide ((t729.length:Int) > 0)=decide (0<t729.length):=by simp);rw [hq,c15z] at c17;(revert c17;cases t733 <;> decide)
  (try(have c17b1:decide (t733=(decide ((t729.length:Int) > 0)))=false:=by simpa using c17))
  (try(have c17b2:(t733 == (decide ((t729.length:Int) > 0)))=false:=by simpa using c17))
  (try(have c17b3:¬ (t733=(decide ((t729.length:Int) > 0))):=by simpa using c17))
  clear c17
  have H':=aM H
  clear H
  obtain ⟨Ao18,co18,eo18⟩:=Kd.S_slice HO731.out
  subst eo18
  obtain ⟨hcz19_0,hcz19_1,hfz19_0,hfz19_1⟩:=f2Z BK728.out
  go_wp2_with (first|(go_at_call 8;(with_reducible refine(i_HasHalfTurn.calls k _ _ t722 _ _ t725 t733 _ ?side1 ?side2 ?side3 ?side4 A16.out).mono ?_);(case side1=>exact cX (Kd.R_reads' HO724.out).2.2);(case side2=>exact(Kd.R_reads' HO724.out).2.1);(case side3=>exact cX (Kd.R_reads' HO727.out).2.2);(case side4=>exact(Kd.R_reads' HO727.out).2.1);rintro e w20 ⟨rfl,hb⟩;replace HO724:=aM (Kd.R_below (rX HO724.out) hb);replace HO727:=aM (Kd.R_below (rX HO727.out) hb);replace HO731:=aM (Kd.S_below (sX HO731.out) hb);replace BK728:=aM (bbX BK728.out hb);replace HB:=aM (below_step (bX1 HB.out GE728.out) hb);(try clear hb);(try clear hk)))
  go_meet
  case rel=>exact ⟨_,(true),vX,H',⟨by first|omega|exact Nat.le_refl _⟩,⟨by(with_reducible repeat(first|apply Kd.S_alloc|apply Kd.S_drewN|apply Kd.S_drew));exact Kd.S_mono HO731.out (fun _ hk=>⟨hk.1.2,hk.2⟩)⟩,⟨rX HO724.out⟩,⟨rX HO727.out⟩,⟨kX BK728.out⟩,⟨bX1 HB.out GE728.out⟩⟩
  }
  {
  rw [if_neg c17] at H
  have c17b0:(t733 != (decide ((t729.length:Int) > 0)))=false:=by simpa using c17
  have c17v:t733=false:=by (have hq:decide ((t729.length:Int) > 0)=decide (0<t729.length):=by simp);rw [hq,c15z] at c17;(revert c17;cases t733 <;> decide)
  (try(have c17b1:decide (t733=(decide ((t729.length:Int) > 0)))=true:=by simpa using c17))
  (try(have c17b2:(t733 == (decide ((t729.length:Int) > 0)))=true:=by simpa using c17))
  clear c17
  by_cases c21:t732<1
  {
  rw [if_pos c21] at H
  have c21b0:=decide_eq_true c21
  clear c21
  have H':=aM H
  clear H
  obtain ⟨Ao22,co22,eo22⟩:=Kd.S_slice HO731.out
  subst eo22
  obtain ⟨hcz23_0,hcz23_1,hfz23_0,hfz23_1⟩:=f2Z BK728.out
  go_wp2_with (first|(go_at_call 8;(with_reducible refine(i_HasHalfTurn.calls k _ _ t722 _ _ t725 t733 _ ?side1 ?side2 ?side3 ?side4 A16.out).mono ?_);(case side1=>exact cX (Kd.R_reads' HO724.out).2.2);(case side2=>exact(Kd.R_reads' HO724.out).2.1);(case side3=>exact cX (Kd.R_reads' HO727.out).2.2);(case side4=>exact(Kd.R_reads' HO727.out).2.1);rintro e w24 ⟨rfl,hb⟩;replace HO724:=aM (Kd.R_below (rX HO724.out) hb);replace HO727:=aM (Kd.R_below (rX HO727.out) hb);replace HO731:=aM (Kd.S_below (sX HO731.out) hb);replace BK728:=aM (bbX BK728.out hb);replace HB:=aM (below_step (bX1 HB.out GE728.out) hb);(try clear hb);(try clear hk)))
  go_meet
  case rel=>exact ⟨_,(true),vX,H',⟨by first|omega|exact Nat.le_refl _⟩,⟨by(with_reducible repeat(first|apply Kd.S_alloc|apply Kd.S_drewN|apply Kd.S_drew));exact Kd.S_mono HO731.out (fun _ hk=>⟨hk.1.2,hk.2⟩)⟩,⟨rX HO724.out⟩,⟨rX HO727.out⟩,⟨kX BK728.out⟩,⟨bX1 HB.out GE728.out⟩⟩
  }
  {
  rw [if_neg c21] at H
  have c21b0:=decide_eq_false c21
  clear c21
  by_cases c25:t732≤2
  {
  rw [if_pos c25] at H
  have c25b0:=decide_eq_true c25
  clear c25
  replace H:=oB H
  obtain ⟨t734,A260,H⟩:=H
  have A26:=aM A260
  clear A260
  have H':=aM H
  clear H
  obtain ⟨Ao27,co27,eo27⟩:=Kd.S_slice HO731.out
  subst eo27
  obtain ⟨hcz28_0,hcz28_1,hfz28_0,hfz28_1⟩:=f2Z BK728.out
  go_wp2_with (first|(go_at_call 8;(with_reducible refine(i_HasHalfTurn.calls k _ _ t722 _ _ t725 t733 _ ?side1 ?side2 ?side3 ?side4 A16.out).mono ?_);(case side1=>exact cX (Kd.R_reads' HO724.out).2.2);(case side2=>exact(Kd.R_reads' HO724.out).2.1);(case side3=>exact cX (Kd.R_reads' HO727.out).2.2);(case side4=>exact(Kd.R_reads' HO727.out).2.1);rintro e w29 ⟨rfl,hb⟩;replace HO724:=aM (Kd.R_below (rX HO724.out) hb);replace HO727:=aM (Kd.R_below (rX HO727.out) hb);replace HO731:=aM (Kd.S_below (sX HO731.out) hb);replace BK728:=aM (bbX BK728.out hb);replace HB:=aM (below_step (bX1 HB.out GE728.out) hb);(try clear hb);(try clear hk);obtain ⟨hcz30_0,hcz30_1,hfz30_0,hfz30_1⟩:=f2Z BK728.out)|(go_at_call 9;(with_reducible refine(i_IsHyperelliptic.calls k _ _ t722 _ _ t725 t734 _ ?side1 ?side2 ?side3 ?side4 A26.out).mono ?_);(case side1=>exact cX (Kd.R_reads' HO724.out).2.2);(case side2=>exact(Kd.R_reads' HO724.out).2.1);(case side3=>exact cX (Kd.R_reads' HO727.out).2.2);(case side4=>exact(Kd.R_reads' HO727.out).2.1);rintro e w31 ⟨rfl,hb⟩;replace HO724:=aM (Kd.R_below (rX HO724.out) hb);replace HO727:=aM (Kd.R_below (rX HO727.out) hb);replace HO731:=aM (Kd.S_below (sX HO731.out) hb);replace BK728:=aM (bbX BK728.out hb);replace HB:=aM (below_step (bX1 HB.out GE728.out) hb);(try clear hb);(try clear hk)))
  go_meet
  case rel=>exact ⟨_,(!t734),vX,H',⟨by first|omega|exact Nat.le_refl _⟩,⟨by(with_reducible repeat(first|apply Kd.S_alloc|apply Kd.S_drewN|apply Kd.S_drew));exact Kd.S_mono HO731.out (fun _ hk=>⟨hk.1.2,hk.2⟩)⟩,⟨rX HO724.out⟩,⟨rX HO727.out⟩,⟨kX BK728.out⟩,⟨bX1 HB.out GE728.out⟩⟩
  }
  {
  rw [if_neg c25] at H
  have c25b0:=decide_eq_false c25
  clear c25
  have H':=aM H
  clear H
  obtain ⟨Ao32,co32,eo32⟩:=Kd.S_slice HO731.out
  subst eo32
  obtain ⟨hcz33_0,hcz33_1,hfz33_0,hfz33_1⟩:=f2Z BK728.out
  go_wp2_with (first|(go_at_call 8;(with_reducible refine(i_HasHalfTurn.calls k _ _ t722 _ _ t725 t733 _ ?side1 ?side2 ?side3 ?side4 A16.out).mono ?_);(case side1=>exact cX (Kd.R_reads' HO724.out).2.2);(case side2=>exact(Kd.R_reads' HO724.out).2.1);(case side3=>exact cX (Kd.R_reads' HO727.out).2.2);(case side4=>exact(Kd.R_reads' HO727.out).2.1);rintro e w34 ⟨rfl,hb⟩;replace HO724:=aM (Kd.R_below (rX HO724.out) hb);replace HO727:=aM (Kd.R_below (rX HO727.out) hb);replace HO731:=aM (Kd.S_below (sX HO731.out) hb);replace BK728:=aM (bbX BK728.out hb);replace HB:=aM (below_step (bX1 HB.out GE728.out) hb);(try clear hb);(try clear hk)))
  go_meet
  case rel=>exact ⟨_,(false),vX,H',⟨by first|omega|exact Nat.le_refl _⟩,⟨by(with_reducible repeat(first|apply Kd.S_alloc|apply Kd.S_drewN|apply Kd.S_drew));exact Kd.S_mono HO731.out (fun _ hk=>⟨hk.1.2,hk.2⟩)⟩,⟨rX HO724.out⟩,⟨rX HO727.out⟩,⟨kX BK728.out⟩,⟨bX1 HB.out GE728.out⟩⟩
  }
  }
  }
  }
  {
  rw [if_neg c15] at H
  have c15b0:((t729.length:Int) == 0)=false:=beq_eq_false_iff_ne.mpr c15
  have c15b1:((t729.length:Int) != 0)=true:=bne_iff_ne.mpr c15
  have c15z:decide (0<t729.length)=true:=decide_eq_true (by omega)
  have c15b2:¬ (t729=[]):=fun h_=>c15 (by rw [h_];rfl)
  (first|rw [c15b0]|(simp only [i64_w,i32_w];rw [c15b0])|skip)
  replace H:=oB H
  obtain ⟨t735,A350,H⟩:=H
  have A35:=aM A350
  clear A350
  by_cases c36:(t729.length:Int)=t735
  {
  rw [if_pos c36] at H
  have c36b0:((t729.length:Int) == t735)=true:=beq_iff_eq.mpr c36
  have c36b1:((t729.length:Int) != t735)=false:=bne_eq_false_iff_eq.mpr c36
  clear c36
  replace H:=oB H
  obtain ⟨t736,A370,H⟩:=H
  have A37:=aM A370
  clear A370
  by_cases c38:(t736 != (decide ((t729.length:Int) > 0)))=true
  {
  rw [if_pos c38] at H
  have c38b0:(t736 != (decide ((t729.length:Int) > 0)))=true:=c38
  have c38v:t736=false:=by (have hq:decide ((t729.length:Int) > 0)=decide (0<t729.length):=by simp);rw [hq,c15z] at c38;(revert c38;cases t736 <;> decide)
  (try(have c38b1:decide (t736=(decide ((t729.length:Int) > 0)))=false:=by simpa using c38))
  (try(have c38b2:(t736 == (decide ((t729.length:Int) > 0)))=false:=by simpa using c38))
  (try(have c38b3:¬ (t736=(decide ((t729.length:Int) > 0))):=by simpa using c38))
  clear c38
  have H':=aM H
  clear H
  obtain ⟨Ao39,co39,eo39⟩:=Kd.S_slice HO731.out
  subst eo39
  obtain ⟨hcz40_0,hcz40_1,hfz40_0,hfz40_1⟩:=f2Z BK728.out
  go_wp2_with (first|(go_at_call 7;(with_reducible refine(i_CountSymmetries.calls k _ _ t722 _ _ t725 t735 _ ?side1 ?side2 ?side3 ?side4 A35.out).mono ?_);(case side1=>exact cX (Kd.R_reads' HO724.out).2.2);(case side2=>exact(Kd.R_reads' HO724.out).2.1);(case side3=>exact cX (Kd.R_reads' HO727.out).2.2);(case side4=>exact(Kd.R_reads' HO727.out).2.1);rintro e w41 ⟨rfl,hb⟩;replace HO724:=aM (Kd.R_below (rX HO724.out) hb);replace HO727:=aM (Kd.R_below (rX HO727.out) hb);replace HO731:=aM (Kd.S_below (sX HO731.out) hb);replace BK728:=aM (bbX BK728.out hb);replace HB:=aM (below_step (bX1 HB.out GE728.out) hb);(try clear hb);(try clear hk);obtain ⟨hcz42_0,hcz42_1,hfz42_0,hfz42_1⟩:=f2Z BK728.out)|(go_at_call 8;(with_reducible refine(i_HasHalfTurn.calls k _ _ t722 _ _ t725 t736 _ ?side1 ?side2 ?side3 ?side4 A37.out).mono ?_);(case side1=>exact cX (Kd.R_reads' HO724.out).2.2);(case side2=>exact(Kd.R_reads' HO724.out).2.1);(case side3=>exact cX (Kd.R_reads' HO727.out).2.2);(case side4=>exact(Kd.R_reads' HO727.out).2.1);rintro e w43 ⟨rfl,hb⟩;replace HO724:=aM (Kd.R_below (rX HO724.out) hb);replace HO727:=aM (Kd.R_below (rX HO727.out) hb);replace HO731:=aM (Kd.S_below (sX HO731.out) hb);replace BK728:=aM (bbX BK728.out hb);replace HB:=aM (below_step (bX1 HB.out GE728.out) hb);(try clear hb);(try clear hk)))
  go_meet
  case rel=>exact ⟨_,(true),vX,H',⟨by first|omega|exact Nat.le_refl _⟩,⟨by(with_reducible repeat(first|apply Kd.S_alloc|apply Kd.S_drewN|apply Kd.S_drew));exact Kd.S_mono HO731.out (fun _ hk=>⟨hk.1.2,hk.2⟩)⟩,⟨rX HO724.out⟩,⟨rX HO727.out⟩,⟨kX BK728.out⟩,⟨bX1 HB.out GE728.out⟩⟩
  }
  {
  rw [if_neg c38] at H
  have c38b0:(t736 != (decide ((t729.length:Int) > 0)))=false:=by simpa using c38
  have c38v:t736=true:=by (have hq:decide ((t729.length:Int) > 0)=decide (0<t729.length):=by simp);rw [hq,c15z] at c38;(revert c38;cases t736 <;> decide)
  (try(have c38b1:decide (t736=(decide ((t729.length:Int) > 0)))=true:=by simpa using c38))
  (try(have c38b2:(t736 == (decide ((t729.length:Int) > 0)))=true:=by simpa using c38))
  clear c38
  by_cases c44:t732<1
  {
  rw [if_pos c44] at H
  have c44b0:=decide_eq_true c44
  clear c44
  have H':=aM H
  clear H
  obtain ⟨Ao45,co45,eo45⟩:=Kd.S_slice HO731.out
  subst eo45
  obtain ⟨hcz46_0,hcz46_1,hfz46_0,hfz46_1⟩:=f2Z BK728.out
  go_wp2_with (first|(go_at_call 7;(with_reducible refine(i_CountSymmetries.calls k _ _ t722 _ _ t725 t735 _ ?side1 ?side2 ?side3 ?side4 A35.out).mono ?_);(case side1=>exact cX (Kd.R_reads' HO724.out).2.2);(case side2=>exact(Kd.R_reads' HO724.out).2.1);(case side3=>exact cX (Kd.R_reads' HO727.out).2.2);(case side4=>exact(Kd.R_reads' HO727.out).2.1);rintro e w47 ⟨rfl,hb⟩;replace HO724:=aM (Kd.R_below (rX HO724.out) hb);replace HO727:=aM (Kd.R_below (rX HO727.out) hb);replace HO731:=aM (Kd.S_below (sX HO731.out) hb);replace BK728:=aM (bbX BK728.out hb);replace HB:=aM (below_step (bX1 HB.out GE728.out) hb);(try clear hb);(try clear hk);obtain ⟨hcz48_0,hcz48_1,hfz48_0,hfz48_1⟩:=f2Z BK728.out)|(go_at_call 8;(with_reducible refine(i_HasHalfTurn.calls k _ _ t722 _ _ t725 t736 _ ?side1 ?side2 ?side3 ?side4 A37.out).mono ?_);(case side1=>exact cX (Kd.R_reads' HO724.out).2.2);(case side2=>exact(Kd.R_reads' HO724.out).2.1);(case side3=>exact cX (Kd.R_reads' HO727.out).2.2);(case side4=>exact(Kd.R_reads' HO727.out).2.1);rintro e w49 ⟨rfl,hb⟩;replace HO724:=aM (Kd.R_below (rX HO724.out) hb);replace HO727:=aM (Kd.R_below (rX HO727.out) hb);replace HO731:=aM (Kd.S_below (sX HO731.out) hb);replace BK728:=aM (bbX BK728.out hb);replace HB:=aM (below_step (bX1 HB.out GE728.out) hb);(try clear hb);(try clear hk)))
  go_meet
  case rel=>exact ⟨_,(true),vX,H',⟨by first|omega|exact Nat.le_refl _⟩,⟨by(with_reducible repeat(first|apply Kd.S_alloc|apply Kd.S_drewN|apply Kd.S_drew));exact Kd.S_mono HO731.out (fun _ hk=>⟨hk.1.2,hk.2⟩)⟩,⟨rX HO724.out⟩,⟨rX HO727.out⟩,⟨kX BK728.out⟩,⟨bX1 HB.out GE728.out⟩⟩
  }
  {
  rw [if_neg c44] at H
  have c44b0:=decide_eq_false c44
  clear c44
  by_cases c50:t732≤2
  {
  rw [if_pos c50] at H
  have c50b0:=decide_eq_true c50
  clear c50
  replace H:=oB H
  obtain ⟨t737,A510,H⟩:=H
  have A51:=aM A510
  clear A510
  have H':=aM H
  clear H
  obtain ⟨Ao52,co52,eo52⟩:=Kd.S_slice HO731.out
  subst eo52
  obtain ⟨hcz53_0,hcz53_1,hfz53_0,hfz53_1⟩:=f2Z BK728.out
  go_wp2_with (first|(go_at_call 7;(with_reducible refine(i_CountSymmetries.calls k _ _ t722 _ _ t725 t735 _ ?side1 ?side2 ?side3 ?side4 A35.out).mono ?_);(case side1=>exact cX (Kd.R_reads' HO724.out).2.2);(case side2=>exact(Kd.R_reads' HO724.out).2.1);(case side3=>exact cX (Kd.R_reads' HO727.out).2.2);(case side4=>exact(Kd.R_reads' HO727.out).2.1);rintro e w54 ⟨rfl,hb⟩;replace HO724:=aM (Kd.R_below (rX HO724.out) hb);replace HO727:=aM (Kd.R_below (rX HO727.out) hb);replace HO731:=aM (Kd.S_below (sX HO731.out) hb);replace BK728:=aM (bbX BK728.out hb);replace HB:=aM (below_step (bX1 HB.out GE728.out) hb);(try clear hb);(try clear hk);obtain ⟨hcz55_0,hcz55_1,hfz55_0,hfz55_1⟩:=f2Z BK728.out)|(go_at_call 8;(with_reducible refine(i_HasHalfTurn.calls k _ _ t722 _ _ t725 t736 _ ?side1 ?side2 ?side3 ?side4 A37.out).mono ?_);(case side1=>exact cX (Kd.R_reads' HO724.out).2.2);(case side2=>exact(Kd.R_reads' HO724.out).2.1);(case side3=>exact cX (Kd.R_reads' HO727.out).2.2);(case side4=>exact(Kd.R_reads' HO727.out).2.1);rintro e w56 ⟨rfl,hb⟩;replace HO724:=aM (Kd.R_below (rX HO724.out) hb);replace HO727:=aM (Kd.R_below (rX HO727.out) hb);replace HO731:=aM (Kd.S_below (sX HO731.out) hb);replace BK728:=aM (bbX BK728.out hb);replace HB:=aM (below_step (bX1 HB.out GE728.out) hb);(try clear hb);(try clear hk);obtain ⟨hcz57_0,hcz57_1,hfz57_0,hfz57_1⟩:=f2Z BK728.out)|(go_at_call 9;(with_reducible refine(i_IsHyperelliptic.calls k _ _ t722 _ _ t725 t737 _ ?side1 ?side2 ?side3 ?side4 A51.out).mono ?_);(case side1=>exact cX (Kd.R_reads' HO724.out).2.2);(case side2=>exact(Kd.R_reads' HO724.out).2.1);(case side3=>exact cX (Kd.R_reads' HO727.out).2.2);(case side4=>exact(Kd.R_reads' HO727.out).2.1);rintro e w58 ⟨rfl,hb⟩;replace HO724:=aM (Kd.R_below (rX HO724.out) hb);replace HO727:=aM (Kd.R_below (rX HO727.out) hb);replace HO731:=aM (Kd.S_below (sX HO731.out) hb);replace BK728:=aM (bbX BK728.out hb);replace HB:=aM (below_step (bX1 HB.out GE728.out) hb);(try clear hb);(try clear hk)))
  go_meet
  case rel=>exact ⟨_,(!t737),vX,H',⟨by first|omega|exact Nat.le_refl _⟩,⟨by(with_reducible repeat(first|apply Kd.S_alloc|apply Kd.S_drewN|apply Kd.S_drew));exact Kd.S_mono HO731.out (fun _ hk=>⟨hk.1.2,hk.2⟩)⟩,⟨rX HO724.out⟩,⟨rX HO727.out⟩,⟨kX BK728.out⟩,⟨bX1 HB.out GE728.out⟩⟩
  }
  {
  rw [if_neg c50] at H
  have c50b0:=decide_eq_false c50
  clear c50
  have H':=aM H
  clear H
  obtain ⟨Ao59,co59,eo59⟩:=Kd.S_slice HO731.out
  subst eo59
  obtain ⟨hcz60_0,hcz60_1,hfz60_0,hfz60_1⟩:=f2Z BK728.out
  go_wp2_with (first|(go_at_call 7;(with_reducible refine(i_CountSymmetries.calls k _ _ t722 _ _ t725 t735 _ ?side1 ?side2 ?side3 ?side4 A35.out).mono ?_);(case side1=>exact cX (Kd.R_reads' HO724.out).2.2);(case side2=>exact(Kd.R_reads' HO724.out).2.1);(case side3=>exact cX (Kd.R_reads' HO727.out).2.2);(case side4=>exact(Kd.R_reads' HO727.out).2.1);rintro e w61 ⟨rfl,hb⟩;replace HO724:=aM (Kd.R_below (rX HO724.out) hb);replace HO727:=aM (Kd.R_below (rX HO727.out) hb);replace HO731:=aM (Kd.S_below (sX HO731.out) hb);replace BK728:=aM (bbX BK728.out hb);replace HB:=aM (below_step (bX1 HB.out GE728.out) hb);(try clear hb);(try clear hk);obtain ⟨hcz62_0,hcz62_1,hfz62_0,hfz62_1⟩:=f2Z BK728.out)|(go_at_call 8;(with_reducible refine(i_HasHalfTurn.calls k _ _ t722 _ _ t725 t736 _ ?side1 ?side2 ?side3 ?side4 A37.out).mono ?_);(case side1=>exact cX (Kd.R_reads' HO724.out).2.2);(case side2=>exact(Kd.R_reads' HO724.out).2.1);(case side3=>exact cX (Kd.R_reads' HO727.out).2.2);(case side4=>exact(Kd.R_reads' HO727.out).2.1);rintro e w63 ⟨rfl,hb⟩;replace HO724:=aM (Kd.R_below (rX HO724.out) hb);replace HO727:=aM (Kd.R_below (rX HO727.out) hb);replace HO731:=aM (Kd.S_below (sX HO731.out) hb);replace BK728:=aM (bbX BK728.out hb);replace HB:=aM (below_step (bX1 HB.out GE728.out) hb);(try clear hb);(try clear hk)))
  go_meet
  case rel=>exact ⟨_,(false),vX,H',⟨by first|omega|exact Nat.le_refl _⟩,⟨by(with_reducible repeat(first|apply Kd.S_alloc|apply Kd.S_drewN|apply Kd.S_drew));exact Kd.S_mono HO731.out (fun _ hk=>⟨hk.1.2,hk.2⟩)⟩,⟨rX HO724.out⟩,⟨rX HO727.out⟩,⟨kX BK728.out⟩,⟨bX1 HB.out GE728.out⟩⟩
  }
  }
  }
  }
  {
  rw [if_neg c36] at H
  have c36b0:((t729.length:Int) == t735)=false:=beq_eq_false_iff_ne.mpr c36
  have c36b1:((t729.length:Int) != t735)=true:=bne_iff_ne.mpr c36
  have H':=aM H
  clear H
  obtain ⟨Ao64,co64,eo64⟩:=Kd.S_slice HO731.out
  subst eo64
  obtain ⟨hcz65_0,hcz65_1,hfz65_0,hfz65_1⟩:=f2Z BK728.out
  go_wp2_with (first|(go_at_call 7;(with_reducible refine(i_CountSymmetries.calls k _ _ t722 _ _ t725 t735 _ ?side1 ?side2 ?side3 ?side4 A35.out).mono ?_);(case side1=>exact cX (Kd.R_reads' HO724.out).2.2);(case side2=>exact(Kd.R_reads' HO724.out).2.1);(case side3=>exact cX (Kd.R_reads' HO727.out).2.2);(case side4=>exact(Kd.R_reads' HO727.out).2.1);rintro e w66 ⟨rfl,hb⟩;replace HO724:=aM (Kd.R_below (rX HO724.out) hb);replace HO727:=aM (Kd.R_below (rX HO727.out) hb);replace HO731:=aM (Kd.S_below (sX HO731.out) hb);replace BK728:=aM (bbX BK728.out hb);replace HB:=aM (below_step (bX1 HB.out GE728.out) hb);(try clear hb);(try clear hk)))
  go_meet
  case rel=>exact ⟨_,(true),vX,H',⟨by first|omega|exact Nat.le_refl _⟩,⟨by(with_reducible repeat(first|apply Kd.S_alloc|apply Kd.S_drewN|apply Kd.S_drew));exact Kd.S_mono HO731.out (fun _ hk=>⟨hk.1.2,hk.2⟩)⟩,⟨rX HO724.out⟩,⟨rX HO727.out⟩,⟨kX BK728.out⟩,⟨bX1 HB.out GE728.out⟩⟩
  }
  }
 case rest =>
 clear HC6
 try clear c2
 try clear c2b0
 try clear c2b1
 try clear c15
 try clear c15b0
 try clear c15b1
 try clear c15b2
 try clear c17
 try clear c17b0
 try clear c17b1
 try clear c17b2
 try clear c21
 try clear c21b0
 try clear c25
 try clear c25b0
 try clear c36
 try clear c36b0
 try clear c36b1
 try clear c38
 try clear c38b0
 try clear c38b1
 try clear c38b2
 try clear c44
 try clear c44b0
 try clear c50
 try clear c50b0
 try clear hcz10_0
 try clear hcz10_1
 try clear hcz13_0
 try clear hcz13_1
 try clear hcz19_0
 try clear hcz19_1
 try clear hcz23_0
 try clear hcz23_1
 try clear hcz28_0
 try clear hcz28_1
 try clear hcz30_0
 try clear hcz30_1
 try clear hcz33_0
 try clear hcz33_1
 try clear hcz40_0
 try clear hcz40_1
 try clear hcz42_0
 try clear hcz42_1
 try clear hcz46_0
 try clear hcz46_1
 try clear hcz48_0
 try clear hcz48_1
 try clear hcz53_0
 try clear hcz53_1
 try clear hcz55_0
 try clear hcz55_1
 try clear hcz57_0
 try clear hcz57_1
 try clear hcz60_0
 try clear hcz60_1
 try clear hcz62_0
 try clear hcz62_1
 try clear hcz65_0
 try clear hcz65_1
 try clear hfz10_0
 try clear hfz10_1
 try clear hfz13_0
 try clear hfz13_1
 try clear hfz19_0
 try clear hfz19_1
 try clear hfz23_0
 try clear hfz23_1
 try clear hfz28_0
 try clear hfz28_1
 try clear hfz30_0
 try clear hfz30_1
 try clear hfz33_0
 try clear hfz33_1
 try clear hfz40_0
 try clear hfz40_1
 try clear hfz42_0
 try clear hfz42_1
 try clear hfz46_0
 try clear hfz46_1
 try clear hfz48_0
 try clear hfz48_1
 try clear hfz53_0
 try clear hfz53_1
 try clear hfz55_0
 try clear hfz55_1
 try clear hfz57_0
 try clear hfz57_1
 try clear hfz60_0
 try clear hfz60_1
 try clear hfz62_0
 try clear hfz62_1
 try clear hfz65_0
 try clear hfz65_1
 obtain ⟨kq,x51_5,rfl,HA,HJ5,HO_4,HO_729000,HO_729001,BK728,HB⟩:=hcut
 cases kq with
 | zero=>exact absurd HA.out (by simp [laws_FnTurned.j0])
 | succ kj5 =>
 have H:=HA.out
 clear HA
 simp only [laws_FnTurned.j0] at H
 by_cases c67:x51_5=true
 {
 subst c67
 have H1:(some false)=some r:=by rw [if_pos rfl] at H;exact H
 clear H
 have H:=H1
 clear H1
 exact absurd ((Option.some.inj H).trans HRT.out) (by decide)
 }
 {
 replace c67:=Bool.eq_false_iff.mpr c67
 subst c67
 have H1:(laws_FnTurned.l0 kj5 t732 t729 (t729.length:Int) 0 t722 t725)=some r:=by rw [if_neg (show ¬ (false=true) by decide)] at H;exact H
 clear H
 have H:=H1
 clear H1
 have H':=aM H
 clear H
 obtain ⟨Ao68,co68,eo68⟩:=Kd.S_slice HO_4.out
 subst eo68
 go_wp2
 go_loopg [54] kj5 (fun kq v54 w'=>∃ (x54_2:Int),v54 = .int .i64 x54_2∧Aside0 (laws_FnTurned.l0 kq t732 t729 (t729.length:Int) x54_2 t722 t725=some r)∧Aside0 (kq≤kj5)∧Aside0 (Kd.S (Kd.slice 3 (Kd.int .i64)) 23 w' w.heap.size (fun k_=>some k_≠((.slice Ao9 t722.length co9):Value).ownBlock∧some k_≠((.slice Ao11 t725.length co11):Value).ownBlock) (.slice Ao68 t729.length co68) t729)∧Aside0 (Kd.R (Kd.int .i64) 3 w' w.heap.size (fun k_=>some k_≠((.slice Ao11 t725.length co11):Value).ownBlock) (.slice Ao9 t722.length co9) t722)∧Aside0 (Kd.R (Kd.int .i64) 3 w' w.heap.size (fun k_=>some k_≠((.slice Ao9 t722.length co9):Value).ownBlock) (.slice Ao11 t725.length co11) t725)∧Aside0 (w'.heap[gb728]? = some (.cells #[(.slice Ao9 t722.length co9),(.slice Ao11 t725.length co11)] 25 (0,0)))∧Aside0 (Below w.heap.size w w'))
 case atStart=>exact ⟨(0),vX,H',⟨Nat.le_refl _⟩,⟨sX HO_4.out⟩,⟨rX HO_729000.out⟩,⟨rX HO_729001.out⟩,⟨kX BK728.out⟩,⟨bX1 HB.out GE728.out⟩⟩
 case round =>
 clear H'
 try clear c2
 try clear c2b0
 try clear c2b1
 try clear c15
 try clear c15b0
 try clear c15b1
 try clear c15b2
 try clear c17
 try clear c17b0
 try clear c17b1
 try clear c17b2
 try clear c21
 try clear c21b0
 try clear c25
 try clear c25b0
 try clear c36
 try clear c36b0
 try clear c36b1
 try clear c38
 try clear c38b0
 try clear c38b1
 try clear c38b2
 try clear c44
 try clear c44b0
 try clear c50
 try clear c50b0
 try clear c67
 try clear hcz10_0
 try clear hcz10_1
 try clear hcz13_0
 try clear hcz13_1
 try clear hcz19_0
 try clear hcz19_1
 try clear hcz23_0
 try clear hcz23_1
 try clear hcz28_0
 try clear hcz28_1
 try clear hcz30_0
 try clear hcz30_1
 try clear hcz33_0
 try clear hcz33_1
 try clear hcz40_0
 try clear hcz40_1
 try clear hcz42_0
 try clear hcz42_1
 try clear hcz46_0
 try clear hcz46_1
 try clear hcz48_0
 try clear hcz48_1
 try clear hcz53_0
 try clear hcz53_1
 try clear hcz55_0
 try clear hcz55_1
 try clear hcz57_0
 try clear hcz57_1
 try clear hcz60_0
 try clear hcz60_1
 try clear hcz62_0
 try clear hcz62_1
 try clear hcz65_0
 try clear hcz65_1
 try clear hfz10_0
 try clear hfz10_1
 try clear hfz13_0
 try clear hfz13_1
 try clear hfz19_0
 try clear hfz19_1
 try clear hfz23_0
 try clear hfz23_1
 try clear hfz28_0
 try clear hfz28_1
 try clear hfz30_0
 try clear hfz30_1
 try clear hfz33_0
 try clear hfz33_1
 try clear hfz40_0
 try clear hfz40_1
 try clear hfz42_0
 try clear hfz42_1
 try clear hfz46_0
 try clear hfz46_1
 try clear hfz48_0
 try clear hfz48_1
 try clear hfz53_0
 try clear hfz53_1
 try clear hfz55_0
 try clear hfz55_1
 try clear hfz57_0
 try clear hfz57_1
 try clear hfz60_0
 try clear hfz60_1
 try clear hfz62_0
 try clear hfz62_1
 try clear hfz65_0
 try clear hfz65_1
 obtain ⟨x54_2,rfl,HA,HK2,HO_52,HO_729000,HO_729001,BK728,HB⟩:=hrel
 cases gk with
 | zero=>exact absurd HA.out (by simp [laws_FnTurned.l0])
 | succ k2 =>
 have H:=HA.out
 clear HA
 simp only [laws_FnTurned.l0] at H
 by_cases c69:x54_2<(t729.length:Int)
 {
 rw [if_pos c69] at H
 have c69b0:=decide_eq_true c69
 clear c69
 by_cases c70:0≤x54_2
 {
 rw [if_pos c70] at H
 have c70b0:=decide_eq_true c70
 clear c70
 by_cases c71:x54_2<(t729.length:Int)
 {
 rw [if_pos c71] at H
 have c71b0:=decide_eq_true c71
 clear c71
 replace H:=oB H
 obtain ⟨⟨t740,t743⟩,A720,H⟩:=H
 replace H:((i_CountFixed.f k2 t722 t725 (rd_L2 t729 x54_2)).bind fun t744=>((i_QuotientGenus.f k2 t722 t725 (rd_L2 t729 x54_2)).bind fun t745=>(if t743=true then ((i_IsTurn.f k2 t722 t725 (rd_L2 t729 x54_2)).bind fun t746=>(if t746=true then (if (t740.length:Int)=4 then ((laws_total.f k2 t740).bind fun t747=>(if t747=t744 then (if t745≥0 then (if (wrap64 (4*t745))=(wrap64 ((wrap64 ((wrap64 (2*t732))+2)) - t744)) then (if t732=1 then (if t744=4 then (if t745=0 then (if t744=(wrap64 ((wrap64 (2*t732))+2)) then (laws_FnTurned.l0 k2 t732 t729 (t729.length:Int) (wrap64 (x54_2+1)) t722 t725) else (some false)) else (laws_FnTurned.l0 k2 t732 t729 (t729.length:Int) (wrap64 (x54_2+1)) t722 t725)) else (some false)) else (if t745=0 then (if t744=(wrap64 ((wrap64 (2*t732))+2)) then (laws_FnTurned.l0 k2 t732 t729 (t729.length:Int) (wrap64 (x54_2+1)) t722 t725) else (some false)) else (laws_FnTurned.l0 k2 t732 t729 (t729.length:Int) (wrap64 (x54_2+1)) t722 t725))) else (some false)) else (if t732=1 then (if t744=4 then (if t745=0 then (if t744=(wrap64 ((wrap64 (2*t732))+2)) then (laws_FnTurned.l0 k2 t732 t729 (t729.length:Int) (wrap64 (x54_2+1)) t722 t725) else (some false)) else (laws_FnTurned.l0 k2 t732 t729 (t729.length:Int) (wrap64 (x54_2+1)) t722 t725)) else (some false)) else (if t745=0 then (if t744=(wrap64 ((wrap64 (2*t732))+2)) then (laws_FnTurned.l0 k2 t732 t729 (t729.length:Int) (wrap64 (x54_2+1)) t722 t725) else (some false)) else (laws_FnTurned.l0 k2 t732 t729 (t729.length:Int) (wrap64 (x54_2+1)) t722 t725)))) else (some false))) else (some false)) else (some false))) else (some false))))=some r:=H
 have A72:=aM A720
 clear A720
 replace H:=oB H
 obtain ⟨t744,A730,H⟩:=H
 have A73:=aM A730
 clear A730
 replace H:=oB H
 obtain ⟨t745,A740,H⟩:=H
 have A74:=aM A740
 clear A740
 by_cases c75:t743=true
 {
 subst c75
 have H1:((i_IsTurn.f k2 t722 t725 (rd_L2 t729 x54_2)).bind fun t746=>(if t746=true then (if (t740.length:Int)=4 then ((laws_total.f k2 t740).bind fun t747=>(if t747=t744 then (if t745≥0 then (if (wrap64 (4*t745))=(wrap64 ((wrap64 ((wrap64 (2*t732))+2)) - t744)) then (if t732=1 then (if t744=4 then (if t745=0 then (if t744=(wrap64 ((wrap64 (2*t732))+2)) then (laws_FnTurned.l0 k2 t732 t729 (t729.length:Int) (wrap64 (x54_2+1)) t722 t725) else (some false)) else (laws_FnTurned.l0 k2 t732 t729 (t729.length:Int) (wrap64 (x54_2+1)) t722 t725)) else (some false)) else (if t745=0 then (if t744=(wrap64 ((wrap64 (2*t732))+2)) then (laws_FnTurned.l0 k2 t732 t729 (t729.length:Int) (wrap64 (x54_2+1)) t722 t725) else (some false)) else (laws_FnTurned.l0 k2 t732 t729 (t729.length:Int) (wrap64 (x54_2+1)) t722 t725))) else (some false)) else (if t732=1 then (if t744=4 then (if t745=0 then (if t744=(wrap64 ((wrap64 (2*t732))+2)) then (laws_FnTurned.l0 k2 t732 t729 (t729.length:Int) (wrap64 (x54_2+1)) t722 t725) else (some false)) else (laws_FnTurned.l0 k2 t732 t729 (t729.length:Int) (wrap64 (x54_2+1)) t722 t725)) else (some false)) else (if t745=0 then (if t744=(wrap64 ((wrap64 (2*t732))+2)) then (laws_FnTurned.l0 k2 t732 t729 (t729.length:Int) (wrap64 (x54_2+1)) t722 t725) else (some false)) else (laws_FnTurned.l0 k2 t732 t729 (t729.length:Int) (wrap64 (x54_2+1)) t722 t725)))) else (some false))) else (some false)) else (some false)))=some r:=by rw [if_pos rfl] at H;exact H
 clear H
 have H:=H1
 clear H1
 replace H:=oB H
 obtain ⟨t746,A760,H⟩:=H
 have A76:=aM A760
 clear A760
 by_cases c77:t746=true
 {
 subst c77
 have H1:(if (t740.length:Int)=4 then ((laws_total.f k2 t740).bind fun t747=>(if t747=t744 then (if t745≥0 then (if (wrap64 (4*t745))=(wrap64 ((wrap64 ((wrap64 (2*t732))+2)) - t744)) then (if t732=1 then (if t744=4 then (if t745=0 then (if t744=(wrap64 ((wrap64 (2*t732))+2)) then (laws_FnTurned.l0 k2 t732 t729 (t729.length:Int) (wrap64 (x54_2+1)) t722 t725) else (some false)) else (laws_FnTurned.l0 k2 t732 t729 (t729.length:Int) (wrap64 (x54_2+1)) t722 t725)) else (some false)) else (if t745=0 then (if t744=(wrap64 ((wrap64 (2*t732))+2)) then (laws_FnTurned.l0 k2 t732 t729 (t729.length:Int) (wrap64 (x54_2+1)) t722 t725) else (some false)) else (laws_FnTurned.l0 k2 t732 t729 (t729.length:Int) (wrap64 (x54_2+1)) t722 t725))) else (some false)) else (if t732=1 then (if t744=4 then (if t745=0 then (if t744=(wrap64 ((wrap64 (2*t732))+2)) then (laws_FnTurned.l0 k2 t732 t729 (t729.length:Int) (wrap64 (x54_2+1)) t722 t725) else (some false)) else (laws_FnTurned.l0 k2 t732 t729 (t729.length:Int) (wrap64 (x54_2+1)) t722 t725)) else (some false)) else (if t745=0 then (if t744=(wrap64 ((wrap64 (2*t732))+2)) then (laws_FnTurned.l0 k2 t732 t729 (t729.length:Int) (wrap64 (x54_2+1)) t722 t725) else (some false)) else (laws_FnTurned.l0 k2 t732 t729 (t729.length:Int) (wrap64 (x54_2+1)) t722 t725)))) else (some false))) else (some false))=some r:=by rw [if_pos rfl] at H;exact H
 clear H
 have H:=H1
 clear H1
 by_cases c78:(t740.length:Int)=4
 {
 rw [if_pos c78] at H
 have c78b0:((t740.length:Int) == 4)=true:=beq_iff_eq.mpr c78
 have c78b1:((t740.length:Int) != 4)=false:=bne_eq_false_iff_eq.mpr c78
 clear c78
 replace H:=oB H
 obtain ⟨t747,A790,H⟩:=H
 have A79:=aM A790
 clear A790
 by_cases c80:t747=t744
 {
 rw [if_pos c80] at H
 have c80b0:(t747 == t744)=true:=beq_iff_eq.mpr c80
 have c80b1:(t747 != t744)=false:=bne_eq_false_iff_eq.mpr c80
 clear c80
 have H':=aM H
 clear H
 have p739:0≤(x54_2:Int):=dX
 have q739:x54_2<(t729.length:Int):=dX
 obtain ⟨ad739,A739_0,c739_0,e739,hx739_0,hl739_0,hi739_0⟩:=at_L2 (Kd.S_reads' HO_52.out).2.2 x54_2 p739 q739
 cases e739
 obtain ⟨ce739,hce739,hMe739,hcc739⟩:=Kd.S_get HO_52.out [] x54_2 p739 (by first|exact q739|exact dX|(have e_:=(Kd.S_reads' HO_52.out).1;omega))
 obtain ⟨ve739_0,rfl,ge739_0⟩:=hMe739
 have hv739_0:=hcc739 0 _ rfl
 rw [Nat.add_zero,show ((Kd.slice 3 (Kd.int .i64))).sz=1 from rfl,Nat.mul_one] at hv739_0
 replace hv739_0:=Option.some.inj (hv739_0.symm.trans hx739_0)
 rw [hv739_0] at ge739_0
 have HL739_0:=aM (show Kd.R (Kd.int .i64) 3 _ _ _ _ (rd_L2 t729 x54_2) from ge739_0)
 clear hv739_0 ge739_0 hcc739 hce739
 have HR739_0:=aM hi739_0
 have HC739_0:=aM hl739_0
 clear hi739_0 hl739_0
 replace p739:=eq_true p739
 replace q739:=eq_true q739
 obtain ⟨hcz87_0,hcz87_1,hfz87_0,hfz87_1⟩:=f2Z BK728.out
 go_upto_region 14 with (first|((with_reducible refine gate_callee (f:=10) rfl ?_);refine goesL_ (some 61) rfl rfl Tryd.func10 (by kernel_rfl) rfl #[.agg #[.slice Ao9 t722.length co9,.slice Ao11 t725.length co11],.slice A739_0 (rd_L2 t729 x54_2).length c739_0] rfl aX ?_;(with_reducible refine(i_FixedPoints.calls k2 _ _ t722 _ _ t725 _ _ (rd_L2 t729 x54_2) t740 true _ ?side1 ?side2 ?side3 ?side4 ?side5 ?side6 A72.out).mono ?_);(case side1=>exact cX (Kd.R_reads' HO_729000.out).2.2);(case side2=>exact(Kd.R_reads' HO_729000.out).2.1);(case side3=>exact cX (Kd.R_reads' HO_729001.out).2.2);(case side4=>exact(Kd.R_reads' HO_729001.out).2.1);(case side5=>exact cX (cX HR739_0.out));(case side6=>exact HC739_0.out);rintro e w88 ⟨v741,rfl,ho0,hb⟩;refine ⟨_,rfl,?_⟩;replace HO_52:=aM (Kd.S_elder' (sX HO_52.out) (Kd.R_base ho0) hb);have HO742:=aM (Kd.R_lower (Kd.R_new' (Kd.R_new' (Kd.R_new' ho0 (Kd.R_lt (rX HO_729000.out))) (Kd.R_lt (rX HO_729001.out))) (Kd.R_lt (rX HL739_0.out))) (below_size (bX1 HB.out GE728.out)));replace HO_729000:=aM (Kd.R_elder' (rX HO_729000.out) (Kd.R_base ho0) hb);replace HO_729001:=aM (Kd.R_elder' (rX HO_729001.out) (Kd.R_base ho0) hb);replace HL739_0:=aM (Kd.R_elder' (rX HL739_0.out) (Kd.R_base ho0) hb);replace BK728:=aM (bbX BK728.out hb);replace HR739_0:=aM (Kd.C_below (cX HR739_0.out) hb);replace HB:=aM (below_step (bX1 HB.out GE728.out) hb);(try clear hb);(try clear hk);(try clear ho0);obtain ⟨hcz89_0,hcz89_1,hfz89_0,hfz89_1⟩:=f2Z BK728.out)|((with_reducible refine gate_callee (f:=11) rfl ?_);refine goesL_ (some 66) rfl rfl Tryd.func11 (by kernel_rfl) rfl #[.agg #[.slice Ao9 t722.length co9,.slice Ao11 t725.length co11],.slice A739_0 (rd_L2 t729 x54_2).length c739_0] rfl aX ?_;(with_reducible refine(i_CountFixed.calls k2 _ _ t722 _ _ t725 _ _ (rd_L2 t729 x54_2) t744 _ ?side1 ?side2 ?side3 ?side4 ?side5 ?side6 A73.out).mono ?_);(case side1=>exact cX (Kd.R_reads' HO_729000.out).2.2);(case side2=>exact(Kd.R_reads' HO_729000.out).2.1);(case side3=>exact cX (Kd.R_reads' HO_729001.out).2.2);(case side4=>exact(Kd.R_reads' HO_729001.out).2.1);(case side5=>exact cX (cX HR739_0.out));(case side6=>exact HC739_0.out);rintro e w90 ⟨rfl,hb⟩;refine ⟨_,rfl,?_⟩;replace HO_52:=aM (Kd.S_below (sX HO_52.out) hb);replace HO_729000:=aM (Kd.R_below (rX HO_729000.out) hb);replace HO_729001:=aM (Kd.R_below (rX HO_729001.out) hb);replace HL739_0:=aM (Kd.R_below (rX HL739_0.out) hb);replace HO742:=aM (Kd.R_below (rX HO742.out) hb);replace BK728:=aM (bbX BK728.out hb);replace HR739_0:=aM (Kd.C_below (cX HR739_0.out) hb);replace HB:=aM (below_step (bX1 HB.out GE728.out) hb);(try clear hb);(try clear hk);obtain ⟨hcz91_0,hcz91_1,hfz91_0,hfz91_1⟩:=f2Z BK728.out)|((with_reducible refine gate_callee (f:=12) rfl ?_);refine goesL_ (some 69) rfl rfl Tryd.func12 (by kernel_rfl) rfl #[.agg #[.slice Ao9 t722.length co9,.slice Ao11 t725.length co11],.slice A739_0 (rd_L2 t729 x54_2).length c739_0] rfl aX ?_;(with_reducible refine(i_QuotientGenus.calls k2 _ _ t722 _ _ t725 _ _ (rd_L2 t729 x54_2) t745 _ ?side1 ?side2 ?side3 ?side4 ?side5 ?side6 A74.out).mono ?_);(case side1=>exact cX (Kd.R_reads' HO_729000.out).2.2);(case side2=>exact(Kd.R_reads' HO_729000.out).2.1);(case side3=>exact cX (Kd.R_reads' HO_729001.out).2.2);(case side4=>exact(Kd.R_reads' HO_729001.out).2.1);(case side5=>exact cX (cX HR739_0.out));(case side6=>exact HC739_0.out);rintro e w92 ⟨rfl,hb⟩;refine ⟨_,rfl,?_⟩;replace HO_52:=aM (Kd.S_below (sX HO_52.out) hb);replace HO_729000:=aM (Kd.R_below (rX HO_729000.out) hb);replace HO_729001:=aM (Kd.R_below (rX HO_729001.out) hb);replace HL739_0:=aM (Kd.R_below (rX HL739_0.out) hb);replace HO742:=aM (Kd.R_below (rX HO742.out) hb);replace BK728:=aM (bbX BK728.out hb);replace HR739_0:=aM (Kd.C_below (cX HR739_0.out) hb);replace HB:=aM (below_step (bX1 HB.out GE728.out) hb);(try clear hb);(try clear hk);obtain ⟨hcz93_0,hcz93_1,hfz93_0,hfz93_1⟩:=f2Z BK728.out))
 (try simp only [Act.put,List.setIfInBounds_toArray,List.set_cons_zero,List.set_cons_succ])
 have H:=H'.out
 clear H'
 by_cases c81:t745≥0
 {
 rw [if_pos c81] at H
 have c81b0:=decide_eq_true c81
 clear c81
 by_cases c82:(wrap64 (4*t745))=(wrap64 ((wrap64 ((wrap64 (2*t732))+2)) - t744))
 {
 rw [if_pos c82] at H
 have c82b0:((wrap64 (4*t745)) == (wrap64 ((wrap64 ((wrap64 (2*t732))+2)) - t744)))=true:=beq_iff_eq.mpr c82
 have c82b1:((wrap64 (4*t745)) != (wrap64 ((wrap64 ((wrap64 (2*t732))+2)) - t744)))=false:=bne_eq_false_iff_eq.mpr c82
 clear c82
 by_cases c83:t732=1
 {
 rw [if_pos c83] at H
 have c83b0:(t732 == 1)=true:=beq_iff_eq.mpr c83
 have c83b1:(t732 != 1)=false:=bne_eq_false_iff_eq.mpr c83
 clear c83
 by_cases c84:t744=4
 {
 rw [if_pos c84] at H
 have c84b0:(t744 == 4)=true:=beq_iff_eq.mpr c84
 have c84b1:(t744 != 4)=false:=bne_eq_false_iff_eq.mpr c84
 clear c84
 by_cases c85:t745=0
 {
 rw [if_pos c85] at H
 have c85b0:(t745 == 0)=true:=beq_iff_eq.mpr c85
 have c85b1:(t745 != 0)=false:=bne_eq_false_iff_eq.mpr c85
 clear c85
 by_cases c86:t744=(wrap64 ((wrap64 (2*t732))+2))
 {
 rw [if_pos c86] at H
 have c86b0:(t744 == (wrap64 ((wrap64 (2*t732))+2)))=true:=beq_iff_eq.mpr c86
 have c86b1:(t744 != (wrap64 ((wrap64 (2*t732))+2)))=false:=bne_eq_false_iff_eq.mpr c86
 clear c86
 have H':=aM H
 clear H
 go_wp2_with (first|(go_at_call 13;(with_reducible refine(i_IsTurn.calls k2 _ _ t722 _ _ t725 _ _ (rd_L2 t729 x54_2) true _ ?side1 ?side2 ?side3 ?side4 ?side5 ?side6 A76.out).mono ?_);(case side1=>exact cX (Kd.R_reads' HO_729000.out).2.2);(case side2=>exact(Kd.R_reads' HO_729000.out).2.1);(case side3=>exact cX (Kd.R_reads' HO_729001.out).2.2);(case side4=>exact(Kd.R_reads' HO_729001.out).2.1);(case side5=>exact cX (cX HR739_0.out));(case side6=>exact HC739_0.out);rintro e w94 ⟨rfl,hb⟩;replace HO_52:=aM (Kd.S_below (sX HO_52.out) hb);replace HO_729000:=aM (Kd.R_below (rX HO_729000.out) hb);replace HO_729001:=aM (Kd.R_below (rX HO_729001.out) hb);replace HL739_0:=aM (Kd.R_below (rX HL739_0.out) hb);replace HO742:=aM (Kd.R_below (rX HO742.out) hb);replace BK728:=aM (bbX BK728.out hb);replace HR739_0:=aM (Kd.C_below (cX HR739_0.out) hb);replace HB:=aM (below_step (bX1 HB.out GE728.out) hb);(try clear hb);(try clear hk);obtain ⟨Ao95,co95,eo95⟩:=Kd.R_slice HO742.out;subst eo95)|(go_at_call 14;(with_reducible refine(laws_total.calls k2 _ _ t740 t747 _ ?side1 ?side2 A79.out).mono ?_);(case side1=>exact cX (Kd.R_reads' HO742.out).2.2);(case side2=>exact(Kd.R_reads' HO742.out).2.1);rintro e w' ⟨rfl,⟨nd,rfl⟩⟩))
 go_roundg k2
 case measure=>have:=HJ5.out;have:=HK2.out;omega
 case rel=>exact ⟨(wrap64 (x54_2+1)),vX,H',⟨by have:=HJ5.out;have:=HK2.out;omega⟩,⟨by(with_reducible repeat(first|apply Kd.S_alloc|apply Kd.S_drewN|apply Kd.S_drew));exact Kd.S_mono HO_52.out (fun _ hk=>⟨hk.1.1,hk.1.2⟩)⟩,⟨rM HO_729000.out (fun _ hk=>hk.1)⟩,⟨rM HO_729001.out (fun _ hk=>hk.1)⟩,⟨kX BK728.out⟩,⟨bX1 HB.out GE728.out⟩⟩
 }
 {
 rw [if_neg c86] at H
 have c86b0:(t744 == (wrap64 ((wrap64 (2*t732))+2)))=false:=beq_eq_false_iff_ne.mpr c86
 have c86b1:(t744 != (wrap64 ((wrap64 (2*t732))+2)))=true:=bne_iff_ne.mpr c86
 exact absurd ((Option.some.inj H).trans HRT.out) (by decide)
 }
 }
 {
 rw [if_neg c85] at H
 have c85b0:(t745 == 0)=false:=beq_eq_false_iff_ne.mpr c85
 have c85b1:(t745 != 0)=true:=bne_iff_ne.mpr c85
 have H':=aM H
 clear H
 go_wp2_with (first|(go_at_call 13;(with_reducible refine(i_IsTurn.calls k2 _ _ t722 _ _ t725 _ _ (rd_L2 t729 x54_2) true _ ?side1 ?side2 ?side3 ?side4 ?side5 ?side6 A76.out).mono ?_);(case side1=>exact cX (Kd.R_reads' HO_729000.out).2.2);(case side2=>exact(Kd.R_reads' HO_729000.out).2.1);(case side3=>exact cX (Kd.R_reads' HO_729001.out).2.2);(case side4=>exact(Kd.R_reads' HO_729001.out).2.1);(case side5=>exact cX (cX HR739_0.out));(case side6=>exact HC739_0.out);rintro e w94 ⟨rfl,hb⟩;replace HO_52:=aM (Kd.S_below (sX HO_52.out) hb);replace HO_729000:=aM (Kd.R_below (rX HO_729000.out) hb);replace HO_729001:=aM (Kd.R_below (rX HO_729001.out) hb);replace HL739_0:=aM (Kd.R_below (rX HL739_0.out) hb);replace HO742:=aM (Kd.R_below (rX HO742.out) hb);replace BK728:=aM (bbX BK728.out hb);replace HR739_0:=aM (Kd.C_below (cX HR739_0.out) hb);replace HB:=aM (below_step (bX1 HB.out GE728.out) hb);(try clear hb);(try clear hk);obtain ⟨Ao95,co95,eo95⟩:=Kd.R_slice HO742.out;subst eo95)|(go_at_call 14;(with_reducible refine(laws_total.calls k2 _ _ t740 t747 _ ?side1 ?side2 A79.out).mono ?_);(case side1=>exact cX (Kd.R_reads' HO742.out).2.2);(case side2=>exact(Kd.R_reads' HO742.out).2.1);rintro e w' ⟨rfl,⟨nd,rfl⟩⟩))
 go_roundg k2
 case measure=>have:=HJ5.out;have:=HK2.out;omega
 case rel=>exact ⟨(wrap64 (x54_2+1)),vX,H',⟨by have:=HJ5.out;have:=HK2.out;omega⟩,⟨by(with_reducible repeat(first|apply Kd.S_alloc|apply Kd.S_drewN|apply Kd.S_drew));exact Kd.S_mono HO_52.out (fun _ hk=>⟨hk.1.1,hk.1.2⟩)⟩,⟨rM HO_729000.out (fun _ hk=>hk.1)⟩,⟨rM HO_729001.out (fun _ hk=>hk.1)⟩,⟨kX BK728.out⟩,⟨bX1 HB.out GE728.out⟩⟩
 }
 }
 {
 rw [if_neg c84] at H
 have c84b0:(t744 == 4)=false:=beq_eq_false_iff_ne.mpr c84
 have c84b1:(t744 != 4)=true:=bne_iff_ne.mpr c84
 exact absurd ((Option.some.inj H).trans HRT.out) (by decide)
 }
 }
 {
 rw [if_neg c83] at H
 have c83b0:(t732 == 1)=false:=beq_eq_false_iff_ne.mpr c83
 have c83b1:(t732 != 1)=true:=bne_iff_ne.mpr c83
 by_cases c105:t745=0
 {
 rw [if_pos c105] at H
 have c105b0:(t745 == 0)=true:=beq_iff_eq.mpr c105
 have c105b1:(t745 != 0)=false:=bne_eq_false_iff_eq.mpr c105
 clear c105
 by_cases c106:t744=(wrap64 ((wrap64 (2*t732))+2))
 {
 rw [if_pos c106] at H
 have c106b0:(t744 == (wrap64 ((wrap64 (2*t732))+2)))=true:=beq_iff_eq.mpr c106
 have c106b1:(t744 != (wrap64 ((wrap64 (2*t732))+2)))=false:=bne_eq_false_iff_eq.mpr c106
 clear c106
 have H':=aM H
 clear H
 go_wp2_with (first|(go_at_call 13;(with_reducible refine(i_IsTurn.calls k2 _ _ t722 _ _ t725 _ _ (rd_L2 t729 x54_2) true _ ?side1 ?side2 ?side3 ?side4 ?side5 ?side6 A76.out).mono ?_);(case side1=>exact cX (Kd.R_reads' HO_729000.out).2.2);(case side2=>exact(Kd.R_reads' HO_729000.out).2.1);(case side3=>exact cX (Kd.R_reads' HO_729001.out).2.2);(case side4=>exact(Kd.R_reads' HO_729001.out).2.1);(case side5=>exact cX (cX HR739_0.out));(case side6=>exact HC739_0.out);rintro e w94 ⟨rfl,hb⟩;replace HO_52:=aM (Kd.S_below (sX HO_52.out) hb);replace HO_729000:=aM (Kd.R_below (rX HO_729000.out) hb);replace HO_729001:=aM (Kd.R_below (rX HO_729001.out) hb);replace HL739_0:=aM (Kd.R_below (rX HL739_0.out) hb);replace HO742:=aM (Kd.R_below (rX HO742.out) hb);replace BK728:=aM (bbX BK728.out hb);replace HR739_0:=aM (Kd.C_below (cX HR739_0.out) hb);replace HB:=aM (below_step (bX1 HB.out GE728.out) hb);(try clear hb);(try clear hk);obtain ⟨Ao95,co95,eo95⟩:=Kd.R_slice HO742.out;subst eo95)|(go_at_call 14;(with_reducible refine(laws_total.calls k2 _ _ t740 t747 _ ?side1 ?side2 A79.out).mono ?_);(case side1=>exact cX (Kd.R_reads' HO742.out).2.2);(case side2=>exact(Kd.R_reads' HO742.out).2.1);rintro e w' ⟨rfl,⟨nd,rfl⟩⟩))
 go_roundg k2
 case measure=>have:=HJ5.out;have:=HK2.out;omega
 case rel=>exact ⟨(wrap64 (x54_2+1)),vX,H',⟨by have:=HJ5.out;have:=HK2.out;omega⟩,⟨by(with_reducible repeat(first|apply Kd.S_alloc|apply Kd.S_drewN|apply Kd.S_drew));exact Kd.S_mono HO_52.out (fun _ hk=>⟨hk.1.1,hk.1.2⟩)⟩,⟨rM HO_729000.out (fun _ hk=>hk.1)⟩,⟨rM HO_729001.out (fun _ hk=>hk.1)⟩,⟨kX BK728.out⟩,⟨bX1 HB.out GE728.out⟩⟩
 }
 {
 rw [if_neg c106] at H
 have c106b0:(t744 == (wrap64 ((wrap64 (2*t732))+2)))=false:=beq_eq_false_iff_ne.mpr c106
 have c106b1:(t744 != (wrap64 ((wrap64 (2*t732))+2)))=true:=bne_iff_ne.mpr c106
 exact absurd ((Option.some.inj H).trans HRT.out) (by decide)
 }
 }
 {
 rw [if_neg c105] at H
 have c105b0:(t745 == 0)=false:=beq_eq_false_iff_ne.mpr c105
 have c105b1:(t745 != 0)=true:=bne_iff_ne.mpr c105
 have H':=aM H
 clear H
 go_wp2_with (first|(go_at_call 13;(with_reducible refine(i_IsTurn.calls k2 _ _ t722 _ _ t725 _ _ (rd_L2 t729 x54_2) true _ ?side1 ?side2 ?side3 ?side4 ?side5 ?side6 A76.out).mono ?_);(case side1=>exact cX (Kd.R_reads' HO_729000.out).2.2);(case side2=>exact(Kd.R_reads' HO_729000.out).2.1);(case side3=>exact cX (Kd.R_reads' HO_729001.out).2.2);(case side4=>exact(Kd.R_reads' HO_729001.out).2.1);(case side5=>exact cX (cX HR739_0.out));(case side6=>exact HC739_0.out);rintro e w94 ⟨rfl,hb⟩;replace HO_52:=aM (Kd.S_below (sX HO_52.out) hb);replace HO_729000:=aM (Kd.R_below (rX HO_729000.out) hb);replace HO_729001:=aM (Kd.R_below (rX HO_729001.out) hb);replace HL739_0:=aM (Kd.R_below (rX HL739_0.out) hb);replace HO742:=aM (Kd.R_below (rX HO742.out) hb);replace BK728:=aM (bbX BK728.out hb);replace HR739_0:=aM (Kd.C_below (cX HR739_0.out) hb);replace HB:=aM (below_step (bX1 HB.out GE728.out) hb);(try clear hb);(try clear hk);obtain ⟨Ao95,co95,eo95⟩:=Kd.R_slice HO742.out;subst eo95)|(go_at_call 14;(with_reducible refine(laws_total.calls k2 _ _ t740 t747 _ ?side1 ?side2 A79.out).mono ?_);(case side1=>exact cX (Kd.R_reads' HO742.out).2.2);(case side2=>exact(Kd.R_reads' HO742.out).2.1);rintro e w' ⟨rfl,⟨nd,rfl⟩⟩))
 go_roundg k2
 case measure=>have:=HJ5.out;have:=HK2.out;omega
 case rel=>exact ⟨(wrap64 (x54_2+1)),vX,H',⟨by have:=HJ5.out;have:=HK2.out;omega⟩,⟨by(with_reducible repeat(first|apply Kd.S_alloc|apply Kd.S_drewN|apply Kd.S_drew));exact Kd.S_mono HO_52.out (fun _ hk=>⟨hk.1.1,hk.1.2⟩)⟩,⟨rM HO_729000.out (fun _ hk=>hk.1)⟩,⟨rM HO_729001.out (fun _ hk=>hk.1)⟩,⟨kX BK728.out⟩,⟨bX1 HB.out GE728.out⟩⟩
 }
 }
 }
 {
 rw [if_neg c82] at H
 have c82b0:((wrap64 (4*t745)) == (wrap64 ((wrap64 ((wrap64 (2*t732))+2)) - t744)))=false:=beq_eq_false_iff_ne.mpr c82
 have c82b1:((wrap64 (4*t745)) != (wrap64 ((wrap64 ((wrap64 (2*t732))+2)) - t744)))=true:=bne_iff_ne.mpr c82
 exact absurd ((Option.some.inj H).trans HRT.out) (by decide)
 }
 }
 {
 rw [if_neg c81] at H
 have c81b0:=decide_eq_false c81
 clear c81
 by_cases c125:t732=1
 {
 rw [if_pos c125] at H
 have c125b0:(t732 == 1)=true:=beq_iff_eq.mpr c125
 have c125b1:(t732 != 1)=false:=bne_eq_false_iff_eq.mpr c125
 clear c125
 by_cases c126:t744=4
 {
 rw [if_pos c126] at H
 have c126b0:(t744 == 4)=true:=beq_iff_eq.mpr c126
 have c126b1:(t744 != 4)=false:=bne_eq_false_iff_eq.mpr c126
 clear c126
 by_cases c127:t745=0
 {
 rw [if_pos c127] at H
 have c127b0:(t745 == 0)=true:=beq_iff_eq.mpr c127
 have c127b1:(t745 != 0)=false:=bne_eq_false_iff_eq.mpr c127
 clear c127
 by_cases c128:t744=(wrap64 ((wrap64 (2*t732))+2))
 {
 rw [if_pos c128] at H
 have c128b0:(t744 == (wrap64 ((wrap64 (2*t732))+2)))=true:=beq_iff_eq.mpr c128
 have c128b1:(t744 != (wrap64 ((wrap64 (2*t732))+2)))=false:=bne_eq_false_iff_eq.mpr c128
 clear c128
 have H':=aM H
 clear H
 go_wp2_with (first|(go_at_call 13;(with_reducible refine(i_IsTurn.calls k2 _ _ t722 _ _ t725 _ _ (rd_L2 t729 x54_2) true _ ?side1 ?side2 ?side3 ?side4 ?side5 ?side6 A76.out).mono ?_);(case side1=>exact cX (Kd.R_reads' HO_729000.out).2.2);(case side2=>exact(Kd.R_reads' HO_729000.out).2.1);(case side3=>exact cX (Kd.R_reads' HO_729001.out).2.2);(case side4=>exact(Kd.R_reads' HO_729001.out).2.1);(case side5=>exact cX (cX HR739_0.out));(case side6=>exact HC739_0.out);rintro e w94 ⟨rfl,hb⟩;replace HO_52:=aM (Kd.S_below (sX HO_52.out) hb);replace HO_729000:=aM (Kd.R_below (rX HO_729000.out) hb);replace HO_729001:=aM (Kd.R_below (rX HO_729001.out) hb);replace HL739_0:=aM (Kd.R_below (rX HL739_0.out) hb);replace HO742:=aM (Kd.R_below (rX HO742.out) hb);replace BK728:=aM (bbX BK728.out hb);replace HR739_0:=aM (Kd.C_below (cX HR739_0.out) hb);replace HB:=aM (below_step (bX1 HB.out GE728.out) hb);(try clear hb);(try clear hk);obtain ⟨Ao95,co95,eo95⟩:=Kd.R_slice HO742.out;subst eo95)|(go_at_call 14;(with_reducible refine(laws_total.calls k2 _ _ t740 t747 _ ?side1 ?side2 A79.out).mono ?_);(case side1=>exact cX (Kd.R_reads' HO742.out).2.2);(case side2=>exact(Kd.R_reads' HO742.out).2.1);rintro e w' ⟨rfl,⟨nd,rfl⟩⟩))
 go_roundg k2
 case measure=>have:=HJ5.out;have:=HK2.out;omega
 case rel=>exact ⟨(wrap64 (x54_2+1)),vX,H',⟨by have:=HJ5.out;have:=HK2.out;omega⟩,⟨by(with_reducible repeat(first|apply Kd.S_alloc|apply Kd.S_drewN|apply Kd.S_drew));exact Kd.S_mono HO_52.out (fun _ hk=>⟨hk.1.1,hk.1.2⟩)⟩,⟨rM HO_729000.out (fun _ hk=>hk.1)⟩,⟨rM HO_729001.out (fun _ hk=>hk.1)⟩,⟨kX BK728.out⟩,⟨bX1 HB.out GE728.out⟩⟩
 }
 {
 rw [if_neg c128] at H
 have c128b0:(t744 == (wrap64 ((wrap64 (2*t732))+2)))=false:=beq_eq_false_iff_ne.mpr c128
 have c128b1:(t744 != (wrap64 ((wrap64 (2*t732))+2)))=true:=bne_iff_ne.mpr c128
 exact absurd ((Option.some.inj H).trans HRT.out) (by decide)
 }
 }
 {
 rw [if_neg c127] at H
 have c127b0:(t745 == 0)=false:=beq_eq_false_iff_ne.mpr c127
 have c127b1:(t745 != 0)=true:=bne_iff_ne.mpr c127
 have H':=aM H
 clear H
 go_wp2_with (first|(go_at_call 13;(with_reducible refine(i_IsTurn.calls k2 _ _ t722 _ _ t725 _ _ (rd_L2 t729 x54_2) true _ ?side1 ?side2 ?side3 ?side4 ?side5 ?side6 A76.out).mono ?_);(case side1=>exact cX (Kd.R_reads' HO_729000.out).2.2);(case side2=>exact(Kd.R_reads' HO_729000.out).2.1);(case side3=>exact cX (Kd.R_reads' HO_729001.out).2.2);(case side4=>exact(Kd.R_reads' HO_729001.out).2.1);(case side5=>exact cX (cX HR739_0.out));(case side6=>exact HC739_0.out);rintro e w94 ⟨rfl,hb⟩;replace HO_52:=aM (Kd.S_below (sX HO_52.out) hb);replace HO_729000:=aM (Kd.R_below (rX HO_729000.out) hb);replace HO_729001:=aM (Kd.R_below (rX HO_729001.out) hb);replace HL739_0:=aM (Kd.R_below (rX HL739_0.out) hb);replace HO742:=aM (Kd.R_below (rX HO742.out) hb);replace BK728:=aM (bbX BK728.out hb);replace HR739_0:=aM (Kd.C_below (cX HR739_0.out) hb);replace HB:=aM (below_step (bX1 HB.out GE728.out) hb);(try clear hb);(try clear hk);obtain ⟨Ao95,co95,eo95⟩:=Kd.R_slice HO742.out;subst eo95)|(go_at_call 14;(with_reducible refine(laws_total.calls k2 _ _ t740 t747 _ ?side1 ?side2 A79.out).mono ?_);(case side1=>exact cX (Kd.R_reads' HO742.out).2.2);(case side2=>exact(Kd.R_reads' HO742.out).2.1);rintro e w' ⟨rfl,⟨nd,rfl⟩⟩))
 go_roundg k2
 case measure=>have:=HJ5.out;have:=HK2.out;omega
 case rel=>exact ⟨(wrap64 (x54_2+1)),vX,H',⟨by have:=HJ5.out;have:=HK2.out;omega⟩,⟨by(with_reducible repeat(first|apply Kd.S_alloc|apply Kd.S_drewN|apply Kd.S_drew));exact Kd.S_mono HO_52.out (fun _ hk=>⟨hk.1.1,hk.1.2⟩)⟩,⟨rM HO_729000.out (fun _ hk=>hk.1)⟩,⟨rM HO_729001.out (fun _ hk=>hk.1)⟩,⟨kX BK728.out⟩,⟨bX1 HB.out GE728.out⟩⟩
 }
 }
 {
 rw [if_neg c126] at H
 have c126b0:(t744 == 4)=false:=beq_eq_false_iff_ne.mpr c126
 have c126b1:(t744 != 4)=true:=bne_iff_ne.mpr c126
 exact absurd ((Option.some.inj H).trans HRT.out) (by decide)
 }
 }
 {
 rw [if_neg c125] at H
 have c125b0:(t732 == 1)=false:=beq_eq_false_iff_ne.mpr c125
 have c125b1:(t732 != 1)=true:=bne_iff_ne.mpr c125
 by_cases c147:t745=0
 {
 rw [if_pos c147] at H
 have c147b0:(t745 == 0)=true:=beq_iff_eq.mpr c147
 have c147b1:(t745 != 0)=false:=bne_eq_false_iff_eq.mpr c147
 clear c147
 by_cases c148:t744=(wrap64 ((wrap64 (2*t732))+2))
 {
 rw [if_pos c148] at H
 have c148b0:(t744 == (wrap64 ((wrap64 (2*t732))+2)))=true:=beq_iff_eq.mpr c148
 have c148b1:(t744 != (wrap64 ((wrap64 (2*t732))+2)))=false:=bne_eq_false_iff_eq.mpr c148
 clear c148
 have H':=aM H
 clear H
 go_wp2_with (first|(go_at_call 13;(with_reducible refine(i_IsTurn.calls k2 _ _ t722 _ _ t725 _ _ (rd_L2 t729 x54_2) true _ ?side1 ?side2 ?side3 ?side4 ?side5 ?side6 A76.out).mono ?_);(case side1=>exact cX (Kd.R_reads' HO_729000.out).2.2);(case side2=>exact(Kd.R_reads' HO_729000.out).2.1);(case side3=>exact cX (Kd.R_reads' HO_729001.out).2.2);(case side4=>exact(Kd.R_reads' HO_729001.out).2.1);(case side5=>exact cX (cX HR739_0.out));(case side6=>exact HC739_0.out);rintro e w94 ⟨rfl,hb⟩;replace HO_52:=aM (Kd.S_below (sX HO_52.out) hb);replace HO_729000:=aM (Kd.R_below (rX HO_729000.out) hb);replace HO_729001:=aM (Kd.R_below (rX HO_729001.out) hb);replace HL739_0:=aM (Kd.R_below (rX HL739_0.out) hb);replace HO742:=aM (Kd.R_below (rX HO742.out) hb);replace BK728:=aM (bbX BK728.out hb);replace HR739_0:=aM (Kd.C_below (cX HR739_0.out) hb);replace HB:=aM (below_step (bX1 HB.out GE728.out) hb);(try clear hb);(try clear hk);obtain ⟨Ao95,co95,eo95⟩:=Kd.R_slice HO742.out;subst eo95)|(go_at_call 14;(with_reducible refine(laws_total.calls k2 _ _ t740 t747 _ ?side1 ?side2 A79.out).mono ?_);(case side1=>exact cX (Kd.R_reads' HO742.out).2.2);(case side2=>exact(Kd.R_reads' HO742.out).2.1);rintro e w' ⟨rfl,⟨nd,rfl⟩⟩))
 go_roundg k2
 case measure=>have:=HJ5.out;have:=HK2.out;omega
 case rel=>exact ⟨(wrap64 (x54_2+1)),vX,H',⟨by have:=HJ5.out;have:=HK2.out;omega⟩,⟨by(with_reducible repeat(first|apply Kd.S_alloc|apply Kd.S_drewN|apply Kd.S_drew));exact Kd.S_mono HO_52.out (fun _ hk=>⟨hk.1.1,hk.1.2⟩)⟩,⟨rM HO_729000.out (fun _ hk=>hk.1)⟩,⟨rM HO_729001.out (fun _ hk=>hk.1)⟩,⟨kX BK728.out⟩,⟨bX1 HB.out GE728.out⟩⟩
 }
 {
 rw [if_neg c148] at H
 have c148b0:(t744 == (wrap64 ((wrap64 (2*t732))+2)))=false:=beq_eq_false_iff_ne.mpr c148
 have c148b1:(t744 != (wrap64 ((wrap64 (2*t732))+2)))=true:=bne_iff_ne.mpr c148
 exact absurd ((Option.some.inj H).trans HRT.out) (by decide)
 }
 }
 {
 rw [if_neg c147] at H
 have c147b0:(t745 == 0)=false:=beq_eq_false_iff_ne.mpr c147
 have c147b1:(t745 != 0)=true:=bne_iff_ne.mpr c147
 have H':=aM H
 clear H
 go_wp2_with (first|(go_at_call 13;(with_reducible refine(i_IsTurn.calls k2 _ _ t722 _ _ t725 _ _ (rd_L2 t729 x54_2) true _ ?side1 ?side2 ?side3 ?side4 ?side5 ?side6 A76.out).mono ?_);(case side1=>exact cX (Kd.R_reads' HO_729000.out).2.2);(case side2=>exact(Kd.R_reads' HO_729000.out).2.1);(case side3=>exact cX (Kd.R_reads' HO_729001.out).2.2);(case side4=>exact(Kd.R_reads' HO_729001.out).2.1);(case side5=>exact cX (cX HR739_0.out));(case side6=>exact HC739_0.out);rintro e w94 ⟨rfl,hb⟩;replace HO_52:=aM (Kd.S_below (sX HO_52.out) hb);replace HO_729000:=aM (Kd.R_below (rX HO_729000.out) hb);replace HO_729001:=aM (Kd.R_below (rX HO_729001.out) hb);replace HL739_0:=aM (Kd.R_below (rX HL739_0.out) hb);replace HO742:=aM (Kd.R_below (rX HO742.out) hb);replace BK728:=aM (bbX BK728.out hb);replace HR739_0:=aM (Kd.C_below (cX HR739_0.out) hb);replace HB:=aM (below_step (bX1 HB.out GE728.out) hb);(try clear hb);(try clear hk);obtain ⟨Ao95,co95,eo95⟩:=Kd.R_slice HO742.out;subst eo95)|(go_at_call 14;(with_reducible refine(laws_total.calls k2 _ _ t740 t747 _ ?side1 ?side2 A79.out).mono ?_);(case side1=>exact cX (Kd.R_reads' HO742.out).2.2);(case side2=>exact(Kd.R_reads' HO742.out).2.1);rintro e w' ⟨rfl,⟨nd,rfl⟩⟩))
 go_roundg k2
 case measure=>have:=HJ5.out;have:=HK2.out;omega
 case rel=>exact ⟨(wrap64 (x54_2+1)),vX,H',⟨by have:=HJ5.out;have:=HK2.out;omega⟩,⟨by(with_reducible repeat(first|apply Kd.S_alloc|apply Kd.S_drewN|apply Kd.S_drew));exact Kd.S_mono HO_52.out (fun _ hk=>⟨hk.1.1,hk.1.2⟩)⟩,⟨rM HO_729000.out (fun _ hk=>hk.1)⟩,⟨rM HO_729001.out (fun _ hk=>hk.1)⟩,⟨kX BK728.out⟩,⟨bX1 HB.out GE728.out⟩⟩
 }
 }
 }
 }
 {
 rw [if_neg c80] at H
 have c80b0:(t747 == t744)=false:=beq_eq_false_iff_ne.mpr c80
 have c80b1:(t747 != t744)=true:=bne_iff_ne.mpr c80
 exact absurd ((Option.some.inj H).trans HRT.out) (by decide)
 }
 }
 {
 rw [if_neg c78] at H
 have c78b0:((t740.length:Int) == 4)=false:=beq_eq_false_iff_ne.mpr c78
 have c78b1:((t740.length:Int) != 4)=true:=bne_iff_ne.mpr c78
 exact absurd ((Option.some.inj H).trans HRT.out) (by decide)
 }
 }
 {
 replace c77:=Bool.eq_false_iff.mpr c77
 subst c77
 have H1:(some false)=some r:=by rw [if_neg (show ¬ (false=true) by decide)] at H;exact H
 clear H
 have H:=H1
 clear H1
 exact absurd ((Option.some.inj H).trans HRT.out) (by decide)
 }
 }
 {
 replace c75:=Bool.eq_false_iff.mpr c75
 subst c75
 have H1:(some false)=some r:=by rw [if_neg (show ¬ (false=true) by decide)] at H;exact H
 clear H
 have H:=H1
 clear H1
 exact absurd ((Option.some.inj H).trans HRT.out) (by decide)
 }
 }
 {
 rw [if_neg c71] at H
 exact absurd H (by simp)
 }
 }
 {
 rw [if_neg c70] at H
 exact absurd H (by simp)
 }
 }
 {
 rw [if_neg c69] at H
 have c69b0:=decide_eq_false c69
 clear c69
 replace H:=oB H
 obtain ⟨t738,A1670,H⟩:=H
 have A167:=aM A1670
 clear A1670
 obtain rfl:=Option.some.inj H
 obtain ⟨hcz168_0,hcz168_1,hfz168_0,hfz168_1⟩:=f2Z BK728.out
 go_wp2_with (first|((with_reducible refine gate_callee (f:=15) rfl ?_);refine goesL_ (some 124) rfl rfl Tryd.func15 (by kernel_rfl) rfl #[.agg #[.slice Ao9 t722.length co9,.slice Ao11 t725.length co11]] rfl aX ?_;(with_reducible refine(i_TurnLine.calls k2 _ _ t722 _ _ t725 t738 _ ?side1 ?side2 ?side3 ?side4 ?side5 A167.out).mono ?_);(case side1=>exact cX (Kd.R_reads' HO_729000.out).2.2);(case side2=>exact(Kd.R_reads' HO_729000.out).2.1);(case side3=>exact cX (Kd.R_reads' HO_729001.out).2.2);(case side4=>exact(Kd.R_reads' HO_729001.out).2.1);(case side5=>exact PowTab.below HTAB.out (bX1 HB.out GE728.out));rintro e w169 ⟨rfl,hb⟩;refine ⟨_,rfl,?_⟩;replace HO_52:=aM (Kd.S_below (sX HO_52.out) hb);replace HO_729000:=aM (Kd.R_below (rX HO_729000.out) hb);replace HO_729001:=aM (Kd.R_below (rX HO_729001.out) hb);replace BK728:=aM (bbX BK728.out hb);replace HB:=aM (below_step (bX1 HB.out GE728.out) hb);(try clear hb);(try clear hk)))
 go_ret
 exact ⟨(by have hz:∀ l:List UInt8,l.isEmpty=(!(l != [])) := by intro l; cases l <;> rfl
            first|rfl|(simp only [hz,Bool.not_not];done)|(simp [hz];done)),bX1 HB.out GE728.out⟩
 }
 }
 }

end Go.Proofs.YthhdgeafdnikcaaDoor.S
