-- PRINTED by print.py (a twelfth state) out of the translation. Not trusted: Lean checks it.
import Derived.Test.YtmhjcbcjpidegaaS0
import Derived.Test.YtmhjcbcjpidegaaS4
import Derived.Test.YtmhjcbcjpidegaaS5
import Derived.Test.YtmhjcbcjpidegaaS6
import Derived.Test.YtmhjcbcjpidegaaS7
namespace Go.Proofs.Ytmhjcbcjpidegaa.S
open Go.RowKit Go.Proofs.YtmhjcbcjpidegaaW.PrintWords Go.Proofs.YtmhjcbcjpidegaaW.PrintLast Go.Proofs.YtmhjcbcjpidegaaW.PrintMore
attribute [local go_sem] max2_int min2_int max_two min_two max_three min_three max_four min_four   -- for this text's walks alone
set_option linter.unusedVariables false
set_option linter.unusedSimpArgs false

/-! ### laws_FnGroup: function 4 -/
mutual
def laws_FnGroup.j0 : Nat→List Int→List ByteArray→Int→List Int→Bool→List Int→List Int→Option (Bool)
 | 0,_,_,_,_,_,_,_=>none
 | k+1,x0,x4,x6,x7,x42,x488000,x488001=>if x42=true then (some false) else (laws_FnGroup.l0 k x0 x4 x6 x7 x4 (x4.length:Int) 0 x488000 x488001)
def laws_FnGroup.l0 : Nat→List Int→List ByteArray→Int→List Int→List ByteArray→Int→Int→List Int→List Int→Option (Bool)
 | 0,_,_,_,_,_,_,_,_,_=>none
 | k+1,x0,x4,x6,x7,x43,x44,x45,x488000,x488001=>if x45<x44 then (if 0≤x45 then (if x45<(x43.length:Int) then ((impl_IsFixedBy.f k x488000 x488001 (rdOf ByteArray.empty x43 x45)).bind fun t498=>(if t498=true then (laws_FnGroup.l0 k x0 x4 x6 x7 x43 x44 (wrap64 (x45+1)) x488000 x488001) else (some false))) else (none)) else (none)) else ((spec_MakeNum.f k x0 40).bind fun t499=>(if (x4.length:Int)=0 then (none) else (if 0≤(Int.tmod t499 (x4.length:Int)) then (if (Int.tmod t499 (x4.length:Int))<(x4.length:Int) then ((spec_MakeNum.f k x0 42).bind fun t501=>(if 0≤(Int.tmod t501 (x4.length:Int)) then (if (Int.tmod t501 (x4.length:Int))<(x4.length:Int) then (if (wrap64 (((rdOf ByteArray.empty x4 (Int.tmod t499 (x4.length:Int))).size:Int)+((rdOf ByteArray.empty x4 (Int.tmod t501 (x4.length:Int))).size:Int)))≤40 then (if (rdOf ByteArray.empty x4 (Int.tmod t499 (x4.length:Int))).size+(rdOf ByteArray.empty x4 (Int.tmod t501 (x4.length:Int))).size≤9223372036854775807 then ((impl_IsFixedBy.f k x488000 x488001 ((rdOf ByteArray.empty x4 (Int.tmod t499 (x4.length:Int))) ++ (rdOf ByteArray.empty x4 (Int.tmod t501 (x4.length:Int))))).bind fun t503=>(if t503=true then ((impl_InverseWord.f k (rdOf ByteArray.empty x4 (Int.tmod t499 (x4.length:Int)))).bind fun t504=>(if t504.size+(rdOf ByteArray.empty x4 (Int.tmod t501 (x4.length:Int))).size≤9223372036854775807 then ((impl_IsFixedBy.f k x488000 x488001 (t504 ++ (rdOf ByteArray.empty x4 (Int.tmod t501 (x4.length:Int))))).bind fun t505=>(laws_FnGroup.j2 k x6 x7 (!t505) x488000 x488001)) else (none))) else (laws_FnGroup.j2 k x6 x7 true x488000 x488001))) else (none)) else (laws_FnGroup.j2 k x6 x7 false x488000 x488001)) else (none)) else (none))) else (none)) else (none))))
def laws_FnGroup.j2 : Nat→Int→List Int→Bool→List Int→List Int→Option (Bool)
 | 0,_,_,_,_,_=>none
 | k+1,x6,x7,x92,x488000,x488001=>if x92=true then (some false) else ((impl_HasHalfTurn.f k x488000 x488001).bind fun t506=>(if t506=true then ((impl_CurveGenus.f k x488000 x488001).bind fun t507=>((impl_TurnsInOrbit.f k x488000 x488001).bind fun t508=>((impl_SixthsInOrbit.f k x488000 x488001).bind fun t509=>(laws_FnGroup.j3 k x6 ((wrap64 (12*t507)) != (wrap64 ((wrap64 ((wrap64 ((wrap64 (12+x6)) - (wrap64 (3*t508)))) - (wrap64 (4*t509)))) - (wrap64 (6*(x7.length:Int)))))) x488000 x488001)))) else (laws_FnGroup.j3 k x6 false x488000 x488001)))
def laws_FnGroup.j3 : Nat→Int→Bool→List Int→List Int→Option (Bool)
 | 0,_,_,_,_=>none
 | k+1,x6,x114,x488000,x488001=>if x114=true then (some false) else ((impl_IsFullGroup.f k x488000 x488001).bind fun t510=>(if (t510 == (x6 == 1))=true then ((impl_TurnsInOrbit.f k x488000 x488001).bind fun t511=>(if t511≤x6 then ((impl_GroupLine.f k x488000 x488001).bind fun t512=>(some (t512.toList != ([]:List UInt8)))) else (some false))) else (some false)))
end
def laws_FnGroup.f (k:Nat) (l0:List Int):Option (Bool):=if (l0.length:Int) > 1048576 then (some true) else ((spec_MakeFew.f k l0).bind fun bt481=>((impl_GeneratorWords.f k bt481.1 bt481.2).bind fun bt488=>((impl_IndexOf.f k bt481.1 bt481.2).bind fun t492=>((impl_CuspsOf.f k bt481.1 bt481.2).bind fun bt493=>(if bt488.2=true then (if bt493.2=true then (laws_FnGroup.j0 k l0 bt488.1 t492 bt493.1 ((bt488.1.length:Int) != (wrap64 (t492+1))) bt481.1 bt481.2) else (laws_FnGroup.j0 k l0 bt488.1 t492 bt493.1 true bt481.1 bt481.2)) else (laws_FnGroup.j0 k l0 bt488.1 t492 bt493.1 true bt481.1 bt481.2))))))
def laws_FnGroup.T17 : Bool × List (List Nat × List Nat):=(true,[([],[]),([0],[0]),([],[]),([2],[2]),([1,3],[1,3]),([4],[4]),([5],[5]),([6],[6]),([6],[6]),([6],[6]),([8,9,6],[6,8,9]),([7,10,6,6],[6,7,10]),([11,6],[6,11]),([12,11,6],[6,12]),([13],[13]),([13],[13]),([15,13,13],[13,15]),([13],[13]),([16,17,13],[13,16,17]),([14,18,16,13],[13,14,18]),([19,13],[13,19]),([13,20,6],[6,13,20]),([6,21],[6,21])])
def laws_FnGroup.B17 : List Nat:=[0,1,0,4,15,31,63,127,127,127,895,2047,4095,8191,16383,16383,49151,16383,245759,524287,1048575,2097151,4194303]
theorem laws_FnGroup.tab17 : rtab .any (opsOf Try.f4 17)=laws_FnGroup.T17:=by kernel_rfl
theorem laws_FnGroup.bits17 : waitsOk laws_FnGroup.T17.2 laws_FnGroup.B17=true:=by kernel_rfl
def laws_FnGroup.T19 : Bool × List (List Nat × List Nat):=(true,[([],[]),([0],[0]),([1,1],[1]),([2],[2]),([3,2,2],[2,3]),([4,2],[2,4]),([2],[2]),([6,2],[2,6]),([2],[2]),([8,4,2],[2,8]),([9,2],[2,9]),([7,10,2],[2,7,10]),([2],[2]),([12,9,2],[2,12]),([13,2],[2,13]),([11,14,2],[2,11,14]),([2],[2]),([16,2],[2,16]),([17,2],[2,17]),([15,18,2],[2,15,18]),([5,19,2],[2,5,19]),([2,20],[2,20])])
def laws_FnGroup.B19 : List Nat:=[0,1,3,7,15,31,7,71,7,287,799,2015,7,4895,13087,32735,7,65543,196615,524255,1048575,2097151]
theorem laws_FnGroup.tab19 : rtab .any (opsOf Try.f4 19)=laws_FnGroup.T19:=by kernel_rfl
theorem laws_FnGroup.bits19 : waitsOk laws_FnGroup.T19.2 laws_FnGroup.B19=true:=by kernel_rfl
set_option maxHeartbeats 8000000 in
set_option maxRecDepth 100000 in
theorem laws_FnGroup.calls (k:Nat) (A0:Option Addr) (c0:Nat) (l0:List Int) (r:Bool) (w:World) (hr0:Kd.C (Kd.int .u8) w A0 l0.length l0) (hc0:l0.length≤c0) (hrt_:r=true) (h:laws_FnGroup.f k l0=some r) :
  Calls Try.prog 4 #[.slice A0 l0.length c0] w fun e w'=>e = .returned (.bool r)∧Below w.heap.size w w':=by
 have hu27:=Try.underlying27
 have HR0:=aM hr0
 have HC0:=aM hc0
 clear hr0 hc0
 have HB:=aM (Below.refl w.heap.size w)
 have H:(if (l0.length:Int) > 1048576 then (some true) else ((spec_MakeFew.f k l0).bind fun bt481=>((impl_GeneratorWords.f k bt481.1 bt481.2).bind fun bt488=>((impl_IndexOf.f k bt481.1 bt481.2).bind fun t492=>((impl_CuspsOf.f k bt481.1 bt481.2).bind fun bt493=>(if bt488.2=true then (if bt493.2=true then (laws_FnGroup.j0 k l0 bt488.1 t492 bt493.1 ((bt488.1.length:Int) != (wrap64 (t492+1))) bt481.1 bt481.2) else (laws_FnGroup.j0 k l0 bt488.1 t492 bt493.1 true bt481.1 bt481.2)) else (laws_FnGroup.j0 k l0 bt488.1 t492 bt493.1 true bt481.1 bt481.2)))))))=some r:=h
 clear h
 have HRT:=aM hrt_
 clear hrt_
 by_cases c2:(l0.length:Int) > 1048576
 {
 rw [if_pos c2] at H
 have c2b0:=decide_eq_true c2
 have c2b1:decide (1048576<l0.length)=true:=decide_eq_true (by omega)
 clear c2
 obtain rfl:=Option.some.inj H
 go_enter Try.func4,Try.ntmps4
 go_wp2
 go_ret
 exact ⟨eX,bX HB.out⟩
 }
 {
 rw [if_neg c2] at H
 have c2b0:=decide_eq_false c2
 have c2b1:decide (1048576<l0.length)=false:=decide_eq_false (by omega)
 clear c2
 replace H:=oB H
 obtain ⟨⟨t481,t484⟩,A30,H⟩:=H
 replace H:((impl_GeneratorWords.f k t481 t484).bind fun bt488=>((impl_IndexOf.f k t481 t484).bind fun t492=>((impl_CuspsOf.f k t481 t484).bind fun bt493=>(if bt488.2=true then (if bt493.2=true then (laws_FnGroup.j0 k l0 bt488.1 t492 bt493.1 ((bt488.1.length:Int) != (wrap64 (t492+1))) t481 t484) else (laws_FnGroup.j0 k l0 bt488.1 t492 bt493.1 true t481 t484)) else (laws_FnGroup.j0 k l0 bt488.1 t492 bt493.1 true t481 t484)))))=some r:=H
 have A3:=aM A30
 clear A30
 replace H:=oB H
 obtain ⟨⟨t488,t491⟩,A40,H⟩:=H
 replace H:((impl_IndexOf.f k t481 t484).bind fun t492=>((impl_CuspsOf.f k t481 t484).bind fun bt493=>(if t491=true then (if bt493.2=true then (laws_FnGroup.j0 k l0 t488 t492 bt493.1 ((t488.length:Int) != (wrap64 (t492+1))) t481 t484) else (laws_FnGroup.j0 k l0 t488 t492 bt493.1 true t481 t484)) else (laws_FnGroup.j0 k l0 t488 t492 bt493.1 true t481 t484))))=some r:=H
 have A4:=aM A40
 clear A40
 replace H:=oB H
 obtain ⟨t492,A50,H⟩:=H
 have A5:=aM A50
 clear A50
 replace H:=oB H
 obtain ⟨⟨t493,t496⟩,A60,H⟩:=H
 replace H:(if t491=true then (if t496=true then (laws_FnGroup.j0 k l0 t488 t492 t493 ((t488.length:Int) != (wrap64 (t492+1))) t481 t484) else (laws_FnGroup.j0 k l0 t488 t492 t493 true t481 t484)) else (laws_FnGroup.j0 k l0 t488 t492 t493 true t481 t484))=some r:=H
 have A6:=aM A60
 clear A60
 have HC7:=aM H
 clear H
 go_enter Try.func4,Try.ntmps4
 go_upto_region 7 with (first|((with_reducible refine gate_callee (f:=10) rfl ?_);refine goesL_ (some 17) rfl rfl Try.func10 (by kernel_rfl) rfl #[.slice A0 l0.length c0] rfl aX ?_;(with_reducible refine(spec_MakeFew.calls k _ _ l0 t481 t484 _ ?side1 ?side2 A3.out).mono ?_);(case side1=>exact cX HR0.out);(case side2=>exact HC0.out);rintro e w8 ⟨v482,v485,rfl,ho0,ho1,hb⟩;refine ⟨_,rfl,?_⟩;have HO483:=aM (Kd.R_lower ho0 (below_size (bX HB.out)));have HO486:=aM (Kd.R_lower ho1 (below_size (bX HB.out)));replace HB:=aM (below_step (bX HB.out) hb);(try clear hb);(try clear hk);(try clear ho0);(try clear ho1))|((with_reducible refine gate_dst (N:=3) rfl ?_);(try(refine gate_guard (by rfl) ?_;dsimp only));refine bEv (cs:=#[.slice none 0 0,.slice none 0 0]) (t:=27) ?_;intro gb487 hg w9 hbox hb;replace HO483:=aM (Kd.R_below (rX HO483.out) hb);replace HO486:=aM (Kd.R_below (rX HO486.out) hb);have BK487:=aM (hbox);have GW487:=aM ((szX (below_size (bX HB.out)) hg:w.heap.size≤gb487));have GE487:=GW487;replace HB:=aM (below_step (bX HB.out) hb);clear hb hbox hg;obtain ⟨Ao10,co10,eo10⟩:=Kd.R_slice HO483.out;subst eo10;obtain ⟨hcz11_0,hcz11_1,hfz11_0,hfz11_1⟩:=f2Z BK487.out;obtain ⟨Ao12,co12,eo12⟩:=Kd.R_slice HO486.out;subst eo12)|((with_reducible refine gate_callee (f:=11) rfl ?_);refine goesL_ (some 20) rfl rfl Try.func11 (by kernel_rfl) rfl #[.agg #[.slice Ao10 t481.length co10,.slice Ao12 t484.length co12]] rfl aX ?_;(with_reducible refine(impl_GeneratorWords.calls k _ _ t481 _ _ t484 t488 t491 _ ?side1 ?side2 ?side3 ?side4 A4.out).mono ?_);(case side1=>exact rcX (fr2 HO483.out BK487.out (.slice Ao10 t481.length co10) (.slice Ao12 t484.length co12)));(case side2=>exact(Kd.R_reads' HO483.out).2.1);(case side3=>exact rcX (fr2 HO486.out BK487.out (.slice Ao10 t481.length co10) (.slice Ao12 t484.length co12)));(case side4=>exact(Kd.R_reads' HO486.out).2.1);rintro e w13 ⟨v489,rfl,ho0,hb⟩;refine ⟨_,rfl,?_⟩;replace HO483:=aM (Kd.R_below (rX (fr2 HO483.out BK487.out (.slice Ao10 t481.length co10) (.slice Ao12 t484.length co12))) hb);replace HO486:=aM (Kd.R_below (rX (fr2 HO486.out BK487.out (.slice Ao10 t481.length co10) (.slice Ao12 t484.length co12))) hb);have HO490:=aM (Kd.R_lower ho0 (below_size (bX1 HB.out GE487.out)));replace BK487:=aM (blk_below (g:=gb487) (o:=.cells #[.slice Ao10 t481.length co10,.slice Ao12 t484.length co12] 27 (0,0)) (by(with_reducible repeat(first|refine kN ?_ _|refine kD ?_|refine kA ?_ _));refine blk_put (cs:=#[.slice Ao10 t481.length co10,.slice none 0 0]) ?_ 1 _ rfl;(with_reducible repeat(first|refine kN ?_ _|refine kD ?_|refine kA ?_ _));refine blk_put (cs:=#[.slice none 0 0,.slice none 0 0]) ?_ 0 _ rfl;(with_reducible repeat(first|refine kN ?_ _|refine kD ?_|refine kA ?_ _));exact BK487.out) hb);replace HB:=aM (below_step (bX1 HB.out GE487.out) hb);(try clear hb);(try clear hk);(try clear ho0);obtain ⟨hcz14_0,hcz14_1,hfz14_0,hfz14_1⟩:=f2Z BK487.out)|((with_reducible refine gate_callee (f:=12) rfl ?_);refine goesL_ (some 24) rfl rfl Try.func12 (by kernel_rfl) rfl #[.agg #[.slice Ao10 t481.length co10,.slice Ao12 t484.length co12]] rfl aX ?_;(with_reducible refine(impl_IndexOf.calls k _ _ t481 _ _ t484 t492 _ ?side1 ?side2 ?side3 ?side4 A5.out).mono ?_);(case side1=>exact cX (Kd.R_reads' HO483.out).2.2);(case side2=>exact(Kd.R_reads' HO483.out).2.1);(case side3=>exact cX (Kd.R_reads' HO486.out).2.2);(case side4=>exact(Kd.R_reads' HO486.out).2.1);rintro e w15 ⟨rfl,hb⟩;refine ⟨_,rfl,?_⟩;replace HO483:=aM (Kd.R_below (rX HO483.out) hb);replace HO486:=aM (Kd.R_below (rX HO486.out) hb);replace HO490:=aM (Kd.R_below (rX HO490.out) hb);replace BK487:=aM (bbX BK487.out hb);replace HB:=aM (below_step (bX1 HB.out GE487.out) hb);(try clear hb);(try clear hk);obtain ⟨hcz16_0,hcz16_1,hfz16_0,hfz16_1⟩:=f2Z BK487.out)|((with_reducible refine gate_callee (f:=13) rfl ?_);refine goesL_ (some 27) rfl rfl Try.func13 (by kernel_rfl) rfl #[.agg #[.slice Ao10 t481.length co10,.slice Ao12 t484.length co12]] rfl aX ?_;(with_reducible refine(impl_CuspsOf.calls k _ _ t481 _ _ t484 t493 t496 _ ?side1 ?side2 ?side3 ?side4 A6.out).mono ?_);(case side1=>exact cX (Kd.R_reads' HO483.out).2.2);(case side2=>exact(Kd.R_reads' HO483.out).2.1);(case side3=>exact cX (Kd.R_reads' HO486.out).2.2);(case side4=>exact(Kd.R_reads' HO486.out).2.1);rintro e w17 ⟨v494,rfl,ho0,hb⟩;refine ⟨_,rfl,?_⟩;replace HO490:=aM (Kd.R_below (rX HO490.out) hb);have HO495:=aM (Kd.R_lower (Kd.R_new' (Kd.R_new' ho0 (Kd.R_lt (rX HO483.out))) (Kd.R_lt (rX HO486.out))) (below_size (bX1 HB.out GE487.out)));replace HO483:=aM (Kd.R_elder' (rX HO483.out) (Kd.R_base ho0) hb);replace HO486:=aM (Kd.R_elder' (rX HO486.out) (Kd.R_base ho0) hb);replace BK487:=aM (bbX BK487.out hb);replace HB:=aM (below_step (bX1 HB.out GE487.out) hb);(try clear hb);(try clear hk);(try clear ho0)))
 (try simp only [Act.put,List.setIfInBounds_toArray,List.set_cons_zero,List.set_cons_succ])
 go_cut [42] (fun v42 wc=>∃ (kq:Nat) (x42_6:Bool),v42 = .bool x42_6∧Aside0 (laws_FnGroup.j0 kq l0 t488 t492 t493 x42_6 t481 t484=some r)∧Aside0 (kq≤k)∧Aside0 (Kd.R Kd.string 9 wc w.heap.size (fun _=>True) v489 t488)∧Aside0 (Kd.R (Kd.int .i64) 3 wc w.heap.size (fun k_=>some k_≠((.slice Ao10 t481.length co10):Value).ownBlock∧some k_≠((.slice Ao12 t484.length co12):Value).ownBlock) v494 t493)∧Aside0 (Kd.R (Kd.int .i64) 3 wc w.heap.size (fun k_=>some k_≠(v494:Value).ownBlock∧some k_≠((.slice Ao12 t484.length co12):Value).ownBlock) (.slice Ao10 t481.length co10) t481)∧Aside0 (Kd.R (Kd.int .i64) 3 wc w.heap.size (fun k_=>some k_≠(v494:Value).ownBlock∧some k_≠((.slice Ao10 t481.length co10):Value).ownBlock) (.slice Ao12 t484.length co12) t484)∧Aside0 (wc.heap[gb487]? = some (.cells #[(.slice Ao10 t481.length co10),(.slice Ao12 t484.length co12)] 27 (0,0)))∧Aside0 (Below w.heap.size w wc))
 case first =>
  have H:=HC7.out
  clear HC7
  by_cases c18:t491=true
  {
  subst c18
  have H1:(if t496=true then (laws_FnGroup.j0 k l0 t488 t492 t493 ((t488.length:Int) != (wrap64 (t492+1))) t481 t484) else (laws_FnGroup.j0 k l0 t488 t492 t493 true t481 t484))=some r:=by rw [if_pos rfl] at H;exact H
  clear H
  have H:=H1
  clear H1
  by_cases c19:t496=true
  {
  subst c19
  have H1:(laws_FnGroup.j0 k l0 t488 t492 t493 ((t488.length:Int) != (wrap64 (t492+1))) t481 t484)=some r:=by rw [if_pos rfl] at H;exact H
  clear H
  have H:=H1
  clear H1
  have H':=aM H
  clear H
  obtain ⟨Ao20,co20,eo20⟩:=Kd.R_slice HO490.out
  subst eo20
  go_wp2
  go_meet
  case rel=>exact ⟨_,(((t488.length:Int) != (wrap64 (t492+1)))),vX,H',⟨by first|omega|exact Nat.le_refl _⟩,⟨rX HO490.out⟩,⟨rM HO495.out (fun _ hk=>⟨hk.1.2,hk.2⟩)⟩,⟨rM HO483.out (fun _ hk=>⟨hk.2,hk.1⟩)⟩,⟨rM HO486.out (fun _ hk=>⟨hk.2,hk.1⟩)⟩,⟨kX BK487.out⟩,⟨bX1 HB.out GE487.out⟩⟩
  }
  {
  replace c19:=Bool.eq_false_iff.mpr c19
  subst c19
  have H1:(laws_FnGroup.j0 k l0 t488 t492 t493 true t481 t484)=some r:=by rw [if_neg (show ¬ (false=true) by decide)] at H;exact H
  clear H
  have H:=H1
  clear H1
  have H':=aM H
  clear H
  go_wp2
  go_meet
  case rel=>exact ⟨_,(true),vX,H',⟨by first|omega|exact Nat.le_refl _⟩,⟨rX HO490.out⟩,⟨rM HO495.out (fun _ hk=>⟨hk.1.2,hk.2⟩)⟩,⟨rM HO483.out (fun _ hk=>⟨hk.2,hk.1⟩)⟩,⟨rM HO486.out (fun _ hk=>⟨hk.2,hk.1⟩)⟩,⟨kX BK487.out⟩,⟨bX1 HB.out GE487.out⟩⟩
  }
  }
  {
  replace c18:=Bool.eq_false_iff.mpr c18
  subst c18
  have H1:(laws_FnGroup.j0 k l0 t488 t492 t493 true t481 t484)=some r:=by rw [if_neg (show ¬ (false=true) by decide)] at H;exact H
  clear H
  have H:=H1
  clear H1
  have H':=aM H
  clear H
  go_wp2
  go_meet
  case rel=>exact ⟨_,(true),vX,H',⟨by first|omega|exact Nat.le_refl _⟩,⟨rX HO490.out⟩,⟨rM HO495.out (fun _ hk=>⟨hk.1.2,hk.2⟩)⟩,⟨rM HO483.out (fun _ hk=>⟨hk.2,hk.1⟩)⟩,⟨rM HO486.out (fun _ hk=>⟨hk.2,hk.1⟩)⟩,⟨kX BK487.out⟩,⟨bX1 HB.out GE487.out⟩⟩
  }
 case rest =>
 clear HC7
 try clear c2
 try clear c2b0
 try clear c2b1
 try clear c18
 try clear c19
 try clear hcz11_0
 try clear hcz11_1
 try clear hcz14_0
 try clear hcz14_1
 try clear hcz16_0
 try clear hcz16_1
 try clear hfz11_0
 try clear hfz11_1
 try clear hfz14_0
 try clear hfz14_1
 try clear hfz16_0
 try clear hfz16_1
 obtain ⟨kq,x42_6,rfl,HA,HJ6,HO_4,HO_7,HO_488000,HO_488001,BK487,HB⟩:=hcut
 cases kq with
 | zero=>exact absurd HA.out (by simp [laws_FnGroup.j0])
 | succ kj6 =>
 have H:=HA.out
 clear HA
 simp only [laws_FnGroup.j0] at H
 by_cases c21:x42_6=true
 {
 subst c21
 have H1:(some false)=some r:=by rw [if_pos rfl] at H;exact H
 clear H
 have H:=H1
 clear H1
 exact absurd ((Option.some.inj H).trans HRT.out) (by decide)
 }
 {
 replace c21:=Bool.eq_false_iff.mpr c21
 subst c21
 have H1:(laws_FnGroup.l0 kj6 l0 t488 t492 t493 t488 (t488.length:Int) 0 t481 t484)=some r:=by rw [if_neg (show ¬ (false=true) by decide)] at H;exact H
 clear H
 have H:=H1
 clear H1
 have H':=aM H
 clear H
 obtain ⟨Ao22,co22,eo22⟩:=Kd.R_slice HO_4.out
 subst eo22
 go_wp2
 go_loopg [45] kj6 (fun kq v45 w'=>∃ (x45_2:Int),v45 = .int .i64 x45_2∧Aside0 (laws_FnGroup.l0 kq l0 t488 t492 t493 t488 (t488.length:Int) x45_2 t481 t484=some r)∧Aside0 (kq≤kj6)∧Aside0 (Kd.R Kd.string 9 w' w.heap.size (fun _=>True) (.slice Ao22 t488.length co22) t488)∧Aside0 (Kd.R (Kd.int .i64) 3 w' w.heap.size (fun k_=>some k_≠((.slice Ao10 t481.length co10):Value).ownBlock∧some k_≠((.slice Ao12 t484.length co12):Value).ownBlock) v494 t493)∧Aside0 (Kd.R Kd.string 9 w' w.heap.size (fun _=>True) (.slice Ao22 t488.length co22) t488)∧Aside0 (Kd.R (Kd.int .i64) 3 w' w.heap.size (fun k_=>some k_≠(v494:Value).ownBlock∧some k_≠((.slice Ao12 t484.length co12):Value).ownBlock) (.slice Ao10 t481.length co10) t481)∧Aside0 (Kd.R (Kd.int .i64) 3 w' w.heap.size (fun k_=>some k_≠(v494:Value).ownBlock∧some k_≠((.slice Ao10 t481.length co10):Value).ownBlock) (.slice Ao12 t484.length co12) t484)∧Aside0 (w'.heap[gb487]? = some (.cells #[(.slice Ao10 t481.length co10),(.slice Ao12 t484.length co12)] 27 (0,0)))∧Aside0 (Below w.heap.size w w'))
 case atStart=>exact ⟨(0),vX,H',⟨Nat.le_refl _⟩,⟨rX HO_4.out⟩,⟨rX HO_7.out⟩,⟨rX HO_4.out⟩,⟨rX HO_488000.out⟩,⟨rX HO_488001.out⟩,⟨kX BK487.out⟩,⟨bX1 HB.out GE487.out⟩⟩
 case round =>
 clear H'
 try clear c2
 try clear c2b0
 try clear c2b1
 try clear c18
 try clear c19
 try clear c21
 try clear hcz11_0
 try clear hcz11_1
 try clear hcz14_0
 try clear hcz14_1
 try clear hcz16_0
 try clear hcz16_1
 try clear hfz11_0
 try clear hfz11_1
 try clear hfz14_0
 try clear hfz14_1
 try clear hfz16_0
 try clear hfz16_1
 obtain ⟨x45_2,rfl,HA,HK2,HO_4,HO_7,HO_43,HO_488000,HO_488001,BK487,HB⟩:=hrel
 cases gk with
 | zero=>exact absurd HA.out (by simp [laws_FnGroup.l0])
 | succ k2 =>
 have H:=HA.out
 clear HA
 simp only [laws_FnGroup.l0] at H
 by_cases c23:x45_2<(t488.length:Int)
 {
 rw [if_pos c23] at H
 have c23b0:=decide_eq_true c23
 clear c23
 by_cases c24:0≤x45_2
 {
 rw [if_pos c24] at H
 have c24b0:=decide_eq_true c24
 clear c24
 by_cases c25:x45_2<(t488.length:Int)
 {
 rw [if_pos c25] at H
 have c25b0:=decide_eq_true c25
 clear c25
 replace H:=oB H
 obtain ⟨t498,A260,H⟩:=H
 have A26:=aM A260
 clear A260
 by_cases c27:t498=true
 {
 subst c27
 have H1:(laws_FnGroup.l0 k2 l0 t488 t492 t493 t488 (t488.length:Int) (wrap64 (x45_2+1)) t481 t484)=some r:=by rw [if_pos rfl] at H;exact H
 clear H
 have H:=H1
 clear H1
 have H':=aM H
 clear H
 have p497:0≤(x45_2:Int):=dX
 have q497:x45_2<(t488.length:Int):=dX
 obtain ⟨ad497,e497,hx497_0⟩:=Kd.at_string (Kd.R_reads' HO_43.out).2.2 x45_2 p497 q497
 cases e497
 replace p497:=eq_true p497
 replace q497:=eq_true q497
 obtain ⟨hcz28_0,hcz28_1,hfz28_0,hfz28_1⟩:=f2Z BK487.out
 go_wp2_with (first|((with_reducible refine gate_callee (f:=14) rfl ?_);refine goesL_ (some 51) rfl rfl Try.func14 (by kernel_rfl) rfl #[.agg #[.slice Ao10 t481.length co10,.slice Ao12 t484.length co12],.string (rdOf ByteArray.empty t488 x45_2)] rfl aX ?_;(with_reducible refine(impl_IsFixedBy.calls k2 _ _ t481 _ _ t484 (rdOf ByteArray.empty t488 x45_2) true _ ?side1 ?side2 ?side3 ?side4 A26.out).mono ?_);(case side1=>exact cX (Kd.R_reads' HO_488000.out).2.2);(case side2=>exact(Kd.R_reads' HO_488000.out).2.1);(case side3=>exact cX (Kd.R_reads' HO_488001.out).2.2);(case side4=>exact(Kd.R_reads' HO_488001.out).2.1);rintro e w29 ⟨rfl,hb⟩;refine ⟨_,rfl,?_⟩;replace HO_4:=aM (Kd.R_below (rX HO_4.out) hb);replace HO_7:=aM (Kd.R_below (rX HO_7.out) hb);replace HO_43:=aM (Kd.R_below (rX HO_43.out) hb);replace HO_488000:=aM (Kd.R_below (rX HO_488000.out) hb);replace HO_488001:=aM (Kd.R_below (rX HO_488001.out) hb);replace BK487:=aM (bbX BK487.out hb);replace HB:=aM (below_step (bX1 HB.out GE487.out) hb);(try clear hb);(try clear hk)))
 go_roundg k2
 case measure=>have:=HJ6.out;have:=HK2.out;omega
 case rel=>exact ⟨(wrap64 (x45_2+1)),vX,H',⟨by have:=HJ6.out;have:=HK2.out;omega⟩,⟨rX HO_4.out⟩,⟨rX HO_7.out⟩,⟨rX HO_43.out⟩,⟨rX HO_488000.out⟩,⟨rX HO_488001.out⟩,⟨kX BK487.out⟩,⟨bX1 HB.out GE487.out⟩⟩
 }
 {
 replace c27:=Bool.eq_false_iff.mpr c27
 subst c27
 have H1:(some false)=some r:=by rw [if_neg (show ¬ (false=true) by decide)] at H;exact H
 clear H
 have H:=H1
 clear H1
 exact absurd ((Option.some.inj H).trans HRT.out) (by decide)
 }
 }
 {
 rw [if_neg c25] at H
 exact absurd H (by simp)
 }
 }
 {
 rw [if_neg c24] at H
 exact absurd H (by simp)
 }
 }
 {
 rw [if_neg c23] at H
 have c23b0:=decide_eq_false c23
 clear c23
 replace H:=oB H
 obtain ⟨t499,A300,H⟩:=H
 have A30:=aM A300
 clear A300
 by_cases c31:(t488.length:Int)=0
 {
 rw [if_pos c31] at H
 exact absurd H (by simp)
 }
 {
 rw [if_neg c31] at H
 have c31b0:((t488.length:Int) == 0)=false:=beq_eq_false_iff_ne.mpr c31
 have c31b1:((t488.length:Int) != 0)=true:=bne_iff_ne.mpr c31
 have c31b2:¬ (t488=[]):=fun h_=>c31 (by rw [h_];rfl)
 obtain ⟨ji32,hji32⟩:∃ j_:Int,(Int.tmod t499 (t488.length:Int))=j_:=⟨_,rfl⟩
 replace H:(if 0≤(ji32) then (if (ji32)<(t488.length:Int) then ((spec_MakeNum.f k2 l0 42).bind fun t501=>(if 0≤(Int.tmod t501 (t488.length:Int)) then (if (Int.tmod t501 (t488.length:Int))<(t488.length:Int) then (if (wrap64 (((rdOf ByteArray.empty t488 (ji32)).size:Int)+((rdOf ByteArray.empty t488 (Int.tmod t501 (t488.length:Int))).size:Int)))≤40 then (if (rdOf ByteArray.empty t488 (ji32)).size+(rdOf ByteArray.empty t488 (Int.tmod t501 (t488.length:Int))).size≤9223372036854775807 then ((impl_IsFixedBy.f k2 t481 t484 ((rdOf ByteArray.empty t488 (ji32)) ++ (rdOf ByteArray.empty t488 (Int.tmod t501 (t488.length:Int))))).bind fun t503=>(if t503=true then ((impl_InverseWord.f k2 (rdOf ByteArray.empty t488 (ji32))).bind fun t504=>(if t504.size+(rdOf ByteArray.empty t488 (Int.tmod t501 (t488.length:Int))).size≤9223372036854775807 then ((impl_IsFixedBy.f k2 t481 t484 (t504 ++ (rdOf ByteArray.empty t488 (Int.tmod t501 (t488.length:Int))))).bind fun t505=>(laws_FnGroup.j2 k2 t492 t493 (!t505) t481 t484)) else (none))) else (laws_FnGroup.j2 k2 t492 t493 true t481 t484))) else (none)) else (laws_FnGroup.j2 k2 t492 t493 false t481 t484)) else (none)) else (none))) else (none)) else (none))=some r:=by first|(rw [hji32] at H;exact H)|(simp only [hji32] at H ⊢;exact H)
 (try rw [hji32] at A30)
 by_cases c33:0≤(ji32)
 {
 rw [if_pos c33] at H
 have c33b0:=decide_eq_true c33
 clear c33
 by_cases c34:(ji32)<(t488.length:Int)
 {
 rw [if_pos c34] at H
 have c34b0:=decide_eq_true c34
 clear c34
 replace H:=oB H
 obtain ⟨t501,A350,H⟩:=H
 have A35:=aM A350
 clear A350
 obtain ⟨ji36,hji36⟩:∃ j_:Int,(Int.tmod t501 (t488.length:Int))=j_:=⟨_,rfl⟩
 replace H:(if 0≤(ji36) then (if (ji36)<(t488.length:Int) then (if (wrap64 (((rdOf ByteArray.empty t488 (ji32)).size:Int)+((rdOf ByteArray.empty t488 (ji36)).size:Int)))≤40 then (if (rdOf ByteArray.empty t488 (ji32)).size+(rdOf ByteArray.empty t488 (ji36)).size≤9223372036854775807 then ((impl_IsFixedBy.f k2 t481 t484 ((rdOf ByteArray.empty t488 (ji32)) ++ (rdOf ByteArray.empty t488 (ji36)))).bind fun t503=>(if t503=true then ((impl_InverseWord.f k2 (rdOf ByteArray.empty t488 (ji32))).bind fun t504=>(if t504.size+(rdOf ByteArray.empty t488 (ji36)).size≤9223372036854775807 then ((impl_IsFixedBy.f k2 t481 t484 (t504 ++ (rdOf ByteArray.empty t488 (ji36)))).bind fun t505=>(laws_FnGroup.j2 k2 t492 t493 (!t505) t481 t484)) else (none))) else (laws_FnGroup.j2 k2 t492 t493 true t481 t484))) else (none)) else (laws_FnGroup.j2 k2 t492 t493 false t481 t484)) else (none)) else (none))=some r:=by first|(rw [hji36] at H;exact H)|(simp only [hji36] at H ⊢;exact H)
 (try rw [hji36] at A30)
 (try rw [hji36] at A35)
 by_cases c37:0≤(ji36)
 {
 rw [if_pos c37] at H
 have c37b0:=decide_eq_true c37
 clear c37
 by_cases c38:(ji36)<(t488.length:Int)
 {
 rw [if_pos c38] at H
 have c38b0:=decide_eq_true c38
 clear c38
 have HC39:=aM H
 clear H
 go_upto_region 17 with (first|((with_reducible refine gate_callee (f:=15) rfl ?_);refine goesL_ (some 56) rfl rfl Try.func15 (by kernel_rfl) rfl #[.slice A0 l0.length c0,.int .i64 40] rfl aX ?_;(with_reducible refine(spec_MakeNum.calls k2 _ _ l0 40 t499 _ ?side1 ?side2 A30.out).mono ?_);(case side1=>exact cX (Kd.C_below HR0.out HB.out));(case side2=>exact HC0.out);rintro e w40 ⟨rfl,hb⟩;refine ⟨_,rfl,?_⟩;replace HO_4:=aM (Kd.R_below (rX HO_4.out) hb);replace HO_7:=aM (Kd.R_below (rX HO_7.out) hb);replace HO_43:=aM (Kd.R_below (rX HO_43.out) hb);replace HO_488000:=aM (Kd.R_below (rX HO_488000.out) hb);replace HO_488001:=aM (Kd.R_below (rX HO_488001.out) hb);replace BK487:=aM (bbX BK487.out hb);replace HB:=aM (below_step (bX1 HB.out GE487.out) hb);(try clear hb);(try clear hk);have p500:0≤((ji32):Int):=dX;have q500:(ji32)<(t488.length:Int):=dX;obtain ⟨ad500,e500,hx500_0⟩:=Kd.at_string (Kd.R_reads' HO_4.out).2.2 (ji32) p500 q500;cases e500;replace p500:=eq_true p500;replace q500:=eq_true q500)|((with_reducible refine gate_callee (f:=15) rfl ?_);refine goesL_ (some 64) rfl rfl Try.func15 (by kernel_rfl) rfl #[.slice A0 l0.length c0,.int .i64 42] rfl aX ?_;(with_reducible refine(spec_MakeNum.calls k2 _ _ l0 42 t501 _ ?side1 ?side2 A35.out).mono ?_);(case side1=>exact cX (Kd.C_below HR0.out HB.out));(case side2=>exact HC0.out);rintro e w41 ⟨rfl,hb⟩;refine ⟨_,rfl,?_⟩;replace HO_4:=aM (Kd.R_below (rX HO_4.out) hb);replace HO_7:=aM (Kd.R_below (rX HO_7.out) hb);replace HO_43:=aM (Kd.R_below (rX HO_43.out) hb);replace HO_488000:=aM (Kd.R_below (rX HO_488000.out) hb);replace HO_488001:=aM (Kd.R_below (rX HO_488001.out) hb);replace BK487:=aM (bbX BK487.out hb);replace HB:=aM (below_step (bX1 HB.out GE487.out) hb);(try clear hb);(try clear hk);have p502:0≤((ji36):Int):=dX;have q502:(ji36)<(t488.length:Int):=dX;obtain ⟨ad502,e502,hx502_0⟩:=Kd.at_string (Kd.R_reads' HO_4.out).2.2 (ji36) p502 q502;obtain rfl:ad500=ad502:=(by injection e502);replace p502:=eq_true p502;replace q502:=eq_true q502))
 (try simp only [Act.put,List.setIfInBounds_toArray,List.set_cons_zero,List.set_cons_succ])
 go_cut [92] (fun v92 wc=>∃ (kq:Nat) (x92_38:Bool),v92 = .bool x92_38∧Aside0 (laws_FnGroup.j2 kq t492 t493 x92_38 t481 t484=some r)∧Aside0 (kq≤k2)∧Aside0 (Kd.R (Kd.int .i64) 3 wc w.heap.size (fun k_=>some k_≠((.slice Ao10 t481.length co10):Value).ownBlock∧some k_≠((.slice Ao12 t484.length co12):Value).ownBlock) v494 t493)∧Aside0 (Kd.R (Kd.int .i64) 3 wc w.heap.size (fun k_=>some k_≠(v494:Value).ownBlock∧some k_≠((.slice Ao12 t484.length co12):Value).ownBlock) (.slice Ao10 t481.length co10) t481)∧Aside0 (Kd.R (Kd.int .i64) 3 wc w.heap.size (fun k_=>some k_≠(v494:Value).ownBlock∧some k_≠((.slice Ao10 t481.length co10):Value).ownBlock) (.slice Ao12 t484.length co12) t484)∧Aside0 (wc.heap[gb487]? = some (.cells #[(.slice Ao10 t481.length co10),(.slice Ao12 t484.length co12)] 27 (0,0)))∧Aside0 (Below w.heap.size w wc))
 case first =>
  have H:=HC39.out
  clear HC39
  by_cases c42:(wrap64 (((rdOf ByteArray.empty t488 (ji32)).size:Int)+((rdOf ByteArray.empty t488 (ji36)).size:Int)))≤40
  {
  rw [if_pos c42] at H
  have c42b0:=decide_eq_true c42
  clear c42
  (first|rw [c42b0]|(simp only [i64_w,i32_w];rw [c42b0])|skip)
  by_cases c43:(rdOf ByteArray.empty t488 (ji32)).size+(rdOf ByteArray.empty t488 (ji36)).size≤9223372036854775807
  {
  rw [if_pos c43] at H
  have c43b0:=eq_true c43
  have c43b1:=decide_eq_true c43
  try have c43b2:(9223372036854775807<(rdOf ByteArray.empty t488 (ji32)).size+(rdOf ByteArray.empty t488 (ji36)).size)=False:=eq_false (Nat.not_lt.2 c43)
  replace H:=oB H
  obtain ⟨t503,A440,H⟩:=H
  have A44:=aM A440
  clear A440
  by_cases c45:t503=true
  {
  subst c45
  have H1:((impl_InverseWord.f k2 (rdOf ByteArray.empty t488 (ji32))).bind fun t504=>(if t504.size+(rdOf ByteArray.empty t488 (ji36)).size≤9223372036854775807 then ((impl_IsFixedBy.f k2 t481 t484 (t504 ++ (rdOf ByteArray.empty t488 (ji36)))).bind fun t505=>(laws_FnGroup.j2 k2 t492 t493 (!t505) t481 t484)) else (none)))=some r:=by rw [if_pos rfl] at H;exact H
  clear H
  have H:=H1
  clear H1
  replace H:=oB H
  obtain ⟨t504,A460,H⟩:=H
  have A46:=aM A460
  clear A460
  by_cases c47:t504.size+(rdOf ByteArray.empty t488 (ji36)).size≤9223372036854775807
  {
  rw [if_pos c47] at H
  have c47b0:=eq_true c47
  have c47b1:=decide_eq_true c47
  try have c47b2:(9223372036854775807<t504.size+(rdOf ByteArray.empty t488 (ji36)).size)=False:=eq_false (Nat.not_lt.2 c47)
  replace H:=oB H
  obtain ⟨t505,A480,H⟩:=H
  have A48:=aM A480
  clear A480
  have H':=aM H
  clear H
  try go_wp2
  replace HO_4:=aM (Kd.R_drew HO_4.out)
  replace HO_7:=aM (Kd.R_drew HO_7.out)
  replace HO_43:=aM (Kd.R_drew HO_43.out)
  replace HO_488000:=aM (Kd.R_drew HO_488000.out)
  replace HO_488001:=aM (Kd.R_drew HO_488001.out)
  replace BK487:=aM (blk_drew BK487.out)
  replace HB:=aM (below_drew1 HB.out)
  refine start_ (n:=23) (S:=fun w'=>w'.cell? ⟨gb487,0,none⟩=some (.slice Ao10 t481.length co10)∧w'.cell? ⟨gb487,1,none⟩=some (.slice Ao12 t484.length co12)) (ds:=[]) #[ff,ff,ff,ff,ff,ff,ff,ff,ff,ff,ff,ff,ff,ff,ff,ff,ff,ff,ff,ff,ff,ff,ff] (by kernel_rfl) rfl rfl ⟨cz20 BK487.out,cz21 BK487.out⟩ (fun hHeld => ?_);refine with_tabW laws_FnGroup.tab17 laws_FnGroup.bits17 (fun HT_ HW_ => ?_)
  generalize w41.drew=w49 at HO_4 HO_7 HO_43 HO_488000 HO_488001 BK487 HB hHeld ⊢
  refine pX 0 70 (fl 23 1) rfl rfl HT_.out ?_
  refine pX 1 71 (fl 23 3) rfl rfl HT_.out ?_
  refine pX 2 72 (fl 23 7) rfl rfl HT_.out ?_
  refine pX 3 73 (fl 23 15) rfl rfl HT_.out ?_
  refine pX 4 74 (fl 23 31) rfl rfl HT_.out ?_
  refine pX 5 75 (fl 23 63) rfl rfl HT_.out ?_
  refine pX 6 76 (fl 23 127) rfl rfl HT_.out ?_
  refine pX 8 78 (fl 23 383) rfl rfl HT_.out ?_
  refine pX 9 79 (fl 23 895) rfl rfl HT_.out ?_
  refine pX 10 80 (fl 23 1919) rfl rfl HT_.out ?_
  refine tX2 7 77 (fl 23 2047) rfl rfl HT_.out HW_.out hHeld ?_
  refine one_ (i:=11) (N:=some 81) #[tt,tt,tt,tt,tt,tt,tt,tt,tt,tt,tt,tt,ff,ff,ff,ff,ff,ff,ff,ff,ff,ff,ff] rfl rfl (one_of HT_.out (by kernel_rfl)) (by decide) (fun K hK => ?_)
  refine goes_ Try.func14 (by kernel_rfl) rfl #[.agg #[.slice Ao10 t481.length co10,.slice Ao12 t484.length co12],.string ((rdOf ByteArray.empty t488 (ji32)) ++ (rdOf ByteArray.empty t488 (ji36)))] (by rfl) rfl rfl (by(try simp only [List.map_toArray,List.map_cons,List.map_nil]);first|done|(simp only [hji32,hji36];rfl)|rfl|(simp only [List.length_drop,List.length_take];rfl)) ?_
  with_reducible refine(impl_IsFixedBy.calls k2 _ _ t481 _ _ t484 ((rdOf ByteArray.empty t488 (ji32)) ++ (rdOf ByteArray.empty t488 (ji36))) true _ ?side1 ?side2 ?side3 ?side4 A44.out).mono ?_
  (case side1=>exact cX (Kd.R_reads' HO_488000.out).2.2)
  (case side2=>exact(Kd.R_reads' HO_488000.out).2.1)
  (case side3=>exact cX (Kd.R_reads' HO_488001.out).2.2)
  (case side4=>exact(Kd.R_reads' HO_488001.out).2.1)
  rintro e w50 ⟨rfl,hb⟩
  refine ⟨_,rfl,?_⟩
  replace HO_4:=aM (Kd.R_below (rX HO_4.out) hb)
  replace HO_7:=aM (Kd.R_below (rX HO_7.out) hb)
  replace HO_43:=aM (Kd.R_below (rX HO_43.out) hb)
  replace HO_488000:=aM (Kd.R_below (rX HO_488000.out) hb)
  replace HO_488001:=aM (Kd.R_below (rX HO_488001.out) hb)
  replace BK487:=aM (bbX BK487.out hb)
  replace HB:=aM (below_step (bX1 HB.out GE487.out) hb)
  (try clear hb)
  (try clear hk)
  refine hK.out _ _ ⟨cz20 BK487.out,cz21 BK487.out⟩ (fun hHeld => ?_)
  clear hK K
  refine norm_ (a':=?_) ?_ ?_
  rotate_left
  {
  show Act.put _ (some 81) _=_
  simp only [Act.put,zA,zB,zC,i64_w,i32_w]
  rfl
  }
  refine pX 12 82 (fl 23 8191) rfl rfl HT_.out ?_
  refine pX 13 83 (fl 23 16383) rfl rfl HT_.out ?_
  refine pX 15 85 (fl 23 49151) rfl rfl HT_.out ?_
  refine pX 17 87 (fl 23 180223) rfl rfl HT_.out ?_
  refine tX2 14 84 (fl 23 196607) rfl rfl HT_.out HW_.out hHeld ?_
  refine one_ (i:=16) (N:=some 86) #[tt,tt,tt,tt,tt,tt,tt,tt,tt,tt,tt,tt,tt,tt,tt,tt,tt,tt,ff,ff,ff,ff,ff] rfl rfl (one_of HT_.out (by kernel_rfl)) (by decide) (fun K hK => ?_)
  refine goes_ Try.func16 (by kernel_rfl) rfl #[.string (rdOf ByteArray.empty t488 (ji32))] (by rfl) rfl rfl (by(try simp only [List.map_toArray,List.map_cons,List.map_nil]);first|done|(simp only [hji32];rfl)|rfl|(simp only [List.length_drop,List.length_take];rfl)) ?_
  with_reducible refine(impl_InverseWord.calls k2 (rdOf ByteArray.empty t488 (ji32)) t504 _ A46.out).mono ?_
  rintro e w51 ⟨rfl,hb⟩
  refine ⟨_,rfl,?_⟩
  replace HO_4:=aM (Kd.R_below (rX HO_4.out) hb)
  replace HO_7:=aM (Kd.R_below (rX HO_7.out) hb)
  replace HO_43:=aM (Kd.R_below (rX HO_43.out) hb)
  replace HO_488000:=aM (Kd.R_below (rX HO_488000.out) hb)
  replace HO_488001:=aM (Kd.R_below (rX HO_488001.out) hb)
  replace BK487:=aM (bbX BK487.out hb)
  replace HB:=aM (below_step (bX1 HB.out GE487.out) hb)
  (try clear hb)
  (try clear hk)
  refine hK.out _ _ ⟨cz20 BK487.out,cz21 BK487.out⟩ (fun hHeld => ?_)
  clear hK K
  refine norm_ (a':=?_) ?_ ?_
  rotate_left
  {
  show Act.put _ (some 86) _=_
  simp only [Act.put,zA,zB,zC,i64_w,i32_w]
  rfl
  }
  refine pX 18 88 (fl 23 524287) rfl rfl HT_.out ?_
  refine one_ (i:=19) (N:=some 89) #[tt,tt,tt,tt,tt,tt,tt,tt,tt,tt,tt,tt,tt,tt,tt,tt,tt,tt,tt,tt,ff,ff,ff] rfl rfl (one_of HT_.out (by kernel_rfl)) (by decide) (fun K hK => ?_)
  refine goes_ Try.func14 (by kernel_rfl) rfl #[.agg #[.slice Ao10 t481.length co10,.slice Ao12 t484.length co12],.string (t504 ++ (rdOf ByteArray.empty t488 (ji36)))] (by rfl) rfl rfl (by(try simp only [List.map_toArray,List.map_cons,List.map_nil]);first|done|(simp only [hji36];rfl)|rfl|(simp only [List.length_drop,List.length_take];rfl)) ?_
  with_reducible refine(impl_IsFixedBy.calls k2 _ _ t481 _ _ t484 (t504 ++ (rdOf ByteArray.empty t488 (ji36))) t505 _ ?side1 ?side2 ?side3 ?side4 A48.out).mono ?_
  (case side1=>exact cX (Kd.R_reads' HO_488000.out).2.2)
  (case side2=>exact(Kd.R_reads' HO_488000.out).2.1)
  (case side3=>exact cX (Kd.R_reads' HO_488001.out).2.2)
  (case side4=>exact(Kd.R_reads' HO_488001.out).2.1)
  rintro e w52 ⟨rfl,hb⟩
  refine ⟨_,rfl,?_⟩
  replace HO_4:=aM (Kd.R_below (rX HO_4.out) hb)
  replace HO_7:=aM (Kd.R_below (rX HO_7.out) hb)
  replace HO_43:=aM (Kd.R_below (rX HO_43.out) hb)
  replace HO_488000:=aM (Kd.R_below (rX HO_488000.out) hb)
  replace HO_488001:=aM (Kd.R_below (rX HO_488001.out) hb)
  replace BK487:=aM (bbX BK487.out hb)
  replace HB:=aM (below_step (bX1 HB.out GE487.out) hb)
  (try clear hb)
  (try clear hk)
  refine hK.out _ _ ⟨cz20 BK487.out,cz21 BK487.out⟩ (fun hHeld => ?_)
  clear hK K
  refine norm_ (a':=?_) ?_ ?_
  rotate_left
  {
  show Act.put _ (some 89) _=_
  simp only [Act.put,zA,zB,zC,i64_w,i32_w]
  rfl
  }
  refine pX 20 90 (fl 23 2097151) rfl rfl HT_.out ?_
  refine pX 21 91 (fl 23 4194303) rfl rfl HT_.out ?_
  refine pX 22 92 (fl 23 8388607) rfl rfl HT_.out ?_
  refine done_ (done_of HT_.out (by kernel_rfl)) ?_
  try go_wp2
  go_meet
  case rel=>exact ⟨_,(!t505),vX,H',⟨by have:=HJ6.out;have:=HK2.out;first|omega|exact Nat.le_refl _⟩,⟨rX HO_7.out⟩,⟨rX HO_488000.out⟩,⟨rX HO_488001.out⟩,⟨kX BK487.out⟩,⟨bX1 HB.out GE487.out⟩⟩
  }
  {
  rw [if_neg c47] at H
  exact absurd H (by simp)
  }
  }
  {
  replace c45:=Bool.eq_false_iff.mpr c45
  subst c45
  have H1:(laws_FnGroup.j2 k2 t492 t493 true t481 t484)=some r:=by rw [if_neg (show ¬ (false=true) by decide)] at H;exact H
  clear H
  have H:=H1
  clear H1
  have H':=aM H
  clear H
  try go_wp2
  replace HO_4:=aM (Kd.R_drew HO_4.out)
  replace HO_7:=aM (Kd.R_drew HO_7.out)
  replace HO_43:=aM (Kd.R_drew HO_43.out)
  replace HO_488000:=aM (Kd.R_drew HO_488000.out)
  replace HO_488001:=aM (Kd.R_drew HO_488001.out)
  replace BK487:=aM (blk_drew BK487.out)
  replace HB:=aM (below_drew1 HB.out)
  refine start_ (n:=23) (S:=fun w'=>w'.cell? ⟨gb487,0,none⟩=some (.slice Ao10 t481.length co10)∧w'.cell? ⟨gb487,1,none⟩=some (.slice Ao12 t484.length co12)) (ds:=[]) #[ff,ff,ff,ff,ff,ff,ff,ff,ff,ff,ff,ff,ff,ff,ff,ff,ff,ff,ff,ff,ff,ff,ff] (by kernel_rfl) rfl rfl ⟨cz20 BK487.out,cz21 BK487.out⟩ (fun hHeld => ?_);refine with_tabW laws_FnGroup.tab17 laws_FnGroup.bits17 (fun HT_ HW_ => ?_)
  generalize w41.drew=w53 at HO_4 HO_7 HO_43 HO_488000 HO_488001 BK487 HB hHeld ⊢
  refine pX 0 70 (fl 23 1) rfl rfl HT_.out ?_
  refine pX 1 71 (fl 23 3) rfl rfl HT_.out ?_
  refine pX 2 72 (fl 23 7) rfl rfl HT_.out ?_
  refine pX 3 73 (fl 23 15) rfl rfl HT_.out ?_
  refine pX 4 74 (fl 23 31) rfl rfl HT_.out ?_
  refine pX 5 75 (fl 23 63) rfl rfl HT_.out ?_
  refine pX 6 76 (fl 23 127) rfl rfl HT_.out ?_
  refine pX 8 78 (fl 23 383) rfl rfl HT_.out ?_
  refine pX 9 79 (fl 23 895) rfl rfl HT_.out ?_
  refine pX 10 80 (fl 23 1919) rfl rfl HT_.out ?_
  refine tX2 7 77 (fl 23 2047) rfl rfl HT_.out HW_.out hHeld ?_
  refine one_ (i:=11) (N:=some 81) #[tt,tt,tt,tt,tt,tt,tt,tt,tt,tt,tt,tt,ff,ff,ff,ff,ff,ff,ff,ff,ff,ff,ff] rfl rfl (one_of HT_.out (by kernel_rfl)) (by decide) (fun K hK => ?_)
  refine goes_ Try.func14 (by kernel_rfl) rfl #[.agg #[.slice Ao10 t481.length co10,.slice Ao12 t484.length co12],.string ((rdOf ByteArray.empty t488 (ji32)) ++ (rdOf ByteArray.empty t488 (ji36)))] (by rfl) rfl rfl (by(try simp only [List.map_toArray,List.map_cons,List.map_nil]);first|done|(simp only [hji32,hji36];rfl)|rfl|(simp only [List.length_drop,List.length_take];rfl)) ?_
  with_reducible refine(impl_IsFixedBy.calls k2 _ _ t481 _ _ t484 ((rdOf ByteArray.empty t488 (ji32)) ++ (rdOf ByteArray.empty t488 (ji36))) false _ ?side1 ?side2 ?side3 ?side4 A44.out).mono ?_
  (case side1=>exact cX (Kd.R_reads' HO_488000.out).2.2)
  (case side2=>exact(Kd.R_reads' HO_488000.out).2.1)
  (case side3=>exact cX (Kd.R_reads' HO_488001.out).2.2)
  (case side4=>exact(Kd.R_reads' HO_488001.out).2.1)
  rintro e w54 ⟨rfl,hb⟩
  refine ⟨_,rfl,?_⟩
  replace HO_4:=aM (Kd.R_below (rX HO_4.out) hb)
  replace HO_7:=aM (Kd.R_below (rX HO_7.out) hb)
  replace HO_43:=aM (Kd.R_below (rX HO_43.out) hb)
  replace HO_488000:=aM (Kd.R_below (rX HO_488000.out) hb)
  replace HO_488001:=aM (Kd.R_below (rX HO_488001.out) hb)
  replace BK487:=aM (bbX BK487.out hb)
  replace HB:=aM (below_step (bX1 HB.out GE487.out) hb)
  (try clear hb)
  (try clear hk)
  refine hK.out _ _ ⟨cz20 BK487.out,cz21 BK487.out⟩ (fun hHeld => ?_)
  clear hK K
  refine norm_ (a':=?_) ?_ ?_
  rotate_left
  {
  show Act.put _ (some 81) _=_
  simp only [Act.put,zA,zB,zC,i64_w,i32_w]
  rfl
  }
  refine pX 12 82 (fl 23 8191) rfl rfl HT_.out ?_
  refine pX 13 83 (fl 23 16383) rfl rfl HT_.out ?_
  refine uX 14 84 (fl 23 32767) rfl rfl HT_.out ?_
  refine uX 15 85 (fl 23 65535) rfl rfl HT_.out ?_
  refine uX 16 86 (fl 23 131071) rfl rfl HT_.out ?_
  refine uX 17 87 (fl 23 262143) rfl rfl HT_.out ?_
  refine uX 18 88 (fl 23 524287) rfl rfl HT_.out ?_
  refine uX 19 89 (fl 23 1048575) rfl rfl HT_.out ?_
  refine uX 20 90 (fl 23 2097151) rfl rfl HT_.out ?_
  refine pX 21 91 (fl 23 4194303) rfl rfl HT_.out ?_
  refine pX 22 92 (fl 23 8388607) rfl rfl HT_.out ?_
  refine done_ (done_of HT_.out (by kernel_rfl)) ?_
  try go_wp2
  go_meet
  case rel=>exact ⟨_,(true),vX,H',⟨by have:=HJ6.out;have:=HK2.out;first|omega|exact Nat.le_refl _⟩,⟨rX HO_7.out⟩,⟨rX HO_488000.out⟩,⟨rX HO_488001.out⟩,⟨kX BK487.out⟩,⟨bX1 HB.out GE487.out⟩⟩
  }
  }
  {
  rw [if_neg c43] at H
  exact absurd H (by simp)
  }
  }
  {
  rw [if_neg c42] at H
  have c42b0:=decide_eq_false c42
  clear c42
  (first|rw [c42b0]|(simp only [i64_w,i32_w];rw [c42b0])|skip)
  have H':=aM H
  clear H
  try go_wp2
  replace HO_4:=aM (Kd.R_drew HO_4.out)
  replace HO_7:=aM (Kd.R_drew HO_7.out)
  replace HO_43:=aM (Kd.R_drew HO_43.out)
  replace HO_488000:=aM (Kd.R_drew HO_488000.out)
  replace HO_488001:=aM (Kd.R_drew HO_488001.out)
  replace BK487:=aM (blk_drew BK487.out)
  replace HB:=aM (below_drew1 HB.out)
  refine start_ (n:=23) (S:=fun w'=>True) (ds:=[]) #[ff,ff,ff,ff,ff,ff,ff,ff,ff,ff,ff,ff,ff,ff,ff,ff,ff,ff,ff,ff,ff,ff,ff] (by kernel_rfl) rfl rfl trivial (fun hHeld => ?_);refine with_tabW laws_FnGroup.tab17 laws_FnGroup.bits17 (fun HT_ HW_ => ?_)
  generalize w41.drew=w55 at HO_4 HO_7 HO_43 HO_488000 HO_488001 BK487 HB hHeld ⊢
  refine pX 0 70 (fl 23 1) rfl rfl HT_.out ?_
  refine pX 1 71 (fl 23 3) rfl rfl HT_.out ?_
  refine pX 2 72 (fl 23 7) rfl rfl HT_.out ?_
  refine pX 3 73 (fl 23 15) rfl rfl HT_.out ?_
  refine pX 4 74 (fl 23 31) rfl rfl HT_.out ?_
  refine pX 5 75 (fl 23 63) rfl rfl HT_.out ?_
  refine pX 6 76 (fl 23 127) rfl rfl HT_.out ?_
  refine uX 7 77 (fl 23 255) rfl rfl HT_.out ?_
  refine uX 8 78 (fl 23 511) rfl rfl HT_.out ?_
  refine uX 9 79 (fl 23 1023) rfl rfl HT_.out ?_
  refine uX 10 80 (fl 23 2047) rfl rfl HT_.out ?_
  refine uX 11 81 (fl 23 4095) rfl rfl HT_.out ?_
  refine uX 12 82 (fl 23 8191) rfl rfl HT_.out ?_
  refine uX 13 83 (fl 23 16383) rfl rfl HT_.out ?_
  refine uX 14 84 (fl 23 32767) rfl rfl HT_.out ?_
  refine uX 15 85 (fl 23 65535) rfl rfl HT_.out ?_
  refine uX 16 86 (fl 23 131071) rfl rfl HT_.out ?_
  refine uX 17 87 (fl 23 262143) rfl rfl HT_.out ?_
  refine uX 18 88 (fl 23 524287) rfl rfl HT_.out ?_
  refine uX 19 89 (fl 23 1048575) rfl rfl HT_.out ?_
  refine uX 20 90 (fl 23 2097151) rfl rfl HT_.out ?_
  refine uX 21 91 (fl 23 4194303) rfl rfl HT_.out ?_
  refine pX 22 92 (fl 23 8388607) rfl rfl HT_.out ?_
  refine done_ (done_of HT_.out (by kernel_rfl)) ?_
  try go_wp2
  go_meet
  case rel=>exact ⟨_,(false),vX,H',⟨by have:=HJ6.out;have:=HK2.out;first|omega|exact Nat.le_refl _⟩,⟨rX HO_7.out⟩,⟨rX HO_488000.out⟩,⟨rX HO_488001.out⟩,⟨kX BK487.out⟩,⟨bX1 HB.out GE487.out⟩⟩
  }
 case rest =>
 clear HC39
 try clear c42
 try clear c42b0
 try clear c43
 try clear c45
 try clear c47
 obtain ⟨kq,x92_38,rfl,HA,HJ38,HO_7,HO_488000,HO_488001,BK487,HB⟩:=hcut
 cases kq with
 | zero=>exact absurd HA.out (by simp [laws_FnGroup.j2])
 | succ kj38 =>
 have H:=HA.out
 clear HA
 simp only [laws_FnGroup.j2] at H
 by_cases c56:x92_38=true
 {
 subst c56
 have H1:(some false)=some r:=by rw [if_pos rfl] at H;exact H
 clear H
 have H:=H1
 clear H1
 exact absurd ((Option.some.inj H).trans HRT.out) (by decide)
 }
 {
 replace c56:=Bool.eq_false_iff.mpr c56
 subst c56
 have H1:((impl_HasHalfTurn.f kj38 t481 t484).bind fun t506=>(if t506=true then ((impl_CurveGenus.f kj38 t481 t484).bind fun t507=>((impl_TurnsInOrbit.f kj38 t481 t484).bind fun t508=>((impl_SixthsInOrbit.f kj38 t481 t484).bind fun t509=>(laws_FnGroup.j3 kj38 t492 ((wrap64 (12*t507)) != (wrap64 ((wrap64 ((wrap64 ((wrap64 (12+t492)) - (wrap64 (3*t508)))) - (wrap64 (4*t509)))) - (wrap64 (6*(t493.length:Int)))))) t481 t484)))) else (laws_FnGroup.j3 kj38 t492 false t481 t484)))=some r:=by rw [if_neg (show ¬ (false=true) by decide)] at H;exact H
 clear H
 have H:=H1
 clear H1
 have HC57:=aM H
 clear H
 go_upto_region 19 with (fail)
 go_cut [114] (fun v114 wc=>∃ (kq:Nat) (x114_56:Bool),v114 = .bool x114_56∧Aside0 (laws_FnGroup.j3 kq t492 x114_56 t481 t484=some r)∧Aside0 (kq≤kj38)∧Aside0 (Kd.R (Kd.int .i64) 3 wc w.heap.size (fun k_=>some k_≠((.slice Ao12 t484.length co12):Value).ownBlock) (.slice Ao10 t481.length co10) t481)∧Aside0 (Kd.R (Kd.int .i64) 3 wc w.heap.size (fun k_=>some k_≠((.slice Ao10 t481.length co10):Value).ownBlock) (.slice Ao12 t484.length co12) t484)∧Aside0 (wc.heap[gb487]? = some (.cells #[(.slice Ao10 t481.length co10),(.slice Ao12 t484.length co12)] 27 (0,0)))∧Aside0 (Below w.heap.size w wc))
 case first =>
  have H:=HC57.out
  clear HC57
  replace H:=oB H
  obtain ⟨t506,A580,H⟩:=H
  have A58:=aM A580
  clear A580
  by_cases c59:t506=true
  {
  subst c59
  have H1:((impl_CurveGenus.f kj38 t481 t484).bind fun t507=>((impl_TurnsInOrbit.f kj38 t481 t484).bind fun t508=>((impl_SixthsInOrbit.f kj38 t481 t484).bind fun t509=>(laws_FnGroup.j3 kj38 t492 ((wrap64 (12*t507)) != (wrap64 ((wrap64 ((wrap64 ((wrap64 (12+t492)) - (wrap64 (3*t508)))) - (wrap64 (4*t509)))) - (wrap64 (6*(t493.length:Int)))))) t481 t484))))=some r:=by rw [if_pos rfl] at H;exact H
  clear H
  have H:=H1
  clear H1
  replace H:=oB H
  obtain ⟨t507,A600,H⟩:=H
  have A60:=aM A600
  clear A600
  replace H:=oB H
  obtain ⟨t508,A610,H⟩:=H
  have A61:=aM A610
  clear A610
  replace H:=oB H
  obtain ⟨t509,A620,H⟩:=H
  have A62:=aM A620
  clear A620
  have H':=aM H
  clear H
  try go_wp2
  replace HO_7:=aM (Kd.R_drew HO_7.out)
  replace HO_488000:=aM (Kd.R_drew HO_488000.out)
  replace HO_488001:=aM (Kd.R_drew HO_488001.out)
  replace BK487:=aM (blk_drew BK487.out)
  replace HB:=aM (below_drew1 HB.out)
  obtain ⟨Aq_,cq_,eq_⟩:=Kd.R_slice HO_7.out
  subst eq_
  refine start_ (n:=22) (S:=fun w'=>w'.cell? ⟨gb487,0,none⟩=some (.slice Ao10 t481.length co10)∧w'.cell? ⟨gb487,1,none⟩=some (.slice Ao12 t484.length co12)) (ds:=[]) #[ff,ff,ff,ff,ff,ff,ff,ff,ff,ff,ff,ff,ff,ff,ff,ff,ff,ff,ff,ff,ff,ff] (by kernel_rfl) rfl rfl ⟨cz20 BK487.out,cz21 BK487.out⟩ (fun hHeld => ?_);refine with_tabW laws_FnGroup.tab19 laws_FnGroup.bits19 (fun HT_ HW_ => ?_)
  generalize wc.drew=w63 at HO_7 HO_488000 HO_488001 BK487 HB hHeld ⊢
  refine tX2 0 93 (fl 22 1) rfl rfl HT_.out HW_.out hHeld ?_
  refine one_ (i:=1) (N:=some 94) #[tt,tt,ff,ff,ff,ff,ff,ff,ff,ff,ff,ff,ff,ff,ff,ff,ff,ff,ff,ff,ff,ff] rfl rfl (one_of HT_.out (by kernel_rfl)) (by decide) (fun K hK => ?_)
  refine goes_ Try.func17 (by kernel_rfl) rfl #[.agg #[.slice Ao10 t481.length co10,.slice Ao12 t484.length co12]] (by rfl) rfl rfl aX ?_
  with_reducible refine(impl_HasHalfTurn.calls kj38 _ _ t481 _ _ t484 true _ ?side1 ?side2 ?side3 ?side4 A58.out).mono ?_
  (case side1=>exact cX (Kd.R_reads' HO_488000.out).2.2)
  (case side2=>exact(Kd.R_reads' HO_488000.out).2.1)
  (case side3=>exact cX (Kd.R_reads' HO_488001.out).2.2)
  (case side4=>exact(Kd.R_reads' HO_488001.out).2.1)
  rintro e w64 ⟨rfl,hb⟩
  refine ⟨_,rfl,?_⟩
  replace HO_7:=aM (Kd.R_below (rX HO_7.out) hb)
  replace HO_488000:=aM (Kd.R_below (rX HO_488000.out) hb)
  replace HO_488001:=aM (Kd.R_below (rX HO_488001.out) hb)
  replace BK487:=aM (bbX BK487.out hb)
  replace HB:=aM (below_step (bX1 HB.out GE487.out) hb)
  (try clear hb)
  (try clear hk)
  refine hK.out _ _ ⟨cz20 BK487.out,cz21 BK487.out⟩ (fun hHeld => ?_)
  clear hK K
  refine norm_ (a':=?_) ?_ ?_
  rotate_left
  {
  show Act.put _ (some 94) _=_
  simp only [Act.put,zA,zB,zC,i64_w,i32_w]
  rfl
  }
  refine pX 2 95 (fl 22 7) rfl rfl HT_.out ?_
  refine pX 6 99 (fl 22 71) rfl rfl HT_.out ?_
  refine pX 7 100 (fl 22 199) rfl rfl HT_.out ?_
  refine pX 16 109 (fl 22 65735) rfl rfl HT_.out ?_
  refine pX 17 110 (fl 22 196807) rfl rfl HT_.out ?_
  refine pX 18 111 (fl 22 458951) rfl rfl HT_.out ?_
  refine tX2 3 96 (fl 22 458959) rfl rfl HT_.out HW_.out hHeld ?_
  refine tX2 8 101 (fl 22 459215) rfl rfl HT_.out HW_.out hHeld ?_
  refine tX2 12 105 (fl 22 463311) rfl rfl HT_.out HW_.out hHeld ?_
  refine one_ (i:=4) (N:=some 97) #[tt,tt,tt,tt,tt,ff,tt,tt,tt,ff,ff,ff,tt,ff,ff,ff,tt,tt,tt,ff,ff,ff] rfl rfl (one_of HT_.out (by kernel_rfl)) (by decide) (fun K hK => ?_)
  refine goes_ Try.func18 (by kernel_rfl) rfl #[.agg #[.slice Ao10 t481.length co10,.slice Ao12 t484.length co12]] (by rfl) rfl rfl aX ?_
  with_reducible refine(impl_CurveGenus.calls kj38 _ _ t481 _ _ t484 t507 _ ?side1 ?side2 ?side3 ?side4 A60.out).mono ?_
  (case side1=>exact cX (Kd.R_reads' HO_488000.out).2.2)
  (case side2=>exact(Kd.R_reads' HO_488000.out).2.1)
  (case side3=>exact cX (Kd.R_reads' HO_488001.out).2.2)
  (case side4=>exact(Kd.R_reads' HO_488001.out).2.1)
  rintro e w65 ⟨rfl,hb⟩
  refine ⟨_,rfl,?_⟩
  replace HO_7:=aM (Kd.R_below (rX HO_7.out) hb)
  replace HO_488000:=aM (Kd.R_below (rX HO_488000.out) hb)
  replace HO_488001:=aM (Kd.R_below (rX HO_488001.out) hb)
  replace BK487:=aM (bbX BK487.out hb)
  replace HB:=aM (below_step (bX1 HB.out GE487.out) hb)
  (try clear hb)
  (try clear hk)
  refine hK.out _ _ ⟨cz20 BK487.out,cz21 BK487.out⟩ (fun hHeld => ?_)
  clear hK K
  refine norm_ (a':=?_) ?_ ?_
  rotate_left
  {
  show Act.put _ (some 97) _=_
  simp only [Act.put,zA,zB,zC,i64_w,i32_w]
  rfl
  }
  refine pX 5 98 (fl 22 463359) rfl rfl HT_.out ?_
  refine one_ (i:=9) (N:=some 102) #[tt,tt,tt,tt,tt,tt,tt,tt,tt,tt,ff,ff,tt,ff,ff,ff,tt,tt,tt,ff,ff,ff] rfl rfl (one_of HT_.out (by kernel_rfl)) (by decide) (fun K hK => ?_)
  refine goes_ Try.func19 (by kernel_rfl) rfl #[.agg #[.slice Ao10 t481.length co10,.slice Ao12 t484.length co12]] (by rfl) rfl rfl aX ?_
  with_reducible refine(impl_TurnsInOrbit.calls kj38 _ _ t481 _ _ t484 t508 _ ?side1 ?side2 ?side3 ?side4 A61.out).mono ?_
  (case side1=>exact cX (Kd.R_reads' HO_488000.out).2.2)
  (case side2=>exact(Kd.R_reads' HO_488000.out).2.1)
  (case side3=>exact cX (Kd.R_reads' HO_488001.out).2.2)
  (case side4=>exact(Kd.R_reads' HO_488001.out).2.1)
  rintro e w66 ⟨rfl,hb⟩
  refine ⟨_,rfl,?_⟩
  replace HO_7:=aM (Kd.R_below (rX HO_7.out) hb)
  replace HO_488000:=aM (Kd.R_below (rX HO_488000.out) hb)
  replace HO_488001:=aM (Kd.R_below (rX HO_488001.out) hb)
  replace BK487:=aM (bbX BK487.out hb)
  replace HB:=aM (below_step (bX1 HB.out GE487.out) hb)
  (try clear hb)
  (try clear hk)
  refine hK.out _ _ ⟨cz20 BK487.out,cz21 BK487.out⟩ (fun hHeld => ?_)
  clear hK K
  refine norm_ (a':=?_) ?_ ?_
  rotate_left
  {
  show Act.put _ (some 102) _=_
  simp only [Act.put,zA,zB,zC,i64_w,i32_w]
  rfl
  }
  refine pX 10 103 (fl 22 464895) rfl rfl HT_.out ?_
  refine pX 11 104 (fl 22 466943) rfl rfl HT_.out ?_
  refine one_ (i:=13) (N:=some 106) #[tt,tt,tt,tt,tt,tt,tt,tt,tt,tt,tt,tt,tt,tt,ff,ff,tt,tt,tt,ff,ff,ff] rfl rfl (one_of HT_.out (by kernel_rfl)) (by decide) (fun K hK => ?_)
  refine goes_ Try.func20 (by kernel_rfl) rfl #[.agg #[.slice Ao10 t481.length co10,.slice Ao12 t484.length co12]] (by rfl) rfl rfl aX ?_
  with_reducible refine(impl_SixthsInOrbit.calls kj38 _ _ t481 _ _ t484 t509 _ ?side1 ?side2 ?side3 ?side4 A62.out).mono ?_
  (case side1=>exact cX (Kd.R_reads' HO_488000.out).2.2)
  (case side2=>exact(Kd.R_reads' HO_488000.out).2.1)
  (case side3=>exact cX (Kd.R_reads' HO_488001.out).2.2)
  (case side4=>exact(Kd.R_reads' HO_488001.out).2.1)
  rintro e w67 ⟨rfl,hb⟩
  refine ⟨_,rfl,?_⟩
  replace HO_7:=aM (Kd.R_below (rX HO_7.out) hb)
  replace HO_488000:=aM (Kd.R_below (rX HO_488000.out) hb)
  replace HO_488001:=aM (Kd.R_below (rX HO_488001.out) hb)
  replace BK487:=aM (bbX BK487.out hb)
  replace HB:=aM (below_step (bX1 HB.out GE487.out) hb)
  (try clear hb)
  (try clear hk)
  obtain ⟨Ao68,co68,eo68⟩:=Kd.R_slice HO_7.out
  (first|subst eo68|(injection eo68 with f1_ f2_ f3_;have f4_:=f1_.symm;have f5_:=f3_.symm;clear f1_ f2_ f3_;subst f4_;subst f5_))
  refine hK.out _ _ ⟨cz20 BK487.out,cz21 BK487.out⟩ (fun hHeld => ?_)
  clear hK K
  refine norm_ (a':=?_) ?_ ?_
  rotate_left
  {
  show Act.put _ (some 106) _=_
  simp only [Act.put,zA,zB,zC,i64_w,i32_w]
  rfl
  }
  refine pX 14 107 (fl 22 491519) rfl rfl HT_.out ?_
  refine pX 15 108 (fl 22 524287) rfl rfl HT_.out ?_
  refine pX 19 112 (fl 22 1048575) rfl rfl HT_.out ?_
  refine pX 20 113 (fl 22 2097151) rfl rfl HT_.out ?_
  refine pX 21 114 (fl 22 4194303) rfl rfl HT_.out ?_
  refine done_ (done_of HT_.out (by kernel_rfl)) ?_
  try go_wp2
  go_meet
  case rel=>exact ⟨_,(((wrap64 (12*t507)) != (wrap64 ((wrap64 ((wrap64 ((wrap64 (12+t492)) - (wrap64 (3*t508)))) - (wrap64 (4*t509)))) - (wrap64 (6*(t493.length:Int))))))),vX,H',⟨by have:=HJ6.out;have:=HK2.out;have:=HJ38.out;first|omega|exact Nat.le_refl _⟩,⟨rM HO_488000.out (fun _ hk=>hk.2)⟩,⟨rM HO_488001.out (fun _ hk=>hk.2)⟩,⟨kX BK487.out⟩,⟨bX1 HB.out GE487.out⟩⟩
  }
  {
  replace c59:=Bool.eq_false_iff.mpr c59
  subst c59
  have H1:(laws_FnGroup.j3 kj38 t492 false t481 t484)=some r:=by rw [if_neg (show ¬ (false=true) by decide)] at H;exact H
  clear H
  have H:=H1
  clear H1
  have H':=aM H
  clear H
  try go_wp2
  replace HO_7:=aM (Kd.R_drew HO_7.out)
  replace HO_488000:=aM (Kd.R_drew HO_488000.out)
  replace HO_488001:=aM (Kd.R_drew HO_488001.out)
  replace BK487:=aM (blk_drew BK487.out)
  replace HB:=aM (below_drew1 HB.out)
  obtain ⟨Aq_,cq_,eq_⟩:=Kd.R_slice HO_7.out
  subst eq_
  refine start_ (n:=22) (S:=fun w'=>w'.cell? ⟨gb487,0,none⟩=some (.slice Ao10 t481.length co10)∧w'.cell? ⟨gb487,1,none⟩=some (.slice Ao12 t484.length co12)) (ds:=[]) #[ff,ff,ff,ff,ff,ff,ff,ff,ff,ff,ff,ff,ff,ff,ff,ff,ff,ff,ff,ff,ff,ff] (by kernel_rfl) rfl rfl ⟨cz20 BK487.out,cz21 BK487.out⟩ (fun hHeld => ?_);refine with_tabW laws_FnGroup.tab19 laws_FnGroup.bits19 (fun HT_ HW_ => ?_)
  generalize wc.drew=w69 at HO_7 HO_488000 HO_488001 BK487 HB hHeld ⊢
  refine tX2 0 93 (fl 22 1) rfl rfl HT_.out HW_.out hHeld ?_
  refine one_ (i:=1) (N:=some 94) #[tt,tt,ff,ff,ff,ff,ff,ff,ff,ff,ff,ff,ff,ff,ff,ff,ff,ff,ff,ff,ff,ff] rfl rfl (one_of HT_.out (by kernel_rfl)) (by decide) (fun K hK => ?_)
  refine goes_ Try.func17 (by kernel_rfl) rfl #[.agg #[.slice Ao10 t481.length co10,.slice Ao12 t484.length co12]] (by rfl) rfl rfl aX ?_
  with_reducible refine(impl_HasHalfTurn.calls kj38 _ _ t481 _ _ t484 false _ ?side1 ?side2 ?side3 ?side4 A58.out).mono ?_
  (case side1=>exact cX (Kd.R_reads' HO_488000.out).2.2)
  (case side2=>exact(Kd.R_reads' HO_488000.out).2.1)
  (case side3=>exact cX (Kd.R_reads' HO_488001.out).2.2)
  (case side4=>exact(Kd.R_reads' HO_488001.out).2.1)
  rintro e w70 ⟨rfl,hb⟩
  refine ⟨_,rfl,?_⟩
  replace HO_7:=aM (Kd.R_below (rX HO_7.out) hb)
  replace HO_488000:=aM (Kd.R_below (rX HO_488000.out) hb)
  replace HO_488001:=aM (Kd.R_below (rX HO_488001.out) hb)
  replace BK487:=aM (bbX BK487.out hb)
  replace HB:=aM (below_step (bX1 HB.out GE487.out) hb)
  (try clear hb)
  (try clear hk)
  refine hK.out _ _ ⟨cz20 BK487.out,cz21 BK487.out⟩ (fun hHeld => ?_)
  clear hK K
  refine norm_ (a':=?_) ?_ ?_
  rotate_left
  {
  show Act.put _ (some 94) _=_
  simp only [Act.put,zA,zB,zC,i64_w,i32_w]
  rfl
  }
  refine pX 2 95 (fl 22 7) rfl rfl HT_.out ?_
  refine uX 3 96 (fl 22 15) rfl rfl HT_.out ?_
  refine uX 4 97 (fl 22 31) rfl rfl HT_.out ?_
  refine uX 5 98 (fl 22 63) rfl rfl HT_.out ?_
  refine uX 6 99 (fl 22 127) rfl rfl HT_.out ?_
  refine uX 7 100 (fl 22 255) rfl rfl HT_.out ?_
  refine uX 8 101 (fl 22 511) rfl rfl HT_.out ?_
  refine uX 9 102 (fl 22 1023) rfl rfl HT_.out ?_
  refine uX 10 103 (fl 22 2047) rfl rfl HT_.out ?_
  refine uX 11 104 (fl 22 4095) rfl rfl HT_.out ?_
  refine uX 12 105 (fl 22 8191) rfl rfl HT_.out ?_
  refine uX 13 106 (fl 22 16383) rfl rfl HT_.out ?_
  refine uX 14 107 (fl 22 32767) rfl rfl HT_.out ?_
  refine uX 15 108 (fl 22 65535) rfl rfl HT_.out ?_
  refine uX 16 109 (fl 22 131071) rfl rfl HT_.out ?_
  refine uX 17 110 (fl 22 262143) rfl rfl HT_.out ?_
  refine uX 18 111 (fl 22 524287) rfl rfl HT_.out ?_
  refine uX 19 112 (fl 22 1048575) rfl rfl HT_.out ?_
  refine uX 20 113 (fl 22 2097151) rfl rfl HT_.out ?_
  refine pX 21 114 (fl 22 4194303) rfl rfl HT_.out ?_
  refine done_ (done_of HT_.out (by kernel_rfl)) ?_
  try go_wp2
  go_meet
  case rel=>exact ⟨_,(false),vX,H',⟨by have:=HJ6.out;have:=HK2.out;have:=HJ38.out;first|omega|exact Nat.le_refl _⟩,⟨rM HO_488000.out (fun _ hk=>hk.2)⟩,⟨rM HO_488001.out (fun _ hk=>hk.2)⟩,⟨kX BK487.out⟩,⟨bX1 HB.out GE487.out⟩⟩
  }
 case rest =>
 clear HC57
 try clear c2
 try clear c18
 try clear c19
 try clear c42
 try clear c42b0
 try clear c43
 try clear c45
 try clear c47
 try clear c56
 try clear c59
 obtain ⟨kq,x114_56,rfl,HA,HJ56,HO_488000,HO_488001,BK487,HB⟩:=hcut
 cases kq with
 | zero=>exact absurd HA.out (by simp [laws_FnGroup.j3])
 | succ kj56 =>
 have H:=HA.out
 clear HA
 simp only [laws_FnGroup.j3] at H
 by_cases c71:x114_56=true
 {
 subst c71
 have H1:(some false)=some r:=by rw [if_pos rfl] at H;exact H
 clear H
 have H:=H1
 clear H1
 exact absurd ((Option.some.inj H).trans HRT.out) (by decide)
 }
 {
 replace c71:=Bool.eq_false_iff.mpr c71
 subst c71
 have H1:((impl_IsFullGroup.f kj56 t481 t484).bind fun t510=>(if (t510 == (t492 == 1))=true then ((impl_TurnsInOrbit.f kj56 t481 t484).bind fun t511=>(if t511≤t492 then ((impl_GroupLine.f kj56 t481 t484).bind fun t512=>(some (t512.toList != ([]:List UInt8)))) else (some false))) else (some false)))=some r:=by rw [if_neg (show ¬ (false=true) by decide)] at H;exact H
 clear H
 have H:=H1
 clear H1
 replace H:=oB H
 obtain ⟨t510,A720,H⟩:=H
 have A72:=aM A720
 clear A720
 by_cases c73:(t510 == (t492 == 1))=true
 {
 rw [if_pos c73] at H
 have c73b0:(t510 == (t492 == 1))=true:=c73
 (try(have c73b1:decide (t510=(t492 == 1))=true:=by simpa using c73))
 (try(have c73b2:(t510 == (t492 == 1))=true:=by simpa using c73))
 clear c73
 replace H:=oB H
 obtain ⟨t511,A740,H⟩:=H
 have A74:=aM A740
 clear A740
 by_cases c75:t511≤t492
 {
 rw [if_pos c75] at H
 have c75b0:=decide_eq_true c75
 clear c75
 replace H:=oB H
 obtain ⟨t512,A760,H⟩:=H
 have A76:=aM A760
 clear A760
 obtain rfl:=Option.some.inj H
 obtain ⟨hcz77_0,hcz77_1,hfz77_0,hfz77_1⟩:=f2Z BK487.out
 go_wp2_with (first|((with_reducible refine gate_callee (f:=21) rfl ?_);refine goesL_ (some 116) rfl rfl Try.func21 (by kernel_rfl) rfl #[.agg #[.slice Ao10 t481.length co10,.slice Ao12 t484.length co12]] rfl aX ?_;(with_reducible refine(impl_IsFullGroup.calls kj56 _ _ t481 _ _ t484 t510 _ ?side1 ?side2 ?side3 ?side4 A72.out).mono ?_);(case side1=>exact cX (Kd.R_reads' HO_488000.out).2.2);(case side2=>exact(Kd.R_reads' HO_488000.out).2.1);(case side3=>exact cX (Kd.R_reads' HO_488001.out).2.2);(case side4=>exact(Kd.R_reads' HO_488001.out).2.1);rintro e w78 ⟨rfl,hb⟩;refine ⟨_,rfl,?_⟩;replace HO_488000:=aM (Kd.R_below (rX HO_488000.out) hb);replace HO_488001:=aM (Kd.R_below (rX HO_488001.out) hb);replace BK487:=aM (bbX BK487.out hb);replace HB:=aM (below_step (bX1 HB.out GE487.out) hb);(try clear hb);(try clear hk);obtain ⟨hcz79_0,hcz79_1,hfz79_0,hfz79_1⟩:=f2Z BK487.out)|(go_at_call 19;(with_reducible refine(impl_TurnsInOrbit.calls kj56 _ _ t481 _ _ t484 t511 _ ?side1 ?side2 ?side3 ?side4 A74.out).mono ?_);(case side1=>exact cX (Kd.R_reads' HO_488000.out).2.2);(case side2=>exact(Kd.R_reads' HO_488000.out).2.1);(case side3=>exact cX (Kd.R_reads' HO_488001.out).2.2);(case side4=>exact(Kd.R_reads' HO_488001.out).2.1);rintro e w80 ⟨rfl,hb⟩;replace HO_488000:=aM (Kd.R_below (rX HO_488000.out) hb);replace HO_488001:=aM (Kd.R_below (rX HO_488001.out) hb);replace BK487:=aM (bbX BK487.out hb);replace HB:=aM (below_step (bX1 HB.out GE487.out) hb);(try clear hb);(try clear hk);obtain ⟨hcz81_0,hcz81_1,hfz81_0,hfz81_1⟩:=f2Z BK487.out)|(go_at_call 8;(with_reducible refine(impl_GroupLine.calls kj56 _ _ t481 _ _ t484 t512 _ ?side1 ?side2 ?side3 ?side4 A76.out).mono ?_);(case side1=>exact cX (Kd.R_reads' HO_488000.out).2.2);(case side2=>exact(Kd.R_reads' HO_488000.out).2.1);(case side3=>exact cX (Kd.R_reads' HO_488001.out).2.2);(case side4=>exact(Kd.R_reads' HO_488001.out).2.1);rintro e w82 ⟨rfl,hb⟩;replace HO_488000:=aM (Kd.R_below (rX HO_488000.out) hb);replace HO_488001:=aM (Kd.R_below (rX HO_488001.out) hb);replace BK487:=aM (bbX BK487.out hb);replace HB:=aM (below_step (bX1 HB.out GE487.out) hb);(try clear hb);(try clear hk)))
 go_ret
 exact ⟨by first|rfl|(simp [errW_none,errW_some] <;> rfl)|(simp only [← hji32,← hji36];first|rfl|(simp [errW_none,errW_some] <;> rfl))|(simp [*,errW_none,errW_some] <;> rfl)|(simp [errW_none,errW_some];generalize t512.toList=z;cases z <;> rfl),bX1 HB.out GE487.out⟩
 }
 {
 rw [if_neg c75] at H
 have c75b0:=decide_eq_false c75
 clear c75
 exact absurd ((Option.some.inj H).trans HRT.out) (by decide)
 }
 }
 {
 rw [if_neg c73] at H
 have c73b0:(t510 == (t492 == 1))=false:=by simpa using c73
 (try(have c73b1:decide (t510=(t492 == 1))=false:=by simpa using c73))
 (try(have c73b2:(t510 == (t492 == 1))=false:=by simpa using c73))
 (try(have c73b3:¬ (t510=(t492 == 1)):=by simpa using c73))
 clear c73
 exact absurd ((Option.some.inj H).trans HRT.out) (by decide)
 }
 }
 }
 }
 {
 rw [if_neg c38] at H
 exact absurd H (by simp)
 }
 }
 {
 rw [if_neg c37] at H
 exact absurd H (by simp)
 }
 }
 {
 rw [if_neg c34] at H
 exact absurd H (by simp)
 }
 }
 {
 rw [if_neg c33] at H
 exact absurd H (by simp)
 }
 }
 }
 }
 }

end Go.Proofs.Ytmhjcbcjpidegaa.S
