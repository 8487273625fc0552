-- PRINTED by print.py (a twelfth state) out of the translation. Not trusted: Lean checks it.
import Derived.Test.YtmhjcbcjpidegaaS0
import Derived.Test.YtmhjcbcjpidegaaS3
import Derived.Test.YtmhjcbcjpidegaaS4
import Derived.Test.YtmhjcbcjpidegaaS5
namespace Go.Proofs.Ytmhjcbcjpidegaa.S
set_option maxHeartbeats 8000000
set_option maxRecDepth 100000
open Go.RowKit Go.Proofs.YtmhjcbcjpidegaaW.PrintWords Go.Proofs.YtmhjcbcjpidegaaW.PrintLast Go.Proofs.YtmhjcbcjpidegaaW.PrintMore
attribute [local go_sem] max2_int min2_int max_two min_two max_three min_three max_four min_four   -- for this text's walks alone
set_option linter.unusedVariables false
set_option linter.unusedSimpArgs false

/-! ### spec_EllOf: function 49 -/
mutual
def spec_EllOf.j0 : Nat→Int→Int→Bool→Option (List Int × List Int × Bool)
 | 0,_,_,_=>none
 | k+1,x0,x1,x24=>if x24=true then (some (([]:List Int),([]:List Int),false)) else ((spec_l02Identity.f k (wrap64 ((wrap64 (x0+x1)) - 1))).bind fun t369=>((spec_l02Identity.f k (wrap64 ((wrap64 (x0+x1)) - 1))).bind fun t372=>(spec_EllOf.l0 k x0 x1 (wrap64 ((wrap64 (x0+x1)) - 1)) 0 t369 t372)))
def spec_EllOf.l0 : Nat→Int→Int→Int→Int→List Int→List Int→Option (List Int × List Int × Bool)
 | 0,_,_,_,_,_,_=>none
 | k+1,x0,x1,x6,x8,x376000,x376001=>if x8<x0 then (if x0=0 then (none) else (if 0≤x8 then (if x8<(x376000.length:Int) then (spec_EllOf.l0 k x0 x1 x6 (wrap64 (x8+1)) (x376000.set (x8:Int).toNat (Int.tmod (wrap64 (x8+1)) x0)) x376001) else (none)) else (none))) else (if x1 > 1 then (if 0<(x376001.length:Int) then (spec_EllOf.l1 k x6 x0 x376000 (x376001.set (0:Int).toNat x0)) else (none)) else (some (x376000,x376001,true)))
def spec_EllOf.l1 : Nat→Int→Int→List Int→List Int→Option (List Int × List Int × Bool)
 | 0,_,_,_,_=>none
 | k+1,x6,x9,x376000,x376001=>if x9<x6 then (if x6=0 then (none) else (if 0≤x9 then (if x9<(x376001.length:Int) then (spec_EllOf.l1 k x6 (wrap64 (x9+1)) x376000 (x376001.set (x9:Int).toNat (Int.tmod (wrap64 (x9+1)) x6))) else (none)) else (none))) else (some (x376000,x376001,true))
end
def spec_EllOf.f (k:Nat) (a0:Int) (a1:Int):Option (List Int × List Int × Bool):=(spec_l01In.f a0 1 24).bind fun t367=>(if t367=true then ((spec_l01In.f a1 1 24).bind fun t368=>(if t368=true then (spec_EllOf.j0 k a0 a1 (decide ((wrap64 ((wrap64 (a0+a1)) - 1)) > 24))) else (spec_EllOf.j0 k a0 a1 true))) else (spec_EllOf.j0 k a0 a1 true))
def spec_EllOf.T8 : Bool × List (List Nat × List Nat):=(true,[([],[]),([0],[0]),([],[]),([],[]),([3],[3]),([],[]),([4,5],[4,5]),([1,2,0,1,2,3,4,5,6],[1,2]),([7,6,0,1,2,3,4,5,6],[6,7])])
def spec_EllOf.B8 : List Nat:=[0,1,0,0,8,0,56,127,255]
theorem spec_EllOf.tab8 : rtab .any (opsOf Try.f49 8)=spec_EllOf.T8:=by kernel_rfl
theorem spec_EllOf.bits8 : waitsOk spec_EllOf.T8.2 spec_EllOf.B8=true:=by kernel_rfl
def spec_EllOf.T14 : Bool × List (List Nat × List Nat):=(true,[([],[]),([0],[0]),([],[]),([],[]),([3],[3]),([],[]),([4,5],[4,5]),([1,2,0,1,2,3,4,5,6],[1,2]),([7,6,0,1,2,3,4,5,6],[6,7])])
def spec_EllOf.B14 : List Nat:=[0,1,0,0,8,0,56,127,255]
theorem spec_EllOf.tab14 : rtab .any (opsOf Try.f49 14)=spec_EllOf.T14:=by kernel_rfl
theorem spec_EllOf.bits14 : waitsOk spec_EllOf.T14.2 spec_EllOf.B14=true:=by kernel_rfl
theorem spec_EllOf.calls (k:Nat) (a0:Int) (a1:Int) (r1:List Int) (r2:List Int) (r3:Bool) (w:World) (h:spec_EllOf.f k a0 a1=some (r1,r2,r3)) :
  Calls Try.prog 49 #[.int .i64 a0,.int .i64 a1] w fun e w'=>∃ v0_ v1_:Value,e = .returned (.tuple #[.agg #[v0_,v1_],.bool r3])∧Kd.R (Kd.int .i64) 3 w' w.heap.size (fun k_=>some k_≠(v1_:Value).ownBlock) v0_ r1∧Kd.R (Kd.int .i64) 3 w' w.heap.size (fun k_=>some k_≠(v0_:Value).ownBlock) v1_ r2∧Below w.heap.size w w':=by
 have hu27:=Try.underlying27
 have HB:=aM (Below.refl w.heap.size w)
 have H:((spec_l01In.f a0 1 24).bind fun t367=>(if t367=true then ((spec_l01In.f a1 1 24).bind fun t368=>(if t368=true then (spec_EllOf.j0 k a0 a1 (decide ((wrap64 ((wrap64 (a0+a1)) - 1)) > 24))) else (spec_EllOf.j0 k a0 a1 true))) else (spec_EllOf.j0 k a0 a1 true)))=some (r1,r2,r3):=h
 clear h
 have HC3:=aM H
 clear H
 go_enter Try.func49,Try.ntmps49
 go_upto_region 1 with (first|((with_reducible refine gate_dst (N:=4) rfl ?_);refine bEv (cs:=#[.slice none 0 0,.slice none 0 0]) (t:=27) ?_;intro gb366 hg w4 hbox hb;have BK366:=aM (hbox);have GW366:=aM ((szX (below_size (bX HB.out)) hg:w.heap.size≤gb366));have GE366:=GW366;replace HB:=aM (below_step (bX HB.out) hb);clear hb hbox hg))
 (try simp only [Act.put,List.setIfInBounds_toArray,List.set_cons_zero,List.set_cons_succ])
 go_cut [24] (fun v24 wc=>∃ (kq:Nat) (x24_2:Bool),v24 = .bool x24_2∧Aside0 (spec_EllOf.j0 kq a0 a1 x24_2=some (r1,r2,r3))∧Aside0 (kq≤k)∧Aside0 (wc.heap[gb366]? = some (.cells #[(.slice none 0 0),(.slice none 0 0)] 27 (0,0)))∧Aside0 (Below w.heap.size w wc))
 case first =>
  have H:=HC3.out
  clear HC3
  replace H:=oB H
  obtain ⟨t367,A50,H⟩:=H
  have A5:=aM A50
  clear A50
  by_cases c6:t367=true
  {
  subst c6
  have H1:((spec_l01In.f a1 1 24).bind fun t368=>(if t368=true then (spec_EllOf.j0 k a0 a1 (decide ((wrap64 ((wrap64 (a0+a1)) - 1)) > 24))) else (spec_EllOf.j0 k a0 a1 true)))=some (r1,r2,r3):=by rw [if_pos rfl] at H;exact H
  clear H
  have H:=H1
  clear H1
  replace H:=oB H
  obtain ⟨t368,A70,H⟩:=H
  have A7:=aM A70
  clear A70
  by_cases c8:t368=true
  {
  subst c8
  have H1:(spec_EllOf.j0 k a0 a1 (decide ((wrap64 ((wrap64 (a0+a1)) - 1)) > 24)))=some (r1,r2,r3):=by rw [if_pos rfl] at H;exact H
  clear H
  have H:=H1
  clear H1
  have H':=aM H
  clear H
  go_wp2_with (first|((with_reducible refine gate_callee (f:=71) rfl ?_);refine goesL_ (some 11) rfl rfl Try.func71 (by kernel_rfl) rfl #[.int .i64 a0,.int .i64 1,.int .i64 24] rfl aX ?_;(with_reducible refine(spec_l01In.calls a0 1 24 true _ A5.out).mono ?_);rintro e w' ⟨rfl,⟨nd,rfl⟩⟩;refine ⟨_,rfl,?_⟩)|(go_at_call 71;(with_reducible refine(spec_l01In.calls a1 1 24 true _ A7.out).mono ?_);rintro e w' ⟨rfl,⟨nd,rfl⟩⟩))
  go_meet
  case rel=>exact ⟨_,(decide ((wrap64 ((wrap64 (a0+a1)) - 1)) > 24)),vX,H',⟨by first|omega|exact Nat.le_refl _⟩,⟨kX BK366.out⟩,⟨bX1 HB.out GE366.out⟩⟩
  }
  {
  replace c8:=Bool.eq_false_iff.mpr c8
  subst c8
  have H1:(spec_EllOf.j0 k a0 a1 true)=some (r1,r2,r3):=by rw [if_neg (show ¬ (false=true) by decide)] at H;exact H
  clear H
  have H:=H1
  clear H1
  have H':=aM H
  clear H
  go_wp2_with (first|((with_reducible refine gate_callee (f:=71) rfl ?_);refine goesL_ (some 11) rfl rfl Try.func71 (by kernel_rfl) rfl #[.int .i64 a0,.int .i64 1,.int .i64 24] rfl aX ?_;(with_reducible refine(spec_l01In.calls a0 1 24 true _ A5.out).mono ?_);rintro e w' ⟨rfl,⟨nd,rfl⟩⟩;refine ⟨_,rfl,?_⟩)|(go_at_call 71;(with_reducible refine(spec_l01In.calls a1 1 24 false _ A7.out).mono ?_);rintro e w' ⟨rfl,⟨nd,rfl⟩⟩))
  go_meet
  case rel=>exact ⟨_,(true),vX,H',⟨by first|omega|exact Nat.le_refl _⟩,⟨kX BK366.out⟩,⟨bX1 HB.out GE366.out⟩⟩
  }
  }
  {
  replace c6:=Bool.eq_false_iff.mpr c6
  subst c6
  have H1:(spec_EllOf.j0 k a0 a1 true)=some (r1,r2,r3):=by rw [if_neg (show ¬ (false=true) by decide)] at H;exact H
  clear H
  have H:=H1
  clear H1
  have H':=aM H
  clear H
  go_wp2_with (first|((with_reducible refine gate_callee (f:=71) rfl ?_);refine goesL_ (some 11) rfl rfl Try.func71 (by kernel_rfl) rfl #[.int .i64 a0,.int .i64 1,.int .i64 24] rfl aX ?_;(with_reducible refine(spec_l01In.calls a0 1 24 false _ A5.out).mono ?_);rintro e w' ⟨rfl,⟨nd,rfl⟩⟩;refine ⟨_,rfl,?_⟩))
  go_meet
  case rel=>exact ⟨_,(true),vX,H',⟨by first|omega|exact Nat.le_refl _⟩,⟨kX BK366.out⟩,⟨bX1 HB.out GE366.out⟩⟩
  }
 case rest =>
 clear HC3
 try clear c6
 try clear c8
 obtain ⟨kq,x24_2,rfl,HA,HJ2,BK366,HB⟩:=hcut
 cases kq with
 | zero=>exact absurd HA.out (by simp [spec_EllOf.j0])
 | succ kj2 =>
 have H:=HA.out
 clear HA
 simp only [spec_EllOf.j0] at H
 by_cases c9:x24_2=true
 {
 subst c9
 have H1:(some (([]:List Int),([]:List Int),false))=some (r1,r2,r3):=by rw [if_pos rfl] at H;exact H
 clear H
 have H:=H1
 clear H1
 simp only [Option.some.injEq,Prod.mk.injEq] at H
 obtain ⟨rfl,rfl,rfl⟩:=H
 obtain ⟨hcz10_0,hcz10_1,hfz10_0,hfz10_1⟩:=f2Z BK366.out
 go_wp2
 refine bodyPost_ret (results_ct rfl _ _ gb366 27 #[.slice none 0 0,.slice none 0 0] (0,0) _ rfl (by(with_reducible repeat(first|refine kN ?_ _|refine kD ?_|refine kA ?_ _));refine blk_put (cs:=#[.slice none 0 0,.slice none 0 0]) ?_ 1 _ rfl;(with_reducible repeat(first|refine kN ?_ _|refine kD ?_|refine kA ?_ _));refine blk_put (cs:=#[.slice none 0 0,.slice none 0 0]) ?_ 0 _ rfl;(with_reducible repeat(first|refine kN ?_ _|refine kD ?_|refine kA ?_ _));exact BK366.out) Try.underlying27 rfl (by kernel_rfl)) rfl ?_
 exact ⟨_,_,eX,by first|exact Kd.R_nil _ _ _ _ _|exact Kd.N_nil _ _ _ _ _|exact Kd.V_nil _ _ _ _ _|exact Kd.Q_nil _ _ _ _ _|exact Kd.S_nil _ _ _ _ _,by first|exact Kd.R_nil _ _ _ _ _|exact Kd.N_nil _ _ _ _ _|exact Kd.V_nil _ _ _ _ _|exact Kd.Q_nil _ _ _ _ _|exact Kd.S_nil _ _ _ _ _,bX1 HB.out GE366.out⟩
 }
 {
 replace c9:=Bool.eq_false_iff.mpr c9
 subst c9
 have H1:((spec_l02Identity.f kj2 (wrap64 ((wrap64 (a0+a1)) - 1))).bind fun t369=>((spec_l02Identity.f kj2 (wrap64 ((wrap64 (a0+a1)) - 1))).bind fun t372=>(spec_EllOf.l0 kj2 a0 a1 (wrap64 ((wrap64 (a0+a1)) - 1)) 0 t369 t372)))=some (r1,r2,r3):=by rw [if_neg (show ¬ (false=true) by decide)] at H;exact H
 clear H
 have H:=H1
 clear H1
 replace H:=oB H
 obtain ⟨t369,A110,H⟩:=H
 have A11:=aM A110
 clear A110
 replace H:=oB H
 obtain ⟨t372,A120,H⟩:=H
 have A12:=aM A120
 clear A120
 have H':=aM H
 clear H
 go_wp2_with (first|((with_reducible refine gate_callee (f:=72) rfl ?_);refine goesL_ (some 31) rfl rfl Try.func72 (by kernel_rfl) rfl #[.int .i64 (wrap64 ((wrap64 (a0+a1)) - 1))] rfl aX ?_;(with_reducible refine(spec_l02Identity.calls kj2 (wrap64 ((wrap64 (a0+a1)) - 1)) t369 _ A11.out).mono ?_);rintro e w13 ⟨v370,rfl,ho0,hb⟩;refine ⟨_,rfl,?_⟩;have HO371:=aM (Kd.R_lower ho0 (below_size (bX1 HB.out GE366.out)));replace BK366:=aM (bbX BK366.out hb);replace HB:=aM (below_step (bX1 HB.out GE366.out) hb);(try clear hb);(try clear hk);(try clear ho0))|((with_reducible refine gate_callee (f:=72) rfl ?_);refine goesL_ (some 33) rfl rfl Try.func72 (by kernel_rfl) rfl #[.int .i64 (wrap64 ((wrap64 (a0+a1)) - 1))] rfl aX ?_;(with_reducible refine(spec_l02Identity.calls kj2 (wrap64 ((wrap64 (a0+a1)) - 1)) t372 _ A12.out).mono ?_);rintro e w14 ⟨v373,rfl,ho0,hb⟩;refine ⟨_,rfl,?_⟩;have HO374:=aM (Kd.R_lower (Kd.R_new' ho0 (Kd.R_lt (rX HO371.out))) (below_size (bX1 HB.out GE366.out)));replace HO371:=aM (Kd.R_elder' (rX HO371.out) (Kd.R_base ho0) hb);replace BK366:=aM (bbX BK366.out hb);replace HB:=aM (below_step (bX1 HB.out GE366.out) hb);(try clear hb);(try clear hk);(try clear ho0);obtain ⟨Ao15,co15,eo15⟩:=Kd.R_slice HO374.out;subst eo15;obtain ⟨Ao16,co16,eo16⟩:=Kd.R_slice HO371.out;subst eo16)|((with_reducible refine gate_dst (N:=7) rfl ?_);refine bEv (cs:=#[.slice none 0 0,.slice none 0 0]) (t:=27) ?_;intro gb375 hg w17 hbox hb;replace HO371:=aM (Kd.R_below (rX HO371.out) hb);replace HO374:=aM (Kd.R_below (rX HO374.out) hb);have BK375:=aM (hbox);have GW375:=aM ((szX (below_size (bX1 HB.out GE366.out)) hg:w.heap.size≤gb375));have GE375:=GW375;replace HB:=aM (below_step (bX1 HB.out GE366.out) hb);have NB366_375:=aM (neX BK366.out hg);have NB375_366:=aM (nfX BK366.out hg);replace BK366:=aM (bbX BK366.out hb);clear hb hbox hg;have hnb18:=NB375_366.out;have hnc18:=NB366_375.out;obtain ⟨hcz19_0,hcz19_1,hfz19_0,hfz19_1⟩:=f2Z BK375.out))
 go_loopg [8] kj2 (fun kq v8 w'=>∃ (x8_2:Int) (x376000_2:List Int) (x376001_2:List Int) (u376000:Value) (u376001:Value),v8 = .int .i64 x8_2∧Aside0 (spec_EllOf.l0 kq a0 a1 (wrap64 ((wrap64 (a0+a1)) - 1)) x8_2 x376000_2 x376001_2=some (r1,r2,r3))∧Aside0 (kq≤kj2)∧Aside0 (Kd.R (Kd.int .i64) 3 w' w.heap.size (fun k_=>some k_≠(u376001:Value).ownBlock) u376000 x376000_2)∧Aside0 (Kd.R (Kd.int .i64) 3 w' w.heap.size (fun k_=>some k_≠(u376000:Value).ownBlock) u376001 x376001_2)∧Aside0 (w'.heap[gb366]? = some (.cells #[(.slice none 0 0),(.slice none 0 0)] 27 (0,0)))∧Aside0 (w'.heap[gb375]? = some (.cells #[u376000,u376001] 27 (0,0)))∧Aside0 (Below w.heap.size w w'))
 case atStart=>exact ⟨(0),(t369),(t372),(.slice Ao16 t369.length co16),(.slice Ao15 t372.length co15),vX,H',⟨Nat.le_refl _⟩,⟨by(with_reducible repeat(first|apply rA|apply rN|apply rD));exact Kd.R_mono (Kd.R_far (p:=⟨gb375,1,none⟩) (Kd.R_far (p:=⟨gb375,0,none⟩) (Kd.R_types HO371.out BK375.out (by decide)) (fun _ hk=>hk.2) (.slice Ao16 t369.length co16)) (fun _ hk=>hk.2) (.slice Ao15 t372.length co15)) (fun _ hk=>hk.1.2)⟩,⟨by(with_reducible repeat(first|apply rA|apply rN|apply rD));exact Kd.R_mono (Kd.R_far (p:=⟨gb375,1,none⟩) (Kd.R_far (p:=⟨gb375,0,none⟩) (Kd.R_types HO374.out BK375.out (by decide)) (fun _ hk=>hk.2) (.slice Ao16 t369.length co16)) (fun _ hk=>hk.2) (.slice Ao15 t372.length co15)) (fun _ hk=>hk.1.2)⟩,⟨by(with_reducible repeat(first|refine kN ?_ _|refine kD ?_|refine kA ?_ _));refine blk_far ?_ NB366_375.out _;(with_reducible repeat(first|refine kN ?_ _|refine kD ?_|refine kA ?_ _));refine blk_far ?_ NB366_375.out _;(with_reducible repeat(first|refine kN ?_ _|refine kD ?_|refine kA ?_ _));exact BK366.out⟩,⟨by(with_reducible repeat(first|refine kN ?_ _|refine kD ?_|refine kA ?_ _));refine blk_put (cs:=#[.slice Ao16 t369.length co16,.slice none 0 0]) ?_ 1 _ rfl;(with_reducible repeat(first|refine kN ?_ _|refine kD ?_|refine kA ?_ _));refine blk_put (cs:=#[.slice none 0 0,.slice none 0 0]) ?_ 0 _ rfl;(with_reducible repeat(first|refine kN ?_ _|refine kD ?_|refine kA ?_ _));exact BK375.out⟩,⟨bX2 HB.out GE366.out GE375.out⟩⟩
 case round =>
 clear H'
 try clear c6
 try clear c8
 try clear c9
 try clear hcz10_0
 try clear hcz10_1
 try clear hcz19_0
 try clear hcz19_1
 try clear hfz10_0
 try clear hfz10_1
 try clear hfz19_0
 try clear hfz19_1
 obtain ⟨x8_2,x376000_2,x376001_2,u376000,u376001,rfl,HA,HK2,HO_376000,HO_376001,BK366,BK375,HB⟩:=hrel
 cases gk with
 | zero=>exact absurd HA.out (by simp [spec_EllOf.l0])
 | succ k2 =>
 have H:=HA.out
 clear HA
 simp only [spec_EllOf.l0] at H
 by_cases c20:x8_2<a0
 {
 rw [if_pos c20] at H
 have c20b0:=decide_eq_true c20
 clear c20
 by_cases c21:a0=0
 {
 rw [if_pos c21] at H
 exact absurd H (by simp)
 }
 {
 rw [if_neg c21] at H
 have c21b0:(a0 == 0)=false:=beq_eq_false_iff_ne.mpr c21
 have c21b1:(a0 != 0)=true:=bne_iff_ne.mpr c21
 by_cases c22:0≤x8_2
 {
 rw [if_pos c22] at H
 have c22b0:=decide_eq_true c22
 clear c22
 by_cases c23:x8_2<(x376000_2.length:Int)
 {
 rw [if_pos c23] at H
 have c23b0:=decide_eq_true c23
 clear c23
 obtain ⟨y376,hy376⟩:∃ y_:List Int,y_=(x376000_2.set (x8_2:Int).toNat (Int.tmod (wrap64 (x8_2+1)) a0)):=⟨_,rfl⟩
 replace H:(spec_EllOf.l0 k2 a0 a1 (wrap64 ((wrap64 (a0+a1)) - 1)) (wrap64 (x8_2+1)) y376 x376001_2)=some (r1,r2,r3):=by first|(rw [hy376];with_reducible exact H)|(have H2_:=(Option.bind_some _ _).symm.trans H;rw [hy376];with_reducible exact H2_)|(have H2_:=(Option.bind_some _ _).symm.trans H;with_reducible exact H2_)|with_reducible exact H|(rw [hy376];exact H)|exact H
 have Ny376:=aM hy376
 clear hy376
 have H':=aM H
 clear H
 try go_wp2
 replace HO_376000:=aM (Kd.R_drew HO_376000.out)
 replace HO_376001:=aM (Kd.R_drew HO_376001.out)
 replace BK366:=aM (blk_drew BK366.out)
 replace BK375:=aM (blk_drew BK375.out)
 replace HB:=aM (below_drew1 HB.out)
 have p24:0≤(x8_2:Int):=dX
 have q24:(x8_2:Int)<((x376000_2.length:Int):Int):=dX
 obtain ⟨go24,co24,eo24,gb24,gl24,cl24,HG24⟩:=Kd.R_form HO_376000.out (by omega)
 (first|cases eo24|(injection eo24 with ea_ en_ ec_;(first|subst ea_|(injection ea_ with ea_;subst ea_));subst ec_;clear en_))
 have GB24:=aM gb24
 have GG24:=aM HG24
 clear gb24 gl24 HG24
 obtain ⟨hx24_0,hf24_0⟩:=Kd.R_celln 0 HO_376000.out (x8_2:Int) p24 q24
 replace p24:=eq_true p24
 replace q24:=eq_true q24
 have HP26:=Kd.R_putn HO_376000.out (x8_2:Int) (Int.tmod (wrap64 (x8_2+1)) a0)
 rw [← Ny376.out] at HP26
 have HQ26:=aM HP26
 clear HP26
 refine start_ (n:=9) (S:=fun w'=>w'.cell? ⟨gb375,0,none⟩=some (.slice (some ⟨go24,0,none⟩) x376000_2.length co24)∧w'.cell? ⟨gb375,1,none⟩=some (u376001)) (ds:=[8]) #[ff,ff,ff,ff,ff,ff,ff,ff,ff] (by kernel_rfl) rfl rfl ⟨cz20 BK375.out,cz21 BK375.out⟩ (fun hHeld => ?_);refine with_tabW spec_EllOf.tab8 spec_EllOf.bits8 (fun HT_ HW_ => ?_)
 generalize wr.drew=w25 at HO_376000 HO_376001 BK366 BK375 HB GG24 HQ26 hf24_0 hx24_0 hHeld ⊢
 refine pX 0 40 (fl 9 1) rfl rfl HT_.out ?_
 refine pX 2 42 (fl 9 5) rfl rfl HT_.out ?_
 refine pX 3 43 (fl 9 13) rfl rfl HT_.out ?_
 refine pX 4 44 (fl 9 29) rfl rfl HT_.out ?_
 refine pX 5 45 (fl 9 61) rfl rfl HT_.out ?_
 refine pX 6 46 (fl 9 125) rfl rfl HT_.out ?_
 refine tX2 1 41 (fl 9 127) rfl rfl HT_.out HW_.out hHeld ?_
 refine pX 7 47 (fl 9 255) rfl rfl HT_.out ?_
 refine last_ (i:=8) (N:=none) #[tt,tt,tt,tt,tt,tt,tt,tt,tt] rfl rfl (one_of HT_.out (by kernel_rfl)) (by decide) (fun K hK => ?_)
 refine skip_ (w1:=?_) (by rfl) rfl ?_ ?_
 rotate_left
 {
 go_simp
 rfl
 }
 refine hK.out _ _ ?_
 clear hK K
 refine done_ (done_of HT_.out (by kernel_rfl)) ?_
 try go_wp2
 go_roundg k2
 case measure=>have:=HJ2.out;have:=HK2.out;omega
 case rel=>exact ⟨(wrap64 (x8_2+1)),(y376),(x376001_2),(.slice (some ⟨go24,0,none⟩) x376000_2.length co24),(u376001),vX,H',⟨by have:=HJ2.out;have:=HK2.out;omega⟩,⟨rX HQ26.out⟩,⟨by(with_reducible repeat(first|apply rA|apply rN|apply rD));exact Kd.R_mono (Kd.R_far (p:=⟨go24,(x8_2:Int).toNat,none⟩) (Kd.R_mono HO_376001.out (fun k_ hk=>(⟨hk,fun e_=>hk (by rw [e_];rfl)⟩:_∧k_≠go24))) (fun _ hk=>hk.2) (.int .i64 (Int.tmod (wrap64 (x8_2+1)) a0))) (fun _ hk=>hk.1)⟩,⟨by(with_reducible repeat(first|refine kN ?_ _|refine kD ?_|refine kA ?_ _));refine blk_far ?_ (by have h_:=Kd.R_ne HO_376000.out BK366.out (by decide);intro e_;exact h_ (by rw [e_];rfl)) _;(with_reducible repeat(first|refine kN ?_ _|refine kD ?_|refine kA ?_ _));exact BK366.out⟩,⟨by(with_reducible repeat(first|refine kN ?_ _|refine kD ?_|refine kA ?_ _));refine blk_far ?_ (by have h_:=Kd.R_ne HO_376000.out BK375.out (by decide);intro e_;exact h_ (by rw [e_];rfl)) _;(with_reducible repeat(first|refine kN ?_ _|refine kD ?_|refine kA ?_ _));exact BK375.out⟩,⟨bX3 HB.out GB24.out GE366.out GE375.out⟩⟩
 }
 {
 rw [if_neg c23] at H
 exact absurd H (by simp)
 }
 }
 {
 rw [if_neg c22] at H
 exact absurd H (by simp)
 }
 }
 }
 {
 rw [if_neg c20] at H
 have c20b0:=decide_eq_false c20
 clear c20
 by_cases c27:a1 > 1
 {
 rw [if_pos c27] at H
 have c27b0:=decide_eq_true c27
 clear c27
 by_cases c28:0<(x376001_2.length:Int)
 {
 rw [if_pos c28] at H
 have c28b0:=decide_eq_true c28
 have c28b1:decide (0<x376001_2.length)=true:=decide_eq_true (by omega)
 clear c28
 obtain ⟨y377,hy377⟩:∃ y_:List Int,y_=(x376001_2.set (0:Int).toNat a0):=⟨_,rfl⟩
 replace H:(spec_EllOf.l1 k2 (wrap64 ((wrap64 (a0+a1)) - 1)) a0 x376000_2 y377)=some (r1,r2,r3):=by first|(rw [hy377];with_reducible exact H)|(have H2_:=(Option.bind_some _ _).symm.trans H;rw [hy377];with_reducible exact H2_)|(have H2_:=(Option.bind_some _ _).symm.trans H;with_reducible exact H2_)|with_reducible exact H|(rw [hy377];exact H)|exact H
 have Ny377:=aM hy377
 clear hy377
 have H':=aM H
 clear H
 have hnb30:=NB375_366.out
 have hnc30:=NB366_375.out
 obtain ⟨hcz31_0,hcz31_1,hfz31_0,hfz31_1⟩:=f2Z BK375.out
 have p29:0≤(0:Int):=(by omega)
 have q29:(0:Int)<((x376001_2.length:Int):Int):=dX
 have qi29:(0<x376001_2.length)=True:=eq_true (by omega)
 obtain ⟨go29,co29,eo29,gb29,gl29,cl29,HG29⟩:=Kd.R_form HO_376001.out (by omega)
 (first|cases eo29|(injection eo29 with ea_ en_ ec_;(first|subst ea_|(injection ea_ with ea_;subst ea_));subst ec_;clear en_))
 have GB29:=aM gb29
 have GG29:=aM HG29
 clear gb29 gl29 HG29
 obtain ⟨hx29_0,hf29_0⟩:=Kd.R_celln 0 HO_376001.out (0:Int) p29 q29
 (try rw [show ((0:Int)).toNat=0 from rfl] at hx29_0)
 (try simp only [Nat.reduceMul,Nat.zero_mul,Nat.zero_add,Nat.reduceAdd] at hx29_0)
 (try rw [show ((0:Int)).toNat=0 from rfl] at hf29_0)
 (try simp only [Nat.reduceMul,Nat.zero_mul,Nat.zero_add,Nat.reduceAdd] at hf29_0)
 replace p29:=eq_true p29
 replace q29:=eq_true q29
 have HP32:=Kd.R_putg HO_376001.out (0:Int) a0
 go_wp2_with (first|((with_reducible refine gate_store (t:=3) (p:=53) rfl ?_);refine store_event (t:=3) (p:=53) (v:=?vo_w33) (w1:=(wr.setCell ⟨go29,(0:Int).toNat,none⟩ (.int .i64 a0))) ?hg ?ho ?hn ?hr ?_;(case ho=>rfl);(case hg=>rfl);(case hn=>rfl);(case hr=>first|(go_simp;done)|(go_simp;rfl));intro w33 hw;have hg:wr.grownBy w33 (some go29):=(by rw [hw];exact HP32.2);have hp_:Kd.R (Kd.int .i64) 3 w33 w.heap.size (fun k_=>some k_≠(u376000:Value).ownBlock) (.slice (some ⟨go29,0,none⟩) x376001_2.length co29) y377:=(by rw [hw,Ny377.out];exact HP32.1);clear HP32;replace HO_376000:=aM (Kd.R_after (v:=(.slice (some ⟨go29,0,none⟩) x376001_2.length co29)) (v1:=(.slice (some ⟨go29,0,none⟩) x376001_2.length co29)) (ok:=(fun _=>True)) (rM HO_376000.out (fun _ hk=>⟨trivial,hk⟩)) hg (.inl rfl));replace BK366:=aM (bgX BK366.out hg (Kd.R_ne HO_376001.out BK366.out (by decide)));replace BK375:=aM (bgX BK375.out hg (Kd.R_ne HO_376001.out BK375.out (by decide)));replace HO_376001:=aM (hp_);replace HB:=aM ((by rw [hw];exact below_set (HB.out) GB29.out:Below w.heap.size w w33));clear hg hw hp_))
 go_loopg [9] k2 (fun kq v9 w'=>∃ (x9_3:Int) (x376000_3:List Int) (x376001_3:List Int) (u376000:Value) (u376001:Value),v9 = .int .i64 x9_3∧Aside0 (spec_EllOf.l1 kq (wrap64 ((wrap64 (a0+a1)) - 1)) x9_3 x376000_3 x376001_3=some (r1,r2,r3))∧Aside0 (kq≤k2)∧Aside0 (Kd.R (Kd.int .i64) 3 w' w.heap.size (fun k_=>some k_≠(u376001:Value).ownBlock) u376000 x376000_3)∧Aside0 (Kd.R (Kd.int .i64) 3 w' w.heap.size (fun k_=>some k_≠(u376000:Value).ownBlock) u376001 x376001_3)∧Aside0 (w'.heap[gb366]? = some (.cells #[(.slice none 0 0),(.slice none 0 0)] 27 (0,0)))∧Aside0 (w'.heap[gb375]? = some (.cells #[u376000,u376001] 27 (0,0)))∧Aside0 (Below w.heap.size w w'))
 case atStart=>exact ⟨(a0),(x376000_2),(y377),(u376000),(.slice (some ⟨go29,0,none⟩) x376001_2.length co29),vX,H',⟨Nat.le_refl _⟩,⟨rM HO_376000.out (fun _ hk=>hk.2)⟩,⟨rX HO_376001.out⟩,⟨kX BK366.out⟩,⟨kX BK375.out⟩,⟨bX2 HB.out GE366.out GE375.out⟩⟩
 case round =>
 clear H'
 try clear c6
 try clear c8
 try clear c9
 try clear c20
 try clear c20b0
 try clear c21
 try clear c21b0
 try clear c21b1
 try clear c22
 try clear c22b0
 try clear c23
 try clear c23b0
 try clear p24
 try clear q24
 try clear c27
 try clear c27b0
 try clear c28
 try clear c28b0
 try clear c28b1
 try clear p29
 try clear q29
 try clear qi29
 try clear hcz10_0
 try clear hcz10_1
 try clear hcz19_0
 try clear hcz19_1
 try clear hcz31_0
 try clear hcz31_1
 try clear hfz10_0
 try clear hfz10_1
 try clear hfz19_0
 try clear hfz19_1
 try clear hfz31_0
 try clear hfz31_1
 try clear hx24_0
 try clear hx29_0
 try clear p24
 try clear p29
 try clear q24
 try clear q29
 obtain ⟨x9_3,x376000_3,x376001_3,u376000,u376001,rfl,HA,HK3,HO_376000,HO_376001,BK366,BK375,HB⟩:=hrel
 cases gk with
 | zero=>exact absurd HA.out (by simp [spec_EllOf.l1])
 | succ k3 =>
 have H:=HA.out
 clear HA
 simp only [spec_EllOf.l1] at H
 by_cases c34:x9_3<(wrap64 ((wrap64 (a0+a1)) - 1))
 {
 rw [if_pos c34] at H
 have c34b0:=decide_eq_true c34
 clear c34
 by_cases c35:(wrap64 ((wrap64 (a0+a1)) - 1))=0
 {
 rw [if_pos c35] at H
 exact absurd H (by simp)
 }
 {
 rw [if_neg c35] at H
 have c35b0:((wrap64 ((wrap64 (a0+a1)) - 1)) == 0)=false:=beq_eq_false_iff_ne.mpr c35
 have c35b1:((wrap64 ((wrap64 (a0+a1)) - 1)) != 0)=true:=bne_iff_ne.mpr c35
 by_cases c36:0≤x9_3
 {
 rw [if_pos c36] at H
 have c36b0:=decide_eq_true c36
 clear c36
 by_cases c37:x9_3<(x376001_3.length:Int)
 {
 rw [if_pos c37] at H
 have c37b0:=decide_eq_true c37
 clear c37
 obtain ⟨y378,hy378⟩:∃ y_:List Int,y_=(x376001_3.set (x9_3:Int).toNat (Int.tmod (wrap64 (x9_3+1)) (wrap64 ((wrap64 (a0+a1)) - 1)))):=⟨_,rfl⟩
 replace H:(spec_EllOf.l1 k3 (wrap64 ((wrap64 (a0+a1)) - 1)) (wrap64 (x9_3+1)) x376000_3 y378)=some (r1,r2,r3):=by first|(rw [hy378];with_reducible exact H)|(have H2_:=(Option.bind_some _ _).symm.trans H;rw [hy378];with_reducible exact H2_)|(have H2_:=(Option.bind_some _ _).symm.trans H;with_reducible exact H2_)|with_reducible exact H|(rw [hy378];exact H)|exact H
 have Ny378:=aM hy378
 clear hy378
 have H':=aM H
 clear H
 try go_wp2
 replace HO_376000:=aM (Kd.R_drew HO_376000.out)
 replace HO_376001:=aM (Kd.R_drew HO_376001.out)
 replace BK366:=aM (blk_drew BK366.out)
 replace BK375:=aM (blk_drew BK375.out)
 replace HB:=aM (below_drew1 HB.out)
 have p38:0≤(x9_3:Int):=dX
 have q38:(x9_3:Int)<((x376001_3.length:Int):Int):=dX
 obtain ⟨go38,co38,eo38,gb38,gl38,cl38,HG38⟩:=Kd.R_form HO_376001.out (by omega)
 (first|cases eo38|(injection eo38 with ea_ en_ ec_;(first|subst ea_|(injection ea_ with ea_;subst ea_));subst ec_;clear en_))
 have GB38:=aM gb38
 have GG38:=aM HG38
 clear gb38 gl38 HG38
 obtain ⟨hx38_0,hf38_0⟩:=Kd.R_celln 0 HO_376001.out (x9_3:Int) p38 q38
 replace p38:=eq_true p38
 replace q38:=eq_true q38
 have HP40:=Kd.R_putn HO_376001.out (x9_3:Int) (Int.tmod (wrap64 (x9_3+1)) (wrap64 ((wrap64 (a0+a1)) - 1)))
 rw [← Ny378.out] at HP40
 have HQ40:=aM HP40
 clear HP40
 refine start_ (n:=9) (S:=fun w'=>w'.cell? ⟨gb375,0,none⟩=some (u376000)∧w'.cell? ⟨gb375,1,none⟩=some (.slice (some ⟨go38,0,none⟩) x376001_3.length co38)) (ds:=[8]) #[ff,ff,ff,ff,ff,ff,ff,ff,ff] (by kernel_rfl) rfl rfl ⟨cz20 BK375.out,cz21 BK375.out⟩ (fun hHeld => ?_);refine with_tabW spec_EllOf.tab14 spec_EllOf.bits14 (fun HT_ HW_ => ?_)
 generalize wr.drew=w39 at HO_376000 HO_376001 BK366 BK375 HB GG38 HQ40 hf38_0 hx38_0 hHeld ⊢
 refine pX 0 60 (fl 9 1) rfl rfl HT_.out ?_
 refine pX 2 62 (fl 9 5) rfl rfl HT_.out ?_
 refine pX 3 63 (fl 9 13) rfl rfl HT_.out ?_
 refine pX 4 64 (fl 9 29) rfl rfl HT_.out ?_
 refine pX 5 65 (fl 9 61) rfl rfl HT_.out ?_
 refine pX 6 66 (fl 9 125) rfl rfl HT_.out ?_
 refine tX2 1 61 (fl 9 127) rfl rfl HT_.out HW_.out hHeld ?_
 refine pX 7 67 (fl 9 255) rfl rfl HT_.out ?_
 refine last_ (i:=8) (N:=none) #[tt,tt,tt,tt,tt,tt,tt,tt,tt] rfl rfl (one_of HT_.out (by kernel_rfl)) (by decide) (fun K hK => ?_)
 refine skip_ (w1:=?_) (by rfl) rfl ?_ ?_
 rotate_left
 {
 go_simp
 rfl
 }
 refine hK.out _ _ ?_
 clear hK K
 refine done_ (done_of HT_.out (by kernel_rfl)) ?_
 try go_wp2
 go_roundg k3
 case measure=>have:=HJ2.out;have:=HK2.out;have:=HK3.out;omega
 case rel=>exact ⟨(wrap64 (x9_3+1)),(x376000_3),(y378),(u376000),(.slice (some ⟨go38,0,none⟩) x376001_3.length co38),vX,H',⟨by have:=HJ2.out;have:=HK2.out;have:=HK3.out;omega⟩,⟨by(with_reducible repeat(first|apply rA|apply rN|apply rD));exact Kd.R_mono (Kd.R_far (p:=⟨go38,(x9_3:Int).toNat,none⟩) (Kd.R_mono HO_376000.out (fun k_ hk=>(⟨hk,fun e_=>hk (by rw [e_];rfl)⟩:_∧k_≠go38))) (fun _ hk=>hk.2) (.int .i64 (Int.tmod (wrap64 (x9_3+1)) (wrap64 ((wrap64 (a0+a1)) - 1))))) (fun _ hk=>hk.1)⟩,⟨rX HQ40.out⟩,⟨by(with_reducible repeat(first|refine kN ?_ _|refine kD ?_|refine kA ?_ _));refine blk_far ?_ (by have h_:=Kd.R_ne HO_376001.out BK366.out (by decide);intro e_;exact h_ (by rw [e_];rfl)) _;(with_reducible repeat(first|refine kN ?_ _|refine kD ?_|refine kA ?_ _));exact BK366.out⟩,⟨by(with_reducible repeat(first|refine kN ?_ _|refine kD ?_|refine kA ?_ _));refine blk_far ?_ (by have h_:=Kd.R_ne HO_376001.out BK375.out (by decide);intro e_;exact h_ (by rw [e_];rfl)) _;(with_reducible repeat(first|refine kN ?_ _|refine kD ?_|refine kA ?_ _));exact BK375.out⟩,⟨bX3 HB.out GB38.out GE366.out GE375.out⟩⟩
 }
 {
 rw [if_neg c37] at H
 exact absurd H (by simp)
 }
 }
 {
 rw [if_neg c36] at H
 exact absurd H (by simp)
 }
 }
 }
 {
 rw [if_neg c34] at H
 have c34b0:=decide_eq_false c34
 clear c34
 simp only [Option.some.injEq,Prod.mk.injEq] at H
 obtain ⟨rfl,rfl,rfl⟩:=H
 have hnb41:=NB375_366.out
 have hnc41:=NB366_375.out
 obtain ⟨hcz42_0,hcz42_1,hfz42_0,hfz42_1⟩:=f2Z BK375.out
 obtain ⟨Ao43,co43,eo43⟩:=Kd.R_slice HO_376000.out
 subst eo43
 obtain ⟨hcz44_0,hcz44_1,hfz44_0,hfz44_1⟩:=f2Z BK366.out
 obtain ⟨Ao45,co45,eo45⟩:=Kd.R_slice HO_376001.out
 subst eo45
 go_wp2
 refine bodyPost_ret (results_ct rfl _ _ gb366 27 #[.slice Ao43 x376000_3.length co43,.slice Ao45 x376001_3.length co45] (0,0) _ rfl (by(with_reducible repeat(first|refine kN ?_ _|refine kD ?_|refine kA ?_ _));refine blk_put (cs:=#[.slice Ao43 x376000_3.length co43,.slice none 0 0]) ?_ 1 _ rfl;(with_reducible repeat(first|refine kN ?_ _|refine kD ?_|refine kA ?_ _));refine blk_put (cs:=#[.slice none 0 0,.slice none 0 0]) ?_ 0 _ rfl;(with_reducible repeat(first|refine kN ?_ _|refine kD ?_|refine kA ?_ _));exact BK366.out) Try.underlying27 rfl (by kernel_rfl)) rfl ?_
 exact ⟨_,_,eX,by(with_reducible repeat(first|apply rA|apply rN|apply rD));exact Kd.R_mono (Kd.R_far (p:=⟨gb366,1,none⟩) (Kd.R_far (p:=⟨gb366,0,none⟩) (Kd.R_types HO_376000.out BK366.out (by decide)) (fun _ hk=>hk.2) (.slice Ao43 x376000_3.length co43)) (fun _ hk=>hk.2) (.slice Ao45 x376001_3.length co45)) (fun _ hk=>hk.1),by(with_reducible repeat(first|apply rA|apply rN|apply rD));exact Kd.R_mono (Kd.R_far (p:=⟨gb366,1,none⟩) (Kd.R_far (p:=⟨gb366,0,none⟩) (Kd.R_types HO_376001.out BK366.out (by decide)) (fun _ hk=>hk.2) (.slice Ao43 x376000_3.length co43)) (fun _ hk=>hk.2) (.slice Ao45 x376001_3.length co45)) (fun _ hk=>hk.1),bX2 HB.out GE366.out GE375.out⟩
 }
 }
 {
 rw [if_neg c28] at H
 exact absurd H (by simp)
 }
 }
 {
 rw [if_neg c27] at H
 have c27b0:=decide_eq_false c27
 clear c27
 simp only [Option.some.injEq,Prod.mk.injEq] at H
 obtain ⟨rfl,rfl,rfl⟩:=H
 have hnb46:=NB375_366.out
 have hnc46:=NB366_375.out
 obtain ⟨hcz47_0,hcz47_1,hfz47_0,hfz47_1⟩:=f2Z BK375.out
 obtain ⟨Ao48,co48,eo48⟩:=Kd.R_slice HO_376000.out
 subst eo48
 obtain ⟨hcz49_0,hcz49_1,hfz49_0,hfz49_1⟩:=f2Z BK366.out
 obtain ⟨Ao50,co50,eo50⟩:=Kd.R_slice HO_376001.out
 subst eo50
 go_wp2
 refine bodyPost_ret (results_ct rfl _ _ gb366 27 #[.slice Ao48 x376000_2.length co48,.slice Ao50 x376001_2.length co50] (0,0) _ rfl (by(with_reducible repeat(first|refine kN ?_ _|refine kD ?_|refine kA ?_ _));refine blk_put (cs:=#[.slice Ao48 x376000_2.length co48,.slice none 0 0]) ?_ 1 _ rfl;(with_reducible repeat(first|refine kN ?_ _|refine kD ?_|refine kA ?_ _));refine blk_put (cs:=#[.slice none 0 0,.slice none 0 0]) ?_ 0 _ rfl;(with_reducible repeat(first|refine kN ?_ _|refine kD ?_|refine kA ?_ _));exact BK366.out) Try.underlying27 rfl (by kernel_rfl)) rfl ?_
 exact ⟨_,_,eX,by(with_reducible repeat(first|apply rA|apply rN|apply rD));exact Kd.R_mono (Kd.R_far (p:=⟨gb366,1,none⟩) (Kd.R_far (p:=⟨gb366,0,none⟩) (Kd.R_types HO_376000.out BK366.out (by decide)) (fun _ hk=>hk.2) (.slice Ao48 x376000_2.length co48)) (fun _ hk=>hk.2) (.slice Ao50 x376001_2.length co50)) (fun _ hk=>hk.1),by(with_reducible repeat(first|apply rA|apply rN|apply rD));exact Kd.R_mono (Kd.R_far (p:=⟨gb366,1,none⟩) (Kd.R_far (p:=⟨gb366,0,none⟩) (Kd.R_types HO_376001.out BK366.out (by decide)) (fun _ hk=>hk.2) (.slice Ao48 x376000_2.length co48)) (fun _ hk=>hk.2) (.slice Ao50 x376001_2.length co50)) (fun _ hk=>hk.1),bX2 HB.out GE366.out GE375.out⟩
 }
 }
 }

/-! ### spec_l03Draw: function 28 -/
def spec_l03Draw.l0 : Nat→Int→Int→List Int→Int→Int→Option (List Int × List Int × Int × Int)
 | 0,_,_,_,_,_=>none
 | k+1,x5,x6,x1000,x1001,x1002=>if x6<8 then ((spec_l02Draw.f k x1000 x1001 x1002 x5).bind fun bt391=>((spec_l02Draw.f k x1000 bt391.2.1 bt391.2.2 x5).bind fun bt396=>((spec_SurfaceOk.f k bt391.1 bt396.1).bind fun t402=>(if t402=true then (some (bt391.1,bt396.1,bt396.2.1,bt396.2.2)) else (spec_l03Draw.l0 k x5 (wrap64 (x6+1)) x1000 bt396.2.1 bt396.2.2))))) else ((spec_EllOf.f k x5 1).bind fun bt383=>(some (bt383.1,bt383.2.1,x1001,x1002)))
def spec_l03Draw.f (k:Nat) (s0_0:List Int) (s0_1:Int) (s0_2:Int) (a1:Int):Option (List Int × List Int × Int × Int):=(spec_l01Below.f s0_0 s0_1 s0_2 a1).bind fun bt380=>(spec_l03Draw.l0 k (wrap64 (1+bt380.1)) 0 s0_0 bt380.2.1 bt380.2.2)
theorem spec_l03Draw.calls (k:Nat) (g:Nat) (s0_0:List Int) (s0_1:Int) (s0_2:Int) (a1:Int) (r1:List Int) (r2:List Int) (r3:Int) (r4:Int) (w0 w:World) (hI:IsS76 w0 w g s0_0 s0_1 s0_2) (hB:Below w0.heap.size w0 w) (h:spec_l03Draw.f k s0_0 s0_1 s0_2 a1=some (r1,r2,r3,r4)) :
  Calls Try.prog 28 #[.pointer (some ⟨g,0,none⟩),.int .i64 a1] w fun e w'=>∃ v0_ v1_:Value,e = .returned (.agg #[v0_,v1_])∧Kd.R (Kd.int .i64) 3 w' w.heap.size (fun k_=>some k_≠(v1_:Value).ownBlock) v0_ r1∧Kd.R (Kd.int .i64) 3 w' w.heap.size (fun k_=>some k_≠(v0_:Value).ownBlock) v1_ r2∧IsS76 w0 w' g s0_0 r3 r4∧Below w0.heap.size w0 w'∧KeepBut w w' g none:=by
 have hu27:=Try.underlying27
 have HI0:=aM hI
 have HK:=aM (KeepBut.refl w g none)
 have HL:=aM hB.size
 clear hI
 have HW0:=aM hB.size
 have HB:=aM hB
 clear hB
 have H:((spec_l01Below.f s0_0 s0_1 s0_2 a1).bind fun bt380=>(spec_l03Draw.l0 k (wrap64 (1+bt380.1)) 0 s0_0 bt380.2.1 bt380.2.2))=some (r1,r2,r3,r4):=h
 clear h
 replace H:=oB H
 obtain ⟨⟨t380,t381,t382⟩,A30,H⟩:=H
 replace H:(spec_l03Draw.l0 k (wrap64 (1+t380)) 0 s0_0 t381 t382)=some (r1,r2,r3,r4):=H
 have A3:=aM A30
 clear A30
 have H':=aM H
 clear H
 go_enter Try.func28,Try.ntmps28
 go_wp2_with (first|((with_reducible refine gate_dst (N:=4) rfl ?_);refine bEv (cs:=#[.slice none 0 0,.slice none 0 0]) (t:=27) ?_;intro gb379 hg w4 hbox hb;replace HB:=aM (below_step (bX1 HB.out (IsS76.ge HI0.out)) hb);have BK379:=aM (hbox);have GW379:=aM ((by rw [hg];exact(keep_size (w:=w) (g:=g) (row:=none) (by repeat(first|(with_reducible first|exact HK.out|apply KeepBut.set_|apply keep_drewN|apply keep_drew|apply keep_alloc)|exact HK.out))):w.heap.size≤gb379));have GE379:=aM ((Nat.le_trans HW0.out (by rw [hg];exact(keep_size (w:=w) (g:=g) (row:=none) (by repeat(first|(with_reducible first|exact HK.out|apply KeepBut.set_|apply keep_drewN|apply keep_drew|apply keep_alloc)|exact HK.out))):w.heap.size≤gb379):w0.heap.size≤gb379));replace HK:=aM (KeepBut.trans (by repeat(first|(with_reducible first|exact HK.out|apply KeepBut.set_|apply keep_drewN|apply keep_drew|apply keep_alloc)|exact HK.out)) (KeepBut.of_below hb g none) (.inl rfl));have NB0_379:=aM ((by rw [hg];exact Nat.ne_of_lt (IsS76.lt (show IsS76 w0 _ g s0_0 s0_1 s0_2 from by repeat(first|(with_reducible first|exact HI0.out|apply IsS76.alloc|apply IsS76.drewN|apply IsS76.drew|apply IsS76.set_1|apply IsS76.set_2)|exact HI0.out))):g≠gb379));have NB379_0:=aM ((by rw [hg];exact Nat.ne_of_gt (IsS76.lt (show IsS76 w0 _ g s0_0 s0_1 s0_2 from by repeat(first|(with_reducible first|exact HI0.out|apply IsS76.alloc|apply IsS76.drewN|apply IsS76.drew|apply IsS76.set_1|apply IsS76.set_2)|exact HI0.out))):gb379≠g));replace HI0:=aM (IsS76.below (by repeat(first|(with_reducible first|exact HI0.out|apply IsS76.alloc|apply IsS76.drewN|apply IsS76.drew|apply IsS76.set_1|apply IsS76.set_2)|exact HI0.out)) hb);clear hb hbox hg)|((with_reducible refine gate_callee (f:=47) rfl ?_);refine goesL_ (some 12) rfl rfl Try.func47 (by kernel_rfl) rfl #[.pointer (some ⟨g,0,none⟩),.int .i64 a1] rfl aX ?_;(with_reducible refine(spec_l01Below.calls g s0_0 s0_1 s0_2 a1 t380 t381 t382 w0 _ ?side1 ?side2 A3.out).mono ?_);(case side1=>repeat(first|(with_reducible first|exact HI0.out|apply IsS76.alloc|apply IsS76.drewN|apply IsS76.drew|apply IsS76.set_1|apply IsS76.set_2|refine IsS76.far ?_ NB0_379.out _)|exact HI0.out));(case side2=>repeat(first|(with_reducible first|exact HB.out|apply bA|apply bN|apply bD|refine below_set ?_ (IsS76.ge HI0.out)|refine below_set ?_ GE379.out)|exact HB.out));rintro e w5 ⟨rfl,hi,hb,hk⟩;refine ⟨_,rfl,?_⟩;replace BK379:=aM (KeepBut.blk hk (g':=gb379) (o:=.cells #[.slice none 0 0,.slice none 0 0] 27 (0,0)) (kX BK379.out) NB379_0.out (by simp));replace HK:=aM (KeepBut.trans (by repeat(first|(with_reducible first|exact HK.out|apply KeepBut.set_|apply keep_drewN|apply keep_drew|apply keep_alloc|refine keep_far ?_ GW379.out _)|exact HK.out)) hk (.inl rfl));replace HB:=aM (hb);replace HI0:=aM (hi);(try clear hb);(try clear hk);(try clear hi)))
 go_loopg [6] k (fun kq v6 w'=>∃ (x6_1:Int) (x1001_1:Int) (x1002_1:Int),v6 = .int .i64 x6_1∧Aside0 (spec_l03Draw.l0 kq (wrap64 (1+t380)) x6_1 s0_0 x1001_1 x1002_1=some (r1,r2,r3,r4))∧Aside0 (kq≤k)∧Aside0 (w'.heap[gb379]? = some (.cells #[(.slice none 0 0),(.slice none 0 0)] 27 (0,0)))∧Aside0 (IsS76 w0 w' g s0_0 x1001_1 x1002_1)∧Aside0 (KeepBut w w' g none)∧Aside0 (Below w0.heap.size w0 w'))
 case atStart=>exact ⟨(0),(t381),(t382),vX,H',⟨Nat.le_refl _⟩,⟨kX BK379.out⟩,⟨by repeat(first|(with_reducible first|exact HI0.out|apply IsS76.alloc|apply IsS76.drewN|apply IsS76.drew|apply IsS76.set_1|apply IsS76.set_2|refine IsS76.far ?_ NB0_379.out _)|exact HI0.out)⟩,⟨by repeat(first|(with_reducible first|exact HK.out|apply KeepBut.set_|apply keep_drewN|apply keep_drew|apply keep_alloc|refine keep_far ?_ GW379.out _)|exact HK.out)⟩,⟨bX2 HB.out (IsS76.ge HI0.out) GE379.out⟩⟩
 case round =>
 clear H'
 obtain ⟨x6_1,x1001_1,x1002_1,rfl,HA,HK1,BK379,HI0,HK,HB⟩:=hrel
 cases gk with
 | zero=>exact absurd HA.out (by simp [spec_l03Draw.l0])
 | succ k1 =>
 have H:=HA.out
 clear HA
 simp only [spec_l03Draw.l0] at H
 by_cases c6:x6_1<8
 {
 rw [if_pos c6] at H
 have c6b0:=decide_eq_true c6
 clear c6
 replace H:=oB H
 obtain ⟨⟨t391,t394,t395⟩,A70,H⟩:=H
 replace H:((spec_l02Draw.f k1 s0_0 t394 t395 (wrap64 (1+t380))).bind fun bt396=>((spec_SurfaceOk.f k1 t391 bt396.1).bind fun t402=>(if t402=true then (some (t391,bt396.1,bt396.2.1,bt396.2.2)) else (spec_l03Draw.l0 k1 (wrap64 (1+t380)) (wrap64 (x6_1+1)) s0_0 bt396.2.1 bt396.2.2))))=some (r1,r2,r3,r4):=H
 have A7:=aM A70
 clear A70
 replace H:=oB H
 obtain ⟨⟨t396,t399,t400⟩,A80,H⟩:=H
 replace H:((spec_SurfaceOk.f k1 t391 t396).bind fun t402=>(if t402=true then (some (t391,t396,t399,t400)) else (spec_l03Draw.l0 k1 (wrap64 (1+t380)) (wrap64 (x6_1+1)) s0_0 t399 t400)))=some (r1,r2,r3,r4):=H
 have A8:=aM A80
 clear A80
 replace H:=oB H
 obtain ⟨t402,A90,H⟩:=H
 have A9:=aM A90
 clear A90
 by_cases c10:t402=true
 {
 subst c10
 have H1:(some (t391,t396,t399,t400))=some (r1,r2,r3,r4):=by rw [if_pos rfl] at H;exact H
 clear H
 have H:=H1
 clear H1
 simp only [Option.some.injEq,Prod.mk.injEq] at H
 obtain ⟨rfl,rfl,rfl,rfl⟩:=H
 go_wp2_with (first|((with_reducible refine gate_callee (f:=48) rfl ?_);refine goesL_ (some 20) rfl rfl Try.func48 (by kernel_rfl) rfl #[.pointer (some ⟨g,0,none⟩),.int .i64 (wrap64 (1+t380))] rfl aX ?_;(with_reducible refine(spec_l02Draw.calls k1 g s0_0 x1001_1 x1002_1 (wrap64 (1+t380)) t391 t394 t395 w0 _ ?side1 ?side2 A7.out).mono ?_);(case side1=>repeat(first|(with_reducible first|exact HI0.out|apply IsS76.alloc|apply IsS76.drewN|apply IsS76.drew|apply IsS76.set_1|apply IsS76.set_2|refine IsS76.far ?_ NB0_379.out _)|exact HI0.out));(case side2=>repeat(first|(with_reducible first|exact HB.out|apply bA|apply bN|apply bD|refine below_set ?_ (IsS76.ge HI0.out)|refine below_set ?_ GE379.out)|exact HB.out));rintro e w11 ⟨v392,rfl,ho0,hi,hb,hk⟩;refine ⟨_,rfl,?_⟩;replace BK379:=aM (KeepBut.blk hk (g':=gb379) (o:=.cells #[.slice none 0 0,.slice none 0 0] 27 (0,0)) (kX BK379.out) NB379_0.out (by simp));have HO393:=aM (Kd.R_lower ho0 (keep_size (w:=w) (g:=g) (row:=none) (by repeat(first|(with_reducible first|exact HK.out|apply KeepBut.set_|apply keep_drewN|apply keep_drew|apply keep_alloc|refine keep_far ?_ GW379.out _)|exact HK.out))));replace HK:=aM (KeepBut.trans (by repeat(first|(with_reducible first|exact HK.out|apply KeepBut.set_|apply keep_drewN|apply keep_drew|apply keep_alloc|refine keep_far ?_ GW379.out _)|exact HK.out)) hk (.inl rfl));replace HB:=aM (hb);replace HI0:=aM (hi);(try clear hb);(try clear hk);(try clear hi);(try clear ho0))|((with_reducible refine gate_callee (f:=48) rfl ?_);refine goesL_ (some 23) rfl rfl Try.func48 (by kernel_rfl) rfl #[.pointer (some ⟨g,0,none⟩),.int .i64 (wrap64 (1+t380))] rfl aX ?_;(with_reducible refine(spec_l02Draw.calls k1 g s0_0 t394 t395 (wrap64 (1+t380)) t396 t399 t400 w0 _ ?side1 ?side2 A8.out).mono ?_);(case side1=>repeat(first|(with_reducible first|exact HI0.out|apply IsS76.alloc|apply IsS76.drewN|apply IsS76.drew|apply IsS76.set_1|apply IsS76.set_2|refine IsS76.far ?_ NB0_379.out _)|exact HI0.out));(case side2=>repeat(first|(with_reducible first|exact HB.out|apply bA|apply bN|apply bD|refine below_set ?_ (IsS76.ge HI0.out)|refine below_set ?_ GE379.out)|exact HB.out));rintro e w12 ⟨v397,rfl,ho0,hi,hb,hk⟩;refine ⟨_,rfl,?_⟩;replace BK379:=aM (KeepBut.blk hk (g':=gb379) (o:=.cells #[.slice none 0 0,.slice none 0 0] 27 (0,0)) (kX BK379.out) NB379_0.out (by simp));have HO398:=aM (Kd.R_lower (Kd.R_new' ho0 (Kd.R_lt (rX HO393.out))) (keep_size (w:=w) (g:=g) (row:=none) (by repeat(first|(with_reducible first|exact HK.out|apply KeepBut.set_|apply keep_drewN|apply keep_drew|apply keep_alloc|refine keep_far ?_ GW379.out _)|exact HK.out))));replace HO393:=aM (Kd.R_mono (Kd.R_told (Kd.R_oldK (IsS76.apart (show IsS76 w0 _ g s0_0 t394 t395 from by repeat(first|(with_reducible first|exact HI0.out|apply IsS76.alloc|apply IsS76.drewN|apply IsS76.drew|apply IsS76.set_1|apply IsS76.set_2|refine IsS76.far ?_ NB0_379.out _)|exact HI0.out)) (rX HO393.out) (by decide)) hk) (Kd.R_base ho0)) (fun _ h_=>h_.1));replace HK:=aM (KeepBut.trans (by repeat(first|(with_reducible first|exact HK.out|apply KeepBut.set_|apply keep_drewN|apply keep_drew|apply keep_alloc|refine keep_far ?_ GW379.out _)|exact HK.out)) hk (.inl rfl));replace HB:=aM (hb);replace HI0:=aM (hi);(try clear hb);(try clear hk);(try clear hi);(try clear ho0);obtain ⟨Ao13,co13,eo13⟩:=Kd.R_slice HO398.out;subst eo13;obtain ⟨Ao14,co14,eo14⟩:=Kd.R_slice HO393.out;subst eo14)|((with_reducible refine gate_dst (N:=7) rfl ?_);refine bEv (cs:=#[.slice none 0 0,.slice none 0 0]) (t:=27) ?_;intro gb401 hg w15 hbox hb;replace HO393:=aM (Kd.R_below (rX HO393.out) hb);replace HO398:=aM (Kd.R_below (rX HO398.out) hb);replace HB:=aM (below_step (bX2 HB.out (IsS76.ge HI0.out) GE379.out) hb);have BK401:=aM (hbox);have GW401:=aM ((by rw [hg];exact(keep_size (w:=w) (g:=g) (row:=none) (by repeat(first|(with_reducible first|exact HK.out|apply KeepBut.set_|apply keep_drewN|apply keep_drew|apply keep_alloc|refine keep_far ?_ GW379.out _)|exact HK.out))):w.heap.size≤gb401));have GE401:=aM ((Nat.le_trans HW0.out (by rw [hg];exact(keep_size (w:=w) (g:=g) (row:=none) (by repeat(first|(with_reducible first|exact HK.out|apply KeepBut.set_|apply keep_drewN|apply keep_drew|apply keep_alloc|refine keep_far ?_ GW379.out _)|exact HK.out))):w.heap.size≤gb401):w0.heap.size≤gb401));replace HK:=aM (KeepBut.trans (by repeat(first|(with_reducible first|exact HK.out|apply KeepBut.set_|apply keep_drewN|apply keep_drew|apply keep_alloc|refine keep_far ?_ GW379.out _)|exact HK.out)) (KeepBut.of_below hb g none) (.inl rfl));have NB379_401:=aM (neX BK379.out hg);have NB401_379:=aM (nfX BK379.out hg);replace BK379:=aM (bbX BK379.out hb);have NB0_401:=aM ((by rw [hg];exact Nat.ne_of_lt (IsS76.lt (show IsS76 w0 _ g s0_0 t399 t400 from by repeat(first|(with_reducible first|exact HI0.out|apply IsS76.alloc|apply IsS76.drewN|apply IsS76.drew|apply IsS76.set_1|apply IsS76.set_2|refine IsS76.far ?_ NB0_379.out _)|exact HI0.out))):g≠gb401));have NB401_0:=aM ((by rw [hg];exact Nat.ne_of_gt (IsS76.lt (show IsS76 w0 _ g s0_0 t399 t400 from by repeat(first|(with_reducible first|exact HI0.out|apply IsS76.alloc|apply IsS76.drewN|apply IsS76.drew|apply IsS76.set_1|apply IsS76.set_2|refine IsS76.far ?_ NB0_379.out _)|exact HI0.out))):gb401≠g));replace HI0:=aM (IsS76.below (by repeat(first|(with_reducible first|exact HI0.out|apply IsS76.alloc|apply IsS76.drewN|apply IsS76.drew|apply IsS76.set_1|apply IsS76.set_2|refine IsS76.far ?_ NB0_379.out _)|exact HI0.out)) hb);clear hb hbox hg;have hnb16:=NB401_379.out;have hnc16:=NB379_401.out;have hnb17:=NB401_0.out;have hnc17:=NB0_401.out;obtain ⟨hcz18_0,hcz18_1,hfz18_0,hfz18_1⟩:=f2Z BK401.out)|((with_reducible refine gate_callee (f:=39) rfl ?_);refine goesL_ (some 26) rfl rfl Try.func39 (by kernel_rfl) rfl #[.agg #[.slice Ao14 t391.length co14,.slice Ao13 t396.length co13]] rfl aX ?_;(with_reducible refine(spec_SurfaceOk.calls k1 _ _ t391 _ _ t396 true _ ?side1 ?side2 ?side3 ?side4 A9.out).mono ?_);(case side1=>exact rcX (fr2 HO393.out BK401.out (.slice Ao14 t391.length co14) (.slice Ao13 t396.length co13)));(case side2=>exact(Kd.R_reads' HO393.out).2.1);(case side3=>exact rcX (fr2 HO398.out BK401.out (.slice Ao14 t391.length co14) (.slice Ao13 t396.length co13)));(case side4=>exact(Kd.R_reads' HO398.out).2.1);rintro e w19 ⟨rfl,hb⟩;refine ⟨_,rfl,?_⟩;replace HO393:=aM (Kd.R_below (rX (fr2 HO393.out BK401.out (.slice Ao14 t391.length co14) (.slice Ao13 t396.length co13))) hb);replace HO398:=aM (Kd.R_below (rX (fr2 HO398.out BK401.out (.slice Ao14 t391.length co14) (.slice Ao13 t396.length co13))) hb);replace BK379:=aM (blk_below (g:=gb379) (o:=.cells #[.slice none 0 0,.slice none 0 0] 27 (0,0)) (by(with_reducible repeat(first|refine kN ?_ _|refine kD ?_|refine kA ?_ _));refine blk_far ?_ NB379_401.out _;(with_reducible repeat(first|refine kN ?_ _|refine kD ?_|refine kA ?_ _));refine blk_far ?_ NB379_401.out _;(with_reducible repeat(first|refine kN ?_ _|refine kD ?_|refine kA ?_ _));exact BK379.out) hb);replace BK401:=aM (blk_below (g:=gb401) (o:=.cells #[.slice Ao14 t391.length co14,.slice Ao13 t396.length co13] 27 (0,0)) (by(with_reducible repeat(first|refine kN ?_ _|refine kD ?_|refine kA ?_ _));refine blk_put (cs:=#[.slice Ao14 t391.length co14,.slice none 0 0]) ?_ 1 _ rfl;(with_reducible repeat(first|refine kN ?_ _|refine kD ?_|refine kA ?_ _));refine blk_put (cs:=#[.slice none 0 0,.slice none 0 0]) ?_ 0 _ rfl;(with_reducible repeat(first|refine kN ?_ _|refine kD ?_|refine kA ?_ _));exact BK401.out) hb);replace HK:=aM (KeepBut.trans (by repeat(first|(with_reducible first|exact HK.out|apply KeepBut.set_|apply keep_drewN|apply keep_drew|apply keep_alloc|refine keep_far ?_ GW379.out _|refine keep_far ?_ GW401.out _)|exact HK.out)) (KeepBut.of_below hb g none) (.inl rfl));replace HB:=aM (below_step (bX3 HB.out (IsS76.ge HI0.out) GE379.out GE401.out) hb);replace HI0:=aM (IsS76.below (show IsS76 w0 ((w15.setCell ⟨gb401,0,none⟩ (.slice Ao14 t391.length co14)).setCell ⟨gb401,1,none⟩ (.slice Ao13 t396.length co13)) g s0_0 t399 t400 from by repeat(first|(with_reducible first|exact HI0.out|apply IsS76.alloc|apply IsS76.drewN|apply IsS76.drew|apply IsS76.set_1|apply IsS76.set_2|refine IsS76.far ?_ NB0_379.out _|refine IsS76.far ?_ NB0_401.out _)|exact HI0.out)) hb);(try clear hb);(try clear hk);(try clear hi);obtain ⟨hcz20_0,hcz20_1,hfz20_0,hfz20_1⟩:=f2Z BK401.out;have hnb21:=NB379_0.out;have hnc21:=NB0_379.out;obtain ⟨hcz22_0,hcz22_1,hfz22_0,hfz22_1⟩:=f2Z BK379.out))
 refine bodyPost_ret (results_cell_row rfl _ _ gb379 27 #[.slice Ao14 t391.length co14,.slice Ao13 t396.length co13] (0,0) _ rfl (by(with_reducible repeat(first|refine kN ?_ _|refine kD ?_|refine kA ?_ _));refine blk_put (cs:=#[.slice Ao14 t391.length co14,.slice none 0 0]) ?_ 1 _ rfl;(with_reducible repeat(first|refine kN ?_ _|refine kD ?_|refine kA ?_ _));refine blk_put (cs:=#[.slice none 0 0,.slice none 0 0]) ?_ 0 _ rfl;(with_reducible repeat(first|refine kN ?_ _|refine kD ?_|refine kA ?_ _));exact BK379.out) Try.underlying27 rfl (by kernel_rfl)) rfl ?_
 exact ⟨_,_,eX,by(with_reducible repeat(first|apply rA|apply rN|apply rD));exact Kd.R_mono (Kd.R_far (p:=⟨gb379,1,none⟩) (Kd.R_far (p:=⟨gb379,0,none⟩) (Kd.R_types HO393.out BK379.out (by decide)) (fun _ hk=>hk.2) (.slice Ao14 t391.length co14)) (fun _ hk=>hk.2) (.slice Ao13 t396.length co13)) (fun _ hk=>hk.1.2),by(with_reducible repeat(first|apply rA|apply rN|apply rD));exact Kd.R_mono (Kd.R_far (p:=⟨gb379,1,none⟩) (Kd.R_far (p:=⟨gb379,0,none⟩) (Kd.R_types HO398.out BK379.out (by decide)) (fun _ hk=>hk.2) (.slice Ao14 t391.length co14)) (fun _ hk=>hk.2) (.slice Ao13 t396.length co13)) (fun _ hk=>hk.1.2),by repeat(first|(with_reducible first|exact HI0.out|apply IsS76.alloc|apply IsS76.drewN|apply IsS76.drew|apply IsS76.set_1|apply IsS76.set_2|refine IsS76.far ?_ NB0_379.out _|refine IsS76.far ?_ NB0_401.out _)|exact HI0.out),bX3 HB.out (IsS76.ge HI0.out) GE379.out GE401.out,by repeat(first|(with_reducible first|exact HK.out|apply KeepBut.set_|apply keep_drewN|apply keep_drew|apply keep_alloc|refine keep_far ?_ GW379.out _|refine keep_far ?_ GW401.out _)|exact HK.out)⟩
 }
 {
 replace c10:=Bool.eq_false_iff.mpr c10
 subst c10
 have H1:(spec_l03Draw.l0 k1 (wrap64 (1+t380)) (wrap64 (x6_1+1)) s0_0 t399 t400)=some (r1,r2,r3,r4):=by rw [if_neg (show ¬ (false=true) by decide)] at H;exact H
 clear H
 have H:=H1
 clear H1
 have H':=aM H
 clear H
 go_wp2_with (first|((with_reducible refine gate_callee (f:=48) rfl ?_);refine goesL_ (some 20) rfl rfl Try.func48 (by kernel_rfl) rfl #[.pointer (some ⟨g,0,none⟩),.int .i64 (wrap64 (1+t380))] rfl aX ?_;(with_reducible refine(spec_l02Draw.calls k1 g s0_0 x1001_1 x1002_1 (wrap64 (1+t380)) t391 t394 t395 w0 _ ?side1 ?side2 A7.out).mono ?_);(case side1=>repeat(first|(with_reducible first|exact HI0.out|apply IsS76.alloc|apply IsS76.drewN|apply IsS76.drew|apply IsS76.set_1|apply IsS76.set_2|refine IsS76.far ?_ NB0_379.out _)|exact HI0.out));(case side2=>repeat(first|(with_reducible first|exact HB.out|apply bA|apply bN|apply bD|refine below_set ?_ (IsS76.ge HI0.out)|refine below_set ?_ GE379.out)|exact HB.out));rintro e w23 ⟨v392,rfl,ho0,hi,hb,hk⟩;refine ⟨_,rfl,?_⟩;replace BK379:=aM (KeepBut.blk hk (g':=gb379) (o:=.cells #[.slice none 0 0,.slice none 0 0] 27 (0,0)) (kX BK379.out) NB379_0.out (by simp));have HO393:=aM (Kd.R_lower ho0 (keep_size (w:=w) (g:=g) (row:=none) (by repeat(first|(with_reducible first|exact HK.out|apply KeepBut.set_|apply keep_drewN|apply keep_drew|apply keep_alloc|refine keep_far ?_ GW379.out _)|exact HK.out))));replace HK:=aM (KeepBut.trans (by repeat(first|(with_reducible first|exact HK.out|apply KeepBut.set_|apply keep_drewN|apply keep_drew|apply keep_alloc|refine keep_far ?_ GW379.out _)|exact HK.out)) hk (.inl rfl));replace HB:=aM (hb);replace HI0:=aM (hi);(try clear hb);(try clear hk);(try clear hi);(try clear ho0))|((with_reducible refine gate_callee (f:=48) rfl ?_);refine goesL_ (some 23) rfl rfl Try.func48 (by kernel_rfl) rfl #[.pointer (some ⟨g,0,none⟩),.int .i64 (wrap64 (1+t380))] rfl aX ?_;(with_reducible refine(spec_l02Draw.calls k1 g s0_0 t394 t395 (wrap64 (1+t380)) t396 t399 t400 w0 _ ?side1 ?side2 A8.out).mono ?_);(case side1=>repeat(first|(with_reducible first|exact HI0.out|apply IsS76.alloc|apply IsS76.drewN|apply IsS76.drew|apply IsS76.set_1|apply IsS76.set_2|refine IsS76.far ?_ NB0_379.out _)|exact HI0.out));(case side2=>repeat(first|(with_reducible first|exact HB.out|apply bA|apply bN|apply bD|refine below_set ?_ (IsS76.ge HI0.out)|refine below_set ?_ GE379.out)|exact HB.out));rintro e w24 ⟨v397,rfl,ho0,hi,hb,hk⟩;refine ⟨_,rfl,?_⟩;replace BK379:=aM (KeepBut.blk hk (g':=gb379) (o:=.cells #[.slice none 0 0,.slice none 0 0] 27 (0,0)) (kX BK379.out) NB379_0.out (by simp));have HO398:=aM (Kd.R_lower (Kd.R_new' ho0 (Kd.R_lt (rX HO393.out))) (keep_size (w:=w) (g:=g) (row:=none) (by repeat(first|(with_reducible first|exact HK.out|apply KeepBut.set_|apply keep_drewN|apply keep_drew|apply keep_alloc|refine keep_far ?_ GW379.out _)|exact HK.out))));replace HO393:=aM (Kd.R_mono (Kd.R_told (Kd.R_oldK (IsS76.apart (show IsS76 w0 _ g s0_0 t394 t395 from by repeat(first|(with_reducible first|exact HI0.out|apply IsS76.alloc|apply IsS76.drewN|apply IsS76.drew|apply IsS76.set_1|apply IsS76.set_2|refine IsS76.far ?_ NB0_379.out _)|exact HI0.out)) (rX HO393.out) (by decide)) hk) (Kd.R_base ho0)) (fun _ h_=>h_.1));replace HK:=aM (KeepBut.trans (by repeat(first|(with_reducible first|exact HK.out|apply KeepBut.set_|apply keep_drewN|apply keep_drew|apply keep_alloc|refine keep_far ?_ GW379.out _)|exact HK.out)) hk (.inl rfl));replace HB:=aM (hb);replace HI0:=aM (hi);(try clear hb);(try clear hk);(try clear hi);(try clear ho0);obtain ⟨Ao25,co25,eo25⟩:=Kd.R_slice HO398.out;subst eo25;obtain ⟨Ao26,co26,eo26⟩:=Kd.R_slice HO393.out;subst eo26)|((with_reducible refine gate_dst (N:=7) rfl ?_);refine bEv (cs:=#[.slice none 0 0,.slice none 0 0]) (t:=27) ?_;intro gb401 hg w27 hbox hb;replace HO393:=aM (Kd.R_below (rX HO393.out) hb);replace HO398:=aM (Kd.R_below (rX HO398.out) hb);replace HB:=aM (below_step (bX2 HB.out (IsS76.ge HI0.out) GE379.out) hb);have BK401:=aM (hbox);have GW401:=aM ((by rw [hg];exact(keep_size (w:=w) (g:=g) (row:=none) (by repeat(first|(with_reducible first|exact HK.out|apply KeepBut.set_|apply keep_drewN|apply keep_drew|apply keep_alloc|refine keep_far ?_ GW379.out _)|exact HK.out))):w.heap.size≤gb401));have GE401:=aM ((Nat.le_trans HW0.out (by rw [hg];exact(keep_size (w:=w) (g:=g) (row:=none) (by repeat(first|(with_reducible first|exact HK.out|apply KeepBut.set_|apply keep_drewN|apply keep_drew|apply keep_alloc|refine keep_far ?_ GW379.out _)|exact HK.out))):w.heap.size≤gb401):w0.heap.size≤gb401));replace HK:=aM (KeepBut.trans (by repeat(first|(with_reducible first|exact HK.out|apply KeepBut.set_|apply keep_drewN|apply keep_drew|apply keep_alloc|refine keep_far ?_ GW379.out _)|exact HK.out)) (KeepBut.of_below hb g none) (.inl rfl));have NB379_401:=aM (neX BK379.out hg);have NB401_379:=aM (nfX BK379.out hg);replace BK379:=aM (bbX BK379.out hb);have NB0_401:=aM ((by rw [hg];exact Nat.ne_of_lt (IsS76.lt (show IsS76 w0 _ g s0_0 t399 t400 from by repeat(first|(with_reducible first|exact HI0.out|apply IsS76.alloc|apply IsS76.drewN|apply IsS76.drew|apply IsS76.set_1|apply IsS76.set_2|refine IsS76.far ?_ NB0_379.out _)|exact HI0.out))):g≠gb401));have NB401_0:=aM ((by rw [hg];exact Nat.ne_of_gt (IsS76.lt (show IsS76 w0 _ g s0_0 t399 t400 from by repeat(first|(with_reducible first|exact HI0.out|apply IsS76.alloc|apply IsS76.drewN|apply IsS76.drew|apply IsS76.set_1|apply IsS76.set_2|refine IsS76.far ?_ NB0_379.out _)|exact HI0.out))):gb401≠g));replace HI0:=aM (IsS76.below (by repeat(first|(with_reducible first|exact HI0.out|apply IsS76.alloc|apply IsS76.drewN|apply IsS76.drew|apply IsS76.set_1|apply IsS76.set_2|refine IsS76.far ?_ NB0_379.out _)|exact HI0.out)) hb);clear hb hbox hg;have hnb28:=NB401_379.out;have hnc28:=NB379_401.out;have hnb29:=NB401_0.out;have hnc29:=NB0_401.out;obtain ⟨hcz30_0,hcz30_1,hfz30_0,hfz30_1⟩:=f2Z BK401.out)|((with_reducible refine gate_callee (f:=39) rfl ?_);refine goesL_ (some 26) rfl rfl Try.func39 (by kernel_rfl) rfl #[.agg #[.slice Ao26 t391.length co26,.slice Ao25 t396.length co25]] rfl aX ?_;(with_reducible refine(spec_SurfaceOk.calls k1 _ _ t391 _ _ t396 false _ ?side1 ?side2 ?side3 ?side4 A9.out).mono ?_);(case side1=>exact rcX (fr2 HO393.out BK401.out (.slice Ao26 t391.length co26) (.slice Ao25 t396.length co25)));(case side2=>exact(Kd.R_reads' HO393.out).2.1);(case side3=>exact rcX (fr2 HO398.out BK401.out (.slice Ao26 t391.length co26) (.slice Ao25 t396.length co25)));(case side4=>exact(Kd.R_reads' HO398.out).2.1);rintro e w31 ⟨rfl,hb⟩;refine ⟨_,rfl,?_⟩;replace HO393:=aM (Kd.R_below (rX (fr2 HO393.out BK401.out (.slice Ao26 t391.length co26) (.slice Ao25 t396.length co25))) hb);replace HO398:=aM (Kd.R_below (rX (fr2 HO398.out BK401.out (.slice Ao26 t391.length co26) (.slice Ao25 t396.length co25))) hb);replace BK379:=aM (blk_below (g:=gb379) (o:=.cells #[.slice none 0 0,.slice none 0 0] 27 (0,0)) (by(with_reducible repeat(first|refine kN ?_ _|refine kD ?_|refine kA ?_ _));refine blk_far ?_ NB379_401.out _;(with_reducible repeat(first|refine kN ?_ _|refine kD ?_|refine kA ?_ _));refine blk_far ?_ NB379_401.out _;(with_reducible repeat(first|refine kN ?_ _|refine kD ?_|refine kA ?_ _));exact BK379.out) hb);replace BK401:=aM (blk_below (g:=gb401) (o:=.cells #[.slice Ao26 t391.length co26,.slice Ao25 t396.length co25] 27 (0,0)) (by(with_reducible repeat(first|refine kN ?_ _|refine kD ?_|refine kA ?_ _));refine blk_put (cs:=#[.slice Ao26 t391.length co26,.slice none 0 0]) ?_ 1 _ rfl;(with_reducible repeat(first|refine kN ?_ _|refine kD ?_|refine kA ?_ _));refine blk_put (cs:=#[.slice none 0 0,.slice none 0 0]) ?_ 0 _ rfl;(with_reducible repeat(first|refine kN ?_ _|refine kD ?_|refine kA ?_ _));exact BK401.out) hb);replace HK:=aM (KeepBut.trans (by repeat(first|(with_reducible first|exact HK.out|apply KeepBut.set_|apply keep_drewN|apply keep_drew|apply keep_alloc|refine keep_far ?_ GW379.out _|refine keep_far ?_ GW401.out _)|exact HK.out)) (KeepBut.of_below hb g none) (.inl rfl));replace HB:=aM (below_step (bX3 HB.out (IsS76.ge HI0.out) GE379.out GE401.out) hb);replace HI0:=aM (IsS76.below (show IsS76 w0 ((w27.setCell ⟨gb401,0,none⟩ (.slice Ao26 t391.length co26)).setCell ⟨gb401,1,none⟩ (.slice Ao25 t396.length co25)) g s0_0 t399 t400 from by repeat(first|(with_reducible first|exact HI0.out|apply IsS76.alloc|apply IsS76.drewN|apply IsS76.drew|apply IsS76.set_1|apply IsS76.set_2|refine IsS76.far ?_ NB0_379.out _|refine IsS76.far ?_ NB0_401.out _)|exact HI0.out)) hb);(try clear hb);(try clear hk);(try clear hi)))
 go_roundg k1
 case measure=>have:=HK1.out;omega
 case rel=>exact ⟨(wrap64 (x6_1+1)),(t399),(t400),vX,H',⟨by have:=HK1.out;omega⟩,⟨kX BK379.out⟩,⟨by repeat(first|(with_reducible first|exact HI0.out|apply IsS76.alloc|apply IsS76.drewN|apply IsS76.drew|apply IsS76.set_1|apply IsS76.set_2|refine IsS76.far ?_ NB0_379.out _|refine IsS76.far ?_ NB0_401.out _)|exact HI0.out)⟩,⟨by repeat(first|(with_reducible first|exact HK.out|apply KeepBut.set_|apply keep_drewN|apply keep_drew|apply keep_alloc|refine keep_far ?_ GW379.out _|refine keep_far ?_ GW401.out _)|exact HK.out)⟩,⟨bX3 HB.out (IsS76.ge HI0.out) GE379.out GE401.out⟩⟩
 }
 }
 {
 rw [if_neg c6] at H
 have c6b0:=decide_eq_false c6
 clear c6
 replace H:=oB H
 obtain ⟨⟨t383,t386,t389⟩,A320,H⟩:=H
 replace H:(some (t383,t386,x1001_1,x1002_1))=some (r1,r2,r3,r4):=H
 have A32:=aM A320
 clear A320
 simp only [Option.some.injEq,Prod.mk.injEq] at H
 obtain ⟨rfl,rfl,rfl,rfl⟩:=H
 go_wp2_with (first|((with_reducible refine gate_callee (f:=49) rfl ?_);refine goesL_ (some 30) rfl rfl Try.func49 (by kernel_rfl) rfl #[.int .i64 (wrap64 (1+t380)),.int .i64 1] rfl aX ?_;(with_reducible refine(spec_EllOf.calls k1 (wrap64 (1+t380)) 1 t383 t386 t389 _ A32.out).mono ?_);rintro e w33 ⟨v384,v387,rfl,ho0,ho1,hb⟩;refine ⟨_,rfl,?_⟩;have HO385:=aM (Kd.R_lower ho0 (keep_size (w:=w) (g:=g) (row:=none) (by repeat(first|(with_reducible first|exact HK.out|apply KeepBut.set_|apply keep_drewN|apply keep_drew|apply keep_alloc|refine keep_far ?_ GW379.out _)|exact HK.out))));have HO388:=aM (Kd.R_lower ho1 (keep_size (w:=w) (g:=g) (row:=none) (by repeat(first|(with_reducible first|exact HK.out|apply KeepBut.set_|apply keep_drewN|apply keep_drew|apply keep_alloc|refine keep_far ?_ GW379.out _)|exact HK.out))));replace BK379:=aM (bbX BK379.out hb);replace HK:=aM (KeepBut.trans (by repeat(first|(with_reducible first|exact HK.out|apply KeepBut.set_|apply keep_drewN|apply keep_drew|apply keep_alloc|refine keep_far ?_ GW379.out _)|exact HK.out)) (KeepBut.of_below hb g none) (.inl rfl));replace HB:=aM (below_step (bX2 HB.out (IsS76.ge HI0.out) GE379.out) hb);replace HI0:=aM (IsS76.below (by repeat(first|(with_reducible first|exact HI0.out|apply IsS76.alloc|apply IsS76.drewN|apply IsS76.drew|apply IsS76.set_1|apply IsS76.set_2|refine IsS76.far ?_ NB0_379.out _)|exact HI0.out)) hb);(try clear hb);(try clear hk);(try clear hi);(try clear ho0);(try clear ho1))|((with_reducible refine gate_dst (N:=8) rfl ?_);refine bEv (cs:=#[.slice none 0 0,.slice none 0 0]) (t:=27) ?_;intro gb390 hg w34 hbox hb;replace HO385:=aM (Kd.R_below (rX HO385.out) hb);replace HO388:=aM (Kd.R_below (rX HO388.out) hb);replace HB:=aM (below_step (bX2 HB.out (IsS76.ge HI0.out) GE379.out) hb);have BK390:=aM (hbox);have GW390:=aM ((by rw [hg];exact(keep_size (w:=w) (g:=g) (row:=none) (by repeat(first|(with_reducible first|exact HK.out|apply KeepBut.set_|apply keep_drewN|apply keep_drew|apply keep_alloc|refine keep_far ?_ GW379.out _)|exact HK.out))):w.heap.size≤gb390));have GE390:=aM ((Nat.le_trans HW0.out (by rw [hg];exact(keep_size (w:=w) (g:=g) (row:=none) (by repeat(first|(with_reducible first|exact HK.out|apply KeepBut.set_|apply keep_drewN|apply keep_drew|apply keep_alloc|refine keep_far ?_ GW379.out _)|exact HK.out))):w.heap.size≤gb390):w0.heap.size≤gb390));replace HK:=aM (KeepBut.trans (by repeat(first|(with_reducible first|exact HK.out|apply KeepBut.set_|apply keep_drewN|apply keep_drew|apply keep_alloc|refine keep_far ?_ GW379.out _)|exact HK.out)) (KeepBut.of_below hb g none) (.inl rfl));have NB379_390:=aM (neX BK379.out hg);have NB390_379:=aM (nfX BK379.out hg);replace BK379:=aM (bbX BK379.out hb);have NB0_390:=aM ((by rw [hg];exact Nat.ne_of_lt (IsS76.lt (show IsS76 w0 _ g s0_0 x1001_1 x1002_1 from by repeat(first|(with_reducible first|exact HI0.out|apply IsS76.alloc|apply IsS76.drewN|apply IsS76.drew|apply IsS76.set_1|apply IsS76.set_2|refine IsS76.far ?_ NB0_379.out _)|exact HI0.out))):g≠gb390));have NB390_0:=aM ((by rw [hg];exact Nat.ne_of_gt (IsS76.lt (show IsS76 w0 _ g s0_0 x1001_1 x1002_1 from by repeat(first|(with_reducible first|exact HI0.out|apply IsS76.alloc|apply IsS76.drewN|apply IsS76.drew|apply IsS76.set_1|apply IsS76.set_2|refine IsS76.far ?_ NB0_379.out _)|exact HI0.out))):gb390≠g));replace HI0:=aM (IsS76.below (by repeat(first|(with_reducible first|exact HI0.out|apply IsS76.alloc|apply IsS76.drewN|apply IsS76.drew|apply IsS76.set_1|apply IsS76.set_2|refine IsS76.far ?_ NB0_379.out _)|exact HI0.out)) hb);clear hb hbox hg;obtain ⟨Ao35,co35,eo35⟩:=Kd.R_slice HO385.out;subst eo35;have hnb36:=NB390_379.out;have hnc36:=NB379_390.out;have hnb37:=NB390_0.out;have hnc37:=NB0_390.out;have hcz38_0:w34.cell? ⟨gb390,0,none⟩=some (.slice none 0 0):=(blk_cell BK390.out 0).trans rfl;have hcz38_1:w34.cell? ⟨gb390,1,none⟩=some (.slice none 0 0):=(blk_cell BK390.out 1).trans rfl;have hfz38_0:=blk_frozen BK390.out 0;have hfz38_1:=blk_frozen BK390.out 1;obtain ⟨Ao39,co39,eo39⟩:=Kd.R_slice HO388.out;subst eo39;have hnb40:=NB379_0.out;have hnc40:=NB0_379.out;obtain ⟨hcz41_0,hcz41_1,hfz41_0,hfz41_1⟩:=f2Z BK379.out))
 refine bodyPost_ret (results_cell_row rfl _ _ gb379 27 #[.slice Ao35 t383.length co35,.slice Ao39 t386.length co39] (0,0) _ rfl (by(with_reducible repeat(first|refine kN ?_ _|refine kD ?_|refine kA ?_ _));refine blk_put (cs:=#[.slice Ao35 t383.length co35,.slice none 0 0]) ?_ 1 _ rfl;(with_reducible repeat(first|refine kN ?_ _|refine kD ?_|refine kA ?_ _));refine blk_put (cs:=#[.slice none 0 0,.slice none 0 0]) ?_ 0 _ rfl;(with_reducible repeat(first|refine kN ?_ _|refine kD ?_|refine kA ?_ _));refine blk_far ?_ NB379_390.out _;(with_reducible repeat(first|refine kN ?_ _|refine kD ?_|refine kA ?_ _));refine blk_far ?_ NB379_390.out _;(with_reducible repeat(first|refine kN ?_ _|refine kD ?_|refine kA ?_ _));exact BK379.out) Try.underlying27 rfl (by kernel_rfl)) rfl ?_
 exact ⟨_,_,eX,by(with_reducible repeat(first|apply rA|apply rN|apply rD));exact Kd.R_mono (Kd.R_far (p:=⟨gb379,1,none⟩) (Kd.R_far (p:=⟨gb379,0,none⟩) (Kd.R_far (p:=⟨gb390,1,none⟩) (Kd.R_far (p:=⟨gb390,0,none⟩) (Kd.R_types (Kd.R_types HO385.out BK390.out (by decide)) BK379.out (by decide)) (fun _ hk=>hk.1.2) (.slice Ao35 t383.length co35)) (fun _ hk=>hk.1.2) (.slice Ao39 t386.length co39)) (fun _ hk=>hk.2) (.slice Ao35 t383.length co35)) (fun _ hk=>hk.2) (.slice Ao39 t386.length co39)) (fun _ hk=>hk.1.1),by(with_reducible repeat(first|apply rA|apply rN|apply rD));exact Kd.R_mono (Kd.R_far (p:=⟨gb379,1,none⟩) (Kd.R_far (p:=⟨gb379,0,none⟩) (Kd.R_far (p:=⟨gb390,1,none⟩) (Kd.R_far (p:=⟨gb390,0,none⟩) (Kd.R_types (Kd.R_types HO388.out BK390.out (by decide)) BK379.out (by decide)) (fun _ hk=>hk.1.2) (.slice Ao35 t383.length co35)) (fun _ hk=>hk.1.2) (.slice Ao39 t386.length co39)) (fun _ hk=>hk.2) (.slice Ao35 t383.length co35)) (fun _ hk=>hk.2) (.slice Ao39 t386.length co39)) (fun _ hk=>hk.1.1),by repeat(first|(with_reducible first|exact HI0.out|apply IsS76.alloc|apply IsS76.drewN|apply IsS76.drew|apply IsS76.set_1|apply IsS76.set_2|refine IsS76.far ?_ NB0_379.out _|refine IsS76.far ?_ NB0_390.out _)|exact HI0.out),bX3 HB.out (IsS76.ge HI0.out) GE379.out GE390.out,by repeat(first|(with_reducible first|exact HK.out|apply KeepBut.set_|apply keep_drewN|apply keep_drew|apply keep_alloc|refine keep_far ?_ GW379.out _|refine keep_far ?_ GW390.out _)|exact HK.out)⟩
 }

/-! ### spec_l01New: function 29 -/
def spec_l01New.l0 : Nat→List Int→Int→Int→Option (List Int × Int × Int)
 | 0,_,_,_=>none
 | k+1,x0,x3,x4=>if x4<(x0.length:Int) then (if x4<4000 then (if 0≤x4 then (spec_l01New.l0 k x0 (Go.bits .and .i64 (wrap64 ((wrap64 ((wrap64 (x3*109))+(wrap64 (rd x0 x4))))+7)) 1073741823) (wrap64 (x4+1))) else (none)) else (some (x0,0,x3))) else (some (x0,0,x3))
def spec_l01New.f (k:Nat) (l0:List Int):Option (List Int × Int × Int):=spec_l01New.l0 k l0 (wrap64 (2073+(l0.length:Int))) 0
theorem spec_l01New.calls (k:Nat) (A0:Option Addr) (c0:Nat) (l0:List Int) (r1:List Int) (r2:Int) (r3:Int) (w0 w:World) (hB:Below w0.heap.size w0 w) (hr0:Kd.C (Kd.int .u8) w0 A0 l0.length l0) (hc0:l0.length≤c0) (h:spec_l01New.f k l0=some (r1,r2,r3)) :
  Calls Try.prog 29 #[.slice A0 l0.length c0] w fun e w'=>∃ g_:Nat,e = .returned (.pointer (some ⟨g_,0,none⟩))∧IsS76 w0 w' g_ r1 r2 r3∧Below w0.heap.size w0 w'∧Below w.heap.size w w':=by
 have hu76:=Try.underlying76
 have HR0:=aM hr0
 have HC0:=aM hc0
 clear hr0 hc0
 have HBW:=aM (Below.refl w.heap.size w)
 have HW0:=aM hB.size
 have HB:=aM hB
 clear hB
 have H:(spec_l01New.l0 k l0 (wrap64 (2073+(l0.length:Int))) 0)=some (r1,r2,r3):=h
 clear h
 have H':=aM H
 clear H
 go_enter Try.func29,Try.ntmps29
 go_wp2
 go_loopg [3,4] k (fun kq v3 v4 w'=>∃ (x3_1:Int) (x4_1:Int),v3 = .int .i64 x3_1∧v4 = .int .i64 x4_1∧Aside0 (spec_l01New.l0 kq l0 x3_1 x4_1=some (r1,r2,r3))∧Aside0 (kq≤k)∧Aside0 (Below w0.heap.size w0 w')∧Aside0 (Below w.heap.size w w'))
 case atStart=>exact ⟨(wrap64 (2073+(l0.length:Int))),(0),vX,vX,H',⟨Nat.le_refl _⟩,⟨bX HB.out⟩,⟨by repeat(first|(with_reducible first|exact HBW.out|apply below_alloc|apply pw_below_drewN|apply below_drew1)|exact HBW.out)⟩⟩
 case round =>
 clear H'
 obtain ⟨x3_1,x4_1,rfl,rfl,HA,HK1,HB,HBW⟩:=hrel
 cases gk with
 | zero=>exact absurd HA.out (by simp [spec_l01New.l0])
 | succ k1 =>
 have H:=HA.out
 clear HA
 simp only [spec_l01New.l0] at H
 by_cases c2:x4_1<(l0.length:Int)
 {
 rw [if_pos c2] at H
 have c2b0:=decide_eq_true c2
 clear c2
 by_cases c3:x4_1<4000
 {
 rw [if_pos c3] at H
 have c3b0:=decide_eq_true c3
 clear c3
 by_cases c4:0≤x4_1
 {
 rw [if_pos c4] at H
 have c4b0:=decide_eq_true c4
 clear c4
 have H':=aM H
 clear H
 have p403:0≤(x4_1:Int):=dX
 have q403:x4_1<(l0.length:Int):=dX
 obtain ⟨ad403,e403,hx403_0⟩:=Kd.at_int HR0.out x4_1 p403 q403
 cases e403
 replace hx403_0:=pw_cell_below HB.out hx403_0
 replace p403:=eq_true p403
 replace q403:=eq_true q403
 go_wp2
 go_roundg k1
 case measure=>have:=HK1.out;omega
 case rel=>exact ⟨(Go.bits .and .i64 (wrap64 ((wrap64 ((wrap64 (x3_1*109))+(wrap64 (rd l0 x4_1))))+7)) 1073741823),(wrap64 (x4_1+1)),vX,vX,H',⟨by have:=HK1.out;omega⟩,⟨bX HB.out⟩,⟨by repeat(first|(with_reducible first|exact HBW.out|apply below_alloc|apply pw_below_drewN|apply below_drew1)|exact HBW.out)⟩⟩
 }
 {
 rw [if_neg c4] at H
 exact absurd H (by simp)
 }
 }
 {
 rw [if_neg c3] at H
 have c3b0:=decide_eq_false c3
 clear c3
 simp only [Option.some.injEq,Prod.mk.injEq] at H
 obtain ⟨rfl,rfl,rfl⟩:=H
 go_wp2_with (first|((with_reducible refine gate_dst (N:=31) rfl ?_);refine bEv (cs:=#[.slice A0 l0.length c0,.int .i64 0,.int .i64 x3_1]) (t:=76) ?_;intro gb404 hg w5 hbox hb;replace HB:=aM (below_step (bX HB.out) hb);have BK404:=aM (hbox);have GW404:=aM ((by rw [hg];exact(below_size (by repeat(first|(with_reducible first|exact HBW.out|apply below_alloc|apply pw_below_drewN|apply below_drew1)|exact HBW.out))):w.heap.size≤gb404));have GE404:=aM ((Nat.le_trans HW0.out (by rw [hg];exact(below_size (by repeat(first|(with_reducible first|exact HBW.out|apply below_alloc|apply pw_below_drewN|apply below_drew1)|exact HBW.out))):w.heap.size≤gb404):w0.heap.size≤gb404));replace HBW:=aM (below_step HBW.out hb);clear hb hbox hg))
 go_ret
 exact ⟨_,rfl,(show IsS76 w0 _ gb404 l0 0 x3_1 from ⟨_,_,kX BK404.out,GE404.out,HR0.out⟩),bX1 HB.out GE404.out,by repeat(first|(with_reducible first|exact HBW.out|apply below_alloc|apply pw_below_drewN|apply below_drew1|refine below_set ?_ GW404.out)|exact HBW.out)⟩
 }
 }
 {
 rw [if_neg c2] at H
 have c2b0:=decide_eq_false c2
 clear c2
 simp only [Option.some.injEq,Prod.mk.injEq] at H
 obtain ⟨rfl,rfl,rfl⟩:=H
 go_wp2_with (first|((with_reducible refine gate_dst (N:=31) rfl ?_);refine bEv (cs:=#[.slice A0 l0.length c0,.int .i64 0,.int .i64 x3_1]) (t:=76) ?_;intro gb405 hg w6 hbox hb;replace HB:=aM (below_step (bX HB.out) hb);have BK405:=aM (hbox);have GW405:=aM ((by rw [hg];exact(below_size (by repeat(first|(with_reducible first|exact HBW.out|apply below_alloc|apply pw_below_drewN|apply below_drew1)|exact HBW.out))):w.heap.size≤gb405));have GE405:=aM ((Nat.le_trans HW0.out (by rw [hg];exact(below_size (by repeat(first|(with_reducible first|exact HBW.out|apply below_alloc|apply pw_below_drewN|apply below_drew1)|exact HBW.out))):w.heap.size≤gb405):w0.heap.size≤gb405));replace HBW:=aM (below_step HBW.out hb);clear hb hbox hg))
 go_ret
 exact ⟨_,rfl,(show IsS76 w0 _ gb405 l0 0 x3_1 from ⟨_,_,kX BK405.out,GE405.out,HR0.out⟩),bX1 HB.out GE405.out,by repeat(first|(with_reducible first|exact HBW.out|apply below_alloc|apply pw_below_drewN|apply below_drew1|refine below_set ?_ GW405.out)|exact HBW.out)⟩
 }
theorem spec_l01New.calls2 (k:Nat) (A0:Option Addr) (c0:Nat) (l0:List Int) (r1:List Int) (r2:Int) (r3:Int) (w0 w:World) (hB:Below w0.heap.size w0 w) (hr0:Kd.C (Kd.int .u8) w0 A0 l0.length l0) (hc0:l0.length≤c0) (h:spec_l01New.f k l0=some (r1,r2,r3)) :
  Calls Try.prog 29 #[.slice A0 l0.length c0] w fun e w'=>∃ g_:Nat,e = .returned (.pointer (some ⟨g_,0,none⟩))∧IsS76 w0 w' g_ r1 r2 r3∧Below w0.heap.size w0 w'∧Below w.heap.size w w'∧w.heap.size≤g_:=by
 have hu76:=Try.underlying76
 have HR0:=aM hr0
 have HC0:=aM hc0
 clear hr0 hc0
 have HBW:=aM (Below.refl w.heap.size w)
 have HW0:=aM hB.size
 have HB:=aM hB
 clear hB
 have H:(spec_l01New.l0 k l0 (wrap64 (2073+(l0.length:Int))) 0)=some (r1,r2,r3):=h
 clear h
 have H':=aM H
 clear H
 go_enter Try.func29,Try.ntmps29
 go_wp2
 go_loopg [3,4] k (fun kq v3 v4 w'=>∃ (x3_1:Int) (x4_1:Int),v3 = .int .i64 x3_1∧v4 = .int .i64 x4_1∧Aside0 (spec_l01New.l0 kq l0 x3_1 x4_1=some (r1,r2,r3))∧Aside0 (kq≤k)∧Aside0 (Below w0.heap.size w0 w')∧Aside0 (Below w.heap.size w w'))
 case atStart=>exact ⟨(wrap64 (2073+(l0.length:Int))),(0),vX,vX,H',⟨Nat.le_refl _⟩,⟨bX HB.out⟩,⟨by repeat(first|(with_reducible first|exact HBW.out|apply below_alloc|apply pw_below_drewN|apply below_drew1)|exact HBW.out)⟩⟩
 case round =>
 clear H'
 obtain ⟨x3_1,x4_1,rfl,rfl,HA,HK1,HB,HBW⟩:=hrel
 cases gk with
 | zero=>exact absurd HA.out (by simp [spec_l01New.l0])
 | succ k1 =>
 have H:=HA.out
 clear HA
 simp only [spec_l01New.l0] at H
 by_cases c2:x4_1<(l0.length:Int)
 {
 rw [if_pos c2] at H
 have c2b0:=decide_eq_true c2
 clear c2
 by_cases c3:x4_1<4000
 {
 rw [if_pos c3] at H
 have c3b0:=decide_eq_true c3
 clear c3
 by_cases c4:0≤x4_1
 {
 rw [if_pos c4] at H
 have c4b0:=decide_eq_true c4
 clear c4
 have H':=aM H
 clear H
 have p403:0≤(x4_1:Int):=dX
 have q403:x4_1<(l0.length:Int):=dX
 obtain ⟨ad403,e403,hx403_0⟩:=Kd.at_int HR0.out x4_1 p403 q403
 cases e403
 replace hx403_0:=pw_cell_below HB.out hx403_0
 replace p403:=eq_true p403
 replace q403:=eq_true q403
 go_wp2
 go_roundg k1
 case measure=>have:=HK1.out;omega
 case rel=>exact ⟨(Go.bits .and .i64 (wrap64 ((wrap64 ((wrap64 (x3_1*109))+(wrap64 (rd l0 x4_1))))+7)) 1073741823),(wrap64 (x4_1+1)),vX,vX,H',⟨by have:=HK1.out;omega⟩,⟨bX HB.out⟩,⟨by repeat(first|(with_reducible first|exact HBW.out|apply below_alloc|apply pw_below_drewN|apply below_drew1)|exact HBW.out)⟩⟩
 }
 {
 rw [if_neg c4] at H
 exact absurd H (by simp)
 }
 }
 {
 rw [if_neg c3] at H
 have c3b0:=decide_eq_false c3
 clear c3
 simp only [Option.some.injEq,Prod.mk.injEq] at H
 obtain ⟨rfl,rfl,rfl⟩:=H
 go_wp2_with (first|((with_reducible refine gate_dst (N:=31) rfl ?_);refine bEv (cs:=#[.slice A0 l0.length c0,.int .i64 0,.int .i64 x3_1]) (t:=76) ?_;intro gb404 hg w5 hbox hb;replace HB:=aM (below_step (bX HB.out) hb);have BK404:=aM (hbox);have GW404:=aM ((by rw [hg];exact(below_size (by repeat(first|(with_reducible first|exact HBW.out|apply below_alloc|apply pw_below_drewN|apply below_drew1)|exact HBW.out))):w.heap.size≤gb404));have GE404:=aM ((Nat.le_trans HW0.out (by rw [hg];exact(below_size (by repeat(first|(with_reducible first|exact HBW.out|apply below_alloc|apply pw_below_drewN|apply below_drew1)|exact HBW.out))):w.heap.size≤gb404):w0.heap.size≤gb404));replace HBW:=aM (below_step HBW.out hb);clear hb hbox hg))
 go_ret
 exact ⟨_,rfl,(show IsS76 w0 _ gb404 l0 0 x3_1 from ⟨_,_,kX BK404.out,GE404.out,HR0.out⟩),bX1 HB.out GE404.out,by repeat(first|(with_reducible first|exact HBW.out|apply below_alloc|apply pw_below_drewN|apply below_drew1|refine below_set ?_ GW404.out)|exact HBW.out),GW404.out⟩
 }
 }
 {
 rw [if_neg c2] at H
 have c2b0:=decide_eq_false c2
 clear c2
 simp only [Option.some.injEq,Prod.mk.injEq] at H
 obtain ⟨rfl,rfl,rfl⟩:=H
 go_wp2_with (first|((with_reducible refine gate_dst (N:=31) rfl ?_);refine bEv (cs:=#[.slice A0 l0.length c0,.int .i64 0,.int .i64 x3_1]) (t:=76) ?_;intro gb405 hg w6 hbox hb;replace HB:=aM (below_step (bX HB.out) hb);have BK405:=aM (hbox);have GW405:=aM ((by rw [hg];exact(below_size (by repeat(first|(with_reducible first|exact HBW.out|apply below_alloc|apply pw_below_drewN|apply below_drew1)|exact HBW.out))):w.heap.size≤gb405));have GE405:=aM ((Nat.le_trans HW0.out (by rw [hg];exact(below_size (by repeat(first|(with_reducible first|exact HBW.out|apply below_alloc|apply pw_below_drewN|apply below_drew1)|exact HBW.out))):w.heap.size≤gb405):w0.heap.size≤gb405));replace HBW:=aM (below_step HBW.out hb);clear hb hbox hg))
 go_ret
 exact ⟨_,rfl,(show IsS76 w0 _ gb405 l0 0 x3_1 from ⟨_,_,kX BK405.out,GE405.out,HR0.out⟩),bX1 HB.out GE405.out,by repeat(first|(with_reducible first|exact HBW.out|apply below_alloc|apply pw_below_drewN|apply below_drew1|refine below_set ?_ GW405.out)|exact HBW.out),GW405.out⟩
 }

/-! ### spec_MakeFew: function 10 -/
def spec_MakeFew.f (k:Nat) (l0:List Int):Option (List Int × List Int):=(spec_l01New.f k l0).bind fun bt407=>((spec_l03Draw.f k bt407.1 bt407.2.1 bt407.2.2 4).bind fun bt411=>(some (bt411.1,bt411.2.1)))
theorem spec_MakeFew.calls (k:Nat) (A0:Option Addr) (c0:Nat) (l0:List Int) (r1:List Int) (r2:List Int) (w:World) (hr0:Kd.C (Kd.int .u8) w A0 l0.length l0) (hc0:l0.length≤c0) (h:spec_MakeFew.f k l0=some (r1,r2)) :
  Calls Try.prog 10 #[.slice A0 l0.length c0] w fun e w'=>∃ v0_ v1_:Value,e = .returned (.agg #[v0_,v1_])∧Kd.R (Kd.int .i64) 3 w' w.heap.size (fun k_=>some k_≠(v1_:Value).ownBlock) v0_ r1∧Kd.R (Kd.int .i64) 3 w' w.heap.size (fun k_=>some k_≠(v0_:Value).ownBlock) v1_ r2∧Below w.heap.size w w':=by
 have hu27:=Try.underlying27
 have HR0:=aM hr0
 have HC0:=aM hc0
 clear hr0 hc0
 have HB:=aM (Below.refl w.heap.size w)
 have H:((spec_l01New.f k l0).bind fun bt407=>((spec_l03Draw.f k bt407.1 bt407.2.1 bt407.2.2 4).bind fun bt411=>(some (bt411.1,bt411.2.1))))=some (r1,r2):=h
 clear h
 replace H:=oB H
 obtain ⟨⟨t407,t408,t409⟩,A20,H⟩:=H
 replace H:((spec_l03Draw.f k t407 t408 t409 4).bind fun bt411=>(some (bt411.1,bt411.2.1)))=some (r1,r2):=H
 have A2:=aM A20
 clear A20
 replace H:=oB H
 obtain ⟨⟨t411,t414,t417,t418⟩,A30,H⟩:=H
 replace H:(some (t411,t414))=some (r1,r2):=H
 have A3:=aM A30
 clear A30
 simp only [Option.some.injEq,Prod.mk.injEq] at H
 obtain ⟨rfl,rfl⟩:=H
 go_enter Try.func10,Try.ntmps10
 go_wp2_with (first|((with_reducible refine gate_dst (N:=2) rfl ?_);refine bEv (cs:=#[.slice none 0 0,.slice none 0 0]) (t:=27) ?_;intro gb406 hg w4 hbox hb;have BK406:=aM (hbox);have GW406:=aM ((szX (below_size (bX HB.out)) hg:w.heap.size≤gb406));have GE406:=GW406;replace HB:=aM (below_step (bX HB.out) hb);clear hb hbox hg)|((with_reducible refine gate_callee (f:=29) rfl ?_);refine goesL_ (some 4) rfl rfl Try.func29 (by kernel_rfl) rfl #[.slice A0 l0.length c0] rfl aX ?_;(with_reducible refine(spec_l01New.calls k _ _ l0 t407 t408 t409 w _ ?side1 ?side2 ?side3 A2.out).mono ?_);(case side1=>repeat(first|(with_reducible first|exact HB.out|apply bA|apply bN|apply bD|refine below_set ?_ GE406.out)|exact HB.out));(case side2=>exact HR0.out);(case side3=>exact HC0.out);rintro e w5 ⟨g410,rfl,hi,hb,hb2⟩;refine ⟨_,rfl,?_⟩;replace HB:=aM (hb);have HI410:=aM (hi);have NB410_406:=aM (IsS76.ne_blk hi (bbX BK406.out hb2) (by decide));have NB406_410:=aM (Ne.symm (IsS76.ne_blk hi (bbX BK406.out hb2) (by decide)));replace BK406:=aM (bbX BK406.out hb2);(try clear hb);(try clear hb2);(try clear hk);(try clear hi))|((with_reducible refine gate_callee (f:=28) rfl ?_);refine goesL_ (some 5) rfl rfl Try.func28 (by kernel_rfl) rfl #[.pointer (some ⟨g410,0,none⟩),.int .i64 4] rfl aX ?_;(with_reducible refine(spec_l03Draw.calls k g410 t407 t408 t409 4 t411 t414 t417 t418 w _ ?side1 ?side2 A3.out).mono ?_);(case side1=>repeat(first|(with_reducible first|exact HI410.out|apply IsS76.alloc|apply IsS76.drewN|apply IsS76.drew|apply IsS76.set_1|apply IsS76.set_2|refine IsS76.far ?_ NB410_406.out _)|exact HI410.out));(case side2=>repeat(first|(with_reducible first|exact HB.out|apply bA|apply bN|apply bD|refine below_set ?_ (IsS76.ge HI410.out)|refine below_set ?_ GE406.out)|exact HB.out));rintro e w6 ⟨v412,v415,rfl,ho0,ho1,hi,hb,hk⟩;refine ⟨_,rfl,?_⟩;replace BK406:=aM (KeepBut.blk hk (g':=gb406) (o:=.cells #[.slice none 0 0,.slice none 0 0] 27 (0,0)) (kX BK406.out) NB406_410.out (by simp));have HO413:=aM (Kd.R_lower ho0 (below_size (bX2 HB.out (IsS76.ge HI410.out) GE406.out)));have HO416:=aM (Kd.R_lower ho1 (below_size (bX2 HB.out (IsS76.ge HI410.out) GE406.out)));replace HB:=aM (hb);replace HI410:=aM (hi);(try clear hb);(try clear hb2);(try clear hk);(try clear hi);(try clear ho0);(try clear ho1);obtain ⟨Ao7,co7,eo7⟩:=Kd.R_slice HO413.out;subst eo7;have hnb8:=NB406_410.out;have hnc8:=NB410_406.out;obtain ⟨hcz9_0,hcz9_1,hfz9_0,hfz9_1⟩:=f2Z BK406.out;obtain ⟨Ao10,co10,eo10⟩:=Kd.R_slice HO416.out;subst eo10))
 refine bodyPost_ret (results_cell_row rfl _ _ gb406 27 #[.slice Ao7 t411.length co7,.slice Ao10 t414.length co10] (0,0) _ rfl (by(with_reducible repeat(first|refine kN ?_ _|refine kD ?_|refine kA ?_ _));refine blk_put (cs:=#[.slice Ao7 t411.length co7,.slice none 0 0]) ?_ 1 _ rfl;(with_reducible repeat(first|refine kN ?_ _|refine kD ?_|refine kA ?_ _));refine blk_put (cs:=#[.slice none 0 0,.slice none 0 0]) ?_ 0 _ rfl;(with_reducible repeat(first|refine kN ?_ _|refine kD ?_|refine kA ?_ _));exact BK406.out) Try.underlying27 rfl (by kernel_rfl)) rfl ?_
 exact ⟨_,_,eX,by(with_reducible repeat(first|apply rA|apply rN|apply rD));exact Kd.R_mono (Kd.R_far (p:=⟨gb406,1,none⟩) (Kd.R_far (p:=⟨gb406,0,none⟩) (Kd.R_types HO413.out BK406.out (by decide)) (fun _ hk=>hk.2) (.slice Ao7 t411.length co7)) (fun _ hk=>hk.2) (.slice Ao10 t414.length co10)) (fun _ hk=>hk.1),by(with_reducible repeat(first|apply rA|apply rN|apply rD));exact Kd.R_mono (Kd.R_far (p:=⟨gb406,1,none⟩) (Kd.R_far (p:=⟨gb406,0,none⟩) (Kd.R_types HO416.out BK406.out (by decide)) (fun _ hk=>hk.2) (.slice Ao7 t411.length co7)) (fun _ hk=>hk.2) (.slice Ao10 t414.length co10)) (fun _ hk=>hk.1),bX2 HB.out (IsS76.ge HI410.out) GE406.out⟩

/-! ### slices_SortFunc_int_int: function 32 -/
/-! by hand -/
/-- A function value that hands back the second less the first. -/
def IsDesc (g:Nat):Prop:=(∀ args w,(callFunc g args).run Try.prog w = .ok (.enter g args) w)∧∀ (x y:Int) (W:World),Calls Try.prog g #[.int .i64 x,.int .i64 y] W fun e w'=>e = .returned (.int .i64 (wrap64 (y - x)))∧w'=W
theorem cusps_desc : IsDesc 33:=⟨fun args w=>enters_ Try.func33 (by kernel_rfl) rfl args w,fun x y W=>by
  go_enter Try.func33,Try.ntmps33
  go_wp2
  go_ret
  exact ⟨by simp [i64_w],rfl⟩⟩
def Sml : Type:={x:Int // 0≤x∧x≤100000}
instance : Inhabited Sml:=⟨⟨0,by decide⟩⟩
def sEnc (x:Sml):Value:=.int .i64 x.1
def sCmp (x y:Sml):Int:=y.1 - x.1
theorem sLt (x y:Sml):ltOf sCmp x y=decide (y.1<x.1):=by
 unfold ltOf sCmp
 exact decide_eq_decide.2 (by omega)
theorem sSwo : Go.Sort.SWO (ltOf sCmp) where
  irrefl x:=by rw [sLt];simp
  trans x y z h1 h2:=by rw [sLt] at *;simp at *;omega
  ntrans x y z h1 h2:=by rw [sLt] at *;simp at *;omega
def slices_SortFunc_int_int.f (l0:List Int):Option (List Int):=if (∀ x∈l0,0≤x∧x≤100000)∧l0.length≤1000 then some (l0.mergeSort fun x y=>decide (y≤x)) else none
def smls : (l:List Int)→(∀ x∈l,0≤x∧x≤100000)→List Sml
  | [],_=>[]
  | x :: l,h=>⟨x,h x List.mem_cons_self⟩ :: smls l (fun y hy=>h y (List.mem_cons_of_mem _ hy))
theorem smls_map : ∀ (l:List Int) (h:∀ x∈l,0≤x∧x≤100000),(smls l h).map (·.1)=l
  | [],_=>rfl
  | x :: l,h=>by
    show x :: (smls l _).map (·.1)=x :: l
    rw [smls_map l]
theorem smls_enc (l:List Int) (h:∀ x∈l,0≤x∧x≤100000):(smls l h).map sEnc=encs (Value.int .i64) l:=by
 have e:(smls l h).map sEnc=((smls l h).map (·.1)).map (Value.int .i64):=by rw [List.map_map];rfl
 rw [e,smls_map]
 rfl
theorem smls_sort (l:List Int) (h:∀ x∈l,0≤x∧x≤100000):((smls l h).mergeSort fun x y => !(ltOf sCmp) y x).map (·.1)=l.mergeSort fun x y=>decide (y≤x):=by
 rw [List.map_mergeSort (s:=fun x y=>decide (y≤x)) (fun a _ b _=>by rw [sLt];by_cases c:a.1<b.1 <;> simp [c] <;> omega),smls_map]
/-- The world behind a sort. -/
theorem sort_world {enc:Sml→Value} {w w0:World} {g n:Nat} {d:Array Sml} {os:Array Obj} (hg:w0.heap.size≤g) (hB:Below w0.heap.size w0 w) (hgw:g<w.heap.size) :
    Below w0.heap.size w0 (sortWorld enc w g 0 n d os)∧(∀ k,k<w.heap.size→k≠g→(sortWorld enc w g 0 n d os).heap[k]? = w.heap[k]?)∧w.heap.size≤(sortWorld enc w g 0 n d os).heap.size ∧
    ∀ cur e fz,w.heap[g]? = some (.cells cur e fz)→(sortWorld enc w g 0 n d os).heap[g]? = some (.cells (Go.Sort.putCells enc 0 d cur) e fz):=by
  have hsz:(Go.Sort.putRow enc (Go.Sort.ahead w n) g 0 d).heap.size=w.heap.size:=by simp [Go.Sort.putRow,Go.Sort.mapBlock,Go.Sort.ahead]
  have old:∀ k,k<w.heap.size→(sortWorld enc w g 0 n d os).heap[k]? = (w.heap.modify g (Go.Sort.onCells (Go.Sort.putCells enc 0 d)))[k]?:=fun k hk=>by
    unfold sortWorld
    rw [Go.Sort.heap_grow_old _ _ (by rw [hsz];exact hk)]
    rfl
  have far:∀ k,k<w.heap.size→k≠g→(sortWorld enc w g 0 n d os).heap[k]? = w.heap[k]?:=fun k hk hne=>by
    rw [old k hk,Array.getElem?_modify,if_neg (Ne.symm hne)]
  have big:w.heap.size≤(sortWorld enc w g 0 n d os).heap.size:=by
    unfold sortWorld
    rw [Go.Sort.size_grow,hsz]
    omega
  refine ⟨⟨hB.os,hB.tape,hB.output,Nat.le_trans hB.size big,fun k hk => ?_⟩,far,big,fun cur e fz h => ?_⟩
  · rw [far k (Nat.lt_of_lt_of_le hk hB.size) (by omega)]
    exact hB.block k hk
  · rw [old g hgw,Array.getElem?_modify,if_pos rfl,h]
    rfl
theorem sort_close {w:World} {base g cap:Nat} {P:Nat→Prop} {l:List Int} {cur:Array Value} (hP:P g) (hg:base≤g) (hh:w.heap[g]? = some (.cells cur 3 (0,0))) (h1:l.length≤cap) (h2:cap≤maxLen) (h3:cur.size=cap) (h4:cur.toList.take l.length=encs (Value.int .i64) l) :
    Kd.R (Kd.int .i64) 3 w base P (.slice (some ⟨g,0,none⟩) l.length cap) l:=by
 refine Kd.R_of_own (enc:=Value.int .i64) (h1:=fun _=>rfl) ⟨by rw [encs_length,Nat.mul_one],.inr ⟨g,cap,cur,rfl,hg,hh,h1,h2,by rw [h3,Nat.mul_one],by rw [Nat.mul_one];exact h4⟩⟩ ?_
 intro k hk
 have:g=k:=by simpa [Value.ownBlock] using hk
 rw [← this]
 exact hP
set_option maxHeartbeats 4000000 in
theorem slices_SortFunc_int_int.calls (P0_:Nat→Prop) (u9000_:Value) (l0:List Int) (r:List Int) (w0 w:World) (hB:Below w0.heap.size w0 w) (ho0:Kd.R (Kd.int .i64) 3 w w0.heap.size P0_ u9000_ l0) (h:slices_SortFunc_int_int.f l0=some r) {G:Nat} (hG:IsDesc G:=by first|exact angles_desc|exact cusps_desc) :
    Calls Try.prog 32 #[u9000_,.func (.func G) #[] #[]] w fun e w'=>e = .returned (.tuple #[])∧Kd.R (Kd.int .i64) 3 w' w0.heap.size (fun k_=>(P0_ k_∨w.heap.size≤k_)) u9000_ r∧Below w0.heap.size w0 w'∧Kept w w' (fun k_=>P0_ k_):=by
  unfold slices_SortFunc_int_int.f at h
  by_cases hc:(∀ x∈l0,0≤x∧x≤100000)∧l0.length≤1000
  · rw [if_pos hc] at h
    obtain rfl:=Option.some.inj h
    have hown:=Kd.own_of_R (enc:=Value.int .i64) (h1:=fun _=>rfl) ho0
    by_cases hz:l0=[]
    · subst hz
      have hu:∃ p c,u9000_ = .slice p 0 c:=by
        rcases hown.2 with ⟨e,_⟩|⟨g,cap,cur,e,_⟩
        · exact ⟨none,0,e⟩
        · exact ⟨_,_,e⟩
      obtain ⟨p,c,rfl⟩:=hu
      refine(Try.slices_SortFunc_none (α:=Sml) p c _ w).mono ?_
      rintro e w' ⟨rfl,rfl⟩
      rw [show (([]:List Int).mergeSort fun x y=>decide (y≤x))=[] from by simp]
      exact ⟨rfl,Kd.R_mono ho0 (fun k hk => .inl hk),hB,Kept.refl _ _⟩
    · have hlen:0<l0.length:=List.length_pos_iff.mpr hz
      rcases hown.2 with ⟨_,hn⟩|⟨g,cap,cur,rfl,hg,hh,h1,h2,h3,h4⟩
      · exact absurd hn (by omega)
      · rw [Nat.mul_one] at h3 h4
        have hP:=ho0.1 g rfl
        have hgw:g<w.heap.size:=blk_lt hh
        have hcur:cur.toList.take l0.length=encs (Value.int .i64) l0:=h4
        have hds:(smls l0 hc.1).length=l0.length:=by have:=congrArg List.length (smls_map l0 hc.1);simpa using this
        have hH:Go.Sort.Holds sEnc w g 0 (smls l0 hc.1).toArray:=fun j hj=>by
          have hj2:j<(smls l0 hc.1).length:=by simpa using hj
          refine ⟨?_,by rw [Nat.zero_add];exact blk_frozen hh j⟩
          rw [Nat.zero_add,blk_cell hh]
          have e1:cur[j]? = (encs (Value.int .i64) l0)[j]?:=by
            rw [← hcur,List.getElem?_take,if_pos (by omega)]
            simp
          rw [e1,← smls_enc l0 hc.1,List.getElem?_map]
          simp [hj2]
        have hcmp:CmpReads Try.prog G #[] sEnc sCmp g 0 (smls l0 hc.1).toArray.size w:=fun m os dk hs x y=>by
          refine(hG.2 x.1 y.1 _).mono ?_
          rintro e w' ⟨rfl,rfl⟩
          refine ⟨?_,0,rfl⟩
          have hx:=x.2
          have hy:=y.2
          rw [show wrap64 (y.1 - x.1)=sCmp x y from by unfold wrap64 sCmp;omega]
        have hcall:=Try.slices_SortFunc_total sEnc (fun _=>rfl) sCmp sSwo G #[] g 0 cap (smls l0 hc.1).toArray w hG.1 hcmp.lays hH hgw (by simp;omega) (fun x y h1 h2=>by rw [sLt] at h1 h2;simp at h1 h2;exact Subtype.ext (by omega))
        rw [List.size_toArray,hds] at hcall
        refine hcall.mono ?_
        clear hcall
        rintro e w' ⟨rfl,n,os,rfl⟩
        obtain ⟨s1,s2,s3,s4⟩:=sort_world (enc:=sEnc) (n:=n) (d:=((smls l0 hc.1).mergeSort fun x y => !(ltOf sCmp) y x).toArray) (os:=os) hg hB hgw
        refine ⟨rfl,?_,s1,⟨s3,fun i hi hs=>s2 i hi (fun e=>hs (e ▸ hP))⟩⟩
        have hrl:(l0.mergeSort fun x y=>decide (y≤x)).length=l0.length:=List.length_mergeSort _
        have hsl:((smls l0 hc.1).mergeSort fun x y => !(ltOf sCmp) y x).length=l0.length:=by rw [List.length_mergeSort,hds]
        have hse:((smls l0 hc.1).mergeSort fun x y => !(ltOf sCmp) y x).map sEnc=encs (Value.int .i64) (l0.mergeSort fun x y=>decide (y≤x)):=by
          rw [← smls_sort l0 hc.1]
          show _=(List.map _ _).map _
          rw [List.map_map]
          rfl
        have:=sort_close (P:=fun k_=>(P0_ k_∨w.heap.size≤k_)) (l:=l0.mergeSort fun x y=>decide (y≤x)) (cap:=cap) (.inl hP) hg (s4 cur 3 (0,0) hh) (by rw [hrl];exact h1) h2 (by simp [Go.Sort.putCells,h3]) (by
          rw [hrl,← hse]
          apply List.ext_getElem?
          intro i
          by_cases hi:i<l0.length
          · have hic:i<cur.size:=by omega
            have e2:(((smls l0 hc.1).mergeSort fun x y => !(ltOf sCmp) y x).toArray)[i]! = ((smls l0 hc.1).mergeSort fun x y => !(ltOf sCmp) y x)[i]'(by omega):=by
              rw [getElem!_pos _ i (by rw [List.size_toArray];omega)]
              simp
            simp [Go.Sort.putCells,List.getElem?_take,hi,hic,hsl,List.getElem?_map,e2]
          · rw [List.getElem?_eq_none (by rw [List.length_take];omega),List.getElem?_eq_none (by rw [List.length_map];omega)])
        rw [hrl] at this
        exact this
  · rw [if_neg hc] at h
    exact absurd h (by simp)

/-! ### impl_CuspsOf: function 13 -/
/-! by hand -/
-- @INFO:4@ @INFO:3@
def cuspIn (m:List Int):Nat→List Bool→Int→Int→Option (List Bool × Int)
  | 0,_,_,_=>none
  | k+1,seen,x,n=>if 0≤x∧x<(seen.length:Int)∧x<(m.length:Int) then (if rdOf false seen x=true then some (seen,n) else cuspIn m k (seen.set x.toNat true) (rd m x) (wrap64 (n+1))) else none
def cuspGo (m:List Int) (d:Int):Nat→Int→List Bool→List Int→Option (List Int)
  | 0,_,_,_=>none
  | k+1,i,seen,out=>if i<d then (cuspIn m k seen i 0).bind fun q=>if out.length≤1000 then cuspGo m d k (wrap64 (i+1)) q.1 (if q.2 > 0 then out ++ [q.2] else out) else none else some out
def impl_CuspsOf.f (k:Nat) (l0_0 l0_1:List Int):Option (List Int × Bool):=(impl_orbitOf.f k l0_0 l0_1).bind fun a=>match a with
  | none=>some ([],false)
  | some o=>if o.l.length≤1000 then (cuspGo o.nt (o.l.length:Int) k 0 (List.replicate o.l.length false) []).bind fun out=>(slices_SortFunc_int_int.f out).bind fun q=>some (q,true) else none
theorem impl_CuspsOf.calls (k:Nat) (A0_0:Option Addr) (c0_0:Nat) (l0_0:List Int) (A0_1:Option Addr) (c0_1:Nat) (l0_1:List Int) (r1:List Int) (r2:Bool) (w:World) (hr0_0:Kd.C (Kd.int .i64) w A0_0 l0_0.length l0_0) (hc0_0:l0_0.length≤c0_0) (hr0_1:Kd.C (Kd.int .i64) w A0_1 l0_1.length l0_1) (hc0_1:l0_1.length≤c0_1) (h:impl_CuspsOf.f k l0_0 l0_1=some (r1,r2)) :
    Calls Try.prog 13 #[.agg #[.slice A0_0 l0_0.length c0_0,.slice A0_1 l0_1.length c0_1]] w fun e w'=>∃ v0_:Value,e = .returned (.tuple #[v0_,.bool r2])∧Kd.R (Kd.int .i64) 3 w' w.heap.size (fun _=>True) v0_ r1∧Below w.heap.size w w':=by
  have hv:=Try.underlying57
  have hu:=Try.underlying27
  have HS:=aM (show SurfC w A0_0 A0_1 c0_0 c0_1 l0_0 l0_1 from ⟨hc0_0,hr0_0,hc0_1,hr0_1⟩)
  clear hr0_0 hc0_0 hr0_1 hc0_1
  unfold impl_CuspsOf.f at h
  obtain ⟨a,ha,h⟩:=oB h
  have HA:=aM ha
  clear ha
  cases a with
  | none =>
    cases h
    go_enter Try.func13,Try.ntmps13
    go_wp2_with (first
      | ((with_reducible refine gate_dst (N:=1) rfl ?_);refine bEv (cs:=#[.slice A0_0 l0_0.length c0_0,.slice A0_1 l0_1.length c0_1]) (t:=27) ?_;intro gb1 hg1 w1 hbox1 hb1;have BK1:=aM hbox1;have HB1:=aM hb1;have hc10:w1.cell? ⟨gb1,0,none⟩=some (.slice A0_0 l0_0.length c0_0):=(blk_cell BK1.out 0).trans rfl;have hc11:w1.cell? ⟨gb1,1,none⟩=some (.slice A0_1 l0_1.length c0_1):=(blk_cell BK1.out 1).trans rfl;clear hbox1 hb1 hg1)
      | (go_at_call 30;(refine(impl_orbitOf.calls k _ _ l0_0 _ _ l0_1 (none) w1 (HS.out.below HB1.out) HA.out).mono ?_);rintro e w2 ⟨hb,hp⟩;have hp2:e = .returned (.tuple #[.pointer none,.bool false]):=hp;subst hp2;have HB2:=aM (below_step HB1.out hb);clear hb hp hc10 hc11 HB1 BK1))
    go_ret2
    exact ⟨.slice none 0 0,rfl,Kd.R_nil _ _ _ _ _,HB2.out⟩
  | some o =>
    have h:(if o.l.length≤1000 then (cuspGo o.nt (o.l.length:Int) k 0 (List.replicate o.l.length false) []).bind fun out=>(slices_SortFunc_int_int.f out).bind fun q=>some (q,true) else none)=some (r1,r2):=h
    split at h
    rotate_left
    · cases h
    obtain ⟨fin,hfin,h⟩:=oB h
    obtain ⟨q,hq,h⟩:=oB h
    cases h
    have HG0:=aM hfin
    have HSO:=aM hq
    clear hfin hq
    go_enter Try.func13,Try.ntmps13
    go_wp2_with (first
      | ((with_reducible refine gate_dst (N:=1) rfl ?_);refine bEv (cs:=#[.slice A0_0 l0_0.length c0_0,.slice A0_1 l0_1.length c0_1]) (t:=27) ?_;intro gb1 hg1 w1 hbox1 hb1;have BK1:=aM hbox1;have HB1:=aM hb1;have hc10:w1.cell? ⟨gb1,0,none⟩=some (.slice A0_0 l0_0.length c0_0):=(blk_cell BK1.out 0).trans rfl;have hc11:w1.cell? ⟨gb1,1,none⟩=some (.slice A0_1 l0_1.length c0_1):=(blk_cell BK1.out 1).trans rfl;clear hbox1 hb1 hg1)
      | (go_at_call 30;(refine(impl_orbitOf.calls k _ _ l0_0 _ _ l0_1 (some o) w1 (HS.out.below HB1.out) HA.out).mono ?_);rintro e w2 ⟨hb,hp⟩;obtain ⟨B,M,v0,v1,v2,v3,u,rfl,ho,hl⟩:=(show ∃ B M v0 v1 v2 v3 u,e = .returned (.tuple #[.pointer (some ⟨B,0,none⟩),.bool true])∧OrbW w1.heap.size w2 B M v0 v1 v2 v3 u o∧o.l.length≤120 from hp);obtain ⟨A0,c0,e0⟩:=Kd.N_slice ho.l;subst e0;have hco:w2.cell? ⟨B,0,none⟩=some (.slice A0 o.l.length c0):=(blk_cell ho.blk 0).trans rfl;have HB2:=aM (below_step HB1.out hb);have HO:=aM ho;have HLE:=aM hl;have HN:=aM (below_size HB1.out);clear hb hp ho hl hc10 hc11 HB1 BK1)
      | ((with_reducible refine gate_dst (N:=23) rfl ?_);refine Kd.R_make Kd.bool _ 4 rfl (N:=23) rfl 59 _ _ rfl (o.l.length:Int) rfl rfl Try.underlying59 (.bool false) 1 info4 rfl (by decide) (by omega) false (ok:=fun _=>True) (okp:=fun _=>True) rfl (fun _ hk=>hk) trivial (by omega) (by have:=HLE.out;omega) (Below.refl _ _) (Nat.le_refl _) ?_;intro v6 w3 hl hb hg_ hnew_;rw [show ((o.l.length:Int)).toNat=o.l.length by omega] at hl;obtain ⟨As,cs,e0⟩:=Kd.R_slice hl;rw [List.length_replicate] at e0;subst e0;have HS3:=aM hl;have HB3:=aM hb;have hco3:w3.cell? ⟨B,0,none⟩=some (.slice A0 o.l.length c0):=(blk_cell (HO.out.below hb).blk 0).trans rfl;clear hl hb hg_ hnew_ hco)
      | ((with_reducible refine gate_dst (N:=24) rfl ?_);refine Kd.R_lit (Kd.int .i64) _ 3 ?hg (N:=24) ?hd (xs:=([]:List Int)) (inner:=[]) (ok:=fun _=>True) (okp:=fun _=>True) ?hr ?hp (fun _ hk=>hk) trivial (Below.refl _ _) (Nat.le_refl _) (by simp) ?_;(case hd=>rfl);(case hg=>rfl);(case hr=>first|(go_simp;done)|(go_simp;rfl));(case hp=>exact(Reps.none _ _));intro v7 w4 hl hb hg_ hnew_;obtain ⟨Ao,co,e0⟩:=Kd.R_slice hl;subst e0;have HR4:=aM (Kd.R_lower hl (below_size HB3.out));have HS4:=aM (Kd.R_below HS3.out hb);have HB4:=aM (below_step HB3.out hb);have hco4:w4.cell? ⟨B,0,none⟩=some (.slice A0 o.l.length c0):=(blk_cell (HO.out.below (below_step HB3.out hb)).blk 0).trans rfl;clear hl hb hg_ hnew_ hco3 HS3 HB3))
    have hru:=HO.out.nx 84 (Or.inl rfl)
    rw [show o.nx 84=o.nt by simp [OrbV.nx]] at hru
    obtain ⟨Au,cu,eu⟩:=Kd.R_slice hru
    rw [eu] at hru
    have HU:=aM eu
    have HRU:=aM hru
    clear hru eu
    go_loopg [7,30] k (fun kq v7_ v30 w'=>∃ (i:Int) (out:List Int) (seen:List Bool) (Ao:Option Addr) (co:Nat),v7_ = .slice Ao out.length co∧v30 = .int .i64 i∧Aside0 (cuspGo o.nt (o.l.length:Int) kq i seen out=some fin)∧Aside0 (0≤i)∧Aside0 ((out.length:Int)≤i)∧Aside0 (Kd.R Kd.bool 4 w' w2.heap.size (fun _=>True) (.slice As o.l.length cs) seen)∧Aside0 (Kd.R (Kd.int .i64) 3 w' w2.heap.size (fun _=>True) (.slice Ao out.length co) out)∧Aside0 (Below w2.heap.size w2 w'))
    case atStart=>exact ⟨0,[],_,_,_,rfl,rfl,HG0,⟨Int.le_refl _⟩,⟨by simp⟩,HS4,HR4,HB4⟩
    case round =>
      clear HG0 HR4 HS4 HB4 hco4
      obtain ⟨i,out,seen,Ao,co,rfl,rfl,HG,HI0,HOI,HS,HR,HBL⟩:=hrel
      obtain ⟨k1,rfl⟩:∃ z,gk=z+1:=by
        cases gk with
        | zero=>exact absurd HG.out (by simp [cuspGo])
        | succ z=>exact ⟨z,rfl⟩
      by_cases hlt:i<(o.l.length:Int)
      · have h:=HG.out
        rw [cuspGo,if_pos hlt] at h
        obtain ⟨qq,hqq,h⟩:=oB h
        split at h
        rotate_left
        · cases h
        rename_i hol
        have HOL:=aM hol
        have HG2:=aM h
        have HQQ:=aM hqq
        clear h HG hqq hol
        have c1:decide (i<(o.l.length:Int))=true:=decide_eq_true hlt
        have HIR:=aM (show 0≤i∧i<120 from ⟨HI0.out,by have:=HLE.out;omega⟩)
        have HWI:=aM (show wrap64 (i+1)=i+1 by have:=HIR.out;unfold wrap64;omega)
        clear hlt
        go_wp2
        go_loopg [9,10] k1 (fun jq v9_ v10_ w'=>∃ (x n:Int) (seen:List Bool),v9_ = .int .i64 n∧v10_ = .int .i64 x∧Aside0 (cuspIn o.nt jq seen x n=some qq)∧Aside0 (Kd.R Kd.bool 4 w' w2.heap.size (fun _=>True) (.slice As o.l.length cs) seen)∧Aside0 (Kd.R (Kd.int .i64) 3 w' w2.heap.size (fun _=>True) (.slice Ao out.length co) out)∧Aside0 (Below w2.heap.size w2 w'))
        case atStart=>exact ⟨i,0,seen,rfl,rfl,HQQ,HS,HR,HBL⟩
        case round =>
          clear HQQ HS HR HBL c1 HI0
          obtain ⟨x,n,seen,rfl,rfl,HC,HS,HR,HBL⟩:=hrel
          obtain ⟨q1,rfl⟩:∃ z,gk=z+1:=by
            cases gk with
            | zero=>exact absurd HC.out (by simp [cuspIn])
            | succ z=>exact ⟨z,rfl⟩
          have hc:=HC.out
          rw [cuspIn] at hc
          split at hc
          rotate_left
          · cases hc
          rename_i hcond
          obtain ⟨x0,x1,xm⟩:=hcond
          have hlen:=(Kd.R_reads' HS.out).1
          obtain ⟨g,cap,e0,gB,_⟩:=Kd.R_form HS.out (by omega)
          have e1:As=some ⟨g,0,none⟩:=by injection e0
          clear e0
          subst e1
          have hrow:=HS.out
          rw [hlen] at hrow
          have hcell:=Kd.R_cell false hrow x x0 x1
          have hxc:wr.cell? ⟨g,x.toNat,none⟩=some (.bool (rdOf false seen x)):=hcell.1
          have hfz:=hcell.2
          clear hrow hcell
          have x2:x<(o.l.length:Int):=by omega
          have p1:=eq_true x0
          have p2:=eq_true x2
          have p3:=eq_true xm
          have d1:decide (0≤x)=true:=decide_eq_true x0
          have d2:=decide_eq_true x2
          have d3:=decide_eq_true xm
          have HGB:=aM gB
          by_cases hs:rdOf false seen x=true
          · rw [if_pos hs] at hc
            have hq2:qq=(seen,n):=(Option.some.inj hc).symm
            subst hq2
            rw [hs] at hxc
            clear hc x0 x1 xm x2 hs HC gB hlen
            by_cases hn:n > 0
            · have c3:decide (n > 0)=true:=decide_eq_true hn
              have h2:=HG2.out
              rw [if_pos hn] at h2
              have HG3:=aM h2
              clear h2 hn HG2
              go_wp2_with (first
                | ((with_reducible refine gate_builtin (b:=.append) (xs:=#[.tmp 54,.tmp 56]) rfl ?_);at_builtin;refine Kd.R_append (Kd.int .i64) (w0:=w2) w2.heap.size rfl (.tmp 54) (.tmp 56) 22 3 (.int .i64 0) 8 rfl Try.underlying22 info3 rfl (by decide) (by omega) (.slice Ao out.length co) out n [.int .i64 n] (fun _=>True) (fun _=>False) rfl rfl rfl (fun _ hk=>hk.elim) (fun _ _=>trivial) HR.out HBL.out (below_size HBL.out) (by have:=HOL.out;omega) ?_;intro v71 w11 hl hb hg hat;obtain ⟨An,cn,e0⟩:=Kd.R_slice hl;subst e0;have HR11:=aM hl;have HB11:=aM hb;have HS11:=aM (Kd.R_over' (v:=.slice Ao out.length co) HS.out (Kd.R_typed HR.out) (by decide) hg);clear hl hb hg hat))
              go_roundg k1
              case measure=>omega
              case rel=>exact ⟨i+1,out ++ [n],seen,An,cn,(by rw [List.length_append];rfl),(by first|rfl|rw [HWI.out]),⟨by rw [← HWI.out];exact HG3.out⟩,⟨by have:=HIR.out;omega⟩,⟨by rw [List.length_append,List.length_singleton];have:=HOI.out;omega⟩,HS11,HR11,HB11⟩
            · have c3:decide (n > 0)=false:=decide_eq_false hn
              have h2:=HG2.out
              rw [if_neg hn] at h2
              have HG3:=aM h2
              clear h2 hn HG2
              go_wp2
              go_roundg k1
              case measure=>omega
              case rel=>exact ⟨i+1,out,seen,_,_,rfl,(by first|rfl|rw [HWI.out]),⟨by rw [← HWI.out];exact HG3.out⟩,⟨by have:=HIR.out;omega⟩,⟨by have:=HOI.out;omega⟩,HS,HR,HBL⟩
          · rw [if_neg hs] at hc
            have HC2:=aM hc
            have hs2:rdOf false seen x=false:=by simpa using hs
            rw [hs2] at hxc
            obtain ⟨adu,e1,hue⟩:=Kd.at_int (Kd.R_reads' HRU.out).2.2 x x0 xm
            have HP:=aM (Kd.R_putg HS.out x true)
            clear hc x0 x1 xm x2 hs hs2 HC gB hlen
            subst e1
            go_wp2_with (first
              | ((with_reducible refine gate_store (t:=4) (p:=49) rfl ?_);refine store_event (t:=4) (p:=49) (v:=?vo) (w1:=wr.setCell ⟨g,x.toNat,none⟩ (.bool true)) ?hg ?ho ?hn ?hr ?_;(case ho=>rfl);(case hg=>rfl);(case hn=>rfl);(case hr=>first|(go_simp;done)|(go_simp;rfl));intro w7 hw;have hg:wr.grownBy w7 (some g):=(by rw [hw];exact HP.out.2);have HS7:=aM (show Kd.R Kd.bool 4 w7 w2.heap.size (fun _=>True) (.slice (some ⟨g,0,none⟩) o.l.length cs) (seen.set x.toNat true) by rw [hw];exact HP.out.1);have HR7:=aM (Kd.R_over' (v:=.slice (some ⟨g,0,none⟩) o.l.length cs) HR.out (Kd.R_typed HS.out) (by decide) hg);have HB7:=aM (by rw [hw];exact below_set HBL.out HGB.out:Below w2.heap.size w2 w7);have hcm7:=((HO.out.below HB7.out).held (c:=84) (Or.inl rfl)).1;have hlk7:=((HO.out.below HB7.out).held (c:=84) (Or.inl rfl)).2;rw [HU.out] at hlk7;have hue7:w7.cell? (adu.add x.toNat)=some (.int .i64 (rd o.nt x)):=(HB7.out.cell (World.block_lt_of_cell? _ _ hue)).trans hue;clear hw hg HP hxc hfz))
            go_roundg q1
            case measure=>omega
            case rel=>exact ⟨rd o.nt x,wrap64 (n+1),seen.set x.toNat true,rfl,rfl,HC2,HS7,HR7,HB7⟩
      · have c1:decide (i<(o.l.length:Int))=false:=decide_eq_false hlt
        have hr:out=fin:=by
          have h:=HG.out
          rw [cuspGo,if_neg hlt] at h
          exact Option.some.inj h
        subst hr
        clear HG hlt
        go_wp2_with (first
          | ((with_reducible refine gate_callee (f:=32) rfl ?_);refine goesL_ (some 60) rfl rfl Try.func32 (by kernel_rfl) rfl #[.slice Ao out.length co,.func (.func 33) #[] #[]] rfl (by(try simp only [zE,zF,zG]);first|done|rfl|(simp only [zH,zI];rfl)) ?_;refine(slices_SortFunc_int_int.calls (fun _=>True) (.slice Ao out.length co) out r1 w2 _ HBL.out HR.out HSO.out).mono ?_;rintro e w9 ⟨rfl,hr,hb,_⟩;refine ⟨_,rfl,?_⟩;have HR9:=aM (Kd.R_mono (ok':=fun _=>True) hr (fun _ _=>trivial));have HB9:=aM hb;clear hr hb))
        go_ret2
        exact ⟨_,rfl,Kd.R_lower HR9.out (below_size HB2.out),below_step HB2.out HB9.out⟩

/-! ### impl_copySurface: function 57 -/
def impl_copySurface.f (l0_0:List Int) (l0_1:List Int):Option (List Int × List Int):=(impl_copyInts.f l0_0).bind fun t421=>((impl_copyInts.f l0_1).bind fun t424=>(some (t421,t424)))
def impl_copySurface.T1 : Bool × List (List Nat × List Nat):=(true,[([],[]),([0],[0]),([1],[1]),([],[]),([3],[3]),([4,2],[4]),([2,5],[2,5]),([6,5,0,1,2,3,4,5,6],[6])])
def impl_copySurface.B1 : List Nat:=[0,1,3,0,8,31,63,127]
theorem impl_copySurface.tab1 : rtab .any (opsOf Try.f57 1)=impl_copySurface.T1:=by kernel_rfl
theorem impl_copySurface.bits1 : waitsOk impl_copySurface.T1.2 impl_copySurface.B1=true:=by kernel_rfl
theorem impl_copySurface.calls (A0_0:Option Addr) (c0_0:Nat) (l0_0:List Int) (A0_1:Option Addr) (c0_1:Nat) (l0_1:List Int) (r1:List Int) (r2:List Int) (w:World) (hr0_0:Kd.C (Kd.int .i64) w A0_0 l0_0.length l0_0) (hc0_0:l0_0.length≤c0_0) (hr0_1:Kd.C (Kd.int .i64) w A0_1 l0_1.length l0_1) (hc0_1:l0_1.length≤c0_1) (h:impl_copySurface.f l0_0 l0_1=some (r1,r2)) :
  Calls Try.prog 57 #[.agg #[.slice A0_0 l0_0.length c0_0,.slice A0_1 l0_1.length c0_1]] w fun e w'=>∃ v0_ v1_:Value,e = .returned (.agg #[v0_,v1_])∧Kd.R (Kd.int .i64) 3 w' w.heap.size (fun k_=>some k_≠(v1_:Value).ownBlock) v0_ r1∧Kd.R (Kd.int .i64) 3 w' w.heap.size (fun k_=>some k_≠(v0_:Value).ownBlock) v1_ r2∧Below w.heap.size w w':=by
 have hu27:=Try.underlying27
 have HR0_0:=aM hr0_0
 have HC0_0:=aM hc0_0
 clear hr0_0 hc0_0
 have HR0_1:=aM hr0_1
 have HC0_1:=aM hc0_1
 clear hr0_1 hc0_1
 have HB:=aM (Below.refl w.heap.size w)
 have H:((impl_copyInts.f l0_0).bind fun t421=>((impl_copyInts.f l0_1).bind fun t424=>(some (t421,t424))))=some (r1,r2):=h
 clear h
 replace H:=oB H
 obtain ⟨t421,A20,H⟩:=H
 have A2:=aM A20
 clear A20
 replace H:=oB H
 obtain ⟨t424,A30,H⟩:=H
 have A3:=aM A30
 clear A30
 simp only [Option.some.injEq,Prod.mk.injEq] at H
 obtain ⟨rfl,rfl⟩:=H
 go_enter Try.func57,Try.ntmps57
 try go_wp2_with (first|((with_reducible refine gate_dst (N:=1) rfl ?_);refine bEv (cs:=#[.slice A0_0 l0_0.length c0_0,.slice A0_1 l0_1.length c0_1]) (t:=27) ?_;intro gb419 hg w4 hbox hb;have BK419:=aM (hbox);have GW419:=aM ((szX (below_size (bX HB.out)) hg:w.heap.size≤gb419));have GE419:=GW419;replace HB:=aM (below_step (bX HB.out) hb);clear hb hbox hg)|((with_reducible refine gate_dst (N:=2) rfl ?_);refine bEv (cs:=#[.slice none 0 0,.slice none 0 0]) (t:=27) ?_;intro gb420 hg w5 hbox hb;have BK420:=aM (hbox);have GW420:=aM ((szX (below_size (bX1 HB.out GE419.out)) hg:w.heap.size≤gb420));have GE420:=GW420;replace HB:=aM (below_step (bX1 HB.out GE419.out) hb);have NB419_420:=aM (neX BK419.out hg);have NB420_419:=aM (nfX BK419.out hg);replace BK419:=aM (bbX BK419.out hb);clear hb hbox hg))
 replace BK419:=aM (blk_drew BK419.out)
 replace BK420:=aM (blk_drew BK420.out)
 replace HB:=aM (below_drew1 HB.out)
 refine start_ (n:=8) (S:=fun w'=>w'.cell? ⟨gb419,0,none⟩=some (.slice A0_0 l0_0.length c0_0)∧w'.cell? ⟨gb419,1,none⟩=some (.slice A0_1 l0_1.length c0_1)) (ds:=[]) #[ff,ff,ff,ff,ff,ff,ff,ff] (by kernel_rfl) rfl rfl ⟨cz20 BK419.out,cz21 BK419.out⟩ (fun hHeld => ?_);refine with_tabW impl_copySurface.tab1 impl_copySurface.bits1 (fun HT_ HW_ => ?_)
 generalize w5.drew=w6 at BK419 BK420 HB hHeld ⊢
 refine pX 0 3 (fl 8 1) rfl rfl HT_.out ?_
 refine pX 3 6 (fl 8 9) rfl rfl HT_.out ?_
 refine tX2 1 4 (fl 8 11) rfl rfl HT_.out HW_.out hHeld ?_
 refine tX2 4 7 (fl 8 27) rfl rfl HT_.out HW_.out hHeld ?_
 refine one_ (i:=2) (N:=some 5) #[tt,tt,tt,tt,tt,ff,ff,ff] rfl rfl (one_of HT_.out (by kernel_rfl)) (by decide) (fun K hK => ?_)
 refine goes_ Try.func94 (by kernel_rfl) rfl #[.slice A0_0 l0_0.length c0_0] (by rfl) rfl rfl aX ?_
 with_reducible refine(impl_copyInts.calls _ _ l0_0 t421 _ ?side1 ?side2 A2.out).mono ?_
 (case side1=>exact cX (Kd.C_below HR0_0.out HB.out))
 (case side2=>exact HC0_0.out)
 rintro e w7 ⟨v422,rfl,ho0,hb⟩
 refine ⟨_,rfl,?_⟩
 have HO423:=aM (Kd.R_lower ho0 (below_size (bX2 HB.out GE419.out GE420.out)))
 replace BK419:=aM (bbX BK419.out hb)
 replace BK420:=aM (bbX BK420.out hb)
 replace HB:=aM (below_step (bX2 HB.out GE419.out GE420.out) hb)
 (try clear hb)
 (try clear hk)
 (try clear ho0)
 refine hK.out _ _ ⟨cz20 BK419.out,cz21 BK419.out⟩ (fun hHeld => ?_)
 clear hK K
 refine norm_ (a':=?_) ?_ ?_
 rotate_left
 {
 show Act.put _ (some 5) _=_
 simp only [Act.put,zA,zB,zC,i64_w,i32_w]
 rfl
 }
 refine one_ (i:=5) (N:=some 8) #[tt,tt,tt,tt,tt,tt,ff,ff] rfl rfl (one_of HT_.out (by kernel_rfl)) (by decide) (fun K hK => ?_)
 refine goes_ Try.func94 (by kernel_rfl) rfl #[.slice A0_1 l0_1.length c0_1] (by rfl) rfl rfl aX ?_
 with_reducible refine(impl_copyInts.calls _ _ l0_1 t424 _ ?side1 ?side2 A3.out).mono ?_
 (case side1=>exact cX (Kd.C_below HR0_1.out HB.out))
 (case side2=>exact HC0_1.out)
 rintro e w8 ⟨v425,rfl,ho0,hb⟩
 refine ⟨_,rfl,?_⟩
 have HO426:=aM (Kd.R_lower (Kd.R_new' ho0 (Kd.R_lt (rX HO423.out))) (below_size (bX2 HB.out GE419.out GE420.out)))
 replace HO423:=aM (Kd.R_elder' (rX HO423.out) (Kd.R_base ho0) hb)
 replace BK419:=aM (bbX BK419.out hb)
 replace BK420:=aM (bbX BK420.out hb)
 replace HB:=aM (below_step (bX2 HB.out GE419.out GE420.out) hb)
 (try clear hb)
 (try clear hk)
 (try clear ho0)
 obtain ⟨Ao9,co9,eo9⟩:=Kd.R_slice HO426.out
 (first|subst eo9|(injection eo9 with f1_ f2_ f3_;have f4_:=f1_.symm;have f5_:=f3_.symm;clear f1_ f2_ f3_;subst f4_;subst f5_))
 obtain ⟨Ao10,co10,eo10⟩:=Kd.R_slice HO423.out
 (first|subst eo10|(injection eo10 with f1_ f2_ f3_;have f4_:=f1_.symm;have f5_:=f3_.symm;clear f1_ f2_ f3_;subst f4_;subst f5_))
 refine hK.out _ _ ⟨cz20 BK419.out,cz21 BK419.out⟩ (fun hHeld => ?_)
 clear hK K
 refine norm_ (a':=?_) ?_ ?_
 rotate_left
 {
 show Act.put _ (some 8) _=_
 simp only [Act.put,zA,zB,zC,i64_w,i32_w]
 rfl
 }
 refine pX 6 9 (fl 8 127) rfl rfl HT_.out ?_
 refine one_ (i:=7) (N:=none) #[tt,tt,tt,tt,tt,tt,tt,tt] rfl rfl (one_of HT_.out (by kernel_rfl)) (by decide) (fun K hK => ?_)
 have hs11:w8.cell? ⟨gb420,0,none⟩=some (.slice none 0 0):=cz20 BK420.out
 have hfs11:=blk_frozen BK420.out 0
 have hns11_0:=NB419_420.out
 have hms11_0:=NB420_419.out
 have hs12:w8.cell? ⟨gb420,1,none⟩=some (.slice none 0 0):=cz21 BK420.out
 have hfs12:=blk_frozen BK420.out 1
 have hns12_0:=NB419_420.out
 have hms12_0:=NB420_419.out
 refine skip_ (w1:=?_) (by rfl) rfl ?_ ?_
 rotate_left
 {
 go_simp
 rfl
 }
 refine hK.out _ _ ⟨((cell_far (p:=⟨gb420,_,none⟩) NB419_420.out _).trans (((cell_far (p:=⟨gb420,_,none⟩) NB419_420.out _).trans (hHeld.1)))),((cell_far (p:=⟨gb420,_,none⟩) NB419_420.out _).trans (((cell_far (p:=⟨gb420,_,none⟩) NB419_420.out _).trans (hHeld.2))))⟩ (fun hHeld => ?_)
 clear hK K
 refine done_ (done_of HT_.out (by kernel_rfl)) ?_
 try go_wp2
 refine bodyPost_ret (results_cell_row rfl _ _ gb420 27 #[.slice Ao10 t421.length co10,.slice Ao9 t424.length co9] (0,0) _ rfl (by(with_reducible repeat(first|refine kN ?_ _|refine kD ?_|refine kA ?_ _));refine blk_put (cs:=#[.slice Ao10 t421.length co10,.slice none 0 0]) ?_ 1 _ rfl;(with_reducible repeat(first|refine kN ?_ _|refine kD ?_|refine kA ?_ _));refine blk_put (cs:=#[.slice none 0 0,.slice none 0 0]) ?_ 0 _ rfl;(with_reducible repeat(first|refine kN ?_ _|refine kD ?_|refine kA ?_ _));exact BK420.out) Try.underlying27 rfl (by kernel_rfl)) rfl ?_
 exact ⟨_,_,eX,by(with_reducible repeat(first|apply rA|apply rN|apply rD));exact Kd.R_mono (Kd.R_far (p:=⟨gb420,1,none⟩) (Kd.R_far (p:=⟨gb420,0,none⟩) (Kd.R_types HO423.out BK420.out (by decide)) (fun _ hk=>hk.2) (.slice Ao10 t421.length co10)) (fun _ hk=>hk.2) (.slice Ao9 t424.length co9)) (fun _ hk=>hk.1.2),by(with_reducible repeat(first|apply rA|apply rN|apply rD));exact Kd.R_mono (Kd.R_far (p:=⟨gb420,1,none⟩) (Kd.R_far (p:=⟨gb420,0,none⟩) (Kd.R_types HO426.out BK420.out (by decide)) (fun _ hk=>hk.2) (.slice Ao10 t421.length co10)) (fun _ hk=>hk.2) (.slice Ao9 t424.length co9)) (fun _ hk=>hk.1.2),bX2 HB.out GE419.out GE420.out⟩

end Go.Proofs.Ytmhjcbcjpidegaa.S
