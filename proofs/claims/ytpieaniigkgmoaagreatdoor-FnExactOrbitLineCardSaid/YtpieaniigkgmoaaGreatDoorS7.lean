-- PRINTED by print.py (a twelfth state) out of the translation. Not trusted: Lean checks it.
import Derived.Test.YtpieaniigkgmoaaGreatDoorS0
import Derived.Test.YtpieaniigkgmoaaGreatDoorS6
namespace Go.Proofs.YtpieaniigkgmoaaGreatDoor.S
set_option maxHeartbeats 8000000
set_option maxRecDepth 100000
open Go.RowKit Go.Proofs.YtpieaniigkgmoaaGreatDoorW.PrintWords Go.Proofs.YtpieaniigkgmoaaGreatDoorW.PrintLast Go.Proofs.YtpieaniigkgmoaaGreatDoorW.PrintMore
attribute [local go_sem] max2_int min2_int max_two min_two max_three min_three max_four min_four   -- for this text's walks alone
set_option linter.unusedVariables false
set_option linter.unusedSimpArgs false

/-! ### impl_NamesFrom: function 87 -/
mutual
def impl_NamesFrom.j0 : Nat→Int→Bool→List Int→List Int→Option (List Int)
 | 0,_,_,_,_=>none
 | k+1,x1,x24,x481000,x481001=>if x24=true then (some ([]:List Int)) else (if 0≤(x481000.length:Int) then (if ((x481000.length:Int):Int).toNat≤35184372088832 then ((some (List.replicate ((x481000.length:Int):Int).toNat 0:List Int)).bind fun y482=>(impl_NamesFrom.l0 k x1 y482 (y482.length:Int) 0 x481000 x481001)) else (none)) else (none))
def impl_NamesFrom.l0 : Nat→Int→List Int→Int→Int→List Int→List Int→Option (List Int)
 | 0,_,_,_,_,_,_=>none
 | k+1,x1,x5,x30,x31,x481000,x481001=>if x31<x30 then (if 0≤x31 then (if x31<(x5.length:Int) then (impl_NamesFrom.l0 k x1 (x5.set (x31:Int).toNat (-1)) x30 (wrap64 (x31+1)) x481000 x481001) else (none)) else (none)) else (if 0≤x1 then (if x1<(x5.length:Int) then (impl_NamesFrom.l1 k (x5.set (x1:Int).toNat 0) (([x1]:List Int)) 0 x481000 x481001) else (none)) else (none))
def impl_NamesFrom.l1 : Nat→List Int→List Int→Int→List Int→List Int→Option (List Int)
 | 0,_,_,_,_,_=>none
 | k+1,x5,x7,x8,x481000,x481001=>if x8<(x7.length:Int) then (if 0≤x8 then (if 0≤(rd x7 x8) then (if (rd x7 x8)<(x481000.length:Int) then (if (rd x7 x8)<(x481001.length:Int) then ((some (([rd x481000 (rd x7 x8),rd x481001 (rd x7 x8)]:List Int):List Int)).bind fun y494=>(impl_NamesFrom.l2 k x5 x7 x8 y494 (y494.length:Int) 0 x481000 x481001)) else (none)) else (none)) else (none)) else (none)) else (some x5)
def impl_NamesFrom.l2 : Nat→List Int→List Int→Int→List Int→Int→Int→List Int→List Int→Option (List Int)
 | 0,_,_,_,_,_,_,_,_=>none
 | k+1,x5,x7,x8,x65,x66,x67,x481000,x481001=>if x67<x66 then (if 0≤x67 then (if x67<(x65.length:Int) then (if 0≤(rd x65 x67) then (if (rd x65 x67)<(x5.length:Int) then (if (rd x5 (rd x65 x67))<0 then (if x7.length<17592186044416 then (impl_NamesFrom.l2 k (x5.set ((rd x65 x67):Int).toNat (x7.length:Int)) (x7 ++ [rd x65 x67]) x8 x65 x66 (wrap64 (x67+1)) x481000 x481001) else (none)) else (impl_NamesFrom.l2 k x5 x7 x8 x65 x66 (wrap64 (x67+1)) x481000 x481001)) else (none)) else (none)) else (none)) else (none)) else (impl_NamesFrom.l1 k x5 x7 (wrap64 (x8+1)) x481000 x481001)
end
def impl_NamesFrom.f (k:Nat) (l0_0:List Int) (l0_1:List Int) (a1:Int):Option (List Int):=(impl_SurfaceOk.f k l0_0 l0_1).bind fun t481=>(if t481=true then (if a1<0 then (impl_NamesFrom.j0 k a1 true l0_0 l0_1) else (impl_NamesFrom.j0 k a1 (decide (a1≥(l0_0.length:Int))) l0_0 l0_1)) else (impl_NamesFrom.j0 k a1 true l0_0 l0_1))
def impl_NamesFrom.T14 : Bool × List (List Nat × List Nat):=(true,[([],[]),([0],[0]),([],[]),([],[]),([2,3],[2,3]),([4],[4]),([1,5],[1,5]),([6],[6]),([],[]),([8],[8]),([],[]),([],[]),([10,11],[10,11]),([12],[12]),([9,13],[9,13]),([14],[14]),([7,15],[7,15]),([16],[16]),([],[])])
def impl_NamesFrom.B14 : List Nat:=[0,1,0,0,12,28,63,127,0,256,0,0,3072,7168,16128,32512,65535,131071,0]
theorem impl_NamesFrom.tab14 : rtab .any (opsOf Tryz.f87 14)=impl_NamesFrom.T14:=by kernel_rfl
theorem impl_NamesFrom.bits14 : waitsOk impl_NamesFrom.T14.2 impl_NamesFrom.B14=true:=by kernel_rfl
theorem impl_NamesFrom.calls (k:Nat) (A0_0:Option Addr) (c0_0:Nat) (l0_0:List Int) (A0_1:Option Addr) (c0_1:Nat) (l0_1:List Int) (a1:Int) (r:List Int) (w:World) (hr0_0:Kd.C (Kd.int .i64) w A0_0 l0_0.length l0_0) (hc0_0:l0_0.length≤c0_0) (hr0_1:Kd.C (Kd.int .i64) w A0_1 l0_1.length l0_1) (hc0_1:l0_1.length≤c0_1) (h:impl_NamesFrom.f k l0_0 l0_1 a1=some r) :
  Calls Tryz.prog 87 #[.agg #[.slice A0_0 l0_0.length c0_0,.slice A0_1 l0_1.length c0_1],.int .i64 a1] w fun e w'=>∃ v0_:Value,e = .returned (v0_)∧Kd.R (Kd.int .i64) 3 w' w.heap.size (fun _=>True) v0_ r∧Below w.heap.size w w':=by
 have hu27:=Tryz.underlying27
 have HR0_0:=aM hr0_0
 have HC0_0:=aM hc0_0
 clear hr0_0 hc0_0
 have HR0_1:=aM hr0_1
 have HC0_1:=aM hc0_1
 clear hr0_1 hc0_1
 have HB:=aM (Below.refl w.heap.size w)
 have H:((impl_SurfaceOk.f k l0_0 l0_1).bind fun t481=>(if t481=true then (if a1<0 then (impl_NamesFrom.j0 k a1 true l0_0 l0_1) else (impl_NamesFrom.j0 k a1 (decide (a1≥(l0_0.length:Int))) l0_0 l0_1)) else (impl_NamesFrom.j0 k a1 true l0_0 l0_1)))=some r:=h
 clear h
 have HC3:=aM H
 clear H
 go_enter Tryz.func87,Tryz.ntmps87
 go_upto_region 1 with (first|((with_reducible refine gate_dst (N:=2) rfl ?_);(try(refine gate_guard (by rfl) ?_;dsimp only));refine bEv (cs:=#[.slice A0_0 l0_0.length c0_0,.slice A0_1 l0_1.length c0_1]) (t:=27) ?_;intro gb480 hg w4 hbox hb;have BK480:=aM (hbox);have GW480:=aM ((szX (below_size (bX HB.out)) hg:w.heap.size≤gb480));have GE480:=GW480;replace HB:=aM (below_step (bX HB.out) hb);clear hb hbox hg))
 (try simp only [Act.put,List.setIfInBounds_toArray,List.set_cons_zero,List.set_cons_succ])
 go_cut [24] (fun v24 wc=>∃ (kq:Nat) (x24_2:Bool),v24 = .bool x24_2∧Aside0 (impl_NamesFrom.j0 kq a1 x24_2 l0_0 l0_1=some r)∧Aside0 (kq≤k)∧Aside0 (wc.heap[gb480]? = some (.cells #[(.slice A0_0 l0_0.length c0_0),(.slice A0_1 l0_1.length c0_1)] 27 (0,0)))∧Aside0 (Below w.heap.size w wc))
 case first =>
  have H:=HC3.out
  clear HC3
  replace H:=oB H
  obtain ⟨t481,A50,H⟩:=H
  have A5:=aM A50
  clear A50
  by_cases c6:t481=true
  {
  subst c6
  have H1:(if a1<0 then (impl_NamesFrom.j0 k a1 true l0_0 l0_1) else (impl_NamesFrom.j0 k a1 (decide (a1≥(l0_0.length:Int))) l0_0 l0_1))=some r:=by rw [if_pos rfl] at H;exact H
  clear H
  have H:=H1
  clear H1
  by_cases c7:a1<0
  {
  rw [if_pos c7] at H
  have c7b0:=decide_eq_true c7
  clear c7
  (first|rw [c7b0]|(simp only [i64_w,i32_w];rw [c7b0])|skip)
  have H':=aM H
  clear H
  obtain ⟨hcz8_0,hcz8_1,hfz8_0,hfz8_1⟩:=f2Z BK480.out
  go_wp2_with (first|((with_reducible refine gate_callee (f:=16) rfl ?_);refine goesL_ (some 12) rfl rfl Tryz.func16 (by kernel_rfl) rfl #[.agg #[.slice A0_0 l0_0.length c0_0,.slice A0_1 l0_1.length c0_1]] rfl aX ?_;(with_reducible refine(impl_SurfaceOk.calls k _ _ l0_0 _ _ l0_1 true _ ?side1 ?side2 ?side3 ?side4 A5.out).mono ?_);(case side1=>exact cX (Kd.C_below HR0_0.out HB.out));(case side2=>exact HC0_0.out);(case side3=>exact cX (Kd.C_below HR0_1.out HB.out));(case side4=>exact HC0_1.out);rintro e w9 ⟨rfl,hb⟩;refine ⟨_,rfl,?_⟩;replace BK480:=aM (bbX BK480.out hb);replace HB:=aM (below_step (bX1 HB.out GE480.out) hb);(try clear hb);(try clear hk)))
  go_meet
  case rel=>exact ⟨_,(true),vX,H',⟨by first|omega|exact Nat.le_refl _⟩,⟨kX BK480.out⟩,⟨bX1 HB.out GE480.out⟩⟩
  }
  {
  rw [if_neg c7] at H
  have c7b0:=decide_eq_false c7
  clear c7
  (first|rw [c7b0]|(simp only [i64_w,i32_w];rw [c7b0])|skip)
  have H':=aM H
  clear H
  obtain ⟨hcz10_0,hcz10_1,hfz10_0,hfz10_1⟩:=f2Z BK480.out
  go_wp2_with (first|((with_reducible refine gate_callee (f:=16) rfl ?_);refine goesL_ (some 12) rfl rfl Tryz.func16 (by kernel_rfl) rfl #[.agg #[.slice A0_0 l0_0.length c0_0,.slice A0_1 l0_1.length c0_1]] rfl aX ?_;(with_reducible refine(impl_SurfaceOk.calls k _ _ l0_0 _ _ l0_1 true _ ?side1 ?side2 ?side3 ?side4 A5.out).mono ?_);(case side1=>exact cX (Kd.C_below HR0_0.out HB.out));(case side2=>exact HC0_0.out);(case side3=>exact cX (Kd.C_below HR0_1.out HB.out));(case side4=>exact HC0_1.out);rintro e w11 ⟨rfl,hb⟩;refine ⟨_,rfl,?_⟩;replace BK480:=aM (bbX BK480.out hb);replace HB:=aM (below_step (bX1 HB.out GE480.out) hb);(try clear hb);(try clear hk);obtain ⟨hcz12_0,hcz12_1,hfz12_0,hfz12_1⟩:=f2Z BK480.out))
  go_meet
  case rel=>exact ⟨_,(decide (a1≥(l0_0.length:Int))),vX,H',⟨by first|omega|exact Nat.le_refl _⟩,⟨kX BK480.out⟩,⟨bX1 HB.out GE480.out⟩⟩
  }
  }
  {
  replace c6:=Bool.eq_false_iff.mpr c6
  subst c6
  have H1:(impl_NamesFrom.j0 k a1 true l0_0 l0_1)=some r:=by rw [if_neg (show ¬ (false=true) by decide)] at H;exact H
  clear H
  have H:=H1
  clear H1
  have H':=aM H
  clear H
  obtain ⟨hcz13_0,hcz13_1,hfz13_0,hfz13_1⟩:=f2Z BK480.out
  go_wp2_with (first|((with_reducible refine gate_callee (f:=16) rfl ?_);refine goesL_ (some 12) rfl rfl Tryz.func16 (by kernel_rfl) rfl #[.agg #[.slice A0_0 l0_0.length c0_0,.slice A0_1 l0_1.length c0_1]] rfl aX ?_;(with_reducible refine(impl_SurfaceOk.calls k _ _ l0_0 _ _ l0_1 false _ ?side1 ?side2 ?side3 ?side4 A5.out).mono ?_);(case side1=>exact cX (Kd.C_below HR0_0.out HB.out));(case side2=>exact HC0_0.out);(case side3=>exact cX (Kd.C_below HR0_1.out HB.out));(case side4=>exact HC0_1.out);rintro e w14 ⟨rfl,hb⟩;refine ⟨_,rfl,?_⟩;replace BK480:=aM (bbX BK480.out hb);replace HB:=aM (below_step (bX1 HB.out GE480.out) hb);(try clear hb);(try clear hk)))
  go_meet
  case rel=>exact ⟨_,(true),vX,H',⟨by first|omega|exact Nat.le_refl _⟩,⟨kX BK480.out⟩,⟨bX1 HB.out GE480.out⟩⟩
  }
 case rest =>
 clear HC3
 try clear c6
 try clear c7
 try clear c7b0
 try clear hcz10_0
 try clear hcz10_1
 try clear hcz12_0
 try clear hcz12_1
 try clear hcz13_0
 try clear hcz13_1
 try clear hcz8_0
 try clear hcz8_1
 try clear hfz10_0
 try clear hfz10_1
 try clear hfz12_0
 try clear hfz12_1
 try clear hfz13_0
 try clear hfz13_1
 try clear hfz8_0
 try clear hfz8_1
 obtain ⟨kq,x24_2,rfl,HA,HJ2,BK480,HB⟩:=hcut
 cases kq with
 | zero=>exact absurd HA.out (by simp [impl_NamesFrom.j0])
 | succ kj2 =>
 have H:=HA.out
 clear HA
 simp only [impl_NamesFrom.j0] at H
 by_cases c15:x24_2=true
 {
 subst c15
 have H1:(some ([]:List Int))=some r:=by rw [if_pos rfl] at H;exact H
 clear H
 have H:=H1
 clear H1
 obtain rfl:=Option.some.inj H
 go_wp2
 go_ret
 exact ⟨_,eX,by first|exact Kd.R_nil _ _ _ _ _|exact Kd.N_nil _ _ _ _ _|exact Kd.V_nil _ _ _ _ _|exact Kd.Q_nil _ _ _ _ _|exact Kd.S_nil _ _ _ _ _,bX1 HB.out GE480.out⟩
 }
 {
 replace c15:=Bool.eq_false_iff.mpr c15
 subst c15
 have H1:(if 0≤(l0_0.length:Int) then (if ((l0_0.length:Int):Int).toNat≤35184372088832 then ((some (List.replicate ((l0_0.length:Int):Int).toNat 0:List Int)).bind fun y482=>(impl_NamesFrom.l0 kj2 a1 y482 (y482.length:Int) 0 l0_0 l0_1)) else (none)) else (none))=some r:=by rw [if_neg (show ¬ (false=true) by decide)] at H;exact H
 clear H
 have H:=H1
 clear H1
 by_cases c16:0≤(l0_0.length:Int)
 {
 rw [if_pos c16] at H
 have c16b0:=eq_true c16
 have c16b1:=decide_eq_true c16
 clear c16
 by_cases c17:((l0_0.length:Int):Int).toNat≤35184372088832
 {
 rw [if_pos c17] at H
 have c17b0:=eq_true c17
 have c17b1:=decide_eq_true c17
 clear c17
 obtain ⟨y482,hy482⟩:∃ y_:List Int,y_=(List.replicate ((l0_0.length:Int):Int).toNat 0):=⟨_,rfl⟩
 replace H:(impl_NamesFrom.l0 kj2 a1 y482 (y482.length:Int) 0 l0_0 l0_1)=some r:=by first|(rw [hy482];with_reducible exact H)|(have H2_:=(Option.bind_some _ _).symm.trans H;rw [hy482];with_reducible exact H2_)|(have H2_:=(Option.bind_some _ _).symm.trans H;with_reducible exact H2_)|with_reducible exact H|(rw [hy482];exact H)|exact H
 have Ny482:=aM hy482
 clear hy482
 have H':=aM H
 clear H
 obtain ⟨hcz18_0,hcz18_1,hfz18_0,hfz18_1⟩:=f2Z BK480.out
 go_wp2_with (first|((with_reducible refine gate_dst (N:=28) rfl ?_);(try(refine gate_guard (by rfl) ?_;dsimp only));refine Kd.R_make (Kd.int .i64) _ 3 rfl (N:=28) rfl 22 _ _ rfl (l0_0.length:Int) rfl rfl Tryz.underlying22 (.int .i64 0) 8 info3 rfl (by decide) (by omega) 0 (ok:=fun _=>True) (okp:=fun _=>True) rfl (fun _ hk=>hk) trivial (dX) (Nat.le_trans (Nat.mul_le_mul_right _ (dX:(l0_0.length:Int).toNat≤35184372088832)) (by omega)) (Below.refl _ _) (Nat.le_refl _) ?_;intro v483 w19 ho20 hb hg_ hnew_;clear hg_ hnew_;(first|rw [← Ny482.out] at ho20|(simp only [Int.reduceToNat] at ho20;rw [← Ny482.out] at ho20));have HO484:=aM (Kd.R_lower ho20 (below_size (bX1 HB.out GE480.out)));replace BK480:=aM (bbX BK480.out hb);replace HB:=aM (below_step (bX1 HB.out GE480.out) hb);clear hb ho20;obtain ⟨Ao21,co21,eo21⟩:=Kd.R_slice HO484.out;subst eo21))
 go_loopg [31] kj2 (fun kq v31 w'=>∃ (x5_2:List Int) (x31_2:Int),v31 = .int .i64 x31_2∧Aside0 (impl_NamesFrom.l0 kq a1 x5_2 (y482.length:Int) x31_2 l0_0 l0_1=some r)∧Aside0 (kq≤kj2)∧Aside0 (Kd.R (Kd.int .i64) 3 w' w.heap.size (fun _=>True) (.slice Ao21 y482.length co21) x5_2)∧Aside0 (w'.heap[gb480]? = some (.cells #[(.slice A0_0 l0_0.length c0_0),(.slice A0_1 l0_1.length c0_1)] 27 (0,0)))∧Aside0 (Below w.heap.size w w'))
 case atStart=>exact ⟨(y482),(0),vX,H',⟨Nat.le_refl _⟩,⟨rX HO484.out⟩,⟨kX BK480.out⟩,⟨bX1 HB.out GE480.out⟩⟩
 case round =>
 clear H'
 try clear c6
 try clear c7
 try clear c7b0
 try clear c15
 try clear c16
 try clear c16b0
 try clear c16b1
 try clear c17
 try clear c17b0
 try clear c17b1
 try clear hcz10_0
 try clear hcz10_1
 try clear hcz12_0
 try clear hcz12_1
 try clear hcz13_0
 try clear hcz13_1
 try clear hcz18_0
 try clear hcz18_1
 try clear hcz8_0
 try clear hcz8_1
 try clear hfz10_0
 try clear hfz10_1
 try clear hfz12_0
 try clear hfz12_1
 try clear hfz13_0
 try clear hfz13_1
 try clear hfz18_0
 try clear hfz18_1
 try clear hfz8_0
 try clear hfz8_1
 obtain ⟨x5_2,x31_2,rfl,HA,HK2,HO_5,BK480,HB⟩:=hrel
 have hl5_2:=(Kd.R_reads' HO_5.out).1
 rw [hl5_2] at HO_5
 (try simp only [hl5_2])
 (try simp only [hl5_2] at BK480)
 cases gk with
 | zero=>exact absurd HA.out (by simp [impl_NamesFrom.l0])
 | succ k2 =>
 have H:=HA.out
 clear HA
 simp only [impl_NamesFrom.l0] at H
 by_cases c22:x31_2<(y482.length:Int)
 {
 rw [if_pos c22] at H
 have c22b0:=decide_eq_true c22
 clear c22
 by_cases c23:0≤x31_2
 {
 rw [if_pos c23] at H
 have c23b0:=decide_eq_true c23
 clear c23
 by_cases c24:x31_2<(x5_2.length:Int)
 {
 rw [if_pos c24] at H
 have c24b0:=decide_eq_true c24
 clear c24
 obtain ⟨y485,hy485⟩:∃ y_:List Int,y_=(x5_2.set (x31_2:Int).toNat (-1)):=⟨_,rfl⟩
 replace H:(impl_NamesFrom.l0 k2 a1 y485 (y482.length:Int) (wrap64 (x31_2+1)) l0_0 l0_1)=some r:=by first|(rw [hy485];with_reducible exact H)|(have H2_:=(Option.bind_some _ _).symm.trans H;rw [hy485];with_reducible exact H2_)|(have H2_:=(Option.bind_some _ _).symm.trans H;with_reducible exact H2_)|with_reducible exact H|(rw [hy485];exact H)|exact H
 have Ny485:=aM hy485
 clear hy485
 have H':=aM H
 clear H
 have p25:0≤(x31_2:Int):=dX
 have q25:(x31_2:Int)<((x5_2.length:Int):Int):=dX
 obtain ⟨go25,co25,eo25,gb25,gl25,cl25,HG25⟩:=Kd.R_form HO_5.out (by omega)
 (first|cases eo25|(injection eo25 with ea_ en_ ec_;(first|subst ea_|(injection ea_ with ea_;subst ea_));subst ec_;clear en_))
 have GB25:=aM gb25
 have GG25:=aM HG25
 clear gb25 gl25 HG25
 obtain ⟨hx25_0,hf25_0⟩:=Kd.R_celln 0 HO_5.out (x31_2:Int) p25 q25
 replace p25:=eq_true p25
 replace q25:=eq_true q25
 have HP26:=Kd.R_putg HO_5.out (x31_2:Int) (-1)
 go_wp2_with (first|((with_reducible refine gate_store (t:=3) (p:=36) rfl ?_);refine store_event (t:=3) (p:=36) (v:=?vo_w27) (w1:=(wr.setCell ⟨go25,(x31_2:Int).toNat,none⟩ (.int .i64 (-1)))) ?hg ?ho ?hn ?hr ?_;(case ho=>rfl);(case hg=>rfl);(case hn=>rfl);(case hr=>first|(go_simp;done)|(go_simp;rfl));intro w27 hw;have hg:wr.grownBy w27 (some go25):=(by rw [hw];exact HP26.2);have hp_:Kd.R (Kd.int .i64) 3 w27 w.heap.size (fun _=>True) (.slice (some ⟨go25,0,none⟩) x5_2.length co21) y485:=(by rw [hw,Ny485.out];exact HP26.1);clear HP26;replace BK480:=aM (bgX BK480.out hg (Kd.R_ne HO_5.out BK480.out (by decide)));replace HO_5:=aM (hp_);replace HB:=aM ((by rw [hw];exact below_set (HB.out) GB25.out:Below w.heap.size w w27));clear hg hw hp_))
 (try simp only [← hl5_2])
 go_roundg k2
 case measure=>have:=HJ2.out;have:=HK2.out;omega
 case rel=>exact ⟨(y485),(wrap64 (x31_2+1)),vX,H',⟨by have:=HJ2.out;have:=HK2.out;omega⟩,⟨by(try simp only [hl5_2]);(with_reducible repeat(first|apply rA|apply rN|apply rD));exact HO_5.out⟩,⟨by(try simp only [hl5_2]);(with_reducible repeat(first|refine kN ?_ _|refine kD ?_|refine kA ?_ _));exact BK480.out⟩,⟨bX1 HB.out GE480.out⟩⟩
 }
 {
 rw [if_neg c24] at H
 exact absurd H (by simp)
 }
 }
 {
 rw [if_neg c23] at H
 exact absurd H (by simp)
 }
 }
 {
 rw [if_neg c22] at H
 have c22b0:=decide_eq_false c22
 (try rw [hl5_2] at c22b0)
 clear c22
 by_cases c28:0≤a1
 {
 rw [if_pos c28] at H
 have c28b0:=decide_eq_true c28
 clear c28
 by_cases c29:a1<(x5_2.length:Int)
 {
 rw [if_pos c29] at H
 have c29b0:=decide_eq_true c29
 clear c29
 obtain ⟨y486,hy486⟩:∃ y_:List Int,y_=(x5_2.set (a1:Int).toNat 0):=⟨_,rfl⟩
 replace H:(impl_NamesFrom.l1 k2 y486 (([a1]:List Int)) 0 l0_0 l0_1)=some r:=by first|(rw [hy486];with_reducible exact H)|(have H2_:=(Option.bind_some _ _).symm.trans H;rw [hy486];with_reducible exact H2_)|(have H2_:=(Option.bind_some _ _).symm.trans H;with_reducible exact H2_)|with_reducible exact H|(rw [hy486];exact H)|exact H
 have Ny486:=aM hy486
 clear hy486
 obtain ⟨y487,hy487⟩:∃ y_:List Int,y_=(([a1]:List Int)):=⟨_,rfl⟩
 replace H:(impl_NamesFrom.l1 k2 y486 y487 0 l0_0 l0_1)=some r:=by first|(rw [hy487];with_reducible exact H)|(have H2_:=(Option.bind_some _ _).symm.trans H;rw [hy487];with_reducible exact H2_)|(have H2_:=(Option.bind_some _ _).symm.trans H;with_reducible exact H2_)|with_reducible exact H|(rw [hy487];exact H)|exact H
 have Ny487:=aM hy487
 clear hy487
 have H':=aM H
 clear H
 have p30:0≤(a1:Int):=dX
 have q30:(a1:Int)<((x5_2.length:Int):Int):=dX
 obtain ⟨go30,co30,eo30,gb30,gl30,cl30,HG30⟩:=Kd.R_form HO_5.out (by omega)
 (first|cases eo30|(injection eo30 with ea_ en_ ec_;(first|subst ea_|(injection ea_ with ea_;subst ea_));subst ec_;clear en_))
 have GB30:=aM gb30
 have GG30:=aM HG30
 clear gb30 gl30 HG30
 obtain ⟨hx30_0,hf30_0⟩:=Kd.R_celln 0 HO_5.out (a1:Int) p30 q30
 replace p30:=eq_true p30
 replace q30:=eq_true q30
 have HP31:=Kd.R_putg HO_5.out (a1:Int) 0
 go_wp2_with (first|((with_reducible refine gate_store (t:=3) (p:=40) rfl ?_);refine store_event (t:=3) (p:=40) (v:=?vo_w32) (w1:=(wr.setCell ⟨go30,(a1:Int).toNat,none⟩ (.int .i64 0))) ?hg ?ho ?hn ?hr ?_;(case ho=>rfl);(case hg=>rfl);(case hn=>rfl);(case hr=>first|(go_simp;done)|(go_simp;rfl));intro w32 hw;have hg:wr.grownBy w32 (some go30):=(by rw [hw];exact HP31.2);have hp_:Kd.R (Kd.int .i64) 3 w32 w.heap.size (fun _=>True) (.slice (some ⟨go30,0,none⟩) x5_2.length co21) y486:=(by rw [hw,Ny486.out];exact HP31.1);clear HP31;replace BK480:=aM (bgX BK480.out hg (Kd.R_ne HO_5.out BK480.out (by decide)));replace HO_5:=aM (hp_);replace HB:=aM ((by rw [hw];exact below_set (HB.out) GB30.out:Below w.heap.size w w32));clear hg hw hp_)|((with_reducible refine gate_dst (N:=42) rfl ?_);(try(refine gate_guard (by rfl) ?_;dsimp only));refine Kd.R_lit (Kd.int .i64) _ 3 ?hg (N:=42) ?hd (xs:=([a1]:List Int)) (inner:=[.int .i64 a1]) (ok:=fun _=>True) (okp:=fun _=>True) ?hr ?hp (fun _ hk=>hk) trivial (Below.refl _ _) (Nat.le_refl _) (by simp) ?_;(case hd=>rfl);(case hg=>rfl);(case hr=>first|(go_simp;done)|(go_simp;rfl));(case hp=>exact(Reps.one (show Kd.M (Kd.int .i64) _ _ _ a1 [.int .i64 a1] from rfl) (Reps.none _ _)));intro v488 w33 ho34 hb hg_ hnew_;clear hg_ hnew_;(first|rw [← Ny487.out] at ho34|(simp only [Int.reduceToNat] at ho34;rw [← Ny487.out] at ho34));have HO489:=aM (Kd.R_lower (Kd.R_new' ho34 (Kd.R_lt (rX HO_5.out))) (below_size (bX1 HB.out GE480.out)));replace HO_5:=aM (Kd.R_elder' (rX HO_5.out) (Kd.R_base ho34) hb);replace BK480:=aM (bbX BK480.out hb);replace HB:=aM (below_step (bX1 HB.out GE480.out) hb);clear hb ho34))
 go_loopg [7,8] k2 (fun kq v7 v8 w'=>∃ (x5_3:List Int) (x7_3:List Int) (x8_3:Int),v8 = .int .i64 x8_3∧Aside0 (impl_NamesFrom.l1 kq x5_3 x7_3 x8_3 l0_0 l0_1=some r)∧Aside0 (kq≤k2)∧Aside0 (Kd.R (Kd.int .i64) 3 w' w.heap.size (fun k_=>some k_≠(v7:Value).ownBlock) (.slice (some ⟨go30,0,none⟩) x5_2.length co21) x5_3)∧Aside0 (Kd.R (Kd.int .i64) 3 w' w.heap.size (fun k_=>some k_≠((.slice (some ⟨go30,0,none⟩) x5_2.length co21):Value).ownBlock) v7 x7_3)∧Aside0 (w'.heap[gb480]? = some (.cells #[(.slice A0_0 l0_0.length c0_0),(.slice A0_1 l0_1.length c0_1)] 27 (0,0)))∧Aside0 (Below w.heap.size w w'))
 case atStart=>exact ⟨(y486),(y487),(0),vX,H',⟨Nat.le_refl _⟩,⟨by(try simp only [hl5_2]);(with_reducible repeat(first|apply rA|apply rN|apply rD));exact Kd.R_mono HO_5.out (fun _ hk=>hk.2)⟩,⟨by(try simp only [hl5_2]);(with_reducible repeat(first|apply rA|apply rN|apply rD));exact Kd.R_mono HO489.out (fun _ hk=>hk.2)⟩,⟨by(try simp only [hl5_2]);(with_reducible repeat(first|refine kN ?_ _|refine kD ?_|refine kA ?_ _));exact BK480.out⟩,⟨bX1 HB.out GE480.out⟩⟩
 case round =>
 clear H'
 try clear c6
 try clear c7
 try clear c7b0
 try clear c15
 try clear c16
 try clear c16b0
 try clear c16b1
 try clear c17
 try clear c17b0
 try clear c17b1
 try clear c22
 try clear c22b0
 try clear c23
 try clear c23b0
 try clear c24
 try clear c24b0
 try clear p25
 try clear q25
 try clear c28
 try clear c28b0
 try clear c29
 try clear c29b0
 try clear p30
 try clear q30
 try clear hcz10_0
 try clear hcz10_1
 try clear hcz12_0
 try clear hcz12_1
 try clear hcz13_0
 try clear hcz13_1
 try clear hcz18_0
 try clear hcz18_1
 try clear hcz8_0
 try clear hcz8_1
 try clear hfz10_0
 try clear hfz10_1
 try clear hfz12_0
 try clear hfz12_1
 try clear hfz13_0
 try clear hfz13_1
 try clear hfz18_0
 try clear hfz18_1
 try clear hfz8_0
 try clear hfz8_1
 try clear hx25_0
 try clear hx30_0
 try clear p25
 try clear p30
 try clear q25
 try clear q30
 obtain ⟨x5_3,x7_3,x8_3,rfl,HA,HK3,HO_5,HO_7,BK480,HB⟩:=hrel
 have hl5_3:=(Kd.R_reads' HO_5.out).1
 rw [hl5_3] at HO_5
 (try simp only [hl5_3])
 (try simp only [hl5_3] at BK480)
 (try simp only [hl5_3] at HO_7)
 cases gk with
 | zero=>exact absurd HA.out (by simp [impl_NamesFrom.l1])
 | succ k3 =>
 have H:=HA.out
 clear HA
 simp only [impl_NamesFrom.l1] at H
 by_cases c35:x8_3<(x7_3.length:Int)
 {
 rw [if_pos c35] at H
 have c35b0:=decide_eq_true c35
 clear c35
 by_cases c36:0≤x8_3
 {
 rw [if_pos c36] at H
 have c36b0:=decide_eq_true c36
 clear c36
 by_cases c37:0≤(rd x7_3 x8_3)
 {
 rw [if_pos c37] at H
 have c37b0:=decide_eq_true c37
 clear c37
 by_cases c38:(rd x7_3 x8_3)<(l0_0.length:Int)
 {
 rw [if_pos c38] at H
 have c38b0:=decide_eq_true c38
 clear c38
 by_cases c39:(rd x7_3 x8_3)<(l0_1.length:Int)
 {
 rw [if_pos c39] at H
 have c39b0:=decide_eq_true c39
 clear c39
 obtain ⟨y494,hy494⟩:∃ y_:List Int,y_=(([rd l0_0 (rd x7_3 x8_3),rd l0_1 (rd x7_3 x8_3)]:List Int)):=⟨_,rfl⟩
 replace H:(impl_NamesFrom.l2 k3 x5_3 x7_3 x8_3 y494 (y494.length:Int) 0 l0_0 l0_1)=some r:=by first|(rw [hy494];with_reducible exact H)|(have H2_:=(Option.bind_some _ _).symm.trans H;rw [hy494];with_reducible exact H2_)|(have H2_:=(Option.bind_some _ _).symm.trans H;with_reducible exact H2_)|with_reducible exact H|(rw [hy494];exact H)|exact H
 have Ny494:=aM hy494
 clear hy494
 have H':=aM H
 clear H
 obtain ⟨Ao40,co40,eo40⟩:=Kd.R_slice HO_7.out
 subst eo40
 try go_wp2
 replace HO_5:=aM (Kd.R_drew HO_5.out)
 replace HO_7:=aM (Kd.R_drew HO_7.out)
 replace BK480:=aM (blk_drew BK480.out)
 replace HB:=aM (below_drew1 HB.out)
 have p490:0≤(x8_3:Int):=dX
 have q490:x8_3<(x7_3.length:Int):=dX
 obtain ⟨ad490,e490,hx490_0⟩:=Kd.at_int (Kd.R_reads' HO_7.out).2.2 x8_3 p490 q490
 cases e490
 replace p490:=eq_true p490
 replace q490:=eq_true q490
 have p491:0≤((rd x7_3 x8_3):Int):=dX
 have q491:(rd x7_3 x8_3)<(l0_0.length:Int):=dX
 obtain ⟨ad491,e491,hx491_0⟩:=Kd.at_int HR0_0.out (rd x7_3 x8_3) p491 q491
 have hw491_0:=hx491_0
 cases e491
 replace hx491_0:=(HB.out.cell (World.block_lt_of_cell? w _ hx491_0)).trans hx491_0
 replace p491:=eq_true p491
 replace q491:=eq_true q491
 have p492:0≤(x8_3:Int):=dX
 have q492:x8_3<(x7_3.length:Int):=dX
 obtain ⟨ad492,e492,hx492_0⟩:=Kd.at_int (Kd.R_reads' HO_7.out).2.2 x8_3 p492 q492
 obtain rfl:ad490=ad492:=(by injection e492)
 replace p492:=eq_true p492
 replace q492:=eq_true q492
 have p493:0≤((rd x7_3 x8_3):Int):=dX
 have q493:(rd x7_3 x8_3)<(l0_1.length:Int):=dX
 obtain ⟨ad493,e493,hx493_0⟩:=Kd.at_int HR0_1.out (rd x7_3 x8_3) p493 q493
 have hw493_0:=hx493_0
 cases e493
 replace hx493_0:=(HB.out.cell (World.block_lt_of_cell? w _ hx493_0)).trans hx493_0
 replace p493:=eq_true p493
 replace q493:=eq_true q493
 refine start_ (n:=19) (S:=fun w'=>w'.cell? ⟨gb480,0,none⟩=some (.slice (some ad491) l0_0.length c0_0)∧w'.cell? ⟨gb480,1,none⟩=some (.slice (some ad493) l0_1.length c0_1)∧w'.cell? (ad490.add (x8_3).toNat)=some (.int .i64 (rd x7_3 x8_3))∧w'.cell? (ad491.add ((rd x7_3 x8_3)).toNat)=some (.int .i64 (rd l0_0 (rd x7_3 x8_3)))∧w'.cell? (ad490.add (x8_3).toNat)=some (.int .i64 (rd x7_3 x8_3))∧w'.cell? (ad493.add ((rd x7_3 x8_3)).toNat)=some (.int .i64 (rd l0_1 (rd x7_3 x8_3)))) (ds:=[]) #[ff,ff,ff,ff,ff,ff,ff,ff,ff,ff,ff,ff,ff,ff,ff,ff,ff,ff,ff] (by kernel_rfl) rfl rfl ⟨cz20 BK480.out,cz21 BK480.out,hx490_0,((HB.out.cell (World.block_lt_of_cell? w _ hw491_0)).trans hw491_0),hx492_0,((HB.out.cell (World.block_lt_of_cell? w _ hw493_0)).trans hw493_0)⟩ (fun hHeld => ?_);refine with_tabW impl_NamesFrom.tab14 impl_NamesFrom.bits14 (fun HT_ HW_ => ?_)
 generalize wr.drew=w41 at HO_5 HO_7 BK480 HB hx490_0 hx491_0 hx492_0 hx493_0 hHeld ⊢
 refine pX 0 49 (fl 19 1) rfl rfl HT_.out ?_
 refine pX 2 51 (fl 19 5) rfl rfl HT_.out ?_
 refine pX 3 52 (fl 19 13) rfl rfl HT_.out ?_
 refine pX 4 53 (fl 19 29) rfl rfl HT_.out ?_
 refine pX 8 57 (fl 19 285) rfl rfl HT_.out ?_
 refine pX 10 59 (fl 19 1309) rfl rfl HT_.out ?_
 refine pX 11 60 (fl 19 3357) rfl rfl HT_.out ?_
 refine pX 12 61 (fl 19 7453) rfl rfl HT_.out ?_
 refine pX 18 67 (fl 19 269597) rfl rfl HT_.out ?_
 refine tX6 1 50 (fl 19 269599) rfl rfl HT_.out HW_.out hHeld ?_
 refine tX6 5 54 (fl 19 269631) rfl rfl HT_.out HW_.out hHeld ?_
 refine pX 6 55 (fl 19 269695) rfl rfl HT_.out ?_
 refine tX6 7 56 (fl 19 269823) rfl rfl HT_.out HW_.out hHeld ?_
 refine tX6 9 58 (fl 19 270335) rfl rfl HT_.out HW_.out hHeld ?_
 refine tX6 13 62 (fl 19 278527) rfl rfl HT_.out HW_.out hHeld ?_
 refine pX 14 63 (fl 19 294911) rfl rfl HT_.out ?_
 refine tX6 15 64 (fl 19 327679) rfl rfl HT_.out HW_.out hHeld ?_
 refine one_ (i:=16) (N:=some 65) #[tt,tt,tt,tt,tt,tt,tt,tt,tt,tt,tt,tt,tt,tt,tt,tt,tt,ff,tt] rfl rfl (one_of HT_.out (by kernel_rfl)) (by decide) (fun K hK => ?_)
 refine Kd.R_lit_step (Kd.int .i64) _ 3 ?hg (N:=65) ?hd (xs:=([rd l0_0 (rd x7_3 x8_3),rd l0_1 (rd x7_3 x8_3)]:List Int)) (inner:=[.int .i64 (rd l0_0 (rd x7_3 x8_3)),.int .i64 (rd l0_1 (rd x7_3 x8_3))]) (ok:=fun _=>True) (okp:=fun _=>True) ?hr ?hp (fun _ hk=>hk) trivial (Below.refl _ _) (Nat.le_refl _) (by simp) ?_;(case hd=>rfl);(case hg=>rfl);(case hr=>first|(go_simp;done)|(go_simp;rfl));(case hp=>exact(Reps.one (show Kd.M (Kd.int .i64) _ _ _ (rd l0_0 (rd x7_3 x8_3)) [.int .i64 (rd l0_0 (rd x7_3 x8_3))] from rfl) (Reps.one (show Kd.M (Kd.int .i64) _ _ _ (rd l0_1 (rd x7_3 x8_3)) [.int .i64 (rd l0_1 (rd x7_3 x8_3))] from rfl) (Reps.none _ _))))
 intro v495 w42 ho43 hb hg_ hnew_
 have HS2_:=(hb.cell (World.block_lt_of_cell? _ _ (hHeld.2.2.1))).trans (hHeld.2.2.1)
 have HS4_:=(hb.cell (World.block_lt_of_cell? _ _ (hHeld.2.2.2.2.1))).trans (hHeld.2.2.2.2.1)
 clear hg_ hnew_
 (first|rw [← Ny494.out] at ho43|(simp only [Int.reduceToNat] at ho43;rw [← Ny494.out] at ho43))
 have HO496:=aM (Kd.R_lower (Kd.R_new' (Kd.R_new' ho43 (Kd.R_lt (rX HO_5.out))) (Kd.R_lt (rX HO_7.out))) (below_size (bX1 HB.out GE480.out)))
 replace HO_5:=aM (Kd.R_elder' (rX HO_5.out) (Kd.R_base ho43) hb)
 replace HO_7:=aM (Kd.R_elder' (rX HO_7.out) (Kd.R_base ho43) hb)
 replace BK480:=aM (bbX BK480.out hb)
 replace HB:=aM (below_step (bX1 HB.out GE480.out) hb)
 clear hb ho43
 obtain ⟨Ao44,co44,eo44⟩:=Kd.R_slice HO496.out
 (first|subst eo44|(injection eo44 with f1_ f2_ f3_;have f4_:=f1_.symm;have f5_:=f3_.symm;clear f1_ f2_ f3_;subst f4_;subst f5_))
 refine hK.out _ _ ⟨cz20 BK480.out,cz21 BK480.out,HS2_,((HB.out.cell (World.block_lt_of_cell? w _ hw491_0)).trans hw491_0),HS4_,((HB.out.cell (World.block_lt_of_cell? w _ hw493_0)).trans hw493_0)⟩ (fun hHeld => ?_)
 clear hK K
 refine norm_ (a':=?_) ?_ ?_
 rotate_left
 {
 show Act.put _ (some 65) _=_
 simp only [Act.put,zA,zB,zC,i64_w,i32_w]
 rfl
 }
 refine pX 17 66 (fl 19 524287) rfl rfl HT_.out ?_
 refine done_ (done_of HT_.out (by kernel_rfl)) ?_
 try go_wp2
 go_loopg [7,67] k3 (fun kq v7 v67 w'=>∃ (x5_4:List Int) (x7_4:List Int) (x67_4:Int),v67 = .int .i64 x67_4∧Aside0 (impl_NamesFrom.l2 kq x5_4 x7_4 x8_3 y494 (y494.length:Int) x67_4 l0_0 l0_1=some r)∧Aside0 (kq≤k3)∧Aside0 (Kd.R (Kd.int .i64) 3 w' w.heap.size (fun k_=>some k_≠(v7:Value).ownBlock∧some k_≠((.slice Ao44 y494.length co44):Value).ownBlock) (.slice (some ⟨go30,0,none⟩) x5_3.length co21) x5_4)∧Aside0 (Kd.R (Kd.int .i64) 3 w' w.heap.size (fun k_=>some k_≠((.slice (some ⟨go30,0,none⟩) x5_3.length co21):Value).ownBlock∧some k_≠((.slice Ao44 y494.length co44):Value).ownBlock) v7 x7_4)∧Aside0 (Kd.R (Kd.int .i64) 3 w' w.heap.size (fun k_=>some k_≠((.slice (some ⟨go30,0,none⟩) x5_3.length co21):Value).ownBlock∧some k_≠(v7:Value).ownBlock) (.slice Ao44 y494.length co44) y494)∧Aside0 (w'.heap[gb480]? = some (.cells #[(.slice (some ad491) l0_0.length c0_0),(.slice (some ad493) l0_1.length c0_1)] 27 (0,0)))∧Aside0 (Below w.heap.size w w'))
 case atStart=>exact ⟨(x5_3),(x7_3),(0),vX,H',⟨Nat.le_refl _⟩,⟨by(try simp only [hl5_2]);(try simp only [hl5_3]);(with_reducible repeat(first|apply rA|apply rN|apply rD));exact HO_5.out⟩,⟨by(try simp only [hl5_2]);(try simp only [hl5_3]);(with_reducible repeat(first|apply rA|apply rN|apply rD));exact HO_7.out⟩,⟨by(try simp only [hl5_2]);(try simp only [hl5_3]);(with_reducible repeat(first|apply rA|apply rN|apply rD));exact Kd.R_mono HO496.out (fun _ hk=>⟨hk.1.2,hk.2⟩)⟩,⟨by(try simp only [hl5_2]);(try simp only [hl5_3]);(with_reducible repeat(first|refine kN ?_ _|refine kD ?_|refine kA ?_ _));exact BK480.out⟩,⟨bX1 HB.out GE480.out⟩⟩
 case round =>
 clear H'
 try clear c6
 try clear c7
 try clear c7b0
 try clear c15
 try clear c16
 try clear c16b0
 try clear c16b1
 try clear c17
 try clear c17b0
 try clear c17b1
 try clear c22
 try clear c22b0
 try clear c23
 try clear c23b0
 try clear c24
 try clear c24b0
 try clear p25
 try clear q25
 try clear c28
 try clear c28b0
 try clear c29
 try clear c29b0
 try clear p30
 try clear q30
 try clear c35
 try clear c35b0
 try clear c36
 try clear c36b0
 try clear c37
 try clear c37b0
 try clear c38
 try clear c38b0
 try clear c39
 try clear c39b0
 try clear hcz10_0
 try clear hcz10_1
 try clear hcz12_0
 try clear hcz12_1
 try clear hcz13_0
 try clear hcz13_1
 try clear hcz18_0
 try clear hcz18_1
 try clear hcz8_0
 try clear hcz8_1
 try clear hfz10_0
 try clear hfz10_1
 try clear hfz12_0
 try clear hfz12_1
 try clear hfz13_0
 try clear hfz13_1
 try clear hfz18_0
 try clear hfz18_1
 try clear hfz8_0
 try clear hfz8_1
 try clear hx25_0
 try clear hx30_0
 try clear hx490_0
 try clear hx491_0
 try clear hx492_0
 try clear hx493_0
 try clear p25
 try clear p30
 try clear p490
 try clear p491
 try clear p492
 try clear p493
 try clear q25
 try clear q30
 try clear q490
 try clear q491
 try clear q492
 try clear q493
 obtain ⟨x5_4,x7_4,x67_4,rfl,HA,HK4,HO_5,HO_7,HO_65,BK480,HB⟩:=hrel
 have hl5_4:=(Kd.R_reads' HO_5.out).1
 rw [hl5_4] at HO_5
 (try simp only [hl5_4])
 (try simp only [hl5_4] at BK480)
 (try simp only [hl5_4] at HO_7)
 (try simp only [hl5_4] at HO_65)
 cases gk with
 | zero=>exact absurd HA.out (by simp [impl_NamesFrom.l2])
 | succ k4 =>
 have H:=HA.out
 clear HA
 simp only [impl_NamesFrom.l2] at H
 by_cases c45:x67_4<(y494.length:Int)
 {
 rw [if_pos c45] at H
 have c45b0:=decide_eq_true c45
 clear c45
 by_cases c46:0≤x67_4
 {
 rw [if_pos c46] at H
 have c46b0:=decide_eq_true c46
 clear c46
 by_cases c47:x67_4<(y494.length:Int)
 {
 rw [if_pos c47] at H
 have c47b0:=decide_eq_true c47
 clear c47
 by_cases c48:0≤(rd y494 x67_4)
 {
 rw [if_pos c48] at H
 have c48b0:=decide_eq_true c48
 clear c48
 by_cases c49:(rd y494 x67_4)<(x5_4.length:Int)
 {
 rw [if_pos c49] at H
 have c49b0:=decide_eq_true c49
 clear c49
 by_cases c50:(rd x5_4 (rd y494 x67_4))<0
 {
 rw [if_pos c50] at H
 have c50b0:=decide_eq_true c50
 clear c50
 obtain ⟨y499,hy499⟩:∃ y_:List Int,y_=(x5_4.set ((rd y494 x67_4):Int).toNat (x7_4.length:Int)):=⟨_,rfl⟩
 replace H:(if x7_4.length<17592186044416 then (impl_NamesFrom.l2 k4 y499 (x7_4 ++ [rd y494 x67_4]) x8_3 y494 (y494.length:Int) (wrap64 (x67_4+1)) l0_0 l0_1) else (none))=some r:=by first|(rw [hy499];with_reducible exact H)|(have H2_:=(Option.bind_some _ _).symm.trans H;rw [hy499];with_reducible exact H2_)|(have H2_:=(Option.bind_some _ _).symm.trans H;with_reducible exact H2_)|with_reducible exact H|(rw [hy499];exact H)|exact H
 have Ny499:=aM hy499
 clear hy499
 by_cases c52:x7_4.length<17592186044416
 {
 rw [if_pos c52] at H
 have LMc52:=aM c52
 clear c52
 obtain ⟨y500,hy500⟩:∃ y_:List Int,y_=(x7_4 ++ [rd y494 x67_4]):=⟨_,rfl⟩
 replace H:(impl_NamesFrom.l2 k4 y499 y500 x8_3 y494 (y494.length:Int) (wrap64 (x67_4+1)) l0_0 l0_1)=some r:=by first|(rw [hy500];with_reducible exact H)|(have H2_:=(Option.bind_some _ _).symm.trans H;rw [hy500];with_reducible exact H2_)|(have H2_:=(Option.bind_some _ _).symm.trans H;with_reducible exact H2_)|with_reducible exact H|(rw [hy500];exact H)|exact H
 have Ny500:=aM hy500
 clear hy500
 have H':=aM H
 clear H
 have p497:0≤(x67_4:Int):=dX
 have q497:x67_4<(y494.length:Int):=dX
 obtain ⟨ad497,e497,hx497_0⟩:=Kd.at_int (Kd.R_reads' HO_65.out).2.2 x67_4 p497 q497
 cases e497
 replace p497:=eq_true p497
 replace q497:=eq_true q497
 have p498:0≤((rd y494 x67_4):Int):=dX
 have q498:(rd y494 x67_4)<(x5_4.length:Int):=dX
 obtain ⟨ad498,e498,hx498_0⟩:=Kd.at_int (Kd.R_reads' HO_5.out).2.2 (rd y494 x67_4) p498 q498
 obtain rfl:(⟨go30,0,none⟩:Addr)=ad498:=(by injection e498)
 (first|simp only [add_plain] at hx498_0|simp only [add_at] at hx498_0|simp only [Addr.add,Nat.zero_add] at hx498_0|skip)
 replace p498:=eq_true p498
 replace q498:=eq_true q498
 obtain ⟨Ao53,co53,eo53⟩:=Kd.R_slice HO_7.out
 subst eo53
 have p51:0≤((rd y494 x67_4):Int):=dX
 have q51:((rd y494 x67_4):Int)<((x5_4.length:Int):Int):=dX
 obtain ⟨hx51_0,hf51_0⟩:=Kd.R_celln 0 HO_5.out ((rd y494 x67_4):Int) p51 q51
 replace p51:=eq_true p51
 replace q51:=eq_true q51
 have HP54:=Kd.R_putg HO_5.out ((rd y494 x67_4):Int) (x7_4.length:Int)
 go_wp2_with (first|((with_reducible refine gate_store (t:=3) (p:=80) rfl ?_);refine store_event (t:=3) (p:=80) (v:=?vo_w55) (w1:=(wr.setCell ⟨go30,((rd y494 x67_4):Int).toNat,none⟩ (.int .i64 (x7_4.length:Int)))) ?hg ?ho ?hn ?hr ?_;(case ho=>rfl);(case hg=>rfl);(case hn=>rfl);(case hr=>first|(go_simp;done)|(go_simp;rfl));intro w55 hw;have hg:wr.grownBy w55 (some go30):=(by rw [hw];exact HP54.2);have hp_:Kd.R (Kd.int .i64) 3 w55 w.heap.size (fun k_=>some k_≠(.slice Ao53 x7_4.length co53:Value).ownBlock∧some k_≠(.slice (some ad497) y494.length co44:Value).ownBlock) (.slice (some ⟨go30,0,none⟩) x5_4.length co21) y499:=(by rw [hw,Ny499.out];exact HP54.1);clear HP54;replace HO_7:=aM (Kd.R_after (v:=(.slice (some ⟨go30,0,none⟩) x5_4.length co21)) (v1:=(.slice (some ⟨go30,0,none⟩) x5_4.length co21)) (ok:=(fun k_=>some k_≠(.slice (some ad497) y494.length co44:Value).ownBlock)) (rM HO_7.out (fun _ hk=>⟨hk.2,hk.1⟩)) hg (.inl rfl));replace HO_65:=aM (Kd.R_after (v:=(.slice (some ⟨go30,0,none⟩) x5_4.length co21)) (v1:=(.slice (some ⟨go30,0,none⟩) x5_4.length co21)) (ok:=(fun k_=>some k_≠(.slice Ao53 x7_4.length co53:Value).ownBlock)) (rM HO_65.out (fun _ hk=>⟨hk.2,hk.1⟩)) hg (.inl rfl));replace BK480:=aM (bgX BK480.out hg (Kd.R_ne HO_5.out BK480.out (by decide)));replace HO_5:=aM (hp_);replace HB:=aM ((by rw [hw];exact below_set (HB.out) GB30.out:Below w.heap.size w w55));clear hg hw hp_)|((with_reducible refine gate_builtin (b:=.append) (xs:=#[.tmp 81,.tmp 83]) rfl ?_);(try(refine gate_guard (by rfl) ?_;dsimp only));at_builtin;refine Kd.R_append (Kd.int .i64) (w0:=w) w.heap.size rfl (.tmp 81) (.tmp 83) 22 3 (.int .i64 0) 8 rfl Tryz.underlying22 info3 rfl (by decide) (by omega) (.slice Ao53 x7_4.length co53) x7_4 (rd y494 x67_4) [.int .i64 (rd y494 x67_4)] (fun k_=>some k_≠(.slice (some ⟨go30,0,none⟩) x5_4.length co21:Value).ownBlock∧some k_≠(.slice (some ad497) y494.length co44:Value).ownBlock) (fun _=>False) rfl rfl ?aP (fun _ hk=>hk.elim) ?aF ?aO ?aB ?aS ?aL ?_;(case aP=>exact rfl);(case aB=>exact(bX1 HB.out GE480.out));(case aF=>exact(fun k_ hk=>⟨Kd.fresh' (Kd.R_lt (rX HO_5.out)) k_ hk,Kd.fresh' (Kd.R_lt (rX HO_65.out)) k_ hk⟩));(case aO=>exact(rM HO_7.out (fun _ hk=>⟨hk.2,hk.1⟩)));(case aS=>exact(below_size (bX1 HB.out GE480.out)));(case aL=>have:=LMc52.out;omega);intro v501 w56 ho hb hg hat;rw [← Ny500.out] at ho;replace HO_5:=aM (Kd.R_after (ok:=(fun k_=>some k_≠(.slice (some ad497) y494.length co44:Value).ownBlock)) (rM HO_5.out (fun _ hk=>⟨hk.2,hk.1⟩)) hg hat);replace HO_65:=aM (Kd.R_after (ok:=(fun k_=>some k_≠(.slice (some ⟨go30,0,none⟩) x5_4.length co21:Value).ownBlock)) (rM HO_65.out (fun _ hk=>⟨hk.2,hk.1⟩)) hg hat);replace BK480:=aM (bgX BK480.out hg (Kd.R_ne HO_7.out BK480.out (by decide)));replace HB:=aM (hb);have HO502:=aM (ho);clear HO_7 ho hb hg hat))
 (try simp only [← hl5_4])
 go_roundg k4
 case measure=>have:=HJ2.out;have:=HK2.out;have:=HK3.out;have:=HK4.out;omega
 case rel=>exact ⟨(y499),(y500),(wrap64 (x67_4+1)),vX,H',⟨by have:=HJ2.out;have:=HK2.out;have:=HK3.out;have:=HK4.out;omega⟩,⟨by(try simp only [hl5_2]);(try simp only [hl5_3]);(try simp only [hl5_4]);(with_reducible repeat(first|apply rA|apply rN|apply rD));exact Kd.R_mono HO_5.out (fun _ hk=>⟨hk.2,hk.1⟩)⟩,⟨by(try simp only [hl5_2]);(try simp only [hl5_3]);(try simp only [hl5_4]);(with_reducible repeat(first|apply rA|apply rN|apply rD));exact HO502.out⟩,⟨by(try simp only [hl5_2]);(try simp only [hl5_3]);(try simp only [hl5_4]);(with_reducible repeat(first|apply rA|apply rN|apply rD));exact HO_65.out⟩,⟨by(try simp only [hl5_2]);(try simp only [hl5_3]);(try simp only [hl5_4]);(with_reducible repeat(first|refine kN ?_ _|refine kD ?_|refine kA ?_ _));exact BK480.out⟩,⟨bX1 HB.out GE480.out⟩⟩
 }
 {
 rw [if_neg c52] at H
 exact absurd H (by simp)
 }
 }
 {
 rw [if_neg c50] at H
 have c50b0:=decide_eq_false c50
 clear c50
 have H':=aM H
 clear H
 have p497:0≤(x67_4:Int):=dX
 have q497:x67_4<(y494.length:Int):=dX
 obtain ⟨ad497,e497,hx497_0⟩:=Kd.at_int (Kd.R_reads' HO_65.out).2.2 x67_4 p497 q497
 cases e497
 replace p497:=eq_true p497
 replace q497:=eq_true q497
 have p498:0≤((rd y494 x67_4):Int):=dX
 have q498:(rd y494 x67_4)<(x5_4.length:Int):=dX
 obtain ⟨ad498,e498,hx498_0⟩:=Kd.at_int (Kd.R_reads' HO_5.out).2.2 (rd y494 x67_4) p498 q498
 obtain rfl:(⟨go30,0,none⟩:Addr)=ad498:=(by injection e498)
 (first|simp only [add_plain] at hx498_0|simp only [add_at] at hx498_0|simp only [Addr.add,Nat.zero_add] at hx498_0|skip)
 replace p498:=eq_true p498
 replace q498:=eq_true q498
 go_wp2
 (try simp only [← hl5_4])
 go_roundg k4
 case measure=>have:=HJ2.out;have:=HK2.out;have:=HK3.out;have:=HK4.out;omega
 case rel=>exact ⟨(x5_4),(x7_4),(wrap64 (x67_4+1)),vX,H',⟨by have:=HJ2.out;have:=HK2.out;have:=HK3.out;have:=HK4.out;omega⟩,⟨by(try simp only [hl5_2]);(try simp only [hl5_3]);(try simp only [hl5_4]);(with_reducible repeat(first|apply rA|apply rN|apply rD));exact HO_5.out⟩,⟨by(try simp only [hl5_2]);(try simp only [hl5_3]);(try simp only [hl5_4]);(with_reducible repeat(first|apply rA|apply rN|apply rD));exact HO_7.out⟩,⟨by(try simp only [hl5_2]);(try simp only [hl5_3]);(try simp only [hl5_4]);(with_reducible repeat(first|apply rA|apply rN|apply rD));exact HO_65.out⟩,⟨by(try simp only [hl5_2]);(try simp only [hl5_3]);(try simp only [hl5_4]);(with_reducible repeat(first|refine kN ?_ _|refine kD ?_|refine kA ?_ _));exact BK480.out⟩,⟨bX1 HB.out GE480.out⟩⟩
 }
 }
 {
 rw [if_neg c49] at H
 exact absurd H (by simp)
 }
 }
 {
 rw [if_neg c48] at H
 exact absurd H (by simp)
 }
 }
 {
 rw [if_neg c47] at H
 exact absurd H (by simp)
 }
 }
 {
 rw [if_neg c46] at H
 exact absurd H (by simp)
 }
 }
 {
 rw [if_neg c45] at H
 have c45b0:=decide_eq_false c45
 clear c45
 have H':=aM H
 clear H
 go_wp2
 (try simp only [← hl5_3,← hl5_4])
 go_roundg k4
 case measure=>have:=HJ2.out;have:=HK2.out;have:=HK3.out;have:=HK4.out;omega
 case rel=>exact ⟨(x5_4),(x7_4),(wrap64 (x8_3+1)),vX,H',⟨by have:=HJ2.out;have:=HK2.out;have:=HK3.out;have:=HK4.out;omega⟩,⟨by(try simp only [hl5_2]);(try simp only [hl5_3]);(try simp only [hl5_4]);(with_reducible repeat(first|apply rA|apply rN|apply rD));exact Kd.R_mono HO_5.out (fun _ hk=>hk.1)⟩,⟨by(try simp only [hl5_2]);(try simp only [hl5_3]);(try simp only [hl5_4]);(with_reducible repeat(first|apply rA|apply rN|apply rD));exact Kd.R_mono HO_7.out (fun _ hk=>hk.1)⟩,⟨by(try simp only [hl5_2]);(try simp only [hl5_3]);(try simp only [hl5_4]);(with_reducible repeat(first|refine kN ?_ _|refine kD ?_|refine kA ?_ _));exact BK480.out⟩,⟨bX1 HB.out GE480.out⟩⟩
 }
 }
 {
 rw [if_neg c39] at H
 exact absurd H (by simp)
 }
 }
 {
 rw [if_neg c38] at H
 exact absurd H (by simp)
 }
 }
 {
 rw [if_neg c37] at H
 exact absurd H (by simp)
 }
 }
 {
 rw [if_neg c36] at H
 exact absurd H (by simp)
 }
 }
 {
 rw [if_neg c35] at H
 have c35b0:=decide_eq_false c35
 clear c35
 obtain rfl:=Option.some.inj H
 obtain ⟨Ao57,co57,eo57⟩:=Kd.R_slice HO_7.out
 subst eo57
 go_wp2
 go_ret
 exact ⟨_,eX,by(with_reducible repeat(first|apply rA|apply rN|apply rD));exact Kd.R_mono HO_5.out (fun _ hk=>trivial),bX1 HB.out GE480.out⟩
 }
 }
 {
 rw [if_neg c29] at H
 exact absurd H (by simp)
 }
 }
 {
 rw [if_neg c28] at H
 exact absurd H (by simp)
 }
 }
 }
 {
 rw [if_neg c17] at H
 exact absurd H (by simp)
 }
 }
 {
 rw [if_neg c16] at H
 exact absurd H (by simp)
 }
 }

/-! ### impl_namedFrom: function 57 -/
def impl_namedFrom.l0 : Nat→List (S27)→Int→List Int→List Int→Option ((List (S27)))
 | 0,_,_,_,_=>none
 | k+1,x3,x4,x504000,x504001=>(impl_CountSquares.f k x504000 x504001).bind fun t507=>(if x4<t507 then ((impl_NamesFrom.f k x504000 x504001 x4).bind fun t508=>((impl_RenameSurface.f k x504000 x504001 t508).bind fun bt511=>(if x3.length<2932031007402 then (impl_namedFrom.l0 k (x3 ++ [(⟨bt511.1,bt511.2.1⟩:S27)]) (wrap64 (x4+1)) x504000 x504001) else (none)))) else (some x3))
def impl_namedFrom.f (k:Nat) (l0_0:List Int) (l0_1:List Int):Option ((List (S27))):=impl_namedFrom.l0 k (([]:List (S27))) 0 l0_0 l0_1
def impl_namedFrom.T5 : Bool × List (List Nat × List Nat):=(true,[([],[]),([],[]),([],[]),([1,2],[1,2]),([0,3,3],[0,3]),([4],[4]),([5],[5]),([5],[5]),([],[]),([8,6,4,0,1,2,3,4,5,6,8],[6,8]),([7,9,0,1,2,3,4,5,6,7,8,9],[7])])
def impl_namedFrom.B5 : List Nat:=[0,0,0,6,15,31,63,63,0,383,1023]
theorem impl_namedFrom.tab5 : rtab .any (opsOf Tryz.f57 5)=impl_namedFrom.T5:=by kernel_rfl
theorem impl_namedFrom.bits5 : waitsOk impl_namedFrom.T5.2 impl_namedFrom.B5=true:=by kernel_rfl
theorem impl_namedFrom.calls (k:Nat) (A0_0:Option Addr) (c0_0:Nat) (l0_0:List Int) (A0_1:Option Addr) (c0_1:Nat) (l0_1:List Int) (r:List (S27)) (w:World) (hr0_0:Kd.C (Kd.int .i64) w A0_0 l0_0.length l0_0) (hc0_0:l0_0.length≤c0_0) (hr0_1:Kd.C (Kd.int .i64) w A0_1 l0_1.length l0_1) (hc0_1:l0_1.length≤c0_1) (h:impl_namedFrom.f k l0_0 l0_1=some r) :
  Calls Tryz.prog 57 #[.agg #[.slice A0_0 l0_0.length c0_0,.slice A0_1 l0_1.length c0_1]] w fun e w'=>∃ v0_:Value,e = .returned (v0_)∧Kd.S k27 27 w' w.heap.size (fun _=>True) v0_ r∧Below w.heap.size w w':=by
 have hu27:=Tryz.underlying27
 have HR0_0:=aM hr0_0
 have HC0_0:=aM hc0_0
 clear hr0_0 hc0_0
 have HR0_1:=aM hr0_1
 have HC0_1:=aM hc0_1
 clear hr0_1 hc0_1
 have HB:=aM (Below.refl w.heap.size w)
 have H:(impl_namedFrom.l0 k (([]:List (S27))) 0 l0_0 l0_1)=some r:=h
 clear h
 obtain ⟨y504,hy504⟩:∃ y_:List (S27),y_=(([]:List (S27))):=⟨_,rfl⟩
 replace H:(impl_namedFrom.l0 k y504 0 l0_0 l0_1)=some r:=by first|(rw [hy504];with_reducible exact H)|(have H2_:=(Option.bind_some _ _).symm.trans H;rw [hy504];with_reducible exact H2_)|(have H2_:=(Option.bind_some _ _).symm.trans H;with_reducible exact H2_)|with_reducible exact H|(rw [hy504];exact H)|exact H
 have Ny504:=aM hy504
 clear hy504
 have H':=aM H
 clear H
 go_enter Tryz.func57,Tryz.ntmps57
 go_wp2_with (first|((with_reducible refine gate_dst (N:=1) rfl ?_);refine bEv (cs:=#[.slice A0_0 l0_0.length c0_0,.slice A0_1 l0_1.length c0_1]) (t:=27) ?_;intro gb503 hg w2 hbox hb;have BK503:=aM (hbox);have GW503:=aM ((szX (below_size (bX HB.out)) hg:w.heap.size≤gb503));have GE503:=GW503;replace HB:=aM (below_step (bX HB.out) hb);clear hb hbox hg)|((with_reducible refine gate_dst (N:=7) rfl ?_);refine Kd.S_lit k27 _ 27 ?hg (N:=7) ?hd (xs:=([]:List (S27))) (inner:=[]) (ok:=fun _=>True) (okp:=fun _=>True) ?hr ?hp (fun _ hk=>hk) trivial (Below.refl _ _) (Nat.le_refl _) (by simp) ?_;(case hd=>rfl);(case hg=>rfl);(case hr=>first|(go_simp;done)|(go_simp;rfl));(case hp=>exact(Reps.none _ _));intro v505 w3 ho4 hb hg_ hnew_;clear hg_ hnew_;(first|rw [← Ny504.out] at ho4|(simp only [Int.reduceToNat] at ho4;rw [← Ny504.out] at ho4));have HO506:=aM (Kd.S_lower (Kd.S_newB ho4 (g:=gb503) (o:=.cells #[.slice A0_0 l0_0.length c0_0,.slice A0_1 l0_1.length c0_1] 27 (0,0)) (kX BK503.out)) (below_size (bX1 HB.out GE503.out)));replace BK503:=aM (bbX BK503.out hb);replace HB:=aM (below_step (bX1 HB.out GE503.out) hb);clear hb ho4))
 go_loopg [3,4] k (fun kq v3 v4 w'=>∃ (x3_1:List (S27)) (x4_1:Int),v4 = .int .i64 x4_1∧Aside0 (impl_namedFrom.l0 kq x3_1 x4_1 l0_0 l0_1=some r)∧Aside0 (kq≤k)∧Aside0 (Kd.S k27 27 w' w.heap.size (fun k_=>k_≠gb503) v3 x3_1)∧Aside0 (w'.heap[gb503]? = some (.cells #[(.slice A0_0 l0_0.length c0_0),(.slice A0_1 l0_1.length c0_1)] 27 (0,0)))∧Aside0 (Below w.heap.size w w'))
 case atStart=>exact ⟨(y504),(0),vX,H',⟨Nat.le_refl _⟩,⟨by(with_reducible repeat(first|apply Kd.S_alloc|apply Kd.S_drewN|apply Kd.S_drew));exact Kd.S_mono HO506.out (fun _ hk=>hk.2)⟩,⟨kX BK503.out⟩,⟨bX1 HB.out GE503.out⟩⟩
 case round =>
 clear H'
 obtain ⟨x3_1,x4_1,rfl,HA,HK1,HO_3,BK503,HB⟩:=hrel
 cases gk with
 | zero=>exact absurd HA.out (by simp [impl_namedFrom.l0])
 | succ k1 =>
 have H:=HA.out
 clear HA
 simp only [impl_namedFrom.l0] at H
 replace H:=oB H
 obtain ⟨t507,A50,H⟩:=H
 have A5:=aM A50
 clear A50
 by_cases c6:x4_1<t507
 {
 rw [if_pos c6] at H
 have c6b0:=decide_eq_true c6
 clear c6
 replace H:=oB H
 obtain ⟨t508,A70,H⟩:=H
 have A7:=aM A70
 clear A70
 replace H:=oB H
 obtain ⟨⟨t511,t514,t517⟩,A80,H⟩:=H
 replace H:(if x3_1.length<2932031007402 then (impl_namedFrom.l0 k1 (x3_1 ++ [(⟨t511,t514⟩:S27)]) (wrap64 (x4_1+1)) l0_0 l0_1) else (none))=some r:=H
 have A8:=aM A80
 clear A80
 by_cases c9:x3_1.length<2932031007402
 {
 rw [if_pos c9] at H
 have LMc9:=aM c9
 clear c9
 obtain ⟨y519,hy519⟩:∃ y_:List (S27),y_=(x3_1 ++ [(⟨t511,t514⟩:S27)]):=⟨_,rfl⟩
 replace H:(impl_namedFrom.l0 k1 y519 (wrap64 (x4_1+1)) l0_0 l0_1)=some r:=by first|(rw [hy519];with_reducible exact H)|(have H2_:=(Option.bind_some _ _).symm.trans H;rw [hy519];with_reducible exact H2_)|(have H2_:=(Option.bind_some _ _).symm.trans H;with_reducible exact H2_)|with_reducible exact H|(rw [hy519];exact H)|exact H
 have Ny519:=aM hy519
 clear hy519
 have H':=aM H
 clear H
 obtain ⟨hcz10_0,hcz10_1,hfz10_0,hfz10_1⟩:=f2Z BK503.out
 try go_wp2_with (first|((with_reducible refine gate_callee (f:=85) rfl ?_);refine goesL_ (some 10) rfl rfl Tryz.func85 (by kernel_rfl) rfl #[.agg #[.slice A0_0 l0_0.length c0_0,.slice A0_1 l0_1.length c0_1]] rfl aX ?_;(with_reducible refine(impl_CountSquares.calls k1 _ _ l0_0 _ _ l0_1 t507 _ ?side1 ?side2 ?side3 ?side4 A5.out).mono ?_);(case side1=>exact cX (Kd.C_below HR0_0.out HB.out));(case side2=>exact HC0_0.out);(case side3=>exact cX (Kd.C_below HR0_1.out HB.out));(case side4=>exact HC0_1.out);rintro e w11 ⟨rfl,hb⟩;refine ⟨_,rfl,?_⟩;replace HO_3:=aM (Kd.S_below (sX HO_3.out) hb);replace BK503:=aM (bbX BK503.out hb);replace HB:=aM (below_step (bX1 HB.out GE503.out) hb);(try clear hb);(try clear hk)))
 replace HO_3:=aM (Kd.S_drew HO_3.out)
 replace BK503:=aM (blk_drew BK503.out)
 replace HB:=aM (below_drew1 HB.out)
 refine start_ (n:=11) (S:=fun w'=>w'.cell? ⟨gb503,0,none⟩=some (.slice A0_0 l0_0.length c0_0)∧w'.cell? ⟨gb503,1,none⟩=some (.slice A0_1 l0_1.length c0_1)) (ds:=[]) #[ff,ff,ff,ff,ff,ff,ff,ff,ff,ff,ff] (by kernel_rfl) rfl rfl ⟨cz20 BK503.out,cz21 BK503.out⟩ (fun hHeld => ?_);refine with_tabW impl_namedFrom.tab5 impl_namedFrom.bits5 (fun HT_ HW_ => ?_)
 generalize w11.drew=w12 at HO_3 BK503 HB hHeld ⊢
 refine pX 2 17 (fl 11 4) rfl rfl HT_.out ?_
 refine tX2 0 15 (fl 11 5) rfl rfl HT_.out HW_.out hHeld ?_
 refine tX2 1 16 (fl 11 7) rfl rfl HT_.out HW_.out hHeld ?_
 refine join_ (σ:=Value × Value × Value × Nat) 2 #[tt,tt,tt,tt,tt,tt,tt,tt,tt,ff,ff] (fun s_=>[(18,s_.1),(19,.tuple #[.agg #[s_.2.1,s_.2.2.1],.bool t517]),(5,.pointer (some ⟨s_.2.2.2,0,none⟩)),(14,.tuple #[.agg #[s_.2.1,s_.2.2.1],.bool t517]),(20,.agg #[s_.2.1,s_.2.2.1]),(21,.bool t517)]) (fun s_ w'=>(w'.cell? ⟨gb503,0,none⟩=some (.slice A0_0 l0_0.length c0_0)∧w'.cell? ⟨gb503,1,none⟩=some (.slice A0_1 l0_1.length c0_1))∧(Kd.R (Kd.int .i64) 3 w' w.heap.size (fun k_=>some k_≠(s_.2.1:Value).ownBlock∧some k_≠(s_.2.2.1:Value).ownBlock) s_.1 t508)∧(Kd.R (Kd.int .i64) 3 w' w.heap.size (fun k_=>some k_≠(s_.1:Value).ownBlock∧some k_≠(s_.2.2.1:Value).ownBlock) s_.2.1 t511)∧(Kd.R (Kd.int .i64) 3 w' w.heap.size (fun k_=>some k_≠(s_.1:Value).ownBlock∧some k_≠(s_.2.1:Value).ownBlock) s_.2.2.1 t514)∧(Kd.S k27 27 w' w.heap.size (fun k_=>some k_≠(s_.1:Value).ownBlock∧some k_≠(s_.2.1:Value).ownBlock∧some k_≠(s_.2.2.1:Value).ownBlock∧k_≠gb503∧k_≠s_.2.2.2) u3 x3_1)∧(w'.heap[gb503]? = some (.cells #[.slice A0_0 l0_0.length c0_0,.slice A0_1 l0_1.length c0_1] 27 (0,0)))∧(w'.heap[s_.2.2.2]? = some (.cells #[.slice none 0 0,.slice none 0 0] 27 (0,0)))∧(w.heap.size≤s_.2.2.2)∧(w.heap.size≤s_.2.2.2)∧(gb503≠s_.2.2.2)∧(s_.2.2.2≠gb503)∧(Below w.heap.size w w')) ?_ ?_
 rotate_left
 {
 intro hCont
 refine two_ (i:=3) (j:=8) (Ni:=some 18) (Nj:=some 5) #[tt,tt,tt,tt,ff,ff,ff,ff,ff,ff,ff] #[tt,tt,tt,ff,ff,ff,ff,ff,tt,ff,ff] rfl rfl rfl rfl (two_of HT_.out (by kernel_rfl)) (by decide) (by decide) (fun K hK => ?_) (fun K hK => ?_)
 {
 skip
 refine goes_ Tryz.func87 (by kernel_rfl) rfl #[.agg #[.slice A0_0 l0_0.length c0_0,.slice A0_1 l0_1.length c0_1],.int .i64 x4_1] (by rfl) rfl rfl aX ?_
 with_reducible refine(impl_NamesFrom.calls k1 _ _ l0_0 _ _ l0_1 x4_1 t508 _ ?side1 ?side2 ?side3 ?side4 A7.out).mono ?_
 (case side1=>exact cX (Kd.C_below HR0_0.out HB.out))
 (case side2=>exact HC0_0.out)
 (case side3=>exact cX (Kd.C_below HR0_1.out HB.out))
 (case side4=>exact HC0_1.out)
 rintro e w13 ⟨v509,rfl,ho0,hb⟩
 refine ⟨_,rfl,?_⟩
 replace HO_3:=aM (Kd.S_elder' (sX HO_3.out) (Kd.R_base ho0) hb)
 have HO510:=aM (Kd.R_lower ho0 (below_size (bX1 HB.out GE503.out)))
 replace BK503:=aM (bbX BK503.out hb)
 replace HB:=aM (below_step (bX1 HB.out GE503.out) hb)
 (try clear hb)
 (try clear hk)
 (try clear ho0)
 obtain ⟨Ao14,co14,eo14⟩:=Kd.R_slice HO510.out
 (first|subst eo14|(injection eo14 with f1_ f2_ f3_;have f4_:=f1_.symm;have f5_:=f3_.symm;clear f1_ f2_ f3_;subst f4_;subst f5_))
 refine hK.out _ _ ⟨cz20 BK503.out,cz21 BK503.out⟩ (fun hHeld => ?_)
 clear hK K
 refine norm_ (a':=?_) ?_ ?_
 rotate_left
 {
 show Act.put _ (some 18) _=_
 simp only [Act.put,zA,zB,zC,i64_w,i32_w]
 rfl
 }
 refine two_ (i:=4) (j:=8) (Ni:=some 19) (Nj:=some 5) #[tt,tt,tt,tt,tt,ff,ff,ff,ff,ff,ff] #[tt,tt,tt,tt,ff,ff,ff,ff,tt,ff,ff] rfl rfl rfl rfl (two_of HT_.out (by kernel_rfl)) (by decide) (by decide) (fun K hK => ?_) (fun K hK => ?_)
 {
 skip
 refine goes_ Tryz.func86 (by kernel_rfl) rfl #[.agg #[.slice A0_0 l0_0.length c0_0,.slice A0_1 l0_1.length c0_1],.slice Ao14 t508.length co14] (by rfl) rfl rfl aX ?_
 with_reducible refine(impl_RenameSurface.calls k1 _ _ l0_0 _ _ l0_1 _ _ t508 t511 t514 t517 _ ?side1 ?side2 ?side3 ?side4 ?side5 ?side6 A8.out).mono ?_
 (case side1=>exact cX (Kd.C_below HR0_0.out HB.out))
 (case side2=>exact HC0_0.out)
 (case side3=>exact cX (Kd.C_below HR0_1.out HB.out))
 (case side4=>exact HC0_1.out)
 (case side5=>exact cX (Kd.R_reads' HO510.out).2.2)
 (case side6=>exact(Kd.R_reads' HO510.out).2.1)
 rintro e w15 ⟨v512,v515,rfl,ho0,ho1,hb⟩
 refine ⟨_,rfl,?_⟩
 replace HO_3:=aM (Kd.S_mono (Kd.S_told (Kd.S_told (Kd.S_old (sX HO_3.out) hb) (Kd.R_base ho0)) (Kd.R_base ho1)) (fun _ h_=>h_.1))
 have HO513:=aM (Kd.R_lower (Kd.R_new' ho0 (Kd.R_lt (rX HO510.out))) (below_size (bX1 HB.out GE503.out)))
 have HO516:=aM (Kd.R_lower (Kd.R_new' ho1 (Kd.R_lt (rX HO510.out))) (below_size (bX1 HB.out GE503.out)))
 replace HO510:=aM (Kd.R_mono (Kd.R_told (Kd.R_told (Kd.R_old (rX HO510.out) hb) (Kd.R_base ho0)) (Kd.R_base ho1)) (fun _ h_=>h_.1))
 replace BK503:=aM (bbX BK503.out hb)
 replace HB:=aM (below_step (bX1 HB.out GE503.out) hb)
 (try clear hb)
 (try clear hk)
 (try clear ho0)
 (try clear ho1)
 refine hK.out _ _ ⟨cz20 BK503.out,cz21 BK503.out⟩ (fun hHeld => ?_)
 clear hK K
 refine norm_ (a':=?_) ?_ ?_
 rotate_left
 {
 show Act.put _ (some 19) _=_
 simp only [Act.put,zA,zB,zC,i64_w,i32_w]
 rfl
 }
 refine pX 5 14 (fl 11 63) rfl rfl HT_.out ?_
 refine pX 6 20 (fl 11 127) rfl rfl HT_.out ?_
 refine pX 7 21 (fl 11 255) rfl rfl HT_.out ?_
 refine one_ (i:=8) (N:=some 5) #[tt,tt,tt,tt,tt,tt,tt,tt,tt,ff,ff] rfl rfl (one_of HT_.out (by kernel_rfl)) (by decide) (fun K hK => ?_)
 refine box_step ?hg (N:=5) ?hd (cs:=#[.slice none 0 0,.slice none 0 0]) (t:=27) ?hr ?_;(case hd=>rfl);(case hg=>rfl);(case hr=>first|(go_simp;done)|(go_simp;rfl))
 intro gb518 hg w16 hbox hb
 replace HO_3:=aM (Kd.S_below (Kd.S_elderB (sX HO_3.out) gb518 (Nat.le_of_eq hg.symm)) hb)
 replace HO510:=aM (Kd.R_below (rX HO510.out) hb)
 replace HO513:=aM (Kd.R_below (rX HO513.out) hb)
 replace HO516:=aM (Kd.R_below (rX HO516.out) hb)
 have BK518:=aM (hbox)
 have GW518:=aM ((szX (below_size (bX1 HB.out GE503.out)) hg:w.heap.size≤gb518))
 have GE518:=GW518
 replace HB:=aM (below_step (bX1 HB.out GE503.out) hb)
 have NB503_518:=aM (neX BK503.out hg)
 have NB518_503:=aM (nfX BK503.out hg)
 replace BK503:=aM (bbX BK503.out hb)
 clear hb hbox hg
 refine hK.out _ _ ⟨cz20 BK503.out,cz21 BK503.out⟩ (fun hHeld => ?_)
 clear hK K
 refine norm_ (a':=?_) ?_ ?_
 rotate_left
 {
 show Act.put _ (some 5) _=_
 simp only [Act.put,zA,zB,zC,i64_w,i32_w]
 rfl
 }
 exact norm_ (by simp only [putAll,Act.put,List.setIfInBounds_toArray,List.set_cons_zero,List.set_cons_succ]) (hCont (.slice Ao14 t508.length co14,v512,v515,gb518) _ ⟨hHeld,(rM HO510.out (fun _ hk=>⟨hk.1.2,hk.2⟩)),(rM HO513.out (fun _ hk=>⟨hk.2,hk.1⟩)),(rM HO516.out (fun _ hk=>⟨hk.2,hk.1⟩)),(by(with_reducible repeat(first|apply Kd.S_alloc|apply Kd.S_drewN|apply Kd.S_drew));exact Kd.S_mono HO_3.out (fun _ hk=>⟨hk.1.1.1.2,⟨hk.1.1.2,⟨hk.1.2,⟨hk.1.1.1.1,hk.2⟩⟩⟩⟩)),(kX BK503.out),(kX BK518.out),GW518.out,GE518.out,NB503_518.out,NB518_503.out,(bX2 HB.out GE503.out GE518.out)⟩)
 }
 {
 skip
 refine box_step ?hg (N:=5) ?hd (cs:=#[.slice none 0 0,.slice none 0 0]) (t:=27) ?hr ?_;(case hd=>rfl);(case hg=>rfl);(case hr=>first|(go_simp;done)|(go_simp;rfl))
 intro gb518 hg w14 hbox hb
 replace HO_3:=aM (Kd.S_below (Kd.S_elderB (sX HO_3.out) gb518 (Nat.le_of_eq hg.symm)) hb)
 replace HO510:=aM (Kd.R_below (rX HO510.out) hb)
 have BK518:=aM (hbox)
 have GW518:=aM ((szX (below_size (bX1 HB.out GE503.out)) hg:w.heap.size≤gb518))
 have GE518:=GW518
 replace HB:=aM (below_step (bX1 HB.out GE503.out) hb)
 have NB503_518:=aM (neX BK503.out hg)
 have NB518_503:=aM (nfX BK503.out hg)
 replace BK503:=aM (bbX BK503.out hb)
 clear hb hbox hg
 obtain ⟨Ao15,co15,eo15⟩:=Kd.R_slice HO510.out
 (first|subst eo15|(injection eo15 with f1_ f2_ f3_;have f4_:=f1_.symm;have f5_:=f3_.symm;clear f1_ f2_ f3_;subst f4_;subst f5_))
 refine hK.out _ _ ⟨cz20 BK503.out,cz21 BK503.out⟩ (fun hHeld => ?_)
 clear hK K
 refine norm_ (a':=?_) ?_ ?_
 rotate_left
 {
 show Act.put _ (some 5) _=_
 simp only [Act.put,zA,zB,zC,i64_w,i32_w]
 rfl
 }
 refine one_ (i:=4) (N:=some 19) #[tt,tt,tt,tt,tt,ff,ff,ff,tt,ff,ff] rfl rfl (one_of HT_.out (by kernel_rfl)) (by decide) (fun K hK => ?_)
 refine goes_ Tryz.func86 (by kernel_rfl) rfl #[.agg #[.slice A0_0 l0_0.length c0_0,.slice A0_1 l0_1.length c0_1],.slice Ao15 t508.length co15] (by rfl) rfl rfl aX ?_
 with_reducible refine(impl_RenameSurface.calls k1 _ _ l0_0 _ _ l0_1 _ _ t508 t511 t514 t517 _ ?side1 ?side2 ?side3 ?side4 ?side5 ?side6 A8.out).mono ?_
 (case side1=>exact cX (Kd.C_below HR0_0.out HB.out))
 (case side2=>exact HC0_0.out)
 (case side3=>exact cX (Kd.C_below HR0_1.out HB.out))
 (case side4=>exact HC0_1.out)
 (case side5=>exact cX (Kd.R_reads' HO510.out).2.2)
 (case side6=>exact(Kd.R_reads' HO510.out).2.1)
 rintro e w16 ⟨v512,v515,rfl,ho0,ho1,hb⟩
 refine ⟨_,rfl,?_⟩
 replace HO_3:=aM (Kd.S_mono (Kd.S_told (Kd.S_told (Kd.S_old (sX HO_3.out) hb) (Kd.R_base ho0)) (Kd.R_base ho1)) (fun _ h_=>h_.1))
 have HO513:=aM (Kd.R_lower (Kd.R_new' ho0 (Kd.R_lt (rX HO510.out))) (below_size (bX2 HB.out GE503.out GE518.out)))
 have HO516:=aM (Kd.R_lower (Kd.R_new' ho1 (Kd.R_lt (rX HO510.out))) (below_size (bX2 HB.out GE503.out GE518.out)))
 replace HO510:=aM (Kd.R_mono (Kd.R_told (Kd.R_told (Kd.R_old (rX HO510.out) hb) (Kd.R_base ho0)) (Kd.R_base ho1)) (fun _ h_=>h_.1))
 replace BK503:=aM (bbX BK503.out hb)
 replace BK518:=aM (bbX BK518.out hb)
 replace HB:=aM (below_step (bX2 HB.out GE503.out GE518.out) hb)
 (try clear hb)
 (try clear hk)
 (try clear ho0)
 (try clear ho1)
 refine hK.out _ _ ⟨cz20 BK503.out,cz21 BK503.out⟩ (fun hHeld => ?_)
 clear hK K
 refine norm_ (a':=?_) ?_ ?_
 rotate_left
 {
 show Act.put _ (some 19) _=_
 simp only [Act.put,zA,zB,zC,i64_w,i32_w]
 rfl
 }
 refine pX 5 14 (fl 11 319) rfl rfl HT_.out ?_
 refine pX 6 20 (fl 11 383) rfl rfl HT_.out ?_
 refine pX 7 21 (fl 11 511) rfl rfl HT_.out ?_
 exact norm_ (by simp only [putAll,Act.put,List.setIfInBounds_toArray,List.set_cons_zero,List.set_cons_succ]) (hCont (.slice Ao15 t508.length co15,v512,v515,gb518) _ ⟨hHeld,(rM HO510.out (fun _ hk=>⟨hk.1.2,hk.2⟩)),(rM HO513.out (fun _ hk=>⟨hk.2,hk.1⟩)),(rM HO516.out (fun _ hk=>⟨hk.2,hk.1⟩)),(by(with_reducible repeat(first|apply Kd.S_alloc|apply Kd.S_drewN|apply Kd.S_drew));exact Kd.S_mono HO_3.out (fun _ hk=>⟨hk.1.1.1.2,⟨hk.1.2,⟨hk.2,⟨hk.1.1.1.1,hk.1.1.2⟩⟩⟩⟩)),(kX BK503.out),(kX BK518.out),GW518.out,GE518.out,NB503_518.out,NB518_503.out,(bX2 HB.out GE503.out GE518.out)⟩)
 }
 }
 {
 skip
 refine box_step ?hg (N:=5) ?hd (cs:=#[.slice none 0 0,.slice none 0 0]) (t:=27) ?hr ?_;(case hd=>rfl);(case hg=>rfl);(case hr=>first|(go_simp;done)|(go_simp;rfl))
 intro gb518 hg w13 hbox hb
 replace HO_3:=aM (Kd.S_below (Kd.S_elderB (sX HO_3.out) gb518 (Nat.le_of_eq hg.symm)) hb)
 have BK518:=aM (hbox)
 have GW518:=aM ((szX (below_size (bX1 HB.out GE503.out)) hg:w.heap.size≤gb518))
 have GE518:=GW518
 replace HB:=aM (below_step (bX1 HB.out GE503.out) hb)
 have NB503_518:=aM (neX BK503.out hg)
 have NB518_503:=aM (nfX BK503.out hg)
 replace BK503:=aM (bbX BK503.out hb)
 clear hb hbox hg
 refine hK.out _ _ ⟨cz20 BK503.out,cz21 BK503.out⟩ (fun hHeld => ?_)
 clear hK K
 refine norm_ (a':=?_) ?_ ?_
 rotate_left
 {
 show Act.put _ (some 5) _=_
 simp only [Act.put,zA,zB,zC,i64_w,i32_w]
 rfl
 }
 refine one_ (i:=3) (N:=some 18) #[tt,tt,tt,tt,ff,ff,ff,ff,tt,ff,ff] rfl rfl (one_of HT_.out (by kernel_rfl)) (by decide) (fun K hK => ?_)
 refine goes_ Tryz.func87 (by kernel_rfl) rfl #[.agg #[.slice A0_0 l0_0.length c0_0,.slice A0_1 l0_1.length c0_1],.int .i64 x4_1] (by rfl) rfl rfl aX ?_
 with_reducible refine(impl_NamesFrom.calls k1 _ _ l0_0 _ _ l0_1 x4_1 t508 _ ?side1 ?side2 ?side3 ?side4 A7.out).mono ?_
 (case side1=>exact cX (Kd.C_below HR0_0.out HB.out))
 (case side2=>exact HC0_0.out)
 (case side3=>exact cX (Kd.C_below HR0_1.out HB.out))
 (case side4=>exact HC0_1.out)
 rintro e w14 ⟨v509,rfl,ho0,hb⟩
 refine ⟨_,rfl,?_⟩
 replace HO_3:=aM (Kd.S_elder' (sX HO_3.out) (Kd.R_base ho0) hb)
 have HO510:=aM (Kd.R_lower ho0 (below_size (bX2 HB.out GE503.out GE518.out)))
 replace BK503:=aM (bbX BK503.out hb)
 replace BK518:=aM (bbX BK518.out hb)
 replace HB:=aM (below_step (bX2 HB.out GE503.out GE518.out) hb)
 (try clear hb)
 (try clear hk)
 (try clear ho0)
 obtain ⟨Ao15,co15,eo15⟩:=Kd.R_slice HO510.out
 (first|subst eo15|(injection eo15 with f1_ f2_ f3_;have f4_:=f1_.symm;have f5_:=f3_.symm;clear f1_ f2_ f3_;subst f4_;subst f5_))
 refine hK.out _ _ ⟨cz20 BK503.out,cz21 BK503.out⟩ (fun hHeld => ?_)
 clear hK K
 refine norm_ (a':=?_) ?_ ?_
 rotate_left
 {
 show Act.put _ (some 18) _=_
 simp only [Act.put,zA,zB,zC,i64_w,i32_w]
 rfl
 }
 refine one_ (i:=4) (N:=some 19) #[tt,tt,tt,tt,tt,ff,ff,ff,tt,ff,ff] rfl rfl (one_of HT_.out (by kernel_rfl)) (by decide) (fun K hK => ?_)
 refine goes_ Tryz.func86 (by kernel_rfl) rfl #[.agg #[.slice A0_0 l0_0.length c0_0,.slice A0_1 l0_1.length c0_1],.slice Ao15 t508.length co15] (by rfl) rfl rfl aX ?_
 with_reducible refine(impl_RenameSurface.calls k1 _ _ l0_0 _ _ l0_1 _ _ t508 t511 t514 t517 _ ?side1 ?side2 ?side3 ?side4 ?side5 ?side6 A8.out).mono ?_
 (case side1=>exact cX (Kd.C_below HR0_0.out HB.out))
 (case side2=>exact HC0_0.out)
 (case side3=>exact cX (Kd.C_below HR0_1.out HB.out))
 (case side4=>exact HC0_1.out)
 (case side5=>exact cX (Kd.R_reads' HO510.out).2.2)
 (case side6=>exact(Kd.R_reads' HO510.out).2.1)
 rintro e w16 ⟨v512,v515,rfl,ho0,ho1,hb⟩
 refine ⟨_,rfl,?_⟩
 replace HO_3:=aM (Kd.S_mono (Kd.S_told (Kd.S_told (Kd.S_old (sX HO_3.out) hb) (Kd.R_base ho0)) (Kd.R_base ho1)) (fun _ h_=>h_.1))
 have HO513:=aM (Kd.R_lower (Kd.R_new' ho0 (Kd.R_lt (rX HO510.out))) (below_size (bX2 HB.out GE503.out GE518.out)))
 have HO516:=aM (Kd.R_lower (Kd.R_new' ho1 (Kd.R_lt (rX HO510.out))) (below_size (bX2 HB.out GE503.out GE518.out)))
 replace HO510:=aM (Kd.R_mono (Kd.R_told (Kd.R_told (Kd.R_old (rX HO510.out) hb) (Kd.R_base ho0)) (Kd.R_base ho1)) (fun _ h_=>h_.1))
 replace BK503:=aM (bbX BK503.out hb)
 replace BK518:=aM (bbX BK518.out hb)
 replace HB:=aM (below_step (bX2 HB.out GE503.out GE518.out) hb)
 (try clear hb)
 (try clear hk)
 (try clear ho0)
 (try clear ho1)
 refine hK.out _ _ ⟨cz20 BK503.out,cz21 BK503.out⟩ (fun hHeld => ?_)
 clear hK K
 refine norm_ (a':=?_) ?_ ?_
 rotate_left
 {
 show Act.put _ (some 19) _=_
 simp only [Act.put,zA,zB,zC,i64_w,i32_w]
 rfl
 }
 refine pX 5 14 (fl 11 319) rfl rfl HT_.out ?_
 refine pX 6 20 (fl 11 383) rfl rfl HT_.out ?_
 refine pX 7 21 (fl 11 511) rfl rfl HT_.out ?_
 exact norm_ (by simp only [putAll,Act.put,List.setIfInBounds_toArray,List.set_cons_zero,List.set_cons_succ]) (hCont (.slice Ao15 t508.length co15,v512,v515,gb518) _ ⟨hHeld,(rM HO510.out (fun _ hk=>⟨hk.1.2,hk.2⟩)),(rM HO513.out (fun _ hk=>⟨hk.2,hk.1⟩)),(rM HO516.out (fun _ hk=>⟨hk.2,hk.1⟩)),(by(with_reducible repeat(first|apply Kd.S_alloc|apply Kd.S_drewN|apply Kd.S_drew));exact Kd.S_mono HO_3.out (fun _ hk=>⟨hk.1.1.2,⟨hk.1.2,⟨hk.2,⟨hk.1.1.1.1,hk.1.1.1.2⟩⟩⟩⟩)),(kX BK503.out),(kX BK518.out),GW518.out,GE518.out,NB503_518.out,NB518_503.out,(bX2 HB.out GE503.out GE518.out)⟩)
 }
 }
 rintro ⟨v509,v512,v515,gb518⟩ w17 ⟨hS_,h0_,h1_,h2_,h3_,h4_,h5_,h6_,h7_,h8_,h9_,h10_⟩
 have n0_:Aside0 (Kd.R (Kd.int .i64) 3 w17 w.heap.size (fun k_=>some k_≠(v512:Value).ownBlock∧some k_≠(v515:Value).ownBlock) v509 t508):=⟨h0_⟩
 have n1_:Aside0 (Kd.R (Kd.int .i64) 3 w17 w.heap.size (fun k_=>some k_≠(v509:Value).ownBlock∧some k_≠(v515:Value).ownBlock) v512 t511):=⟨h1_⟩
 have n2_:Aside0 (Kd.R (Kd.int .i64) 3 w17 w.heap.size (fun k_=>some k_≠(v509:Value).ownBlock∧some k_≠(v512:Value).ownBlock) v515 t514):=⟨h2_⟩
 have n3_:Aside0 (Kd.S k27 27 w17 w.heap.size (fun k_=>some k_≠(v509:Value).ownBlock∧some k_≠(v512:Value).ownBlock∧some k_≠(v515:Value).ownBlock∧k_≠gb503∧k_≠gb518) u3 x3_1):=⟨h3_⟩
 have n4_:Aside0 (w17.heap[gb503]? = some (.cells #[.slice A0_0 l0_0.length c0_0,.slice A0_1 l0_1.length c0_1] 27 (0,0))):=⟨h4_⟩
 have n5_:Aside0 (w17.heap[gb518]? = some (.cells #[.slice none 0 0,.slice none 0 0] 27 (0,0))):=⟨h5_⟩
 have n6_:Aside0 (w.heap.size≤gb518):=⟨h6_⟩
 have n7_:Aside0 (w.heap.size≤gb518):=⟨h7_⟩
 have n8_:Aside0 (gb503≠gb518):=⟨h8_⟩
 have n9_:Aside0 (gb518≠gb503):=⟨h9_⟩
 have n10_:Aside0 (Below w.heap.size w w17):=⟨h10_⟩
 clear HO_3 BK503 HB h0_ h1_ h2_ h3_ h4_ h5_ h6_ h7_ h8_ h9_ h10_
 have HO510:=n0_
 have HO513:=n1_
 have HO516:=n2_
 have HO_3:=n3_
 have BK503:=n4_
 have BK518:=n5_
 have GW518:=n6_
 have GE518:=n7_
 have NB503_518:=n8_
 have NB518_503:=n9_
 have HB:=n10_
 clear n0_ n1_ n2_ n3_ n4_ n5_ n6_ n7_ n8_ n9_ n10_
 have hHeld:w17.cell? ⟨gb503,0,none⟩=some (.slice A0_0 l0_0.length c0_0)∧w17.cell? ⟨gb503,1,none⟩=some (.slice A0_1 l0_1.length c0_1):=hS_
 obtain ⟨Ao18,co18,eo18⟩:=Kd.R_slice HO513.out
 (first|subst eo18|(injection eo18 with f1_ f2_ f3_;have f4_:=f1_.symm;have f5_:=f3_.symm;clear f1_ f2_ f3_;subst f4_;subst f5_))
 obtain ⟨Ao20,co20,eo20⟩:=Kd.R_slice HO516.out
 (first|subst eo20|(injection eo20 with f1_ f2_ f3_;have f4_:=f1_.symm;have f5_:=f3_.symm;clear f1_ f2_ f3_;subst f4_;subst f5_))
 refine norm_ (a':=?_) ?_ ?_
 rotate_left
 {
 simp only [putAll,Act.put,List.setIfInBounds_toArray,List.set_cons_zero,List.set_cons_succ]
 rfl
 }
 refine one_ (i:=9) (N:=none) #[tt,tt,tt,tt,tt,tt,tt,tt,tt,tt,ff] rfl rfl (one_of HT_.out (by kernel_rfl)) (by decide) (fun K hK => ?_)
 have hs19:w17.cell? ⟨gb518,0,none⟩=some (.slice none 0 0):=cz20 BK518.out
 have hfs19:=blk_frozen BK518.out 0
 have hns19_0:=NB503_518.out
 have hms19_0:=NB518_503.out
 have hs21:w17.cell? ⟨gb518,1,none⟩=some (.slice none 0 0):=cz21 BK518.out
 have hfs21:=blk_frozen BK518.out 1
 have hns21_0:=NB503_518.out
 have hms21_0:=NB518_503.out
 refine skip_ (w1:=?_) (by rfl) rfl ?_ ?_
 rotate_left
 {
 go_simp
 rfl
 }
 refine hK.out _ _ ⟨((cell_far (p:=⟨gb518,_,none⟩) NB503_518.out _).trans (((cell_far (p:=⟨gb518,_,none⟩) NB503_518.out _).trans (hHeld.1)))),((cell_far (p:=⟨gb518,_,none⟩) NB503_518.out _).trans (((cell_far (p:=⟨gb518,_,none⟩) NB503_518.out _).trans (hHeld.2))))⟩ (fun hHeld => ?_)
 clear hK K
 refine pX 10 6 (fl 11 2047) rfl rfl HT_.out ?_
 refine done_ (done_of HT_.out (by kernel_rfl)) ?_
 have n0_:Aside0 (Kd.S k27 27 ((w17.setCell ⟨gb518,0,none⟩ (.slice Ao18 t511.length co18)).setCell ⟨gb518,1,none⟩ (.slice Ao20 t514.length co20)) w.heap.size (fun k_=>some k_≠(v509:Value).ownBlock∧some k_≠(.slice Ao18 t511.length co18:Value).ownBlock∧some k_≠(.slice Ao20 t514.length co20:Value).ownBlock∧k_≠gb503∧k_≠gb518) u3 x3_1):=⟨by(with_reducible repeat(first|apply Kd.S_alloc|apply Kd.S_drewN|apply Kd.S_drew));exact Kd.S_mono (Kd.S_far (p:=⟨gb518,1,none⟩) (Kd.S_far (p:=⟨gb518,0,none⟩) (Kd.S_mono HO_3.out (fun k_ hk=>(⟨hk,hk.2.2.2.2⟩:_∧k_≠gb518))) (fun _ hk=>hk.2) (.slice Ao18 t511.length co18)) (fun _ hk=>hk.2) (.slice Ao20 t514.length co20)) (fun _ hk=>⟨hk.1.1,⟨hk.1.2.1,⟨hk.1.2.2.1,⟨hk.1.2.2.2.1,hk.1.2.2.2.2⟩⟩⟩⟩)⟩
 have n1_:Aside0 (Kd.R (Kd.int .i64) 3 ((w17.setCell ⟨gb518,0,none⟩ (.slice Ao18 t511.length co18)).setCell ⟨gb518,1,none⟩ (.slice Ao20 t514.length co20)) w.heap.size (fun k_=>some k_≠(.slice Ao18 t511.length co18:Value).ownBlock∧some k_≠(.slice Ao20 t514.length co20:Value).ownBlock) v509 t508):=⟨by(with_reducible repeat(first|apply rA|apply rN|apply rD));exact Kd.R_mono (Kd.R_far (p:=⟨gb518,1,none⟩) (Kd.R_far (p:=⟨gb518,0,none⟩) (Kd.R_types HO510.out BK518.out (by decide)) (fun _ hk=>hk.2) (.slice Ao18 t511.length co18)) (fun _ hk=>hk.2) (.slice Ao20 t514.length co20)) (fun _ hk=>⟨hk.1.1,hk.1.2⟩)⟩
 have n2_:Aside0 (Kd.R (Kd.int .i64) 3 ((w17.setCell ⟨gb518,0,none⟩ (.slice Ao18 t511.length co18)).setCell ⟨gb518,1,none⟩ (.slice Ao20 t514.length co20)) w.heap.size (fun k_=>some k_≠(v509:Value).ownBlock∧some k_≠(.slice Ao20 t514.length co20:Value).ownBlock) (.slice Ao18 t511.length co18) t511):=⟨by(with_reducible repeat(first|apply rA|apply rN|apply rD));exact Kd.R_mono (Kd.R_far (p:=⟨gb518,1,none⟩) (Kd.R_far (p:=⟨gb518,0,none⟩) (Kd.R_types HO513.out BK518.out (by decide)) (fun _ hk=>hk.2) (.slice Ao18 t511.length co18)) (fun _ hk=>hk.2) (.slice Ao20 t514.length co20)) (fun _ hk=>⟨hk.1.1,hk.1.2⟩)⟩
 have n3_:Aside0 (Kd.R (Kd.int .i64) 3 ((w17.setCell ⟨gb518,0,none⟩ (.slice Ao18 t511.length co18)).setCell ⟨gb518,1,none⟩ (.slice Ao20 t514.length co20)) w.heap.size (fun k_=>some k_≠(v509:Value).ownBlock∧some k_≠(.slice Ao18 t511.length co18:Value).ownBlock) (.slice Ao20 t514.length co20) t514):=⟨by(with_reducible repeat(first|apply rA|apply rN|apply rD));exact Kd.R_mono (Kd.R_far (p:=⟨gb518,1,none⟩) (Kd.R_far (p:=⟨gb518,0,none⟩) (Kd.R_types HO516.out BK518.out (by decide)) (fun _ hk=>hk.2) (.slice Ao18 t511.length co18)) (fun _ hk=>hk.2) (.slice Ao20 t514.length co20)) (fun _ hk=>⟨hk.1.1,hk.1.2⟩)⟩
 have n4_:Aside0 (((w17.setCell ⟨gb518,0,none⟩ (.slice Ao18 t511.length co18)).setCell ⟨gb518,1,none⟩ (.slice Ao20 t514.length co20)).heap[gb503]? = some (.cells #[.slice A0_0 l0_0.length c0_0,.slice A0_1 l0_1.length c0_1] 27 (0,0))):=⟨by(with_reducible repeat(first|refine kN ?_ _|refine kD ?_|refine kA ?_ _));refine blk_far ?_ NB503_518.out _;(with_reducible repeat(first|refine kN ?_ _|refine kD ?_|refine kA ?_ _));refine blk_far ?_ NB503_518.out _;(with_reducible repeat(first|refine kN ?_ _|refine kD ?_|refine kA ?_ _));exact BK503.out⟩
 have n5_:Aside0 (((w17.setCell ⟨gb518,0,none⟩ (.slice Ao18 t511.length co18)).setCell ⟨gb518,1,none⟩ (.slice Ao20 t514.length co20)).heap[gb518]? = some (.cells #[.slice Ao18 t511.length co18,.slice Ao20 t514.length co20] 27 (0,0))):=⟨by(with_reducible repeat(first|refine kN ?_ _|refine kD ?_|refine kA ?_ _));refine blk_put (cs:=#[.slice Ao18 t511.length co18,.slice none 0 0]) ?_ 1 _ rfl;(with_reducible repeat(first|refine kN ?_ _|refine kD ?_|refine kA ?_ _));refine blk_put (cs:=#[.slice none 0 0,.slice none 0 0]) ?_ 0 _ rfl;(with_reducible repeat(first|refine kN ?_ _|refine kD ?_|refine kA ?_ _));exact BK518.out⟩
 have n6_:Aside0 (Below w.heap.size w ((w17.setCell ⟨gb518,0,none⟩ (.slice Ao18 t511.length co18)).setCell ⟨gb518,1,none⟩ (.slice Ao20 t514.length co20))):=⟨bX2 HB.out GE503.out GE518.out⟩
 (try clear HO_3)
 (try clear HO510)
 (try clear HO513)
 (try clear HO516)
 (try clear BK503)
 (try clear BK518)
 (try clear HB)
 generalize ((w17.setCell ⟨gb518,0,none⟩ (.slice Ao18 t511.length co18)).setCell ⟨gb518,1,none⟩ (.slice Ao20 t514.length co20))=w22 at n0_ n1_ n2_ n3_ n4_ n5_ n6_ ⊢
 have HO_3:=n0_
 have HO510:=n1_
 have HO513:=n2_
 have HO516:=n3_
 have BK503:=n4_
 have BK518:=n5_
 have HB:=n6_
 clear n0_ n1_ n2_ n3_ n4_ n5_ n6_
 have hnb23:=NB518_503.out
 have hnc23:=NB503_518.out
 obtain ⟨hcz24_0,hcz24_1,hfz24_0,hfz24_1⟩:=f2Z BK518.out
 try go_wp2_with (first|((with_reducible refine gate_builtin (b:=.append) (xs:=#[.tmp 22,.tmp 24]) rfl ?_);at_builtin;refine Kd.S_append k27 (w0:=w) w.heap.size rfl (.tmp 22) (.tmp 24) 40 27 (.agg #[(.slice none 0 0),(.slice none 0 0)]) 48 rfl Tryz.underlying40 info27 rfl (by decide) (by omega) u3 x3_1 (⟨t511,t514⟩:S27) [.slice Ao18 t511.length co18,.slice Ao20 t514.length co20] (fun k_=>some k_≠(v509:Value).ownBlock∧k_≠gb503∧k_≠gb518) (fun k_=>some k_=(.slice Ao18 t511.length co18:Value).ownBlock∨some k_=(.slice Ao20 t514.length co20:Value).ownBlock) rfl rfl ?aP (fun k_ hk_=>hk_.elim (fun h_=>((Kd.R_mono (ok':=fun k_=>((fun k_=>some k_≠(v509:Value).ownBlock∧k_≠gb503∧k_≠gb518)) k_∧some k_≠(u3:Value).ownBlock) (Kd.R_types (Kd.R_types (Kd.R_apart' (HO513.out) (Kd.S_typed HO_3.out) (by decide)) BK503.out (by decide)) BK518.out (by decide)) (fun k_ hk=>⟨⟨hk.1.1.1.1,⟨hk.1.2,hk.2⟩⟩,hk.1.1.2⟩))).1 k_ h_.symm) (fun h_=>((Kd.R_mono (ok':=fun k_=>((fun k_=>some k_≠(v509:Value).ownBlock∧k_≠gb503∧k_≠gb518)) k_∧some k_≠(u3:Value).ownBlock) (Kd.R_types (Kd.R_types (Kd.R_apart' (HO516.out) (Kd.S_typed HO_3.out) (by decide)) BK503.out (by decide)) BK518.out (by decide)) (fun k_ hk=>⟨⟨hk.1.1.1.1,⟨hk.1.2,hk.2⟩⟩,hk.1.1.2⟩))).1 k_ h_.symm)) ?aF ?aO ?aB ?aS ?aL ?_;(case aP=>exact k27_mkM _ _ _ (⟨t511,t514⟩:S27) (Kd.R_mono (Kd.R_tight rfl (Kd.R_mono (ok':=fun k_=>((fun k_=>some k_≠(v509:Value).ownBlock∧k_≠gb503∧k_≠gb518)) k_∧some k_≠(u3:Value).ownBlock) (Kd.R_types (Kd.R_types (Kd.R_apart' (HO513.out) (Kd.S_typed HO_3.out) (by decide)) BK503.out (by decide)) BK518.out (by decide)) (fun k_ hk=>⟨⟨hk.1.1.1.1,⟨hk.1.2,hk.2⟩⟩,hk.1.1.2⟩))) (fun _ h_=>Or.inl h_)) (Kd.R_mono (Kd.R_tight rfl (Kd.R_mono (ok':=fun k_=>((fun k_=>some k_≠(v509:Value).ownBlock∧k_≠gb503∧k_≠gb518)) k_∧some k_≠(u3:Value).ownBlock) (Kd.R_types (Kd.R_types (Kd.R_apart' (HO516.out) (Kd.S_typed HO_3.out) (by decide)) BK503.out (by decide)) BK518.out (by decide)) (fun k_ hk=>⟨⟨hk.1.1.1.1,⟨hk.1.2,hk.2⟩⟩,hk.1.1.2⟩))) (fun _ h_=>Or.inr (h_))));(case aB=>exact(bX2 HB.out GE503.out GE518.out));(case aF=>exact(fun k_ hk=>⟨Kd.fresh' (Kd.R_lt (rX HO510.out)) k_ hk,Kd.freshB (g:=gb503) (o:=.cells #[.slice A0_0 l0_0.length c0_0,.slice A0_1 l0_1.length c0_1] 27 (0,0)) (kX BK503.out) k_ hk,Kd.freshB (g:=gb518) (o:=.cells #[.slice Ao18 t511.length co18,.slice Ao20 t514.length co20] 27 (0,0)) (kX BK518.out) k_ hk⟩));(case aO=>exact(by(with_reducible repeat(first|apply Kd.S_alloc|apply Kd.S_drewN|apply Kd.S_drew));exact Kd.S_mono HO_3.out (fun k_ hk=>⟨⟨hk.1,⟨hk.2.2.2.1,hk.2.2.2.2⟩⟩,fun e_=>e_.elim (fun h_=>hk.2.1 h_) (fun h_=>hk.2.2.1 h_)⟩)));(case aS=>exact(below_size (bX2 HB.out GE503.out GE518.out)));(case aL=>have:=LMc9.out;omega);intro v520 w25 ho hb hg hat;rw [← Ny519.out] at ho;replace BK503:=aM (bgX BK503.out hg (Kd.S_away HO_3.out (fun _ hk=>hk.2.2.2.1)));replace HO510:=aM (Kd.R_over' (rX HO510.out) (Kd.S_typed (sX HO_3.out)) (by decide) hg);replace BK518:=aM (bgX BK518.out hg (Kd.S_away HO_3.out (fun _ hk=>hk.2.2.2.2)));replace HB:=aM (hb);have HO521:=aM (ho);clear HO_3 HO513 HO516 ho hb hg hat))
 go_roundg k1
 case measure=>have:=HK1.out;omega
 case rel=>exact ⟨(y519),(wrap64 (x4_1+1)),vX,H',⟨by have:=HK1.out;omega⟩,⟨by(with_reducible repeat(first|apply Kd.S_alloc|apply Kd.S_drewN|apply Kd.S_drew));exact Kd.S_mono HO521.out (fun _ hk=>hk.2.1)⟩,⟨kX BK503.out⟩,⟨bX2 HB.out GE503.out GE518.out⟩⟩
 }
 {
 rw [if_neg c9] at H
 exact absurd H (by simp)
 }
 }
 {
 rw [if_neg c6] at H
 have c6b0:=decide_eq_false c6
 clear c6
 obtain rfl:=Option.some.inj H
 obtain ⟨hcz26_0,hcz26_1,hfz26_0,hfz26_1⟩:=f2Z BK503.out
 go_wp2_with (first|((with_reducible refine gate_callee (f:=85) rfl ?_);refine goesL_ (some 10) rfl rfl Tryz.func85 (by kernel_rfl) rfl #[.agg #[.slice A0_0 l0_0.length c0_0,.slice A0_1 l0_1.length c0_1]] rfl aX ?_;(with_reducible refine(impl_CountSquares.calls k1 _ _ l0_0 _ _ l0_1 t507 _ ?side1 ?side2 ?side3 ?side4 A5.out).mono ?_);(case side1=>exact cX (Kd.C_below HR0_0.out HB.out));(case side2=>exact HC0_0.out);(case side3=>exact cX (Kd.C_below HR0_1.out HB.out));(case side4=>exact HC0_1.out);rintro e w27 ⟨rfl,hb⟩;refine ⟨_,rfl,?_⟩;replace HO_3:=aM (Kd.S_below (sX HO_3.out) hb);replace BK503:=aM (bbX BK503.out hb);replace HB:=aM (below_step (bX1 HB.out GE503.out) hb);(try clear hb);(try clear hk)))
 go_ret
 exact ⟨_,eX,by(with_reducible repeat(first|apply Kd.S_alloc|apply Kd.S_drewN|apply Kd.S_drew));exact Kd.S_mono HO_3.out (fun _ hk=>trivial),bX1 HB.out GE503.out⟩
 }

/-! ### cmp_isNaN_int: function 115 -/
def cmp_isNaN_int.f (a0:Int):Option (Bool):=some (a0 != a0)
theorem cmp_isNaN_int.calls (a0:Int) (r:Bool) (w:World) (h:cmp_isNaN_int.f a0=some r) :
  Calls Tryz.prog 115 #[.int .i64 a0] w fun e w'=>e = .returned (.bool r)∧Drawn0 w w':=by
 have H:(some (a0 != a0))=some r:=h
 clear h
 obtain rfl:=Option.some.inj H
 go_enter Tryz.func115,Tryz.ntmps115
 go_wp2
 go_ret
 exact ⟨by first|rfl|(simp;done)|(simp [*];done),by repeat(first|exact Drawn0.refl _|apply Drawn0.step)⟩

/-! ### cmp_Compare_int: function 106 -/
def cmp_Compare_int.f (a0:Int) (a1:Int):Option (Int):=(cmp_isNaN_int.f a0).bind fun t522=>((cmp_isNaN_int.f a1).bind fun t523=>(if t522=true then (if t523=true then (some 0) else (some (-1))) else (if t523=true then (some 1) else (if a0<a1 then (some (-1)) else (if a0 > a1 then (some 1) else (some 0))))))
theorem cmp_Compare_int.calls (a0:Int) (a1:Int) (r:Int) (w:World) (h:cmp_Compare_int.f a0 a1=some r) :
  Calls Tryz.prog 106 #[.int .i64 a0,.int .i64 a1] w fun e w'=>e = .returned (.int .i64 r)∧Drawn0 w w':=by
 have H:((cmp_isNaN_int.f a0).bind fun t522=>((cmp_isNaN_int.f a1).bind fun t523=>(if t522=true then (if t523=true then (some 0) else (some (-1))) else (if t523=true then (some 1) else (if a0<a1 then (some (-1)) else (if a0 > a1 then (some 1) else (some 0)))))))=some r:=h
 clear h
 replace H:=oB H
 obtain ⟨t522,A30,H⟩:=H
 have A3:=aM A30
 clear A30
 replace H:=oB H
 obtain ⟨t523,A40,H⟩:=H
 have A4:=aM A40
 clear A40
 by_cases c5:t522=true
 {
 subst c5
 have H1:(if t523=true then (some 0) else (some (-1)))=some r:=by rw [if_pos rfl] at H;exact H
 clear H
 have H:=H1
 clear H1
 by_cases c6:t523=true
 {
 subst c6
 have H1:(some 0)=some r:=by rw [if_pos rfl] at H;exact H
 clear H
 have H:=H1
 clear H1
 obtain rfl:=Option.some.inj H
 go_enter Tryz.func106,Tryz.ntmps106
 go_wp2_with (first|((with_reducible refine gate_callee (f:=115) rfl ?_);refine goesL_ (some 8) rfl rfl Tryz.func115 (by kernel_rfl) rfl #[.int .i64 a0] rfl aX ?_;(with_reducible refine(cmp_isNaN_int.calls a0 true _ A3.out).mono ?_);rintro e w' ⟨rfl,⟨nd,rfl⟩⟩;refine ⟨_,rfl,?_⟩)|((with_reducible refine gate_callee (f:=115) rfl ?_);refine goesL_ (some 10) rfl rfl Tryz.func115 (by kernel_rfl) rfl #[.int .i64 a1] rfl aX ?_;(with_reducible refine(cmp_isNaN_int.calls a1 true _ A4.out).mono ?_);rintro e w' ⟨rfl,⟨nd,rfl⟩⟩;refine ⟨_,rfl,?_⟩))
 go_ret
 exact ⟨by first|rfl|(simp;done)|(simp [*];done),by repeat(first|exact Drawn0.refl _|apply Drawn0.step)⟩
 }
 {
 replace c6:=Bool.eq_false_iff.mpr c6
 subst c6
 have H1:(some (-1))=some r:=by rw [if_neg (show ¬ (false=true) by decide)] at H;exact H
 clear H
 have H:=H1
 clear H1
 obtain rfl:=Option.some.inj H
 go_enter Tryz.func106,Tryz.ntmps106
 go_wp2_with (first|((with_reducible refine gate_callee (f:=115) rfl ?_);refine goesL_ (some 8) rfl rfl Tryz.func115 (by kernel_rfl) rfl #[.int .i64 a0] rfl aX ?_;(with_reducible refine(cmp_isNaN_int.calls a0 true _ A3.out).mono ?_);rintro e w' ⟨rfl,⟨nd,rfl⟩⟩;refine ⟨_,rfl,?_⟩)|((with_reducible refine gate_callee (f:=115) rfl ?_);refine goesL_ (some 10) rfl rfl Tryz.func115 (by kernel_rfl) rfl #[.int .i64 a1] rfl aX ?_;(with_reducible refine(cmp_isNaN_int.calls a1 false _ A4.out).mono ?_);rintro e w' ⟨rfl,⟨nd,rfl⟩⟩;refine ⟨_,rfl,?_⟩))
 go_ret
 exact ⟨by first|rfl|(simp;done)|(simp [*];done),by repeat(first|exact Drawn0.refl _|apply Drawn0.step)⟩
 }
 }
 {
 replace c5:=Bool.eq_false_iff.mpr c5
 subst c5
 have H1:(if t523=true then (some 1) else (if a0<a1 then (some (-1)) else (if a0 > a1 then (some 1) else (some 0))))=some r:=by rw [if_neg (show ¬ (false=true) by decide)] at H;exact H
 clear H
 have H:=H1
 clear H1
 by_cases c7:t523=true
 {
 subst c7
 have H1:(some 1)=some r:=by rw [if_pos rfl] at H;exact H
 clear H
 have H:=H1
 clear H1
 obtain rfl:=Option.some.inj H
 go_enter Tryz.func106,Tryz.ntmps106
 go_wp2_with (first|((with_reducible refine gate_callee (f:=115) rfl ?_);refine goesL_ (some 8) rfl rfl Tryz.func115 (by kernel_rfl) rfl #[.int .i64 a0] rfl aX ?_;(with_reducible refine(cmp_isNaN_int.calls a0 false _ A3.out).mono ?_);rintro e w' ⟨rfl,⟨nd,rfl⟩⟩;refine ⟨_,rfl,?_⟩)|((with_reducible refine gate_callee (f:=115) rfl ?_);refine goesL_ (some 10) rfl rfl Tryz.func115 (by kernel_rfl) rfl #[.int .i64 a1] rfl aX ?_;(with_reducible refine(cmp_isNaN_int.calls a1 true _ A4.out).mono ?_);rintro e w' ⟨rfl,⟨nd,rfl⟩⟩;refine ⟨_,rfl,?_⟩))
 go_ret
 exact ⟨by first|rfl|(simp;done)|(simp [*];done),by repeat(first|exact Drawn0.refl _|apply Drawn0.step)⟩
 }
 {
 replace c7:=Bool.eq_false_iff.mpr c7
 subst c7
 have H1:(if a0<a1 then (some (-1)) else (if a0 > a1 then (some 1) else (some 0)))=some r:=by rw [if_neg (show ¬ (false=true) by decide)] at H;exact H
 clear H
 have H:=H1
 clear H1
 by_cases c8:a0<a1
 {
 rw [if_pos c8] at H
 have c8b0:=decide_eq_true c8
 clear c8
 obtain rfl:=Option.some.inj H
 go_enter Tryz.func106,Tryz.ntmps106
 go_wp2_with (first|((with_reducible refine gate_callee (f:=115) rfl ?_);refine goesL_ (some 8) rfl rfl Tryz.func115 (by kernel_rfl) rfl #[.int .i64 a0] rfl aX ?_;(with_reducible refine(cmp_isNaN_int.calls a0 false _ A3.out).mono ?_);rintro e w' ⟨rfl,⟨nd,rfl⟩⟩;refine ⟨_,rfl,?_⟩)|((with_reducible refine gate_callee (f:=115) rfl ?_);refine goesL_ (some 10) rfl rfl Tryz.func115 (by kernel_rfl) rfl #[.int .i64 a1] rfl aX ?_;(with_reducible refine(cmp_isNaN_int.calls a1 false _ A4.out).mono ?_);rintro e w' ⟨rfl,⟨nd,rfl⟩⟩;refine ⟨_,rfl,?_⟩))
 go_ret
 exact ⟨by first|rfl|(simp;done)|(simp [*];done),by repeat(first|exact Drawn0.refl _|apply Drawn0.step)⟩
 }
 {
 rw [if_neg c8] at H
 have c8b0:=decide_eq_false c8
 clear c8
 by_cases c9:a0 > a1
 {
 rw [if_pos c9] at H
 have c9b0:=decide_eq_true c9
 clear c9
 obtain rfl:=Option.some.inj H
 go_enter Tryz.func106,Tryz.ntmps106
 go_wp2_with (first|((with_reducible refine gate_callee (f:=115) rfl ?_);refine goesL_ (some 8) rfl rfl Tryz.func115 (by kernel_rfl) rfl #[.int .i64 a0] rfl aX ?_;(with_reducible refine(cmp_isNaN_int.calls a0 false _ A3.out).mono ?_);rintro e w' ⟨rfl,⟨nd,rfl⟩⟩;refine ⟨_,rfl,?_⟩)|((with_reducible refine gate_callee (f:=115) rfl ?_);refine goesL_ (some 10) rfl rfl Tryz.func115 (by kernel_rfl) rfl #[.int .i64 a1] rfl aX ?_;(with_reducible refine(cmp_isNaN_int.calls a1 false _ A4.out).mono ?_);rintro e w' ⟨rfl,⟨nd,rfl⟩⟩;refine ⟨_,rfl,?_⟩))
 go_ret
 exact ⟨by first|rfl|(simp;done)|(simp [*];done),by repeat(first|exact Drawn0.refl _|apply Drawn0.step)⟩
 }
 {
 rw [if_neg c9] at H
 have c9b0:=decide_eq_false c9
 clear c9
 obtain rfl:=Option.some.inj H
 go_enter Tryz.func106,Tryz.ntmps106
 go_wp2_with (first|((with_reducible refine gate_callee (f:=115) rfl ?_);refine goesL_ (some 8) rfl rfl Tryz.func115 (by kernel_rfl) rfl #[.int .i64 a0] rfl aX ?_;(with_reducible refine(cmp_isNaN_int.calls a0 false _ A3.out).mono ?_);rintro e w' ⟨rfl,⟨nd,rfl⟩⟩;refine ⟨_,rfl,?_⟩)|((with_reducible refine gate_callee (f:=115) rfl ?_);refine goesL_ (some 10) rfl rfl Tryz.func115 (by kernel_rfl) rfl #[.int .i64 a1] rfl aX ?_;(with_reducible refine(cmp_isNaN_int.calls a1 false _ A4.out).mono ?_);rintro e w' ⟨rfl,⟨nd,rfl⟩⟩;refine ⟨_,rfl,?_⟩))
 go_ret
 exact ⟨by first|rfl|(simp;done)|(simp [*];done),by repeat(first|exact Drawn0.refl _|apply Drawn0.step)⟩
 }
 }
 }
 }

/-! ### slices_Compare_int_int: function 88 -/
def slices_Compare_int_int.l0 : Nat→List Int→List Int→List Int→Int→Int→Option (Int)
 | 0,_,_,_,_,_=>none
 | k+1,x0,x1,x9,x10,x11=>if x11<x10 then (if 0≤x11 then (if x11<(x9.length:Int) then (if x11≥(x1.length:Int) then (some 1) else (if x11<(x1.length:Int) then ((cmp_Compare_int.f (rd x9 x11) (rd x1 x11)).bind fun t526=>(if t526=0 then (slices_Compare_int_int.l0 k x0 x1 x9 x10 (wrap64 (x11+1))) else (some t526))) else (none))) else (none)) else (none)) else (if (x0.length:Int)<(x1.length:Int) then (some (-1)) else (some 0))
def slices_Compare_int_int.f (k:Nat) (l0:List Int) (l1:List Int):Option (Int):=slices_Compare_int_int.l0 k l0 l1 l0 (l0.length:Int) 0
theorem slices_Compare_int_int.calls (k:Nat) (A0:Option Addr) (c0:Nat) (l0:List Int) (A1:Option Addr) (c1:Nat) (l1:List Int) (r:Int) (w:World) (hr0:Kd.C (Kd.int .i64) w A0 l0.length l0) (hc0:l0.length≤c0) (hr1:Kd.C (Kd.int .i64) w A1 l1.length l1) (hc1:l1.length≤c1) (h:slices_Compare_int_int.f k l0 l1=some r) :
  Calls Tryz.prog 88 #[.slice A0 l0.length c0,.slice A1 l1.length c1] w fun e w'=>e = .returned (.int .i64 r)∧Drawn0 w w':=by
 have HR0:=aM hr0
 have HC0:=aM hc0
 clear hr0 hc0
 have HR1:=aM hr1
 have HC1:=aM hc1
 clear hr1 hc1
 have H:(slices_Compare_int_int.l0 k l0 l1 l0 (l0.length:Int) 0)=some r:=h
 clear h
 have H':=aM H
 clear H
 go_enter Tryz.func88,Tryz.ntmps88
 go_wp2
 go_loopg [11] k (fun kq v11 w'=>∃ (x11_1:Int),v11 = .int .i64 x11_1∧Aside0 (slices_Compare_int_int.l0 kq l0 l1 l0 (l0.length:Int) x11_1=some r)∧Aside0 (kq≤k)∧Drawn0 w w')
 case atStart=>exact ⟨(0),vX,H',⟨Nat.le_refl _⟩,by repeat(first|exact Drawn0.refl _|apply Drawn0.step)⟩
 case round =>
 clear H'
 try clear c1
 obtain ⟨x11_1,rfl,HA,HK1,⟨m1,rfl⟩⟩:=hrel
 cases gk with
 | zero=>exact absurd HA.out (by simp [slices_Compare_int_int.l0])
 | succ k1 =>
 have H:=HA.out
 clear HA
 simp only [slices_Compare_int_int.l0] at H
 by_cases c3:x11_1<(l0.length:Int)
 {
 rw [if_pos c3] at H
 have c3b0:=decide_eq_true c3
 clear c3
 by_cases c4:0≤x11_1
 {
 rw [if_pos c4] at H
 have c4b0:=decide_eq_true c4
 clear c4
 by_cases c5:x11_1<(l0.length:Int)
 {
 rw [if_pos c5] at H
 have c5b0:=decide_eq_true c5
 clear c5
 by_cases c6:x11_1≥(l1.length:Int)
 {
 rw [if_pos c6] at H
 have c6b0:=decide_eq_true c6
 clear c6
 obtain rfl:=Option.some.inj H
 have p524:0≤(x11_1:Int):=dX
 have q524:x11_1<(l0.length:Int):=dX
 obtain ⟨ad524,e524,hx524_0⟩:=Kd.at_int HR0.out x11_1 p524 q524
 cases e524
 replace p524:=eq_true p524
 replace q524:=eq_true q524
 go_wp2
 go_ret
 exact ⟨by first|rfl|(simp;done)|(simp [*];done),by repeat(first|exact Drawn0.refl _|apply Drawn0.step)⟩
 }
 {
 rw [if_neg c6] at H
 have c6b0:=decide_eq_false c6
 clear c6
 by_cases c7:x11_1<(l1.length:Int)
 {
 rw [if_pos c7] at H
 have c7b0:=decide_eq_true c7
 clear c7
 replace H:=oB H
 obtain ⟨t526,A80,H⟩:=H
 have A8:=aM A80
 clear A80
 by_cases c9:t526=0
 {
 rw [if_pos c9] at H
 have c9b0:(t526 == 0)=true:=beq_iff_eq.mpr c9
 have c9b1:(t526 != 0)=false:=bne_eq_false_iff_eq.mpr c9
 clear c9
 have H':=aM H
 clear H
 have p524:0≤(x11_1:Int):=dX
 have q524:x11_1<(l0.length:Int):=dX
 obtain ⟨ad524,e524,hx524_0⟩:=Kd.at_int HR0.out x11_1 p524 q524
 cases e524
 replace p524:=eq_true p524
 replace q524:=eq_true q524
 have p525:0≤(x11_1:Int):=dX
 have q525:x11_1<(l1.length:Int):=dX
 obtain ⟨ad525,e525,hx525_0⟩:=Kd.at_int HR1.out x11_1 p525 q525
 cases e525
 replace p525:=eq_true p525
 replace q525:=eq_true q525
 go_wp2_with (first|((with_reducible refine gate_callee (f:=106) rfl ?_);refine goesL_ (some 26) rfl rfl Tryz.func106 (by kernel_rfl) rfl #[.int .i64 (rd l0 x11_1),.int .i64 (rd l1 x11_1)] rfl aX ?_;(with_reducible refine(cmp_Compare_int.calls (rd l0 x11_1) (rd l1 x11_1) t526 _ A8.out).mono ?_);rintro e w' ⟨rfl,⟨nd,rfl⟩⟩;refine ⟨_,rfl,?_⟩))
 go_roundg k1
 case measure=>have:=HK1.out;omega
 case rel=>exact ⟨(wrap64 (x11_1+1)),vX,H',⟨by have:=HK1.out;omega⟩,by repeat(first|exact Drawn0.refl _|apply Drawn0.step)⟩
 }
 {
 rw [if_neg c9] at H
 have c9b0:(t526 == 0)=false:=beq_eq_false_iff_ne.mpr c9
 have c9b1:(t526 != 0)=true:=bne_iff_ne.mpr c9
 obtain rfl:=Option.some.inj H
 have p524:0≤(x11_1:Int):=dX
 have q524:x11_1<(l0.length:Int):=dX
 obtain ⟨ad524,e524,hx524_0⟩:=Kd.at_int HR0.out x11_1 p524 q524
 cases e524
 replace p524:=eq_true p524
 replace q524:=eq_true q524
 have p525:0≤(x11_1:Int):=dX
 have q525:x11_1<(l1.length:Int):=dX
 obtain ⟨ad525,e525,hx525_0⟩:=Kd.at_int HR1.out x11_1 p525 q525
 cases e525
 replace p525:=eq_true p525
 replace q525:=eq_true q525
 go_wp2_with (first|((with_reducible refine gate_callee (f:=106) rfl ?_);refine goesL_ (some 26) rfl rfl Tryz.func106 (by kernel_rfl) rfl #[.int .i64 (rd l0 x11_1),.int .i64 (rd l1 x11_1)] rfl aX ?_;(with_reducible refine(cmp_Compare_int.calls (rd l0 x11_1) (rd l1 x11_1) t526 _ A8.out).mono ?_);rintro e w' ⟨rfl,⟨nd,rfl⟩⟩;refine ⟨_,rfl,?_⟩))
 go_ret
 exact ⟨by first|rfl|(simp;done)|(simp [*];done),by repeat(first|exact Drawn0.refl _|apply Drawn0.step)⟩
 }
 }
 {
 rw [if_neg c7] at H
 exact absurd H (by simp)
 }
 }
 }
 {
 rw [if_neg c5] at H
 exact absurd H (by simp)
 }
 }
 {
 rw [if_neg c4] at H
 exact absurd H (by simp)
 }
 }
 {
 rw [if_neg c3] at H
 have c3b0:=decide_eq_false c3
 clear c3
 by_cases c10:(l0.length:Int)<(l1.length:Int)
 {
 rw [if_pos c10] at H
 have c10b0:=decide_eq_true c10
 have c10b1:decide (l0.length<l1.length)=true:=decide_eq_true (Int.ofNat_lt.mp c10)
 clear c10
 obtain rfl:=Option.some.inj H
 go_wp2
 go_ret
 exact ⟨by first|rfl|(simp;done)|(simp [*];done),by repeat(first|exact Drawn0.refl _|apply Drawn0.step)⟩
 }
 {
 rw [if_neg c10] at H
 have c10b0:=decide_eq_false c10
 have c10b1:decide (l0.length<l1.length)=false:=decide_eq_false (fun h=>c10 (Int.ofNat_lt.mpr h))
 clear c10
 obtain rfl:=Option.some.inj H
 go_wp2
 go_ret
 exact ⟨by first|rfl|(simp;done)|(simp [*];done),by repeat(first|exact Drawn0.refl _|apply Drawn0.step)⟩
 }
 }

/-! ### impl_compareSurfaces: function 59 -/
def impl_compareSurfaces.f (k:Nat) (l0_0:List Int) (l0_1:List Int) (l1_0:List Int) (l1_1:List Int):Option (Int):=(slices_Compare_int_int.f k l0_0 l1_0).bind fun t529=>(if t529=0 then ((slices_Compare_int_int.f k l0_1 l1_1).bind fun t530=>(some t530)) else (some t529))
theorem impl_compareSurfaces.calls (k:Nat) (A0_0:Option Addr) (c0_0:Nat) (l0_0:List Int) (A0_1:Option Addr) (c0_1:Nat) (l0_1:List Int) (A1_0:Option Addr) (c1_0:Nat) (l1_0:List Int) (A1_1:Option Addr) (c1_1:Nat) (l1_1:List Int) (r:Int) (w:World) (hr0_0:Kd.C (Kd.int .i64) w A0_0 l0_0.length l0_0) (hc0_0:l0_0.length≤c0_0) (hr0_1:Kd.C (Kd.int .i64) w A0_1 l0_1.length l0_1) (hc0_1:l0_1.length≤c0_1) (hr1_0:Kd.C (Kd.int .i64) w A1_0 l1_0.length l1_0) (hc1_0:l1_0.length≤c1_0) (hr1_1:Kd.C (Kd.int .i64) w A1_1 l1_1.length l1_1) (hc1_1:l1_1.length≤c1_1) (h:impl_compareSurfaces.f k l0_0 l0_1 l1_0 l1_1=some r) :
  Calls Tryz.prog 59 #[.agg #[.slice A0_0 l0_0.length c0_0,.slice A0_1 l0_1.length c0_1],.agg #[.slice A1_0 l1_0.length c1_0,.slice A1_1 l1_1.length c1_1]] w fun e w'=>e = .returned (.int .i64 r)∧Below w.heap.size w w':=by
 have hu27:=Tryz.underlying27
 have HR0_0:=aM hr0_0
 have HC0_0:=aM hc0_0
 clear hr0_0 hc0_0
 have HR0_1:=aM hr0_1
 have HC0_1:=aM hc0_1
 clear hr0_1 hc0_1
 have HR1_0:=aM hr1_0
 have HC1_0:=aM hc1_0
 clear hr1_0 hc1_0
 have HR1_1:=aM hr1_1
 have HC1_1:=aM hc1_1
 clear hr1_1 hc1_1
 have HB:=aM (Below.refl w.heap.size w)
 have H:((slices_Compare_int_int.f k l0_0 l1_0).bind fun t529=>(if t529=0 then ((slices_Compare_int_int.f k l0_1 l1_1).bind fun t530=>(some t530)) else (some t529)))=some r:=h
 clear h
 replace H:=oB H
 obtain ⟨t529,A30,H⟩:=H
 have A3:=aM A30
 clear A30
 by_cases c4:t529=0
 {
 rw [if_pos c4] at H
 have c4b0:(t529 == 0)=true:=beq_iff_eq.mpr c4
 have c4b1:(t529 != 0)=false:=bne_eq_false_iff_eq.mpr c4
 clear c4
 replace H:=oB H
 obtain ⟨t530,A50,H⟩:=H
 have A5:=aM A50
 clear A50
 obtain rfl:=Option.some.inj H
 go_enter Tryz.func59,Tryz.ntmps59
 go_wp2_with (first|((with_reducible refine gate_dst (N:=2) rfl ?_);refine bEv (cs:=#[.slice A0_0 l0_0.length c0_0,.slice A0_1 l0_1.length c0_1]) (t:=27) ?_;intro gb527 hg w6 hbox hb;have BK527:=aM (hbox);have GW527:=aM ((szX (below_size (bX HB.out)) hg:w.heap.size≤gb527));have GE527:=GW527;replace HB:=aM (below_step (bX HB.out) hb);clear hb hbox hg)|((with_reducible refine gate_dst (N:=3) rfl ?_);refine bEv (cs:=#[.slice A1_0 l1_0.length c1_0,.slice A1_1 l1_1.length c1_1]) (t:=27) ?_;intro gb528 hg w7 hbox hb;have BK528:=aM (hbox);have GW528:=aM ((szX (below_size (bX1 HB.out GE527.out)) hg:w.heap.size≤gb528));have GE528:=GW528;replace HB:=aM (below_step (bX1 HB.out GE527.out) hb);have NB527_528:=aM (neX BK527.out hg);have NB528_527:=aM (nfX BK527.out hg);replace BK527:=aM (bbX BK527.out hb);clear hb hbox hg;have hnb8:=NB527_528.out;have hnc8:=NB528_527.out;obtain ⟨hcz9_0,hcz9_1,hfz9_0,hfz9_1⟩:=f2Z BK527.out;have hcz10_0:w7.cell? ⟨gb528,0,none⟩=some (.slice A1_0 l1_0.length c1_0):=(blk_cell BK528.out 0).trans rfl;have hcz10_1:w7.cell? ⟨gb528,1,none⟩=some (.slice A1_1 l1_1.length c1_1):=(blk_cell BK528.out 1).trans rfl;have hfz10_0:=blk_frozen BK528.out 0;have hfz10_1:=blk_frozen BK528.out 1)|((with_reducible refine gate_callee (f:=88) rfl ?_);refine goesL_ (some 10) rfl rfl Tryz.func88 (by kernel_rfl) rfl #[.slice A0_0 l0_0.length c0_0,.slice A1_0 l1_0.length c1_0] rfl aX ?_;(with_reducible refine(slices_Compare_int_int.calls k _ _ l0_0 _ _ l1_0 t529 _ ?side1 ?side2 ?side3 ?side4 A3.out).mono ?_);(case side1=>exact cX (Kd.C_below HR0_0.out HB.out));(case side2=>exact HC0_0.out);(case side3=>exact cX (Kd.C_below HR1_0.out HB.out));(case side4=>exact HC1_0.out);rintro e w' ⟨rfl,⟨nd,rfl⟩⟩;refine ⟨_,rfl,?_⟩)|((with_reducible refine gate_callee (f:=88) rfl ?_);refine goesL_ (some 18) rfl rfl Tryz.func88 (by kernel_rfl) rfl #[.slice A0_1 l0_1.length c0_1,.slice A1_1 l1_1.length c1_1] rfl aX ?_;(with_reducible refine(slices_Compare_int_int.calls k _ _ l0_1 _ _ l1_1 t530 _ ?side1 ?side2 ?side3 ?side4 A5.out).mono ?_);(case side1=>exact cX (Kd.C_below HR0_1.out (bX2 HB.out GE527.out GE528.out)));(case side2=>exact HC0_1.out);(case side3=>exact cX (Kd.C_below HR1_1.out (bX2 HB.out GE527.out GE528.out)));(case side4=>exact HC1_1.out);rintro e w' ⟨rfl,⟨nd,rfl⟩⟩;refine ⟨_,rfl,?_⟩))
 go_ret
 exact ⟨eX,bX2 HB.out GE527.out GE528.out⟩
 }
 {
 rw [if_neg c4] at H
 have c4b0:(t529 == 0)=false:=beq_eq_false_iff_ne.mpr c4
 have c4b1:(t529 != 0)=true:=bne_iff_ne.mpr c4
 obtain rfl:=Option.some.inj H
 go_enter Tryz.func59,Tryz.ntmps59
 go_wp2_with (first|((with_reducible refine gate_dst (N:=2) rfl ?_);refine bEv (cs:=#[.slice A0_0 l0_0.length c0_0,.slice A0_1 l0_1.length c0_1]) (t:=27) ?_;intro gb527 hg w11 hbox hb;have BK527:=aM (hbox);have GW527:=aM ((szX (below_size (bX HB.out)) hg:w.heap.size≤gb527));have GE527:=GW527;replace HB:=aM (below_step (bX HB.out) hb);clear hb hbox hg)|((with_reducible refine gate_dst (N:=3) rfl ?_);refine bEv (cs:=#[.slice A1_0 l1_0.length c1_0,.slice A1_1 l1_1.length c1_1]) (t:=27) ?_;intro gb528 hg w12 hbox hb;have BK528:=aM (hbox);have GW528:=aM ((szX (below_size (bX1 HB.out GE527.out)) hg:w.heap.size≤gb528));have GE528:=GW528;replace HB:=aM (below_step (bX1 HB.out GE527.out) hb);have NB527_528:=aM (neX BK527.out hg);have NB528_527:=aM (nfX BK527.out hg);replace BK527:=aM (bbX BK527.out hb);clear hb hbox hg;have hnb13:=NB527_528.out;have hnc13:=NB528_527.out;obtain ⟨hcz14_0,hcz14_1,hfz14_0,hfz14_1⟩:=f2Z BK527.out;have hcz15_0:w12.cell? ⟨gb528,0,none⟩=some (.slice A1_0 l1_0.length c1_0):=(blk_cell BK528.out 0).trans rfl;have hcz15_1:w12.cell? ⟨gb528,1,none⟩=some (.slice A1_1 l1_1.length c1_1):=(blk_cell BK528.out 1).trans rfl;have hfz15_0:=blk_frozen BK528.out 0;have hfz15_1:=blk_frozen BK528.out 1)|((with_reducible refine gate_callee (f:=88) rfl ?_);refine goesL_ (some 10) rfl rfl Tryz.func88 (by kernel_rfl) rfl #[.slice A0_0 l0_0.length c0_0,.slice A1_0 l1_0.length c1_0] rfl aX ?_;(with_reducible refine(slices_Compare_int_int.calls k _ _ l0_0 _ _ l1_0 t529 _ ?side1 ?side2 ?side3 ?side4 A3.out).mono ?_);(case side1=>exact cX (Kd.C_below HR0_0.out HB.out));(case side2=>exact HC0_0.out);(case side3=>exact cX (Kd.C_below HR1_0.out HB.out));(case side4=>exact HC1_0.out);rintro e w' ⟨rfl,⟨nd,rfl⟩⟩;refine ⟨_,rfl,?_⟩))
 go_ret
 exact ⟨eX,bX2 HB.out GE527.out GE528.out⟩
 }

end Go.Proofs.YtpieaniigkgmoaaGreatDoor.S
