-- PRINTED by print.py (a twelfth state) out of the translation. Not trusted: Lean checks it.
import Derived.Test.YtmhjcbcjpidegaaS0
import Derived.Test.YtmhjcbcjpidegaaS1
namespace Go.Proofs.Ytmhjcbcjpidegaa.S
set_option maxHeartbeats 8000000
set_option maxRecDepth 100000
open Go.RowKit Go.Proofs.YtmhjcbcjpidegaaW.PrintWords Go.Proofs.YtmhjcbcjpidegaaW.PrintLast Go.Proofs.YtmhjcbcjpidegaaW.PrintMore
attribute [local go_sem] max2_int min2_int max_two min_two max_three min_three max_four min_four   -- for this text's walks alone
set_option linter.unusedVariables false
set_option linter.unusedSimpArgs false

/-! ### impl_NamesFrom: function 107 -/
mutual
def impl_NamesFrom.j0 : Nat→Int→Bool→List Int→List Int→Option (List Int)
 | 0,_,_,_,_=>none
 | k+1,x1,x24,x147000,x147001=>if x24=true then (some ([]:List Int)) else (if 0≤(x147000.length:Int) then (if ((x147000.length:Int):Int).toNat≤35184372088832 then ((some (List.replicate ((x147000.length:Int):Int).toNat 0:List Int)).bind fun y148=>(impl_NamesFrom.l0 k x1 y148 (y148.length:Int) 0 x147000 x147001)) else (none)) else (none))
def impl_NamesFrom.l0 : Nat→Int→List Int→Int→Int→List Int→List Int→Option (List Int)
 | 0,_,_,_,_,_,_=>none
 | k+1,x1,x5,x30,x31,x147000,x147001=>if x31<x30 then (if 0≤x31 then (if x31<(x5.length:Int) then (impl_NamesFrom.l0 k x1 (x5.set (x31:Int).toNat (-1)) x30 (wrap64 (x31+1)) x147000 x147001) else (none)) else (none)) else (if 0≤x1 then (if x1<(x5.length:Int) then (impl_NamesFrom.l1 k (x5.set (x1:Int).toNat 0) (([x1]:List Int)) 0 x147000 x147001) else (none)) else (none))
def impl_NamesFrom.l1 : Nat→List Int→List Int→Int→List Int→List Int→Option (List Int)
 | 0,_,_,_,_,_=>none
 | k+1,x5,x7,x8,x147000,x147001=>if x8<(x7.length:Int) then (if 0≤x8 then (if 0≤(rd x7 x8) then (if (rd x7 x8)<(x147000.length:Int) then (if (rd x7 x8)<(x147001.length:Int) then ((some (([rd x147000 (rd x7 x8),rd x147001 (rd x7 x8)]:List Int):List Int)).bind fun y160=>(impl_NamesFrom.l2 k x5 x7 x8 y160 (y160.length:Int) 0 x147000 x147001)) else (none)) else (none)) else (none)) else (none)) else (some x5)
def impl_NamesFrom.l2 : Nat→List Int→List Int→Int→List Int→Int→Int→List Int→List Int→Option (List Int)
 | 0,_,_,_,_,_,_,_,_=>none
 | k+1,x5,x7,x8,x65,x66,x67,x147000,x147001=>if x67<x66 then (if 0≤x67 then (if x67<(x65.length:Int) then (if 0≤(rd x65 x67) then (if (rd x65 x67)<(x5.length:Int) then (if (rd x5 (rd x65 x67))<0 then (if x7.length<17592186044416 then (impl_NamesFrom.l2 k (x5.set ((rd x65 x67):Int).toNat (x7.length:Int)) (x7 ++ [rd x65 x67]) x8 x65 x66 (wrap64 (x67+1)) x147000 x147001) else (none)) else (impl_NamesFrom.l2 k x5 x7 x8 x65 x66 (wrap64 (x67+1)) x147000 x147001)) else (none)) else (none)) else (none)) else (none)) else (impl_NamesFrom.l1 k x5 x7 (wrap64 (x8+1)) x147000 x147001)
end
def impl_NamesFrom.f (k:Nat) (l0_0:List Int) (l0_1:List Int) (a1:Int):Option (List Int):=(impl_SurfaceOk.f k l0_0 l0_1).bind fun t147=>(if t147=true then (if a1<0 then (impl_NamesFrom.j0 k a1 true l0_0 l0_1) else (impl_NamesFrom.j0 k a1 (decide (a1≥(l0_0.length:Int))) l0_0 l0_1)) else (impl_NamesFrom.j0 k a1 true l0_0 l0_1))
def impl_NamesFrom.T14 : Bool × List (List Nat × List Nat):=(true,[([],[]),([0],[0]),([],[]),([],[]),([2,3],[2,3]),([4],[4]),([1,5],[1,5]),([6],[6]),([],[]),([8],[8]),([],[]),([],[]),([10,11],[10,11]),([12],[12]),([9,13],[9,13]),([14],[14]),([7,15],[7,15]),([16],[16]),([],[])])
def impl_NamesFrom.B14 : List Nat:=[0,1,0,0,12,28,63,127,0,256,0,0,3072,7168,16128,32512,65535,131071,0]
theorem impl_NamesFrom.tab14 : rtab .any (opsOf Try.f107 14)=impl_NamesFrom.T14:=by kernel_rfl
theorem impl_NamesFrom.bits14 : waitsOk impl_NamesFrom.T14.2 impl_NamesFrom.B14=true:=by kernel_rfl
theorem impl_NamesFrom.calls (k:Nat) (A0_0:Option Addr) (c0_0:Nat) (l0_0:List Int) (A0_1:Option Addr) (c0_1:Nat) (l0_1:List Int) (a1:Int) (r:List Int) (w:World) (hr0_0:Kd.C (Kd.int .i64) w A0_0 l0_0.length l0_0) (hc0_0:l0_0.length≤c0_0) (hr0_1:Kd.C (Kd.int .i64) w A0_1 l0_1.length l0_1) (hc0_1:l0_1.length≤c0_1) (h:impl_NamesFrom.f k l0_0 l0_1 a1=some r) :
  Calls Try.prog 107 #[.agg #[.slice A0_0 l0_0.length c0_0,.slice A0_1 l0_1.length c0_1],.int .i64 a1] w fun e w'=>∃ v0_:Value,e = .returned (v0_)∧Kd.R (Kd.int .i64) 3 w' w.heap.size (fun _=>True) v0_ r∧Below w.heap.size w w':=by
 have hu27:=Try.underlying27
 have HR0_0:=aM hr0_0
 have HC0_0:=aM hc0_0
 clear hr0_0 hc0_0
 have HR0_1:=aM hr0_1
 have HC0_1:=aM hc0_1
 clear hr0_1 hc0_1
 have HB:=aM (Below.refl w.heap.size w)
 have H:((impl_SurfaceOk.f k l0_0 l0_1).bind fun t147=>(if t147=true then (if a1<0 then (impl_NamesFrom.j0 k a1 true l0_0 l0_1) else (impl_NamesFrom.j0 k a1 (decide (a1≥(l0_0.length:Int))) l0_0 l0_1)) else (impl_NamesFrom.j0 k a1 true l0_0 l0_1)))=some r:=h
 clear h
 have HC3:=aM H
 clear H
 go_enter Try.func107,Try.ntmps107
 go_upto_region 1 with (first|((with_reducible refine gate_dst (N:=2) rfl ?_);(try(refine gate_guard (by rfl) ?_;dsimp only));refine bEv (cs:=#[.slice A0_0 l0_0.length c0_0,.slice A0_1 l0_1.length c0_1]) (t:=27) ?_;intro gb146 hg w4 hbox hb;have BK146:=aM (hbox);have GW146:=aM ((szX (below_size (bX HB.out)) hg:w.heap.size≤gb146));have GE146:=GW146;replace HB:=aM (below_step (bX HB.out) hb);clear hb hbox hg))
 (try simp only [Act.put,List.setIfInBounds_toArray,List.set_cons_zero,List.set_cons_succ])
 go_cut [24] (fun v24 wc=>∃ (kq:Nat) (x24_2:Bool),v24 = .bool x24_2∧Aside0 (impl_NamesFrom.j0 kq a1 x24_2 l0_0 l0_1=some r)∧Aside0 (kq≤k)∧Aside0 (wc.heap[gb146]? = some (.cells #[(.slice A0_0 l0_0.length c0_0),(.slice A0_1 l0_1.length c0_1)] 27 (0,0)))∧Aside0 (Below w.heap.size w wc))
 case first =>
  have H:=HC3.out
  clear HC3
  replace H:=oB H
  obtain ⟨t147,A50,H⟩:=H
  have A5:=aM A50
  clear A50
  by_cases c6:t147=true
  {
  subst c6
  have H1:(if a1<0 then (impl_NamesFrom.j0 k a1 true l0_0 l0_1) else (impl_NamesFrom.j0 k a1 (decide (a1≥(l0_0.length:Int))) l0_0 l0_1))=some r:=by rw [if_pos rfl] at H;exact H
  clear H
  have H:=H1
  clear H1
  by_cases c7:a1<0
  {
  rw [if_pos c7] at H
  have c7b0:=decide_eq_true c7
  clear c7
  (first|rw [c7b0]|(simp only [i64_w,i32_w];rw [c7b0])|skip)
  have H':=aM H
  clear H
  obtain ⟨hcz8_0,hcz8_1,hfz8_0,hfz8_1⟩:=f2Z BK146.out
  go_wp2_with (first|((with_reducible refine gate_callee (f:=56) rfl ?_);refine goesL_ (some 12) rfl rfl Try.func56 (by kernel_rfl) rfl #[.agg #[.slice A0_0 l0_0.length c0_0,.slice A0_1 l0_1.length c0_1]] rfl aX ?_;(with_reducible refine(impl_SurfaceOk.calls k _ _ l0_0 _ _ l0_1 true _ ?side1 ?side2 ?side3 ?side4 A5.out).mono ?_);(case side1=>exact cX (Kd.C_below HR0_0.out HB.out));(case side2=>exact HC0_0.out);(case side3=>exact cX (Kd.C_below HR0_1.out HB.out));(case side4=>exact HC0_1.out);rintro e w9 ⟨rfl,hb⟩;refine ⟨_,rfl,?_⟩;replace BK146:=aM (bbX BK146.out hb);replace HB:=aM (below_step (bX1 HB.out GE146.out) hb);(try clear hb);(try clear hk)))
  go_meet
  case rel=>exact ⟨_,(true),vX,H',⟨by first|omega|exact Nat.le_refl _⟩,⟨kX BK146.out⟩,⟨bX1 HB.out GE146.out⟩⟩
  }
  {
  rw [if_neg c7] at H
  have c7b0:=decide_eq_false c7
  clear c7
  (first|rw [c7b0]|(simp only [i64_w,i32_w];rw [c7b0])|skip)
  have H':=aM H
  clear H
  obtain ⟨hcz10_0,hcz10_1,hfz10_0,hfz10_1⟩:=f2Z BK146.out
  go_wp2_with (first|((with_reducible refine gate_callee (f:=56) rfl ?_);refine goesL_ (some 12) rfl rfl Try.func56 (by kernel_rfl) rfl #[.agg #[.slice A0_0 l0_0.length c0_0,.slice A0_1 l0_1.length c0_1]] rfl aX ?_;(with_reducible refine(impl_SurfaceOk.calls k _ _ l0_0 _ _ l0_1 true _ ?side1 ?side2 ?side3 ?side4 A5.out).mono ?_);(case side1=>exact cX (Kd.C_below HR0_0.out HB.out));(case side2=>exact HC0_0.out);(case side3=>exact cX (Kd.C_below HR0_1.out HB.out));(case side4=>exact HC0_1.out);rintro e w11 ⟨rfl,hb⟩;refine ⟨_,rfl,?_⟩;replace BK146:=aM (bbX BK146.out hb);replace HB:=aM (below_step (bX1 HB.out GE146.out) hb);(try clear hb);(try clear hk);obtain ⟨hcz12_0,hcz12_1,hfz12_0,hfz12_1⟩:=f2Z BK146.out))
  go_meet
  case rel=>exact ⟨_,(decide (a1≥(l0_0.length:Int))),vX,H',⟨by first|omega|exact Nat.le_refl _⟩,⟨kX BK146.out⟩,⟨bX1 HB.out GE146.out⟩⟩
  }
  }
  {
  replace c6:=Bool.eq_false_iff.mpr c6
  subst c6
  have H1:(impl_NamesFrom.j0 k a1 true l0_0 l0_1)=some r:=by rw [if_neg (show ¬ (false=true) by decide)] at H;exact H
  clear H
  have H:=H1
  clear H1
  have H':=aM H
  clear H
  obtain ⟨hcz13_0,hcz13_1,hfz13_0,hfz13_1⟩:=f2Z BK146.out
  go_wp2_with (first|((with_reducible refine gate_callee (f:=56) rfl ?_);refine goesL_ (some 12) rfl rfl Try.func56 (by kernel_rfl) rfl #[.agg #[.slice A0_0 l0_0.length c0_0,.slice A0_1 l0_1.length c0_1]] rfl aX ?_;(with_reducible refine(impl_SurfaceOk.calls k _ _ l0_0 _ _ l0_1 false _ ?side1 ?side2 ?side3 ?side4 A5.out).mono ?_);(case side1=>exact cX (Kd.C_below HR0_0.out HB.out));(case side2=>exact HC0_0.out);(case side3=>exact cX (Kd.C_below HR0_1.out HB.out));(case side4=>exact HC0_1.out);rintro e w14 ⟨rfl,hb⟩;refine ⟨_,rfl,?_⟩;replace BK146:=aM (bbX BK146.out hb);replace HB:=aM (below_step (bX1 HB.out GE146.out) hb);(try clear hb);(try clear hk)))
  go_meet
  case rel=>exact ⟨_,(true),vX,H',⟨by first|omega|exact Nat.le_refl _⟩,⟨kX BK146.out⟩,⟨bX1 HB.out GE146.out⟩⟩
  }
 case rest =>
 clear HC3
 try clear c6
 try clear c7
 try clear c7b0
 try clear hcz10_0
 try clear hcz10_1
 try clear hcz12_0
 try clear hcz12_1
 try clear hcz13_0
 try clear hcz13_1
 try clear hcz8_0
 try clear hcz8_1
 try clear hfz10_0
 try clear hfz10_1
 try clear hfz12_0
 try clear hfz12_1
 try clear hfz13_0
 try clear hfz13_1
 try clear hfz8_0
 try clear hfz8_1
 obtain ⟨kq,x24_2,rfl,HA,HJ2,BK146,HB⟩:=hcut
 cases kq with
 | zero=>exact absurd HA.out (by simp [impl_NamesFrom.j0])
 | succ kj2 =>
 have H:=HA.out
 clear HA
 simp only [impl_NamesFrom.j0] at H
 by_cases c15:x24_2=true
 {
 subst c15
 have H1:(some ([]:List Int))=some r:=by rw [if_pos rfl] at H;exact H
 clear H
 have H:=H1
 clear H1
 obtain rfl:=Option.some.inj H
 go_wp2
 go_ret
 exact ⟨_,eX,by first|exact Kd.R_nil _ _ _ _ _|exact Kd.N_nil _ _ _ _ _|exact Kd.V_nil _ _ _ _ _|exact Kd.Q_nil _ _ _ _ _|exact Kd.S_nil _ _ _ _ _,bX1 HB.out GE146.out⟩
 }
 {
 replace c15:=Bool.eq_false_iff.mpr c15
 subst c15
 have H1:(if 0≤(l0_0.length:Int) then (if ((l0_0.length:Int):Int).toNat≤35184372088832 then ((some (List.replicate ((l0_0.length:Int):Int).toNat 0:List Int)).bind fun y148=>(impl_NamesFrom.l0 kj2 a1 y148 (y148.length:Int) 0 l0_0 l0_1)) else (none)) else (none))=some r:=by rw [if_neg (show ¬ (false=true) by decide)] at H;exact H
 clear H
 have H:=H1
 clear H1
 by_cases c16:0≤(l0_0.length:Int)
 {
 rw [if_pos c16] at H
 have c16b0:=eq_true c16
 have c16b1:=decide_eq_true c16
 clear c16
 by_cases c17:((l0_0.length:Int):Int).toNat≤35184372088832
 {
 rw [if_pos c17] at H
 have c17b0:=eq_true c17
 have c17b1:=decide_eq_true c17
 clear c17
 obtain ⟨y148,hy148⟩:∃ y_:List Int,y_=(List.replicate ((l0_0.length:Int):Int).toNat 0):=⟨_,rfl⟩
 replace H:(impl_NamesFrom.l0 kj2 a1 y148 (y148.length:Int) 0 l0_0 l0_1)=some r:=by first|(rw [hy148];with_reducible exact H)|(have H2_:=(Option.bind_some _ _).symm.trans H;rw [hy148];with_reducible exact H2_)|(have H2_:=(Option.bind_some _ _).symm.trans H;with_reducible exact H2_)|with_reducible exact H|(rw [hy148];exact H)|exact H
 have Ny148:=aM hy148
 clear hy148
 have H':=aM H
 clear H
 obtain ⟨hcz18_0,hcz18_1,hfz18_0,hfz18_1⟩:=f2Z BK146.out
 go_wp2_with (first|((with_reducible refine gate_dst (N:=28) rfl ?_);(try(refine gate_guard (by rfl) ?_;dsimp only));refine Kd.R_make (Kd.int .i64) _ 3 rfl (N:=28) rfl 22 _ _ rfl (l0_0.length:Int) rfl rfl Try.underlying22 (.int .i64 0) 8 info3 rfl (by decide) (by omega) 0 (ok:=fun _=>True) (okp:=fun _=>True) rfl (fun _ hk=>hk) trivial (dX) (Nat.le_trans (Nat.mul_le_mul_right _ (dX:(l0_0.length:Int).toNat≤35184372088832)) (by omega)) (Below.refl _ _) (Nat.le_refl _) ?_;intro v149 w19 ho20 hb hg_ hnew_;clear hg_ hnew_;(first|rw [← Ny148.out] at ho20|(simp only [Int.reduceToNat] at ho20;rw [← Ny148.out] at ho20));have HO150:=aM (Kd.R_lower ho20 (below_size (bX1 HB.out GE146.out)));replace BK146:=aM (bbX BK146.out hb);replace HB:=aM (below_step (bX1 HB.out GE146.out) hb);clear hb ho20;obtain ⟨Ao21,co21,eo21⟩:=Kd.R_slice HO150.out;subst eo21))
 go_loopg [31] kj2 (fun kq v31 w'=>∃ (x5_2:List Int) (x31_2:Int),v31 = .int .i64 x31_2∧Aside0 (impl_NamesFrom.l0 kq a1 x5_2 (y148.length:Int) x31_2 l0_0 l0_1=some r)∧Aside0 (kq≤kj2)∧Aside0 (Kd.R (Kd.int .i64) 3 w' w.heap.size (fun _=>True) (.slice Ao21 y148.length co21) x5_2)∧Aside0 (w'.heap[gb146]? = some (.cells #[(.slice A0_0 l0_0.length c0_0),(.slice A0_1 l0_1.length c0_1)] 27 (0,0)))∧Aside0 (Below w.heap.size w w'))
 case atStart=>exact ⟨(y148),(0),vX,H',⟨Nat.le_refl _⟩,⟨rX HO150.out⟩,⟨kX BK146.out⟩,⟨bX1 HB.out GE146.out⟩⟩
 case round =>
 clear H'
 try clear c6
 try clear c7
 try clear c7b0
 try clear c15
 try clear c16
 try clear c16b0
 try clear c16b1
 try clear c17
 try clear c17b0
 try clear c17b1
 try clear hcz10_0
 try clear hcz10_1
 try clear hcz12_0
 try clear hcz12_1
 try clear hcz13_0
 try clear hcz13_1
 try clear hcz18_0
 try clear hcz18_1
 try clear hcz8_0
 try clear hcz8_1
 try clear hfz10_0
 try clear hfz10_1
 try clear hfz12_0
 try clear hfz12_1
 try clear hfz13_0
 try clear hfz13_1
 try clear hfz18_0
 try clear hfz18_1
 try clear hfz8_0
 try clear hfz8_1
 obtain ⟨x5_2,x31_2,rfl,HA,HK2,HO_5,BK146,HB⟩:=hrel
 have hl5_2:=(Kd.R_reads' HO_5.out).1
 rw [hl5_2] at HO_5
 (try simp only [hl5_2])
 (try simp only [hl5_2] at BK146)
 cases gk with
 | zero=>exact absurd HA.out (by simp [impl_NamesFrom.l0])
 | succ k2 =>
 have H:=HA.out
 clear HA
 simp only [impl_NamesFrom.l0] at H
 by_cases c22:x31_2<(y148.length:Int)
 {
 rw [if_pos c22] at H
 have c22b0:=decide_eq_true c22
 clear c22
 by_cases c23:0≤x31_2
 {
 rw [if_pos c23] at H
 have c23b0:=decide_eq_true c23
 clear c23
 by_cases c24:x31_2<(x5_2.length:Int)
 {
 rw [if_pos c24] at H
 have c24b0:=decide_eq_true c24
 clear c24
 obtain ⟨y151,hy151⟩:∃ y_:List Int,y_=(x5_2.set (x31_2:Int).toNat (-1)):=⟨_,rfl⟩
 replace H:(impl_NamesFrom.l0 k2 a1 y151 (y148.length:Int) (wrap64 (x31_2+1)) l0_0 l0_1)=some r:=by first|(rw [hy151];with_reducible exact H)|(have H2_:=(Option.bind_some _ _).symm.trans H;rw [hy151];with_reducible exact H2_)|(have H2_:=(Option.bind_some _ _).symm.trans H;with_reducible exact H2_)|with_reducible exact H|(rw [hy151];exact H)|exact H
 have Ny151:=aM hy151
 clear hy151
 have H':=aM H
 clear H
 have p25:0≤(x31_2:Int):=dX
 have q25:(x31_2:Int)<((x5_2.length:Int):Int):=dX
 obtain ⟨go25,co25,eo25,gb25,gl25,cl25,HG25⟩:=Kd.R_form HO_5.out (by omega)
 (first|cases eo25|(injection eo25 with ea_ en_ ec_;(first|subst ea_|(injection ea_ with ea_;subst ea_));subst ec_;clear en_))
 have GB25:=aM gb25
 have GG25:=aM HG25
 clear gb25 gl25 HG25
 obtain ⟨hx25_0,hf25_0⟩:=Kd.R_celln 0 HO_5.out (x31_2:Int) p25 q25
 replace p25:=eq_true p25
 replace q25:=eq_true q25
 have HP26:=Kd.R_putg HO_5.out (x31_2:Int) (-1)
 go_wp2_with (first|((with_reducible refine gate_store (t:=3) (p:=36) rfl ?_);refine store_event (t:=3) (p:=36) (v:=?vo_w27) (w1:=(wr.setCell ⟨go25,(x31_2:Int).toNat,none⟩ (.int .i64 (-1)))) ?hg ?ho ?hn ?hr ?_;(case ho=>rfl);(case hg=>rfl);(case hn=>rfl);(case hr=>first|(go_simp;done)|(go_simp;rfl));intro w27 hw;have hg:wr.grownBy w27 (some go25):=(by rw [hw];exact HP26.2);have hp_:Kd.R (Kd.int .i64) 3 w27 w.heap.size (fun _=>True) (.slice (some ⟨go25,0,none⟩) x5_2.length co21) y151:=(by rw [hw,Ny151.out];exact HP26.1);clear HP26;replace BK146:=aM (bgX BK146.out hg (Kd.R_ne HO_5.out BK146.out (by decide)));replace HO_5:=aM (hp_);replace HB:=aM ((by rw [hw];exact below_set (HB.out) GB25.out:Below w.heap.size w w27));clear hg hw hp_))
 (try simp only [← hl5_2])
 go_roundg k2
 case measure=>have:=HJ2.out;have:=HK2.out;omega
 case rel=>exact ⟨(y151),(wrap64 (x31_2+1)),vX,H',⟨by have:=HJ2.out;have:=HK2.out;omega⟩,⟨by(try simp only [hl5_2]);(with_reducible repeat(first|apply rA|apply rN|apply rD));exact HO_5.out⟩,⟨by(try simp only [hl5_2]);(with_reducible repeat(first|refine kN ?_ _|refine kD ?_|refine kA ?_ _));exact BK146.out⟩,⟨bX1 HB.out GE146.out⟩⟩
 }
 {
 rw [if_neg c24] at H
 exact absurd H (by simp)
 }
 }
 {
 rw [if_neg c23] at H
 exact absurd H (by simp)
 }
 }
 {
 rw [if_neg c22] at H
 have c22b0:=decide_eq_false c22
 (try rw [hl5_2] at c22b0)
 clear c22
 by_cases c28:0≤a1
 {
 rw [if_pos c28] at H
 have c28b0:=decide_eq_true c28
 clear c28
 by_cases c29:a1<(x5_2.length:Int)
 {
 rw [if_pos c29] at H
 have c29b0:=decide_eq_true c29
 clear c29
 obtain ⟨y152,hy152⟩:∃ y_:List Int,y_=(x5_2.set (a1:Int).toNat 0):=⟨_,rfl⟩
 replace H:(impl_NamesFrom.l1 k2 y152 (([a1]:List Int)) 0 l0_0 l0_1)=some r:=by first|(rw [hy152];with_reducible exact H)|(have H2_:=(Option.bind_some _ _).symm.trans H;rw [hy152];with_reducible exact H2_)|(have H2_:=(Option.bind_some _ _).symm.trans H;with_reducible exact H2_)|with_reducible exact H|(rw [hy152];exact H)|exact H
 have Ny152:=aM hy152
 clear hy152
 obtain ⟨y153,hy153⟩:∃ y_:List Int,y_=(([a1]:List Int)):=⟨_,rfl⟩
 replace H:(impl_NamesFrom.l1 k2 y152 y153 0 l0_0 l0_1)=some r:=by first|(rw [hy153];with_reducible exact H)|(have H2_:=(Option.bind_some _ _).symm.trans H;rw [hy153];with_reducible exact H2_)|(have H2_:=(Option.bind_some _ _).symm.trans H;with_reducible exact H2_)|with_reducible exact H|(rw [hy153];exact H)|exact H
 have Ny153:=aM hy153
 clear hy153
 have H':=aM H
 clear H
 have p30:0≤(a1:Int):=dX
 have q30:(a1:Int)<((x5_2.length:Int):Int):=dX
 obtain ⟨go30,co30,eo30,gb30,gl30,cl30,HG30⟩:=Kd.R_form HO_5.out (by omega)
 (first|cases eo30|(injection eo30 with ea_ en_ ec_;(first|subst ea_|(injection ea_ with ea_;subst ea_));subst ec_;clear en_))
 have GB30:=aM gb30
 have GG30:=aM HG30
 clear gb30 gl30 HG30
 obtain ⟨hx30_0,hf30_0⟩:=Kd.R_celln 0 HO_5.out (a1:Int) p30 q30
 replace p30:=eq_true p30
 replace q30:=eq_true q30
 have HP31:=Kd.R_putg HO_5.out (a1:Int) 0
 go_wp2_with (first|((with_reducible refine gate_store (t:=3) (p:=40) rfl ?_);refine store_event (t:=3) (p:=40) (v:=?vo_w32) (w1:=(wr.setCell ⟨go30,(a1:Int).toNat,none⟩ (.int .i64 0))) ?hg ?ho ?hn ?hr ?_;(case ho=>rfl);(case hg=>rfl);(case hn=>rfl);(case hr=>first|(go_simp;done)|(go_simp;rfl));intro w32 hw;have hg:wr.grownBy w32 (some go30):=(by rw [hw];exact HP31.2);have hp_:Kd.R (Kd.int .i64) 3 w32 w.heap.size (fun _=>True) (.slice (some ⟨go30,0,none⟩) x5_2.length co21) y152:=(by rw [hw,Ny152.out];exact HP31.1);clear HP31;replace BK146:=aM (bgX BK146.out hg (Kd.R_ne HO_5.out BK146.out (by decide)));replace HO_5:=aM (hp_);replace HB:=aM ((by rw [hw];exact below_set (HB.out) GB30.out:Below w.heap.size w w32));clear hg hw hp_)|((with_reducible refine gate_dst (N:=42) rfl ?_);(try(refine gate_guard (by rfl) ?_;dsimp only));refine Kd.R_lit (Kd.int .i64) _ 3 ?hg (N:=42) ?hd (xs:=([a1]:List Int)) (inner:=[.int .i64 a1]) (ok:=fun _=>True) (okp:=fun _=>True) ?hr ?hp (fun _ hk=>hk) trivial (Below.refl _ _) (Nat.le_refl _) (by simp) ?_;(case hd=>rfl);(case hg=>rfl);(case hr=>first|(go_simp;done)|(go_simp;rfl));(case hp=>exact(Reps.one (show Kd.M (Kd.int .i64) _ _ _ a1 [.int .i64 a1] from rfl) (Reps.none _ _)));intro v154 w33 ho34 hb hg_ hnew_;clear hg_ hnew_;(first|rw [← Ny153.out] at ho34|(simp only [Int.reduceToNat] at ho34;rw [← Ny153.out] at ho34));have HO155:=aM (Kd.R_lower (Kd.R_new' ho34 (Kd.R_lt (rX HO_5.out))) (below_size (bX1 HB.out GE146.out)));replace HO_5:=aM (Kd.R_elder' (rX HO_5.out) (Kd.R_base ho34) hb);replace BK146:=aM (bbX BK146.out hb);replace HB:=aM (below_step (bX1 HB.out GE146.out) hb);clear hb ho34))
 go_loopg [7,8] k2 (fun kq v7 v8 w'=>∃ (x5_3:List Int) (x7_3:List Int) (x8_3:Int),v8 = .int .i64 x8_3∧Aside0 (impl_NamesFrom.l1 kq x5_3 x7_3 x8_3 l0_0 l0_1=some r)∧Aside0 (kq≤k2)∧Aside0 (Kd.R (Kd.int .i64) 3 w' w.heap.size (fun k_=>some k_≠(v7:Value).ownBlock) (.slice (some ⟨go30,0,none⟩) x5_2.length co21) x5_3)∧Aside0 (Kd.R (Kd.int .i64) 3 w' w.heap.size (fun k_=>some k_≠((.slice (some ⟨go30,0,none⟩) x5_2.length co21):Value).ownBlock) v7 x7_3)∧Aside0 (w'.heap[gb146]? = some (.cells #[(.slice A0_0 l0_0.length c0_0),(.slice A0_1 l0_1.length c0_1)] 27 (0,0)))∧Aside0 (Below w.heap.size w w'))
 case atStart=>exact ⟨(y152),(y153),(0),vX,H',⟨Nat.le_refl _⟩,⟨by(try simp only [hl5_2]);(with_reducible repeat(first|apply rA|apply rN|apply rD));exact Kd.R_mono HO_5.out (fun _ hk=>hk.2)⟩,⟨by(try simp only [hl5_2]);(with_reducible repeat(first|apply rA|apply rN|apply rD));exact Kd.R_mono HO155.out (fun _ hk=>hk.2)⟩,⟨by(try simp only [hl5_2]);(with_reducible repeat(first|refine kN ?_ _|refine kD ?_|refine kA ?_ _));exact BK146.out⟩,⟨bX1 HB.out GE146.out⟩⟩
 case round =>
 clear H'
 try clear c6
 try clear c7
 try clear c7b0
 try clear c15
 try clear c16
 try clear c16b0
 try clear c16b1
 try clear c17
 try clear c17b0
 try clear c17b1
 try clear c22
 try clear c22b0
 try clear c23
 try clear c23b0
 try clear c24
 try clear c24b0
 try clear p25
 try clear q25
 try clear c28
 try clear c28b0
 try clear c29
 try clear c29b0
 try clear p30
 try clear q30
 try clear hcz10_0
 try clear hcz10_1
 try clear hcz12_0
 try clear hcz12_1
 try clear hcz13_0
 try clear hcz13_1
 try clear hcz18_0
 try clear hcz18_1
 try clear hcz8_0
 try clear hcz8_1
 try clear hfz10_0
 try clear hfz10_1
 try clear hfz12_0
 try clear hfz12_1
 try clear hfz13_0
 try clear hfz13_1
 try clear hfz18_0
 try clear hfz18_1
 try clear hfz8_0
 try clear hfz8_1
 try clear hx25_0
 try clear hx30_0
 try clear p25
 try clear p30
 try clear q25
 try clear q30
 obtain ⟨x5_3,x7_3,x8_3,rfl,HA,HK3,HO_5,HO_7,BK146,HB⟩:=hrel
 have hl5_3:=(Kd.R_reads' HO_5.out).1
 rw [hl5_3] at HO_5
 (try simp only [hl5_3])
 (try simp only [hl5_3] at BK146)
 (try simp only [hl5_3] at HO_7)
 cases gk with
 | zero=>exact absurd HA.out (by simp [impl_NamesFrom.l1])
 | succ k3 =>
 have H:=HA.out
 clear HA
 simp only [impl_NamesFrom.l1] at H
 by_cases c35:x8_3<(x7_3.length:Int)
 {
 rw [if_pos c35] at H
 have c35b0:=decide_eq_true c35
 clear c35
 by_cases c36:0≤x8_3
 {
 rw [if_pos c36] at H
 have c36b0:=decide_eq_true c36
 clear c36
 by_cases c37:0≤(rd x7_3 x8_3)
 {
 rw [if_pos c37] at H
 have c37b0:=decide_eq_true c37
 clear c37
 by_cases c38:(rd x7_3 x8_3)<(l0_0.length:Int)
 {
 rw [if_pos c38] at H
 have c38b0:=decide_eq_true c38
 clear c38
 by_cases c39:(rd x7_3 x8_3)<(l0_1.length:Int)
 {
 rw [if_pos c39] at H
 have c39b0:=decide_eq_true c39
 clear c39
 obtain ⟨y160,hy160⟩:∃ y_:List Int,y_=(([rd l0_0 (rd x7_3 x8_3),rd l0_1 (rd x7_3 x8_3)]:List Int)):=⟨_,rfl⟩
 replace H:(impl_NamesFrom.l2 k3 x5_3 x7_3 x8_3 y160 (y160.length:Int) 0 l0_0 l0_1)=some r:=by first|(rw [hy160];with_reducible exact H)|(have H2_:=(Option.bind_some _ _).symm.trans H;rw [hy160];with_reducible exact H2_)|(have H2_:=(Option.bind_some _ _).symm.trans H;with_reducible exact H2_)|with_reducible exact H|(rw [hy160];exact H)|exact H
 have Ny160:=aM hy160
 clear hy160
 have H':=aM H
 clear H
 obtain ⟨Ao40,co40,eo40⟩:=Kd.R_slice HO_7.out
 subst eo40
 try go_wp2
 replace HO_5:=aM (Kd.R_drew HO_5.out)
 replace HO_7:=aM (Kd.R_drew HO_7.out)
 replace BK146:=aM (blk_drew BK146.out)
 replace HB:=aM (below_drew1 HB.out)
 have p156:0≤(x8_3:Int):=dX
 have q156:x8_3<(x7_3.length:Int):=dX
 obtain ⟨ad156,e156,hx156_0⟩:=Kd.at_int (Kd.R_reads' HO_7.out).2.2 x8_3 p156 q156
 cases e156
 replace p156:=eq_true p156
 replace q156:=eq_true q156
 have p157:0≤((rd x7_3 x8_3):Int):=dX
 have q157:(rd x7_3 x8_3)<(l0_0.length:Int):=dX
 obtain ⟨ad157,e157,hx157_0⟩:=Kd.at_int HR0_0.out (rd x7_3 x8_3) p157 q157
 have hw157_0:=hx157_0
 cases e157
 replace hx157_0:=(HB.out.cell (World.block_lt_of_cell? w _ hx157_0)).trans hx157_0
 replace p157:=eq_true p157
 replace q157:=eq_true q157
 have p158:0≤(x8_3:Int):=dX
 have q158:x8_3<(x7_3.length:Int):=dX
 obtain ⟨ad158,e158,hx158_0⟩:=Kd.at_int (Kd.R_reads' HO_7.out).2.2 x8_3 p158 q158
 obtain rfl:ad156=ad158:=(by injection e158)
 replace p158:=eq_true p158
 replace q158:=eq_true q158
 have p159:0≤((rd x7_3 x8_3):Int):=dX
 have q159:(rd x7_3 x8_3)<(l0_1.length:Int):=dX
 obtain ⟨ad159,e159,hx159_0⟩:=Kd.at_int HR0_1.out (rd x7_3 x8_3) p159 q159
 have hw159_0:=hx159_0
 cases e159
 replace hx159_0:=(HB.out.cell (World.block_lt_of_cell? w _ hx159_0)).trans hx159_0
 replace p159:=eq_true p159
 replace q159:=eq_true q159
 refine start_ (n:=19) (S:=fun w'=>w'.cell? ⟨gb146,0,none⟩=some (.slice (some ad157) l0_0.length c0_0)∧w'.cell? ⟨gb146,1,none⟩=some (.slice (some ad159) l0_1.length c0_1)∧w'.cell? (ad156.add (x8_3).toNat)=some (.int .i64 (rd x7_3 x8_3))∧w'.cell? (ad157.add ((rd x7_3 x8_3)).toNat)=some (.int .i64 (rd l0_0 (rd x7_3 x8_3)))∧w'.cell? (ad156.add (x8_3).toNat)=some (.int .i64 (rd x7_3 x8_3))∧w'.cell? (ad159.add ((rd x7_3 x8_3)).toNat)=some (.int .i64 (rd l0_1 (rd x7_3 x8_3)))) (ds:=[]) #[ff,ff,ff,ff,ff,ff,ff,ff,ff,ff,ff,ff,ff,ff,ff,ff,ff,ff,ff] (by kernel_rfl) rfl rfl ⟨cz20 BK146.out,cz21 BK146.out,hx156_0,((HB.out.cell (World.block_lt_of_cell? w _ hw157_0)).trans hw157_0),hx158_0,((HB.out.cell (World.block_lt_of_cell? w _ hw159_0)).trans hw159_0)⟩ (fun hHeld => ?_);refine with_tabW impl_NamesFrom.tab14 impl_NamesFrom.bits14 (fun HT_ HW_ => ?_)
 generalize wr.drew=w41 at HO_5 HO_7 BK146 HB hx156_0 hx157_0 hx158_0 hx159_0 hHeld ⊢
 refine pX 0 49 (fl 19 1) rfl rfl HT_.out ?_
 refine pX 2 51 (fl 19 5) rfl rfl HT_.out ?_
 refine pX 3 52 (fl 19 13) rfl rfl HT_.out ?_
 refine pX 4 53 (fl 19 29) rfl rfl HT_.out ?_
 refine pX 8 57 (fl 19 285) rfl rfl HT_.out ?_
 refine pX 10 59 (fl 19 1309) rfl rfl HT_.out ?_
 refine pX 11 60 (fl 19 3357) rfl rfl HT_.out ?_
 refine pX 12 61 (fl 19 7453) rfl rfl HT_.out ?_
 refine pX 18 67 (fl 19 269597) rfl rfl HT_.out ?_
 refine tX6 1 50 (fl 19 269599) rfl rfl HT_.out HW_.out hHeld ?_
 refine tX6 5 54 (fl 19 269631) rfl rfl HT_.out HW_.out hHeld ?_
 refine pX 6 55 (fl 19 269695) rfl rfl HT_.out ?_
 refine tX6 7 56 (fl 19 269823) rfl rfl HT_.out HW_.out hHeld ?_
 refine tX6 9 58 (fl 19 270335) rfl rfl HT_.out HW_.out hHeld ?_
 refine tX6 13 62 (fl 19 278527) rfl rfl HT_.out HW_.out hHeld ?_
 refine pX 14 63 (fl 19 294911) rfl rfl HT_.out ?_
 refine tX6 15 64 (fl 19 327679) rfl rfl HT_.out HW_.out hHeld ?_
 refine one_ (i:=16) (N:=some 65) #[tt,tt,tt,tt,tt,tt,tt,tt,tt,tt,tt,tt,tt,tt,tt,tt,tt,ff,tt] rfl rfl (one_of HT_.out (by kernel_rfl)) (by decide) (fun K hK => ?_)
 refine Kd.R_lit_step (Kd.int .i64) _ 3 ?hg (N:=65) ?hd (xs:=([rd l0_0 (rd x7_3 x8_3),rd l0_1 (rd x7_3 x8_3)]:List Int)) (inner:=[.int .i64 (rd l0_0 (rd x7_3 x8_3)),.int .i64 (rd l0_1 (rd x7_3 x8_3))]) (ok:=fun _=>True) (okp:=fun _=>True) ?hr ?hp (fun _ hk=>hk) trivial (Below.refl _ _) (Nat.le_refl _) (by simp) ?_;(case hd=>rfl);(case hg=>rfl);(case hr=>first|(go_simp;done)|(go_simp;rfl));(case hp=>exact(Reps.one (show Kd.M (Kd.int .i64) _ _ _ (rd l0_0 (rd x7_3 x8_3)) [.int .i64 (rd l0_0 (rd x7_3 x8_3))] from rfl) (Reps.one (show Kd.M (Kd.int .i64) _ _ _ (rd l0_1 (rd x7_3 x8_3)) [.int .i64 (rd l0_1 (rd x7_3 x8_3))] from rfl) (Reps.none _ _))))
 intro v161 w42 ho43 hb hg_ hnew_
 have HS2_:=(hb.cell (World.block_lt_of_cell? _ _ (hHeld.2.2.1))).trans (hHeld.2.2.1)
 have HS4_:=(hb.cell (World.block_lt_of_cell? _ _ (hHeld.2.2.2.2.1))).trans (hHeld.2.2.2.2.1)
 clear hg_ hnew_
 (first|rw [← Ny160.out] at ho43|(simp only [Int.reduceToNat] at ho43;rw [← Ny160.out] at ho43))
 have HO162:=aM (Kd.R_lower (Kd.R_new' (Kd.R_new' ho43 (Kd.R_lt (rX HO_5.out))) (Kd.R_lt (rX HO_7.out))) (below_size (bX1 HB.out GE146.out)))
 replace HO_5:=aM (Kd.R_elder' (rX HO_5.out) (Kd.R_base ho43) hb)
 replace HO_7:=aM (Kd.R_elder' (rX HO_7.out) (Kd.R_base ho43) hb)
 replace BK146:=aM (bbX BK146.out hb)
 replace HB:=aM (below_step (bX1 HB.out GE146.out) hb)
 clear hb ho43
 obtain ⟨Ao44,co44,eo44⟩:=Kd.R_slice HO162.out
 (first|subst eo44|(injection eo44 with f1_ f2_ f3_;have f4_:=f1_.symm;have f5_:=f3_.symm;clear f1_ f2_ f3_;subst f4_;subst f5_))
 refine hK.out _ _ ⟨cz20 BK146.out,cz21 BK146.out,HS2_,((HB.out.cell (World.block_lt_of_cell? w _ hw157_0)).trans hw157_0),HS4_,((HB.out.cell (World.block_lt_of_cell? w _ hw159_0)).trans hw159_0)⟩ (fun hHeld => ?_)
 clear hK K
 refine norm_ (a':=?_) ?_ ?_
 rotate_left
 {
 show Act.put _ (some 65) _=_
 simp only [Act.put,zA,zB,zC,i64_w,i32_w]
 rfl
 }
 refine pX 17 66 (fl 19 524287) rfl rfl HT_.out ?_
 refine done_ (done_of HT_.out (by kernel_rfl)) ?_
 try go_wp2
 go_loopg [7,67] k3 (fun kq v7 v67 w'=>∃ (x5_4:List Int) (x7_4:List Int) (x67_4:Int),v67 = .int .i64 x67_4∧Aside0 (impl_NamesFrom.l2 kq x5_4 x7_4 x8_3 y160 (y160.length:Int) x67_4 l0_0 l0_1=some r)∧Aside0 (kq≤k3)∧Aside0 (Kd.R (Kd.int .i64) 3 w' w.heap.size (fun k_=>some k_≠(v7:Value).ownBlock∧some k_≠((.slice Ao44 y160.length co44):Value).ownBlock) (.slice (some ⟨go30,0,none⟩) x5_3.length co21) x5_4)∧Aside0 (Kd.R (Kd.int .i64) 3 w' w.heap.size (fun k_=>some k_≠((.slice (some ⟨go30,0,none⟩) x5_3.length co21):Value).ownBlock∧some k_≠((.slice Ao44 y160.length co44):Value).ownBlock) v7 x7_4)∧Aside0 (Kd.R (Kd.int .i64) 3 w' w.heap.size (fun k_=>some k_≠((.slice (some ⟨go30,0,none⟩) x5_3.length co21):Value).ownBlock∧some k_≠(v7:Value).ownBlock) (.slice Ao44 y160.length co44) y160)∧Aside0 (w'.heap[gb146]? = some (.cells #[(.slice (some ad157) l0_0.length c0_0),(.slice (some ad159) l0_1.length c0_1)] 27 (0,0)))∧Aside0 (Below w.heap.size w w'))
 case atStart=>exact ⟨(x5_3),(x7_3),(0),vX,H',⟨Nat.le_refl _⟩,⟨by(try simp only [hl5_2]);(try simp only [hl5_3]);(with_reducible repeat(first|apply rA|apply rN|apply rD));exact HO_5.out⟩,⟨by(try simp only [hl5_2]);(try simp only [hl5_3]);(with_reducible repeat(first|apply rA|apply rN|apply rD));exact HO_7.out⟩,⟨by(try simp only [hl5_2]);(try simp only [hl5_3]);(with_reducible repeat(first|apply rA|apply rN|apply rD));exact Kd.R_mono HO162.out (fun _ hk=>⟨hk.1.2,hk.2⟩)⟩,⟨by(try simp only [hl5_2]);(try simp only [hl5_3]);(with_reducible repeat(first|refine kN ?_ _|refine kD ?_|refine kA ?_ _));exact BK146.out⟩,⟨bX1 HB.out GE146.out⟩⟩
 case round =>
 clear H'
 try clear c6
 try clear c7
 try clear c7b0
 try clear c15
 try clear c16
 try clear c16b0
 try clear c16b1
 try clear c17
 try clear c17b0
 try clear c17b1
 try clear c22
 try clear c22b0
 try clear c23
 try clear c23b0
 try clear c24
 try clear c24b0
 try clear p25
 try clear q25
 try clear c28
 try clear c28b0
 try clear c29
 try clear c29b0
 try clear p30
 try clear q30
 try clear c35
 try clear c35b0
 try clear c36
 try clear c36b0
 try clear c37
 try clear c37b0
 try clear c38
 try clear c38b0
 try clear c39
 try clear c39b0
 try clear hcz10_0
 try clear hcz10_1
 try clear hcz12_0
 try clear hcz12_1
 try clear hcz13_0
 try clear hcz13_1
 try clear hcz18_0
 try clear hcz18_1
 try clear hcz8_0
 try clear hcz8_1
 try clear hfz10_0
 try clear hfz10_1
 try clear hfz12_0
 try clear hfz12_1
 try clear hfz13_0
 try clear hfz13_1
 try clear hfz18_0
 try clear hfz18_1
 try clear hfz8_0
 try clear hfz8_1
 try clear hx156_0
 try clear hx157_0
 try clear hx158_0
 try clear hx159_0
 try clear hx25_0
 try clear hx30_0
 try clear p156
 try clear p157
 try clear p158
 try clear p159
 try clear p25
 try clear p30
 try clear q156
 try clear q157
 try clear q158
 try clear q159
 try clear q25
 try clear q30
 obtain ⟨x5_4,x7_4,x67_4,rfl,HA,HK4,HO_5,HO_7,HO_65,BK146,HB⟩:=hrel
 have hl5_4:=(Kd.R_reads' HO_5.out).1
 rw [hl5_4] at HO_5
 (try simp only [hl5_4])
 (try simp only [hl5_4] at BK146)
 (try simp only [hl5_4] at HO_7)
 (try simp only [hl5_4] at HO_65)
 cases gk with
 | zero=>exact absurd HA.out (by simp [impl_NamesFrom.l2])
 | succ k4 =>
 have H:=HA.out
 clear HA
 simp only [impl_NamesFrom.l2] at H
 by_cases c45:x67_4<(y160.length:Int)
 {
 rw [if_pos c45] at H
 have c45b0:=decide_eq_true c45
 clear c45
 by_cases c46:0≤x67_4
 {
 rw [if_pos c46] at H
 have c46b0:=decide_eq_true c46
 clear c46
 by_cases c47:x67_4<(y160.length:Int)
 {
 rw [if_pos c47] at H
 have c47b0:=decide_eq_true c47
 clear c47
 by_cases c48:0≤(rd y160 x67_4)
 {
 rw [if_pos c48] at H
 have c48b0:=decide_eq_true c48
 clear c48
 by_cases c49:(rd y160 x67_4)<(x5_4.length:Int)
 {
 rw [if_pos c49] at H
 have c49b0:=decide_eq_true c49
 clear c49
 by_cases c50:(rd x5_4 (rd y160 x67_4))<0
 {
 rw [if_pos c50] at H
 have c50b0:=decide_eq_true c50
 clear c50
 obtain ⟨y165,hy165⟩:∃ y_:List Int,y_=(x5_4.set ((rd y160 x67_4):Int).toNat (x7_4.length:Int)):=⟨_,rfl⟩
 replace H:(if x7_4.length<17592186044416 then (impl_NamesFrom.l2 k4 y165 (x7_4 ++ [rd y160 x67_4]) x8_3 y160 (y160.length:Int) (wrap64 (x67_4+1)) l0_0 l0_1) else (none))=some r:=by first|(rw [hy165];with_reducible exact H)|(have H2_:=(Option.bind_some _ _).symm.trans H;rw [hy165];with_reducible exact H2_)|(have H2_:=(Option.bind_some _ _).symm.trans H;with_reducible exact H2_)|with_reducible exact H|(rw [hy165];exact H)|exact H
 have Ny165:=aM hy165
 clear hy165
 by_cases c52:x7_4.length<17592186044416
 {
 rw [if_pos c52] at H
 have LMc52:=aM c52
 clear c52
 obtain ⟨y166,hy166⟩:∃ y_:List Int,y_=(x7_4 ++ [rd y160 x67_4]):=⟨_,rfl⟩
 replace H:(impl_NamesFrom.l2 k4 y165 y166 x8_3 y160 (y160.length:Int) (wrap64 (x67_4+1)) l0_0 l0_1)=some r:=by first|(rw [hy166];with_reducible exact H)|(have H2_:=(Option.bind_some _ _).symm.trans H;rw [hy166];with_reducible exact H2_)|(have H2_:=(Option.bind_some _ _).symm.trans H;with_reducible exact H2_)|with_reducible exact H|(rw [hy166];exact H)|exact H
 have Ny166:=aM hy166
 clear hy166
 have H':=aM H
 clear H
 have p163:0≤(x67_4:Int):=dX
 have q163:x67_4<(y160.length:Int):=dX
 obtain ⟨ad163,e163,hx163_0⟩:=Kd.at_int (Kd.R_reads' HO_65.out).2.2 x67_4 p163 q163
 cases e163
 replace p163:=eq_true p163
 replace q163:=eq_true q163
 have p164:0≤((rd y160 x67_4):Int):=dX
 have q164:(rd y160 x67_4)<(x5_4.length:Int):=dX
 obtain ⟨ad164,e164,hx164_0⟩:=Kd.at_int (Kd.R_reads' HO_5.out).2.2 (rd y160 x67_4) p164 q164
 obtain rfl:(⟨go30,0,none⟩:Addr)=ad164:=(by injection e164)
 (first|simp only [add_plain] at hx164_0|simp only [add_at] at hx164_0|simp only [Addr.add,Nat.zero_add] at hx164_0|skip)
 replace p164:=eq_true p164
 replace q164:=eq_true q164
 obtain ⟨Ao53,co53,eo53⟩:=Kd.R_slice HO_7.out
 subst eo53
 have p51:0≤((rd y160 x67_4):Int):=dX
 have q51:((rd y160 x67_4):Int)<((x5_4.length:Int):Int):=dX
 obtain ⟨hx51_0,hf51_0⟩:=Kd.R_celln 0 HO_5.out ((rd y160 x67_4):Int) p51 q51
 replace p51:=eq_true p51
 replace q51:=eq_true q51
 have HP54:=Kd.R_putg HO_5.out ((rd y160 x67_4):Int) (x7_4.length:Int)
 go_wp2_with (first|((with_reducible refine gate_store (t:=3) (p:=80) rfl ?_);refine store_event (t:=3) (p:=80) (v:=?vo_w55) (w1:=(wr.setCell ⟨go30,((rd y160 x67_4):Int).toNat,none⟩ (.int .i64 (x7_4.length:Int)))) ?hg ?ho ?hn ?hr ?_;(case ho=>rfl);(case hg=>rfl);(case hn=>rfl);(case hr=>first|(go_simp;done)|(go_simp;rfl));intro w55 hw;have hg:wr.grownBy w55 (some go30):=(by rw [hw];exact HP54.2);have hp_:Kd.R (Kd.int .i64) 3 w55 w.heap.size (fun k_=>some k_≠(.slice Ao53 x7_4.length co53:Value).ownBlock∧some k_≠(.slice (some ad163) y160.length co44:Value).ownBlock) (.slice (some ⟨go30,0,none⟩) x5_4.length co21) y165:=(by rw [hw,Ny165.out];exact HP54.1);clear HP54;replace HO_7:=aM (Kd.R_after (v:=(.slice (some ⟨go30,0,none⟩) x5_4.length co21)) (v1:=(.slice (some ⟨go30,0,none⟩) x5_4.length co21)) (ok:=(fun k_=>some k_≠(.slice (some ad163) y160.length co44:Value).ownBlock)) (rM HO_7.out (fun _ hk=>⟨hk.2,hk.1⟩)) hg (.inl rfl));replace HO_65:=aM (Kd.R_after (v:=(.slice (some ⟨go30,0,none⟩) x5_4.length co21)) (v1:=(.slice (some ⟨go30,0,none⟩) x5_4.length co21)) (ok:=(fun k_=>some k_≠(.slice Ao53 x7_4.length co53:Value).ownBlock)) (rM HO_65.out (fun _ hk=>⟨hk.2,hk.1⟩)) hg (.inl rfl));replace BK146:=aM (bgX BK146.out hg (Kd.R_ne HO_5.out BK146.out (by decide)));replace HO_5:=aM (hp_);replace HB:=aM ((by rw [hw];exact below_set (HB.out) GB30.out:Below w.heap.size w w55));clear hg hw hp_)|((with_reducible refine gate_builtin (b:=.append) (xs:=#[.tmp 81,.tmp 83]) rfl ?_);(try(refine gate_guard (by rfl) ?_;dsimp only));at_builtin;refine Kd.R_append (Kd.int .i64) (w0:=w) w.heap.size rfl (.tmp 81) (.tmp 83) 22 3 (.int .i64 0) 8 rfl Try.underlying22 info3 rfl (by decide) (by omega) (.slice Ao53 x7_4.length co53) x7_4 (rd y160 x67_4) [.int .i64 (rd y160 x67_4)] (fun k_=>some k_≠(.slice (some ⟨go30,0,none⟩) x5_4.length co21:Value).ownBlock∧some k_≠(.slice (some ad163) y160.length co44:Value).ownBlock) (fun _=>False) rfl rfl ?aP (fun _ hk=>hk.elim) ?aF ?aO ?aB ?aS ?aL ?_;(case aP=>exact rfl);(case aB=>exact(bX1 HB.out GE146.out));(case aF=>exact(fun k_ hk=>⟨Kd.fresh' (Kd.R_lt (rX HO_5.out)) k_ hk,Kd.fresh' (Kd.R_lt (rX HO_65.out)) k_ hk⟩));(case aO=>exact(rM HO_7.out (fun _ hk=>⟨hk.2,hk.1⟩)));(case aS=>exact(below_size (bX1 HB.out GE146.out)));(case aL=>have:=LMc52.out;omega);intro v167 w56 ho hb hg hat;rw [← Ny166.out] at ho;replace HO_5:=aM (Kd.R_after (ok:=(fun k_=>some k_≠(.slice (some ad163) y160.length co44:Value).ownBlock)) (rM HO_5.out (fun _ hk=>⟨hk.2,hk.1⟩)) hg hat);replace HO_65:=aM (Kd.R_after (ok:=(fun k_=>some k_≠(.slice (some ⟨go30,0,none⟩) x5_4.length co21:Value).ownBlock)) (rM HO_65.out (fun _ hk=>⟨hk.2,hk.1⟩)) hg hat);replace BK146:=aM (bgX BK146.out hg (Kd.R_ne HO_7.out BK146.out (by decide)));replace HB:=aM (hb);have HO168:=aM (ho);clear HO_7 ho hb hg hat))
 (try simp only [← hl5_4])
 go_roundg k4
 case measure=>have:=HJ2.out;have:=HK2.out;have:=HK3.out;have:=HK4.out;omega
 case rel=>exact ⟨(y165),(y166),(wrap64 (x67_4+1)),vX,H',⟨by have:=HJ2.out;have:=HK2.out;have:=HK3.out;have:=HK4.out;omega⟩,⟨by(try simp only [hl5_2]);(try simp only [hl5_3]);(try simp only [hl5_4]);(with_reducible repeat(first|apply rA|apply rN|apply rD));exact Kd.R_mono HO_5.out (fun _ hk=>⟨hk.2,hk.1⟩)⟩,⟨by(try simp only [hl5_2]);(try simp only [hl5_3]);(try simp only [hl5_4]);(with_reducible repeat(first|apply rA|apply rN|apply rD));exact HO168.out⟩,⟨by(try simp only [hl5_2]);(try simp only [hl5_3]);(try simp only [hl5_4]);(with_reducible repeat(first|apply rA|apply rN|apply rD));exact HO_65.out⟩,⟨by(try simp only [hl5_2]);(try simp only [hl5_3]);(try simp only [hl5_4]);(with_reducible repeat(first|refine kN ?_ _|refine kD ?_|refine kA ?_ _));exact BK146.out⟩,⟨bX1 HB.out GE146.out⟩⟩
 }
 {
 rw [if_neg c52] at H
 exact absurd H (by simp)
 }
 }
 {
 rw [if_neg c50] at H
 have c50b0:=decide_eq_false c50
 clear c50
 have H':=aM H
 clear H
 have p163:0≤(x67_4:Int):=dX
 have q163:x67_4<(y160.length:Int):=dX
 obtain ⟨ad163,e163,hx163_0⟩:=Kd.at_int (Kd.R_reads' HO_65.out).2.2 x67_4 p163 q163
 cases e163
 replace p163:=eq_true p163
 replace q163:=eq_true q163
 have p164:0≤((rd y160 x67_4):Int):=dX
 have q164:(rd y160 x67_4)<(x5_4.length:Int):=dX
 obtain ⟨ad164,e164,hx164_0⟩:=Kd.at_int (Kd.R_reads' HO_5.out).2.2 (rd y160 x67_4) p164 q164
 obtain rfl:(⟨go30,0,none⟩:Addr)=ad164:=(by injection e164)
 (first|simp only [add_plain] at hx164_0|simp only [add_at] at hx164_0|simp only [Addr.add,Nat.zero_add] at hx164_0|skip)
 replace p164:=eq_true p164
 replace q164:=eq_true q164
 go_wp2
 (try simp only [← hl5_4])
 go_roundg k4
 case measure=>have:=HJ2.out;have:=HK2.out;have:=HK3.out;have:=HK4.out;omega
 case rel=>exact ⟨(x5_4),(x7_4),(wrap64 (x67_4+1)),vX,H',⟨by have:=HJ2.out;have:=HK2.out;have:=HK3.out;have:=HK4.out;omega⟩,⟨by(try simp only [hl5_2]);(try simp only [hl5_3]);(try simp only [hl5_4]);(with_reducible repeat(first|apply rA|apply rN|apply rD));exact HO_5.out⟩,⟨by(try simp only [hl5_2]);(try simp only [hl5_3]);(try simp only [hl5_4]);(with_reducible repeat(first|apply rA|apply rN|apply rD));exact HO_7.out⟩,⟨by(try simp only [hl5_2]);(try simp only [hl5_3]);(try simp only [hl5_4]);(with_reducible repeat(first|apply rA|apply rN|apply rD));exact HO_65.out⟩,⟨by(try simp only [hl5_2]);(try simp only [hl5_3]);(try simp only [hl5_4]);(with_reducible repeat(first|refine kN ?_ _|refine kD ?_|refine kA ?_ _));exact BK146.out⟩,⟨bX1 HB.out GE146.out⟩⟩
 }
 }
 {
 rw [if_neg c49] at H
 exact absurd H (by simp)
 }
 }
 {
 rw [if_neg c48] at H
 exact absurd H (by simp)
 }
 }
 {
 rw [if_neg c47] at H
 exact absurd H (by simp)
 }
 }
 {
 rw [if_neg c46] at H
 exact absurd H (by simp)
 }
 }
 {
 rw [if_neg c45] at H
 have c45b0:=decide_eq_false c45
 clear c45
 have H':=aM H
 clear H
 go_wp2
 (try simp only [← hl5_3,← hl5_4])
 go_roundg k4
 case measure=>have:=HJ2.out;have:=HK2.out;have:=HK3.out;have:=HK4.out;omega
 case rel=>exact ⟨(x5_4),(x7_4),(wrap64 (x8_3+1)),vX,H',⟨by have:=HJ2.out;have:=HK2.out;have:=HK3.out;have:=HK4.out;omega⟩,⟨by(try simp only [hl5_2]);(try simp only [hl5_3]);(try simp only [hl5_4]);(with_reducible repeat(first|apply rA|apply rN|apply rD));exact Kd.R_mono HO_5.out (fun _ hk=>hk.1)⟩,⟨by(try simp only [hl5_2]);(try simp only [hl5_3]);(try simp only [hl5_4]);(with_reducible repeat(first|apply rA|apply rN|apply rD));exact Kd.R_mono HO_7.out (fun _ hk=>hk.1)⟩,⟨by(try simp only [hl5_2]);(try simp only [hl5_3]);(try simp only [hl5_4]);(with_reducible repeat(first|refine kN ?_ _|refine kD ?_|refine kA ?_ _));exact BK146.out⟩,⟨bX1 HB.out GE146.out⟩⟩
 }
 }
 {
 rw [if_neg c39] at H
 exact absurd H (by simp)
 }
 }
 {
 rw [if_neg c38] at H
 exact absurd H (by simp)
 }
 }
 {
 rw [if_neg c37] at H
 exact absurd H (by simp)
 }
 }
 {
 rw [if_neg c36] at H
 exact absurd H (by simp)
 }
 }
 {
 rw [if_neg c35] at H
 have c35b0:=decide_eq_false c35
 clear c35
 obtain rfl:=Option.some.inj H
 obtain ⟨Ao57,co57,eo57⟩:=Kd.R_slice HO_7.out
 subst eo57
 go_wp2
 go_ret
 exact ⟨_,eX,by(with_reducible repeat(first|apply rA|apply rN|apply rD));exact Kd.R_mono HO_5.out (fun _ hk=>trivial),bX1 HB.out GE146.out⟩
 }
 }
 {
 rw [if_neg c29] at H
 exact absurd H (by simp)
 }
 }
 {
 rw [if_neg c28] at H
 exact absurd H (by simp)
 }
 }
 }
 {
 rw [if_neg c17] at H
 exact absurd H (by simp)
 }
 }
 {
 rw [if_neg c16] at H
 exact absurd H (by simp)
 }
 }

/-! ### impl_namedFrom: function 73 -/
def impl_namedFrom.l0 : Nat→List (S27)→Int→List Int→List Int→Option ((List (S27)))
 | 0,_,_,_,_=>none
 | k+1,x3,x4,x170000,x170001=>(impl_CountSquares.f k x170000 x170001).bind fun t173=>(if x4<t173 then ((impl_NamesFrom.f k x170000 x170001 x4).bind fun t174=>((impl_RenameSurface.f k x170000 x170001 t174).bind fun bt177=>(if x3.length<2932031007402 then (impl_namedFrom.l0 k (x3 ++ [(⟨bt177.1,bt177.2.1⟩:S27)]) (wrap64 (x4+1)) x170000 x170001) else (none)))) else (some x3))
def impl_namedFrom.f (k:Nat) (l0_0:List Int) (l0_1:List Int):Option ((List (S27))):=impl_namedFrom.l0 k (([]:List (S27))) 0 l0_0 l0_1
def impl_namedFrom.T5 : Bool × List (List Nat × List Nat):=(true,[([],[]),([],[]),([],[]),([1,2],[1,2]),([0,3,3],[0,3]),([4],[4]),([5],[5]),([5],[5]),([],[]),([8,6,4,0,1,2,3,4,5,6,8],[6,8]),([7,9,0,1,2,3,4,5,6,7,8,9],[7])])
def impl_namedFrom.B5 : List Nat:=[0,0,0,6,15,31,63,63,0,383,1023]
theorem impl_namedFrom.tab5 : rtab .any (opsOf Try.f73 5)=impl_namedFrom.T5:=by kernel_rfl
theorem impl_namedFrom.bits5 : waitsOk impl_namedFrom.T5.2 impl_namedFrom.B5=true:=by kernel_rfl
theorem impl_namedFrom.calls (k:Nat) (A0_0:Option Addr) (c0_0:Nat) (l0_0:List Int) (A0_1:Option Addr) (c0_1:Nat) (l0_1:List Int) (r:List (S27)) (w:World) (hr0_0:Kd.C (Kd.int .i64) w A0_0 l0_0.length l0_0) (hc0_0:l0_0.length≤c0_0) (hr0_1:Kd.C (Kd.int .i64) w A0_1 l0_1.length l0_1) (hc0_1:l0_1.length≤c0_1) (h:impl_namedFrom.f k l0_0 l0_1=some r) :
  Calls Try.prog 73 #[.agg #[.slice A0_0 l0_0.length c0_0,.slice A0_1 l0_1.length c0_1]] w fun e w'=>∃ v0_:Value,e = .returned (v0_)∧Kd.S k27 27 w' w.heap.size (fun _=>True) v0_ r∧Below w.heap.size w w':=by
 have hu27:=Try.underlying27
 have HR0_0:=aM hr0_0
 have HC0_0:=aM hc0_0
 clear hr0_0 hc0_0
 have HR0_1:=aM hr0_1
 have HC0_1:=aM hc0_1
 clear hr0_1 hc0_1
 have HB:=aM (Below.refl w.heap.size w)
 have H:(impl_namedFrom.l0 k (([]:List (S27))) 0 l0_0 l0_1)=some r:=h
 clear h
 obtain ⟨y170,hy170⟩:∃ y_:List (S27),y_=(([]:List (S27))):=⟨_,rfl⟩
 replace H:(impl_namedFrom.l0 k y170 0 l0_0 l0_1)=some r:=by first|(rw [hy170];with_reducible exact H)|(have H2_:=(Option.bind_some _ _).symm.trans H;rw [hy170];with_reducible exact H2_)|(have H2_:=(Option.bind_some _ _).symm.trans H;with_reducible exact H2_)|with_reducible exact H|(rw [hy170];exact H)|exact H
 have Ny170:=aM hy170
 clear hy170
 have H':=aM H
 clear H
 go_enter Try.func73,Try.ntmps73
 go_wp2_with (first|((with_reducible refine gate_dst (N:=1) rfl ?_);refine bEv (cs:=#[.slice A0_0 l0_0.length c0_0,.slice A0_1 l0_1.length c0_1]) (t:=27) ?_;intro gb169 hg w2 hbox hb;have BK169:=aM (hbox);have GW169:=aM ((szX (below_size (bX HB.out)) hg:w.heap.size≤gb169));have GE169:=GW169;replace HB:=aM (below_step (bX HB.out) hb);clear hb hbox hg)|((with_reducible refine gate_dst (N:=7) rfl ?_);refine Kd.S_lit k27 _ 27 ?hg (N:=7) ?hd (xs:=([]:List (S27))) (inner:=[]) (ok:=fun _=>True) (okp:=fun _=>True) ?hr ?hp (fun _ hk=>hk) trivial (Below.refl _ _) (Nat.le_refl _) (by simp) ?_;(case hd=>rfl);(case hg=>rfl);(case hr=>first|(go_simp;done)|(go_simp;rfl));(case hp=>exact(Reps.none _ _));intro v171 w3 ho4 hb hg_ hnew_;clear hg_ hnew_;(first|rw [← Ny170.out] at ho4|(simp only [Int.reduceToNat] at ho4;rw [← Ny170.out] at ho4));have HO172:=aM (Kd.S_lower (Kd.S_newB ho4 (g:=gb169) (o:=.cells #[.slice A0_0 l0_0.length c0_0,.slice A0_1 l0_1.length c0_1] 27 (0,0)) (kX BK169.out)) (below_size (bX1 HB.out GE169.out)));replace BK169:=aM (bbX BK169.out hb);replace HB:=aM (below_step (bX1 HB.out GE169.out) hb);clear hb ho4))
 go_loopg [3,4] k (fun kq v3 v4 w'=>∃ (x3_1:List (S27)) (x4_1:Int),v4 = .int .i64 x4_1∧Aside0 (impl_namedFrom.l0 kq x3_1 x4_1 l0_0 l0_1=some r)∧Aside0 (kq≤k)∧Aside0 (Kd.S k27 27 w' w.heap.size (fun k_=>k_≠gb169) v3 x3_1)∧Aside0 (w'.heap[gb169]? = some (.cells #[(.slice A0_0 l0_0.length c0_0),(.slice A0_1 l0_1.length c0_1)] 27 (0,0)))∧Aside0 (Below w.heap.size w w'))
 case atStart=>exact ⟨(y170),(0),vX,H',⟨Nat.le_refl _⟩,⟨by(with_reducible repeat(first|apply Kd.S_alloc|apply Kd.S_drewN|apply Kd.S_drew));exact Kd.S_mono HO172.out (fun _ hk=>hk.2)⟩,⟨kX BK169.out⟩,⟨bX1 HB.out GE169.out⟩⟩
 case round =>
 clear H'
 obtain ⟨x3_1,x4_1,rfl,HA,HK1,HO_3,BK169,HB⟩:=hrel
 cases gk with
 | zero=>exact absurd HA.out (by simp [impl_namedFrom.l0])
 | succ k1 =>
 have H:=HA.out
 clear HA
 simp only [impl_namedFrom.l0] at H
 replace H:=oB H
 obtain ⟨t173,A50,H⟩:=H
 have A5:=aM A50
 clear A50
 by_cases c6:x4_1<t173
 {
 rw [if_pos c6] at H
 have c6b0:=decide_eq_true c6
 clear c6
 replace H:=oB H
 obtain ⟨t174,A70,H⟩:=H
 have A7:=aM A70
 clear A70
 replace H:=oB H
 obtain ⟨⟨t177,t180,t183⟩,A80,H⟩:=H
 replace H:(if x3_1.length<2932031007402 then (impl_namedFrom.l0 k1 (x3_1 ++ [(⟨t177,t180⟩:S27)]) (wrap64 (x4_1+1)) l0_0 l0_1) else (none))=some r:=H
 have A8:=aM A80
 clear A80
 by_cases c9:x3_1.length<2932031007402
 {
 rw [if_pos c9] at H
 have LMc9:=aM c9
 clear c9
 obtain ⟨y185,hy185⟩:∃ y_:List (S27),y_=(x3_1 ++ [(⟨t177,t180⟩:S27)]):=⟨_,rfl⟩
 replace H:(impl_namedFrom.l0 k1 y185 (wrap64 (x4_1+1)) l0_0 l0_1)=some r:=by first|(rw [hy185];with_reducible exact H)|(have H2_:=(Option.bind_some _ _).symm.trans H;rw [hy185];with_reducible exact H2_)|(have H2_:=(Option.bind_some _ _).symm.trans H;with_reducible exact H2_)|with_reducible exact H|(rw [hy185];exact H)|exact H
 have Ny185:=aM hy185
 clear hy185
 have H':=aM H
 clear H
 obtain ⟨hcz10_0,hcz10_1,hfz10_0,hfz10_1⟩:=f2Z BK169.out
 try go_wp2_with (first|((with_reducible refine gate_callee (f:=105) rfl ?_);refine goesL_ (some 10) rfl rfl Try.func105 (by kernel_rfl) rfl #[.agg #[.slice A0_0 l0_0.length c0_0,.slice A0_1 l0_1.length c0_1]] rfl aX ?_;(with_reducible refine(impl_CountSquares.calls k1 _ _ l0_0 _ _ l0_1 t173 _ ?side1 ?side2 ?side3 ?side4 A5.out).mono ?_);(case side1=>exact cX (Kd.C_below HR0_0.out HB.out));(case side2=>exact HC0_0.out);(case side3=>exact cX (Kd.C_below HR0_1.out HB.out));(case side4=>exact HC0_1.out);rintro e w11 ⟨rfl,hb⟩;refine ⟨_,rfl,?_⟩;replace HO_3:=aM (Kd.S_below (sX HO_3.out) hb);replace BK169:=aM (bbX BK169.out hb);replace HB:=aM (below_step (bX1 HB.out GE169.out) hb);(try clear hb);(try clear hk)))
 replace HO_3:=aM (Kd.S_drew HO_3.out)
 replace BK169:=aM (blk_drew BK169.out)
 replace HB:=aM (below_drew1 HB.out)
 refine start_ (n:=11) (S:=fun w'=>w'.cell? ⟨gb169,0,none⟩=some (.slice A0_0 l0_0.length c0_0)∧w'.cell? ⟨gb169,1,none⟩=some (.slice A0_1 l0_1.length c0_1)) (ds:=[]) #[ff,ff,ff,ff,ff,ff,ff,ff,ff,ff,ff] (by kernel_rfl) rfl rfl ⟨cz20 BK169.out,cz21 BK169.out⟩ (fun hHeld => ?_);refine with_tabW impl_namedFrom.tab5 impl_namedFrom.bits5 (fun HT_ HW_ => ?_)
 generalize w11.drew=w12 at HO_3 BK169 HB hHeld ⊢
 refine pX 2 17 (fl 11 4) rfl rfl HT_.out ?_
 refine tX2 0 15 (fl 11 5) rfl rfl HT_.out HW_.out hHeld ?_
 refine tX2 1 16 (fl 11 7) rfl rfl HT_.out HW_.out hHeld ?_
 refine join_ (σ:=Value × Value × Value × Nat) 2 #[tt,tt,tt,tt,tt,tt,tt,tt,tt,ff,ff] (fun s_=>[(18,s_.1),(19,.tuple #[.agg #[s_.2.1,s_.2.2.1],.bool t183]),(5,.pointer (some ⟨s_.2.2.2,0,none⟩)),(14,.tuple #[.agg #[s_.2.1,s_.2.2.1],.bool t183]),(20,.agg #[s_.2.1,s_.2.2.1]),(21,.bool t183)]) (fun s_ w'=>(w'.cell? ⟨gb169,0,none⟩=some (.slice A0_0 l0_0.length c0_0)∧w'.cell? ⟨gb169,1,none⟩=some (.slice A0_1 l0_1.length c0_1))∧(Kd.R (Kd.int .i64) 3 w' w.heap.size (fun k_=>some k_≠(s_.2.1:Value).ownBlock∧some k_≠(s_.2.2.1:Value).ownBlock) s_.1 t174)∧(Kd.R (Kd.int .i64) 3 w' w.heap.size (fun k_=>some k_≠(s_.1:Value).ownBlock∧some k_≠(s_.2.2.1:Value).ownBlock) s_.2.1 t177)∧(Kd.R (Kd.int .i64) 3 w' w.heap.size (fun k_=>some k_≠(s_.1:Value).ownBlock∧some k_≠(s_.2.1:Value).ownBlock) s_.2.2.1 t180)∧(Kd.S k27 27 w' w.heap.size (fun k_=>some k_≠(s_.1:Value).ownBlock∧some k_≠(s_.2.1:Value).ownBlock∧some k_≠(s_.2.2.1:Value).ownBlock∧k_≠gb169∧k_≠s_.2.2.2) u3 x3_1)∧(w'.heap[gb169]? = some (.cells #[.slice A0_0 l0_0.length c0_0,.slice A0_1 l0_1.length c0_1] 27 (0,0)))∧(w'.heap[s_.2.2.2]? = some (.cells #[.slice none 0 0,.slice none 0 0] 27 (0,0)))∧(w.heap.size≤s_.2.2.2)∧(w.heap.size≤s_.2.2.2)∧(gb169≠s_.2.2.2)∧(s_.2.2.2≠gb169)∧(Below w.heap.size w w')) ?_ ?_
 rotate_left
 {
 intro hCont
 refine two_ (i:=3) (j:=8) (Ni:=some 18) (Nj:=some 5) #[tt,tt,tt,tt,ff,ff,ff,ff,ff,ff,ff] #[tt,tt,tt,ff,ff,ff,ff,ff,tt,ff,ff] rfl rfl rfl rfl (two_of HT_.out (by kernel_rfl)) (by decide) (by decide) (fun K hK => ?_) (fun K hK => ?_)
 {
 skip
 refine goes_ Try.func107 (by kernel_rfl) rfl #[.agg #[.slice A0_0 l0_0.length c0_0,.slice A0_1 l0_1.length c0_1],.int .i64 x4_1] (by rfl) rfl rfl aX ?_
 with_reducible refine(impl_NamesFrom.calls k1 _ _ l0_0 _ _ l0_1 x4_1 t174 _ ?side1 ?side2 ?side3 ?side4 A7.out).mono ?_
 (case side1=>exact cX (Kd.C_below HR0_0.out HB.out))
 (case side2=>exact HC0_0.out)
 (case side3=>exact cX (Kd.C_below HR0_1.out HB.out))
 (case side4=>exact HC0_1.out)
 rintro e w13 ⟨v175,rfl,ho0,hb⟩
 refine ⟨_,rfl,?_⟩
 replace HO_3:=aM (Kd.S_elder' (sX HO_3.out) (Kd.R_base ho0) hb)
 have HO176:=aM (Kd.R_lower ho0 (below_size (bX1 HB.out GE169.out)))
 replace BK169:=aM (bbX BK169.out hb)
 replace HB:=aM (below_step (bX1 HB.out GE169.out) hb)
 (try clear hb)
 (try clear hk)
 (try clear ho0)
 obtain ⟨Ao14,co14,eo14⟩:=Kd.R_slice HO176.out
 (first|subst eo14|(injection eo14 with f1_ f2_ f3_;have f4_:=f1_.symm;have f5_:=f3_.symm;clear f1_ f2_ f3_;subst f4_;subst f5_))
 refine hK.out _ _ ⟨cz20 BK169.out,cz21 BK169.out⟩ (fun hHeld => ?_)
 clear hK K
 refine norm_ (a':=?_) ?_ ?_
 rotate_left
 {
 show Act.put _ (some 18) _=_
 simp only [Act.put,zA,zB,zC,i64_w,i32_w]
 rfl
 }
 refine two_ (i:=4) (j:=8) (Ni:=some 19) (Nj:=some 5) #[tt,tt,tt,tt,tt,ff,ff,ff,ff,ff,ff] #[tt,tt,tt,tt,ff,ff,ff,ff,tt,ff,ff] rfl rfl rfl rfl (two_of HT_.out (by kernel_rfl)) (by decide) (by decide) (fun K hK => ?_) (fun K hK => ?_)
 {
 skip
 refine goes_ Try.func106 (by kernel_rfl) rfl #[.agg #[.slice A0_0 l0_0.length c0_0,.slice A0_1 l0_1.length c0_1],.slice Ao14 t174.length co14] (by rfl) rfl rfl aX ?_
 with_reducible refine(impl_RenameSurface.calls k1 _ _ l0_0 _ _ l0_1 _ _ t174 t177 t180 t183 _ ?side1 ?side2 ?side3 ?side4 ?side5 ?side6 A8.out).mono ?_
 (case side1=>exact cX (Kd.C_below HR0_0.out HB.out))
 (case side2=>exact HC0_0.out)
 (case side3=>exact cX (Kd.C_below HR0_1.out HB.out))
 (case side4=>exact HC0_1.out)
 (case side5=>exact cX (Kd.R_reads' HO176.out).2.2)
 (case side6=>exact(Kd.R_reads' HO176.out).2.1)
 rintro e w15 ⟨v178,v181,rfl,ho0,ho1,hb⟩
 refine ⟨_,rfl,?_⟩
 replace HO_3:=aM (Kd.S_mono (Kd.S_told (Kd.S_told (Kd.S_old (sX HO_3.out) hb) (Kd.R_base ho0)) (Kd.R_base ho1)) (fun _ h_=>h_.1))
 have HO179:=aM (Kd.R_lower (Kd.R_new' ho0 (Kd.R_lt (rX HO176.out))) (below_size (bX1 HB.out GE169.out)))
 have HO182:=aM (Kd.R_lower (Kd.R_new' ho1 (Kd.R_lt (rX HO176.out))) (below_size (bX1 HB.out GE169.out)))
 replace HO176:=aM (Kd.R_mono (Kd.R_told (Kd.R_told (Kd.R_old (rX HO176.out) hb) (Kd.R_base ho0)) (Kd.R_base ho1)) (fun _ h_=>h_.1))
 replace BK169:=aM (bbX BK169.out hb)
 replace HB:=aM (below_step (bX1 HB.out GE169.out) hb)
 (try clear hb)
 (try clear hk)
 (try clear ho0)
 (try clear ho1)
 refine hK.out _ _ ⟨cz20 BK169.out,cz21 BK169.out⟩ (fun hHeld => ?_)
 clear hK K
 refine norm_ (a':=?_) ?_ ?_
 rotate_left
 {
 show Act.put _ (some 19) _=_
 simp only [Act.put,zA,zB,zC,i64_w,i32_w]
 rfl
 }
 refine pX 5 14 (fl 11 63) rfl rfl HT_.out ?_
 refine pX 6 20 (fl 11 127) rfl rfl HT_.out ?_
 refine pX 7 21 (fl 11 255) rfl rfl HT_.out ?_
 refine one_ (i:=8) (N:=some 5) #[tt,tt,tt,tt,tt,tt,tt,tt,tt,ff,ff] rfl rfl (one_of HT_.out (by kernel_rfl)) (by decide) (fun K hK => ?_)
 refine box_step ?hg (N:=5) ?hd (cs:=#[.slice none 0 0,.slice none 0 0]) (t:=27) ?hr ?_;(case hd=>rfl);(case hg=>rfl);(case hr=>first|(go_simp;done)|(go_simp;rfl))
 intro gb184 hg w16 hbox hb
 replace HO_3:=aM (Kd.S_below (Kd.S_elderB (sX HO_3.out) gb184 (Nat.le_of_eq hg.symm)) hb)
 replace HO176:=aM (Kd.R_below (rX HO176.out) hb)
 replace HO179:=aM (Kd.R_below (rX HO179.out) hb)
 replace HO182:=aM (Kd.R_below (rX HO182.out) hb)
 have BK184:=aM (hbox)
 have GW184:=aM ((szX (below_size (bX1 HB.out GE169.out)) hg:w.heap.size≤gb184))
 have GE184:=GW184
 replace HB:=aM (below_step (bX1 HB.out GE169.out) hb)
 have NB169_184:=aM (neX BK169.out hg)
 have NB184_169:=aM (nfX BK169.out hg)
 replace BK169:=aM (bbX BK169.out hb)
 clear hb hbox hg
 refine hK.out _ _ ⟨cz20 BK169.out,cz21 BK169.out⟩ (fun hHeld => ?_)
 clear hK K
 refine norm_ (a':=?_) ?_ ?_
 rotate_left
 {
 show Act.put _ (some 5) _=_
 simp only [Act.put,zA,zB,zC,i64_w,i32_w]
 rfl
 }
 exact norm_ (by simp only [putAll,Act.put,List.setIfInBounds_toArray,List.set_cons_zero,List.set_cons_succ]) (hCont (.slice Ao14 t174.length co14,v178,v181,gb184) _ ⟨hHeld,(rM HO176.out (fun _ hk=>⟨hk.1.2,hk.2⟩)),(rM HO179.out (fun _ hk=>⟨hk.2,hk.1⟩)),(rM HO182.out (fun _ hk=>⟨hk.2,hk.1⟩)),(by(with_reducible repeat(first|apply Kd.S_alloc|apply Kd.S_drewN|apply Kd.S_drew));exact Kd.S_mono HO_3.out (fun _ hk=>⟨hk.1.1.1.2,⟨hk.1.1.2,⟨hk.1.2,⟨hk.1.1.1.1,hk.2⟩⟩⟩⟩)),(kX BK169.out),(kX BK184.out),GW184.out,GE184.out,NB169_184.out,NB184_169.out,(bX2 HB.out GE169.out GE184.out)⟩)
 }
 {
 skip
 refine box_step ?hg (N:=5) ?hd (cs:=#[.slice none 0 0,.slice none 0 0]) (t:=27) ?hr ?_;(case hd=>rfl);(case hg=>rfl);(case hr=>first|(go_simp;done)|(go_simp;rfl))
 intro gb184 hg w14 hbox hb
 replace HO_3:=aM (Kd.S_below (Kd.S_elderB (sX HO_3.out) gb184 (Nat.le_of_eq hg.symm)) hb)
 replace HO176:=aM (Kd.R_below (rX HO176.out) hb)
 have BK184:=aM (hbox)
 have GW184:=aM ((szX (below_size (bX1 HB.out GE169.out)) hg:w.heap.size≤gb184))
 have GE184:=GW184
 replace HB:=aM (below_step (bX1 HB.out GE169.out) hb)
 have NB169_184:=aM (neX BK169.out hg)
 have NB184_169:=aM (nfX BK169.out hg)
 replace BK169:=aM (bbX BK169.out hb)
 clear hb hbox hg
 obtain ⟨Ao15,co15,eo15⟩:=Kd.R_slice HO176.out
 (first|subst eo15|(injection eo15 with f1_ f2_ f3_;have f4_:=f1_.symm;have f5_:=f3_.symm;clear f1_ f2_ f3_;subst f4_;subst f5_))
 refine hK.out _ _ ⟨cz20 BK169.out,cz21 BK169.out⟩ (fun hHeld => ?_)
 clear hK K
 refine norm_ (a':=?_) ?_ ?_
 rotate_left
 {
 show Act.put _ (some 5) _=_
 simp only [Act.put,zA,zB,zC,i64_w,i32_w]
 rfl
 }
 refine one_ (i:=4) (N:=some 19) #[tt,tt,tt,tt,tt,ff,ff,ff,tt,ff,ff] rfl rfl (one_of HT_.out (by kernel_rfl)) (by decide) (fun K hK => ?_)
 refine goes_ Try.func106 (by kernel_rfl) rfl #[.agg #[.slice A0_0 l0_0.length c0_0,.slice A0_1 l0_1.length c0_1],.slice Ao15 t174.length co15] (by rfl) rfl rfl aX ?_
 with_reducible refine(impl_RenameSurface.calls k1 _ _ l0_0 _ _ l0_1 _ _ t174 t177 t180 t183 _ ?side1 ?side2 ?side3 ?side4 ?side5 ?side6 A8.out).mono ?_
 (case side1=>exact cX (Kd.C_below HR0_0.out HB.out))
 (case side2=>exact HC0_0.out)
 (case side3=>exact cX (Kd.C_below HR0_1.out HB.out))
 (case side4=>exact HC0_1.out)
 (case side5=>exact cX (Kd.R_reads' HO176.out).2.2)
 (case side6=>exact(Kd.R_reads' HO176.out).2.1)
 rintro e w16 ⟨v178,v181,rfl,ho0,ho1,hb⟩
 refine ⟨_,rfl,?_⟩
 replace HO_3:=aM (Kd.S_mono (Kd.S_told (Kd.S_told (Kd.S_old (sX HO_3.out) hb) (Kd.R_base ho0)) (Kd.R_base ho1)) (fun _ h_=>h_.1))
 have HO179:=aM (Kd.R_lower (Kd.R_new' ho0 (Kd.R_lt (rX HO176.out))) (below_size (bX2 HB.out GE169.out GE184.out)))
 have HO182:=aM (Kd.R_lower (Kd.R_new' ho1 (Kd.R_lt (rX HO176.out))) (below_size (bX2 HB.out GE169.out GE184.out)))
 replace HO176:=aM (Kd.R_mono (Kd.R_told (Kd.R_told (Kd.R_old (rX HO176.out) hb) (Kd.R_base ho0)) (Kd.R_base ho1)) (fun _ h_=>h_.1))
 replace BK169:=aM (bbX BK169.out hb)
 replace BK184:=aM (bbX BK184.out hb)
 replace HB:=aM (below_step (bX2 HB.out GE169.out GE184.out) hb)
 (try clear hb)
 (try clear hk)
 (try clear ho0)
 (try clear ho1)
 refine hK.out _ _ ⟨cz20 BK169.out,cz21 BK169.out⟩ (fun hHeld => ?_)
 clear hK K
 refine norm_ (a':=?_) ?_ ?_
 rotate_left
 {
 show Act.put _ (some 19) _=_
 simp only [Act.put,zA,zB,zC,i64_w,i32_w]
 rfl
 }
 refine pX 5 14 (fl 11 319) rfl rfl HT_.out ?_
 refine pX 6 20 (fl 11 383) rfl rfl HT_.out ?_
 refine pX 7 21 (fl 11 511) rfl rfl HT_.out ?_
 exact norm_ (by simp only [putAll,Act.put,List.setIfInBounds_toArray,List.set_cons_zero,List.set_cons_succ]) (hCont (.slice Ao15 t174.length co15,v178,v181,gb184) _ ⟨hHeld,(rM HO176.out (fun _ hk=>⟨hk.1.2,hk.2⟩)),(rM HO179.out (fun _ hk=>⟨hk.2,hk.1⟩)),(rM HO182.out (fun _ hk=>⟨hk.2,hk.1⟩)),(by(with_reducible repeat(first|apply Kd.S_alloc|apply Kd.S_drewN|apply Kd.S_drew));exact Kd.S_mono HO_3.out (fun _ hk=>⟨hk.1.1.1.2,⟨hk.1.2,⟨hk.2,⟨hk.1.1.1.1,hk.1.1.2⟩⟩⟩⟩)),(kX BK169.out),(kX BK184.out),GW184.out,GE184.out,NB169_184.out,NB184_169.out,(bX2 HB.out GE169.out GE184.out)⟩)
 }
 }
 {
 skip
 refine box_step ?hg (N:=5) ?hd (cs:=#[.slice none 0 0,.slice none 0 0]) (t:=27) ?hr ?_;(case hd=>rfl);(case hg=>rfl);(case hr=>first|(go_simp;done)|(go_simp;rfl))
 intro gb184 hg w13 hbox hb
 replace HO_3:=aM (Kd.S_below (Kd.S_elderB (sX HO_3.out) gb184 (Nat.le_of_eq hg.symm)) hb)
 have BK184:=aM (hbox)
 have GW184:=aM ((szX (below_size (bX1 HB.out GE169.out)) hg:w.heap.size≤gb184))
 have GE184:=GW184
 replace HB:=aM (below_step (bX1 HB.out GE169.out) hb)
 have NB169_184:=aM (neX BK169.out hg)
 have NB184_169:=aM (nfX BK169.out hg)
 replace BK169:=aM (bbX BK169.out hb)
 clear hb hbox hg
 refine hK.out _ _ ⟨cz20 BK169.out,cz21 BK169.out⟩ (fun hHeld => ?_)
 clear hK K
 refine norm_ (a':=?_) ?_ ?_
 rotate_left
 {
 show Act.put _ (some 5) _=_
 simp only [Act.put,zA,zB,zC,i64_w,i32_w]
 rfl
 }
 refine one_ (i:=3) (N:=some 18) #[tt,tt,tt,tt,ff,ff,ff,ff,tt,ff,ff] rfl rfl (one_of HT_.out (by kernel_rfl)) (by decide) (fun K hK => ?_)
 refine goes_ Try.func107 (by kernel_rfl) rfl #[.agg #[.slice A0_0 l0_0.length c0_0,.slice A0_1 l0_1.length c0_1],.int .i64 x4_1] (by rfl) rfl rfl aX ?_
 with_reducible refine(impl_NamesFrom.calls k1 _ _ l0_0 _ _ l0_1 x4_1 t174 _ ?side1 ?side2 ?side3 ?side4 A7.out).mono ?_
 (case side1=>exact cX (Kd.C_below HR0_0.out HB.out))
 (case side2=>exact HC0_0.out)
 (case side3=>exact cX (Kd.C_below HR0_1.out HB.out))
 (case side4=>exact HC0_1.out)
 rintro e w14 ⟨v175,rfl,ho0,hb⟩
 refine ⟨_,rfl,?_⟩
 replace HO_3:=aM (Kd.S_elder' (sX HO_3.out) (Kd.R_base ho0) hb)
 have HO176:=aM (Kd.R_lower ho0 (below_size (bX2 HB.out GE169.out GE184.out)))
 replace BK169:=aM (bbX BK169.out hb)
 replace BK184:=aM (bbX BK184.out hb)
 replace HB:=aM (below_step (bX2 HB.out GE169.out GE184.out) hb)
 (try clear hb)
 (try clear hk)
 (try clear ho0)
 obtain ⟨Ao15,co15,eo15⟩:=Kd.R_slice HO176.out
 (first|subst eo15|(injection eo15 with f1_ f2_ f3_;have f4_:=f1_.symm;have f5_:=f3_.symm;clear f1_ f2_ f3_;subst f4_;subst f5_))
 refine hK.out _ _ ⟨cz20 BK169.out,cz21 BK169.out⟩ (fun hHeld => ?_)
 clear hK K
 refine norm_ (a':=?_) ?_ ?_
 rotate_left
 {
 show Act.put _ (some 18) _=_
 simp only [Act.put,zA,zB,zC,i64_w,i32_w]
 rfl
 }
 refine one_ (i:=4) (N:=some 19) #[tt,tt,tt,tt,tt,ff,ff,ff,tt,ff,ff] rfl rfl (one_of HT_.out (by kernel_rfl)) (by decide) (fun K hK => ?_)
 refine goes_ Try.func106 (by kernel_rfl) rfl #[.agg #[.slice A0_0 l0_0.length c0_0,.slice A0_1 l0_1.length c0_1],.slice Ao15 t174.length co15] (by rfl) rfl rfl aX ?_
 with_reducible refine(impl_RenameSurface.calls k1 _ _ l0_0 _ _ l0_1 _ _ t174 t177 t180 t183 _ ?side1 ?side2 ?side3 ?side4 ?side5 ?side6 A8.out).mono ?_
 (case side1=>exact cX (Kd.C_below HR0_0.out HB.out))
 (case side2=>exact HC0_0.out)
 (case side3=>exact cX (Kd.C_below HR0_1.out HB.out))
 (case side4=>exact HC0_1.out)
 (case side5=>exact cX (Kd.R_reads' HO176.out).2.2)
 (case side6=>exact(Kd.R_reads' HO176.out).2.1)
 rintro e w16 ⟨v178,v181,rfl,ho0,ho1,hb⟩
 refine ⟨_,rfl,?_⟩
 replace HO_3:=aM (Kd.S_mono (Kd.S_told (Kd.S_told (Kd.S_old (sX HO_3.out) hb) (Kd.R_base ho0)) (Kd.R_base ho1)) (fun _ h_=>h_.1))
 have HO179:=aM (Kd.R_lower (Kd.R_new' ho0 (Kd.R_lt (rX HO176.out))) (below_size (bX2 HB.out GE169.out GE184.out)))
 have HO182:=aM (Kd.R_lower (Kd.R_new' ho1 (Kd.R_lt (rX HO176.out))) (below_size (bX2 HB.out GE169.out GE184.out)))
 replace HO176:=aM (Kd.R_mono (Kd.R_told (Kd.R_told (Kd.R_old (rX HO176.out) hb) (Kd.R_base ho0)) (Kd.R_base ho1)) (fun _ h_=>h_.1))
 replace BK169:=aM (bbX BK169.out hb)
 replace BK184:=aM (bbX BK184.out hb)
 replace HB:=aM (below_step (bX2 HB.out GE169.out GE184.out) hb)
 (try clear hb)
 (try clear hk)
 (try clear ho0)
 (try clear ho1)
 refine hK.out _ _ ⟨cz20 BK169.out,cz21 BK169.out⟩ (fun hHeld => ?_)
 clear hK K
 refine norm_ (a':=?_) ?_ ?_
 rotate_left
 {
 show Act.put _ (some 19) _=_
 simp only [Act.put,zA,zB,zC,i64_w,i32_w]
 rfl
 }
 refine pX 5 14 (fl 11 319) rfl rfl HT_.out ?_
 refine pX 6 20 (fl 11 383) rfl rfl HT_.out ?_
 refine pX 7 21 (fl 11 511) rfl rfl HT_.out ?_
 exact norm_ (by simp only [putAll,Act.put,List.setIfInBounds_toArray,List.set_cons_zero,List.set_cons_succ]) (hCont (.slice Ao15 t174.length co15,v178,v181,gb184) _ ⟨hHeld,(rM HO176.out (fun _ hk=>⟨hk.1.2,hk.2⟩)),(rM HO179.out (fun _ hk=>⟨hk.2,hk.1⟩)),(rM HO182.out (fun _ hk=>⟨hk.2,hk.1⟩)),(by(with_reducible repeat(first|apply Kd.S_alloc|apply Kd.S_drewN|apply Kd.S_drew));exact Kd.S_mono HO_3.out (fun _ hk=>⟨hk.1.1.2,⟨hk.1.2,⟨hk.2,⟨hk.1.1.1.1,hk.1.1.1.2⟩⟩⟩⟩)),(kX BK169.out),(kX BK184.out),GW184.out,GE184.out,NB169_184.out,NB184_169.out,(bX2 HB.out GE169.out GE184.out)⟩)
 }
 }
 rintro ⟨v175,v178,v181,gb184⟩ w17 ⟨hS_,h0_,h1_,h2_,h3_,h4_,h5_,h6_,h7_,h8_,h9_,h10_⟩
 have n0_:Aside0 (Kd.R (Kd.int .i64) 3 w17 w.heap.size (fun k_=>some k_≠(v178:Value).ownBlock∧some k_≠(v181:Value).ownBlock) v175 t174):=⟨h0_⟩
 have n1_:Aside0 (Kd.R (Kd.int .i64) 3 w17 w.heap.size (fun k_=>some k_≠(v175:Value).ownBlock∧some k_≠(v181:Value).ownBlock) v178 t177):=⟨h1_⟩
 have n2_:Aside0 (Kd.R (Kd.int .i64) 3 w17 w.heap.size (fun k_=>some k_≠(v175:Value).ownBlock∧some k_≠(v178:Value).ownBlock) v181 t180):=⟨h2_⟩
 have n3_:Aside0 (Kd.S k27 27 w17 w.heap.size (fun k_=>some k_≠(v175:Value).ownBlock∧some k_≠(v178:Value).ownBlock∧some k_≠(v181:Value).ownBlock∧k_≠gb169∧k_≠gb184) u3 x3_1):=⟨h3_⟩
 have n4_:Aside0 (w17.heap[gb169]? = some (.cells #[.slice A0_0 l0_0.length c0_0,.slice A0_1 l0_1.length c0_1] 27 (0,0))):=⟨h4_⟩
 have n5_:Aside0 (w17.heap[gb184]? = some (.cells #[.slice none 0 0,.slice none 0 0] 27 (0,0))):=⟨h5_⟩
 have n6_:Aside0 (w.heap.size≤gb184):=⟨h6_⟩
 have n7_:Aside0 (w.heap.size≤gb184):=⟨h7_⟩
 have n8_:Aside0 (gb169≠gb184):=⟨h8_⟩
 have n9_:Aside0 (gb184≠gb169):=⟨h9_⟩
 have n10_:Aside0 (Below w.heap.size w w17):=⟨h10_⟩
 clear HO_3 BK169 HB h0_ h1_ h2_ h3_ h4_ h5_ h6_ h7_ h8_ h9_ h10_
 have HO176:=n0_
 have HO179:=n1_
 have HO182:=n2_
 have HO_3:=n3_
 have BK169:=n4_
 have BK184:=n5_
 have GW184:=n6_
 have GE184:=n7_
 have NB169_184:=n8_
 have NB184_169:=n9_
 have HB:=n10_
 clear n0_ n1_ n2_ n3_ n4_ n5_ n6_ n7_ n8_ n9_ n10_
 have hHeld:w17.cell? ⟨gb169,0,none⟩=some (.slice A0_0 l0_0.length c0_0)∧w17.cell? ⟨gb169,1,none⟩=some (.slice A0_1 l0_1.length c0_1):=hS_
 obtain ⟨Ao18,co18,eo18⟩:=Kd.R_slice HO179.out
 (first|subst eo18|(injection eo18 with f1_ f2_ f3_;have f4_:=f1_.symm;have f5_:=f3_.symm;clear f1_ f2_ f3_;subst f4_;subst f5_))
 obtain ⟨Ao20,co20,eo20⟩:=Kd.R_slice HO182.out
 (first|subst eo20|(injection eo20 with f1_ f2_ f3_;have f4_:=f1_.symm;have f5_:=f3_.symm;clear f1_ f2_ f3_;subst f4_;subst f5_))
 refine norm_ (a':=?_) ?_ ?_
 rotate_left
 {
 simp only [putAll,Act.put,List.setIfInBounds_toArray,List.set_cons_zero,List.set_cons_succ]
 rfl
 }
 refine one_ (i:=9) (N:=none) #[tt,tt,tt,tt,tt,tt,tt,tt,tt,tt,ff] rfl rfl (one_of HT_.out (by kernel_rfl)) (by decide) (fun K hK => ?_)
 have hs19:w17.cell? ⟨gb184,0,none⟩=some (.slice none 0 0):=cz20 BK184.out
 have hfs19:=blk_frozen BK184.out 0
 have hns19_0:=NB169_184.out
 have hms19_0:=NB184_169.out
 have hs21:w17.cell? ⟨gb184,1,none⟩=some (.slice none 0 0):=cz21 BK184.out
 have hfs21:=blk_frozen BK184.out 1
 have hns21_0:=NB169_184.out
 have hms21_0:=NB184_169.out
 refine skip_ (w1:=?_) (by rfl) rfl ?_ ?_
 rotate_left
 {
 go_simp
 rfl
 }
 refine hK.out _ _ ⟨((cell_far (p:=⟨gb184,_,none⟩) NB169_184.out _).trans (((cell_far (p:=⟨gb184,_,none⟩) NB169_184.out _).trans (hHeld.1)))),((cell_far (p:=⟨gb184,_,none⟩) NB169_184.out _).trans (((cell_far (p:=⟨gb184,_,none⟩) NB169_184.out _).trans (hHeld.2))))⟩ (fun hHeld => ?_)
 clear hK K
 refine pX 10 6 (fl 11 2047) rfl rfl HT_.out ?_
 refine done_ (done_of HT_.out (by kernel_rfl)) ?_
 have n0_:Aside0 (Kd.S k27 27 ((w17.setCell ⟨gb184,0,none⟩ (.slice Ao18 t177.length co18)).setCell ⟨gb184,1,none⟩ (.slice Ao20 t180.length co20)) w.heap.size (fun k_=>some k_≠(v175:Value).ownBlock∧some k_≠(.slice Ao18 t177.length co18:Value).ownBlock∧some k_≠(.slice Ao20 t180.length co20:Value).ownBlock∧k_≠gb169∧k_≠gb184) u3 x3_1):=⟨by(with_reducible repeat(first|apply Kd.S_alloc|apply Kd.S_drewN|apply Kd.S_drew));exact Kd.S_mono (Kd.S_far (p:=⟨gb184,1,none⟩) (Kd.S_far (p:=⟨gb184,0,none⟩) (Kd.S_mono HO_3.out (fun k_ hk=>(⟨hk,hk.2.2.2.2⟩:_∧k_≠gb184))) (fun _ hk=>hk.2) (.slice Ao18 t177.length co18)) (fun _ hk=>hk.2) (.slice Ao20 t180.length co20)) (fun _ hk=>⟨hk.1.1,⟨hk.1.2.1,⟨hk.1.2.2.1,⟨hk.1.2.2.2.1,hk.1.2.2.2.2⟩⟩⟩⟩)⟩
 have n1_:Aside0 (Kd.R (Kd.int .i64) 3 ((w17.setCell ⟨gb184,0,none⟩ (.slice Ao18 t177.length co18)).setCell ⟨gb184,1,none⟩ (.slice Ao20 t180.length co20)) w.heap.size (fun k_=>some k_≠(.slice Ao18 t177.length co18:Value).ownBlock∧some k_≠(.slice Ao20 t180.length co20:Value).ownBlock) v175 t174):=⟨by(with_reducible repeat(first|apply rA|apply rN|apply rD));exact Kd.R_mono (Kd.R_far (p:=⟨gb184,1,none⟩) (Kd.R_far (p:=⟨gb184,0,none⟩) (Kd.R_types HO176.out BK184.out (by decide)) (fun _ hk=>hk.2) (.slice Ao18 t177.length co18)) (fun _ hk=>hk.2) (.slice Ao20 t180.length co20)) (fun _ hk=>⟨hk.1.1,hk.1.2⟩)⟩
 have n2_:Aside0 (Kd.R (Kd.int .i64) 3 ((w17.setCell ⟨gb184,0,none⟩ (.slice Ao18 t177.length co18)).setCell ⟨gb184,1,none⟩ (.slice Ao20 t180.length co20)) w.heap.size (fun k_=>some k_≠(v175:Value).ownBlock∧some k_≠(.slice Ao20 t180.length co20:Value).ownBlock) (.slice Ao18 t177.length co18) t177):=⟨by(with_reducible repeat(first|apply rA|apply rN|apply rD));exact Kd.R_mono (Kd.R_far (p:=⟨gb184,1,none⟩) (Kd.R_far (p:=⟨gb184,0,none⟩) (Kd.R_types HO179.out BK184.out (by decide)) (fun _ hk=>hk.2) (.slice Ao18 t177.length co18)) (fun _ hk=>hk.2) (.slice Ao20 t180.length co20)) (fun _ hk=>⟨hk.1.1,hk.1.2⟩)⟩
 have n3_:Aside0 (Kd.R (Kd.int .i64) 3 ((w17.setCell ⟨gb184,0,none⟩ (.slice Ao18 t177.length co18)).setCell ⟨gb184,1,none⟩ (.slice Ao20 t180.length co20)) w.heap.size (fun k_=>some k_≠(v175:Value).ownBlock∧some k_≠(.slice Ao18 t177.length co18:Value).ownBlock) (.slice Ao20 t180.length co20) t180):=⟨by(with_reducible repeat(first|apply rA|apply rN|apply rD));exact Kd.R_mono (Kd.R_far (p:=⟨gb184,1,none⟩) (Kd.R_far (p:=⟨gb184,0,none⟩) (Kd.R_types HO182.out BK184.out (by decide)) (fun _ hk=>hk.2) (.slice Ao18 t177.length co18)) (fun _ hk=>hk.2) (.slice Ao20 t180.length co20)) (fun _ hk=>⟨hk.1.1,hk.1.2⟩)⟩
 have n4_:Aside0 (((w17.setCell ⟨gb184,0,none⟩ (.slice Ao18 t177.length co18)).setCell ⟨gb184,1,none⟩ (.slice Ao20 t180.length co20)).heap[gb169]? = some (.cells #[.slice A0_0 l0_0.length c0_0,.slice A0_1 l0_1.length c0_1] 27 (0,0))):=⟨by(with_reducible repeat(first|refine kN ?_ _|refine kD ?_|refine kA ?_ _));refine blk_far ?_ NB169_184.out _;(with_reducible repeat(first|refine kN ?_ _|refine kD ?_|refine kA ?_ _));refine blk_far ?_ NB169_184.out _;(with_reducible repeat(first|refine kN ?_ _|refine kD ?_|refine kA ?_ _));exact BK169.out⟩
 have n5_:Aside0 (((w17.setCell ⟨gb184,0,none⟩ (.slice Ao18 t177.length co18)).setCell ⟨gb184,1,none⟩ (.slice Ao20 t180.length co20)).heap[gb184]? = some (.cells #[.slice Ao18 t177.length co18,.slice Ao20 t180.length co20] 27 (0,0))):=⟨by(with_reducible repeat(first|refine kN ?_ _|refine kD ?_|refine kA ?_ _));refine blk_put (cs:=#[.slice Ao18 t177.length co18,.slice none 0 0]) ?_ 1 _ rfl;(with_reducible repeat(first|refine kN ?_ _|refine kD ?_|refine kA ?_ _));refine blk_put (cs:=#[.slice none 0 0,.slice none 0 0]) ?_ 0 _ rfl;(with_reducible repeat(first|refine kN ?_ _|refine kD ?_|refine kA ?_ _));exact BK184.out⟩
 have n6_:Aside0 (Below w.heap.size w ((w17.setCell ⟨gb184,0,none⟩ (.slice Ao18 t177.length co18)).setCell ⟨gb184,1,none⟩ (.slice Ao20 t180.length co20))):=⟨bX2 HB.out GE169.out GE184.out⟩
 (try clear HO_3)
 (try clear HO176)
 (try clear HO179)
 (try clear HO182)
 (try clear BK169)
 (try clear BK184)
 (try clear HB)
 generalize ((w17.setCell ⟨gb184,0,none⟩ (.slice Ao18 t177.length co18)).setCell ⟨gb184,1,none⟩ (.slice Ao20 t180.length co20))=w22 at n0_ n1_ n2_ n3_ n4_ n5_ n6_ ⊢
 have HO_3:=n0_
 have HO176:=n1_
 have HO179:=n2_
 have HO182:=n3_
 have BK169:=n4_
 have BK184:=n5_
 have HB:=n6_
 clear n0_ n1_ n2_ n3_ n4_ n5_ n6_
 have hnb23:=NB184_169.out
 have hnc23:=NB169_184.out
 obtain ⟨hcz24_0,hcz24_1,hfz24_0,hfz24_1⟩:=f2Z BK184.out
 try go_wp2_with (first|((with_reducible refine gate_builtin (b:=.append) (xs:=#[.tmp 22,.tmp 24]) rfl ?_);at_builtin;refine Kd.S_append k27 (w0:=w) w.heap.size rfl (.tmp 22) (.tmp 24) 54 27 (.agg #[(.slice none 0 0),(.slice none 0 0)]) 48 rfl Try.underlying54 info27 rfl (by decide) (by omega) u3 x3_1 (⟨t177,t180⟩:S27) [.slice Ao18 t177.length co18,.slice Ao20 t180.length co20] (fun k_=>some k_≠(v175:Value).ownBlock∧k_≠gb169∧k_≠gb184) (fun k_=>some k_=(.slice Ao18 t177.length co18:Value).ownBlock∨some k_=(.slice Ao20 t180.length co20:Value).ownBlock) rfl rfl ?aP (fun k_ hk_=>hk_.elim (fun h_=>((Kd.R_mono (ok':=fun k_=>((fun k_=>some k_≠(v175:Value).ownBlock∧k_≠gb169∧k_≠gb184)) k_∧some k_≠(u3:Value).ownBlock) (Kd.R_types (Kd.R_types (Kd.R_apart' (HO179.out) (Kd.S_typed HO_3.out) (by decide)) BK169.out (by decide)) BK184.out (by decide)) (fun k_ hk=>⟨⟨hk.1.1.1.1,⟨hk.1.2,hk.2⟩⟩,hk.1.1.2⟩))).1 k_ h_.symm) (fun h_=>((Kd.R_mono (ok':=fun k_=>((fun k_=>some k_≠(v175:Value).ownBlock∧k_≠gb169∧k_≠gb184)) k_∧some k_≠(u3:Value).ownBlock) (Kd.R_types (Kd.R_types (Kd.R_apart' (HO182.out) (Kd.S_typed HO_3.out) (by decide)) BK169.out (by decide)) BK184.out (by decide)) (fun k_ hk=>⟨⟨hk.1.1.1.1,⟨hk.1.2,hk.2⟩⟩,hk.1.1.2⟩))).1 k_ h_.symm)) ?aF ?aO ?aB ?aS ?aL ?_;(case aP=>exact k27_mkM _ _ _ (⟨t177,t180⟩:S27) (Kd.R_mono (Kd.R_tight rfl (Kd.R_mono (ok':=fun k_=>((fun k_=>some k_≠(v175:Value).ownBlock∧k_≠gb169∧k_≠gb184)) k_∧some k_≠(u3:Value).ownBlock) (Kd.R_types (Kd.R_types (Kd.R_apart' (HO179.out) (Kd.S_typed HO_3.out) (by decide)) BK169.out (by decide)) BK184.out (by decide)) (fun k_ hk=>⟨⟨hk.1.1.1.1,⟨hk.1.2,hk.2⟩⟩,hk.1.1.2⟩))) (fun _ h_=>Or.inl h_)) (Kd.R_mono (Kd.R_tight rfl (Kd.R_mono (ok':=fun k_=>((fun k_=>some k_≠(v175:Value).ownBlock∧k_≠gb169∧k_≠gb184)) k_∧some k_≠(u3:Value).ownBlock) (Kd.R_types (Kd.R_types (Kd.R_apart' (HO182.out) (Kd.S_typed HO_3.out) (by decide)) BK169.out (by decide)) BK184.out (by decide)) (fun k_ hk=>⟨⟨hk.1.1.1.1,⟨hk.1.2,hk.2⟩⟩,hk.1.1.2⟩))) (fun _ h_=>Or.inr (h_))));(case aB=>exact(bX2 HB.out GE169.out GE184.out));(case aF=>exact(fun k_ hk=>⟨Kd.fresh' (Kd.R_lt (rX HO176.out)) k_ hk,Kd.freshB (g:=gb169) (o:=.cells #[.slice A0_0 l0_0.length c0_0,.slice A0_1 l0_1.length c0_1] 27 (0,0)) (kX BK169.out) k_ hk,Kd.freshB (g:=gb184) (o:=.cells #[.slice Ao18 t177.length co18,.slice Ao20 t180.length co20] 27 (0,0)) (kX BK184.out) k_ hk⟩));(case aO=>exact(by(with_reducible repeat(first|apply Kd.S_alloc|apply Kd.S_drewN|apply Kd.S_drew));exact Kd.S_mono HO_3.out (fun k_ hk=>⟨⟨hk.1,⟨hk.2.2.2.1,hk.2.2.2.2⟩⟩,fun e_=>e_.elim (fun h_=>hk.2.1 h_) (fun h_=>hk.2.2.1 h_)⟩)));(case aS=>exact(below_size (bX2 HB.out GE169.out GE184.out)));(case aL=>have:=LMc9.out;omega);intro v186 w25 ho hb hg hat;rw [← Ny185.out] at ho;replace BK169:=aM (bgX BK169.out hg (Kd.S_away HO_3.out (fun _ hk=>hk.2.2.2.1)));replace HO176:=aM (Kd.R_over' (rX HO176.out) (Kd.S_typed (sX HO_3.out)) (by decide) hg);replace BK184:=aM (bgX BK184.out hg (Kd.S_away HO_3.out (fun _ hk=>hk.2.2.2.2)));replace HB:=aM (hb);have HO187:=aM (ho);clear HO_3 HO179 HO182 ho hb hg hat))
 go_roundg k1
 case measure=>have:=HK1.out;omega
 case rel=>exact ⟨(y185),(wrap64 (x4_1+1)),vX,H',⟨by have:=HK1.out;omega⟩,⟨by(with_reducible repeat(first|apply Kd.S_alloc|apply Kd.S_drewN|apply Kd.S_drew));exact Kd.S_mono HO187.out (fun _ hk=>hk.2.1)⟩,⟨kX BK169.out⟩,⟨bX2 HB.out GE169.out GE184.out⟩⟩
 }
 {
 rw [if_neg c9] at H
 exact absurd H (by simp)
 }
 }
 {
 rw [if_neg c6] at H
 have c6b0:=decide_eq_false c6
 clear c6
 obtain rfl:=Option.some.inj H
 obtain ⟨hcz26_0,hcz26_1,hfz26_0,hfz26_1⟩:=f2Z BK169.out
 go_wp2_with (first|((with_reducible refine gate_callee (f:=105) rfl ?_);refine goesL_ (some 10) rfl rfl Try.func105 (by kernel_rfl) rfl #[.agg #[.slice A0_0 l0_0.length c0_0,.slice A0_1 l0_1.length c0_1]] rfl aX ?_;(with_reducible refine(impl_CountSquares.calls k1 _ _ l0_0 _ _ l0_1 t173 _ ?side1 ?side2 ?side3 ?side4 A5.out).mono ?_);(case side1=>exact cX (Kd.C_below HR0_0.out HB.out));(case side2=>exact HC0_0.out);(case side3=>exact cX (Kd.C_below HR0_1.out HB.out));(case side4=>exact HC0_1.out);rintro e w27 ⟨rfl,hb⟩;refine ⟨_,rfl,?_⟩;replace HO_3:=aM (Kd.S_below (sX HO_3.out) hb);replace BK169:=aM (bbX BK169.out hb);replace HB:=aM (below_step (bX1 HB.out GE169.out) hb);(try clear hb);(try clear hk)))
 go_ret
 exact ⟨_,eX,by(with_reducible repeat(first|apply Kd.S_alloc|apply Kd.S_drewN|apply Kd.S_drew));exact Kd.S_mono HO_3.out (fun _ hk=>trivial),bX1 HB.out GE169.out⟩
 }

/-! ### cmp_isNaN_int: function 125 -/
def cmp_isNaN_int.f (a0:Int):Option (Bool):=some (a0 != a0)
theorem cmp_isNaN_int.calls (a0:Int) (r:Bool) (w:World) (h:cmp_isNaN_int.f a0=some r) :
  Calls Try.prog 125 #[.int .i64 a0] w fun e w'=>e = .returned (.bool r)∧Drawn0 w w':=by
 have H:(some (a0 != a0))=some r:=h
 clear h
 obtain rfl:=Option.some.inj H
 go_enter Try.func125,Try.ntmps125
 go_wp2
 go_ret
 exact ⟨by first|rfl|(simp;done)|(simp [*];done),by repeat(first|exact Drawn0.refl _|apply Drawn0.step)⟩

/-! ### cmp_Compare_int: function 123 -/
def cmp_Compare_int.f (a0:Int) (a1:Int):Option (Int):=(cmp_isNaN_int.f a0).bind fun t188=>((cmp_isNaN_int.f a1).bind fun t189=>(if t188=true then (if t189=true then (some 0) else (some (-1))) else (if t189=true then (some 1) else (if a0<a1 then (some (-1)) else (if a0 > a1 then (some 1) else (some 0))))))
theorem cmp_Compare_int.calls (a0:Int) (a1:Int) (r:Int) (w:World) (h:cmp_Compare_int.f a0 a1=some r) :
  Calls Try.prog 123 #[.int .i64 a0,.int .i64 a1] w fun e w'=>e = .returned (.int .i64 r)∧Drawn0 w w':=by
 have H:((cmp_isNaN_int.f a0).bind fun t188=>((cmp_isNaN_int.f a1).bind fun t189=>(if t188=true then (if t189=true then (some 0) else (some (-1))) else (if t189=true then (some 1) else (if a0<a1 then (some (-1)) else (if a0 > a1 then (some 1) else (some 0)))))))=some r:=h
 clear h
 replace H:=oB H
 obtain ⟨t188,A30,H⟩:=H
 have A3:=aM A30
 clear A30
 replace H:=oB H
 obtain ⟨t189,A40,H⟩:=H
 have A4:=aM A40
 clear A40
 by_cases c5:t188=true
 {
 subst c5
 have H1:(if t189=true then (some 0) else (some (-1)))=some r:=by rw [if_pos rfl] at H;exact H
 clear H
 have H:=H1
 clear H1
 by_cases c6:t189=true
 {
 subst c6
 have H1:(some 0)=some r:=by rw [if_pos rfl] at H;exact H
 clear H
 have H:=H1
 clear H1
 obtain rfl:=Option.some.inj H
 go_enter Try.func123,Try.ntmps123
 go_wp2_with (first|((with_reducible refine gate_callee (f:=125) rfl ?_);refine goesL_ (some 8) rfl rfl Try.func125 (by kernel_rfl) rfl #[.int .i64 a0] rfl aX ?_;(with_reducible refine(cmp_isNaN_int.calls a0 true _ A3.out).mono ?_);rintro e w' ⟨rfl,⟨nd,rfl⟩⟩;refine ⟨_,rfl,?_⟩)|((with_reducible refine gate_callee (f:=125) rfl ?_);refine goesL_ (some 10) rfl rfl Try.func125 (by kernel_rfl) rfl #[.int .i64 a1] rfl aX ?_;(with_reducible refine(cmp_isNaN_int.calls a1 true _ A4.out).mono ?_);rintro e w' ⟨rfl,⟨nd,rfl⟩⟩;refine ⟨_,rfl,?_⟩))
 go_ret
 exact ⟨by first|rfl|(simp;done)|(simp [*];done),by repeat(first|exact Drawn0.refl _|apply Drawn0.step)⟩
 }
 {
 replace c6:=Bool.eq_false_iff.mpr c6
 subst c6
 have H1:(some (-1))=some r:=by rw [if_neg (show ¬ (false=true) by decide)] at H;exact H
 clear H
 have H:=H1
 clear H1
 obtain rfl:=Option.some.inj H
 go_enter Try.func123,Try.ntmps123
 go_wp2_with (first|((with_reducible refine gate_callee (f:=125) rfl ?_);refine goesL_ (some 8) rfl rfl Try.func125 (by kernel_rfl) rfl #[.int .i64 a0] rfl aX ?_;(with_reducible refine(cmp_isNaN_int.calls a0 true _ A3.out).mono ?_);rintro e w' ⟨rfl,⟨nd,rfl⟩⟩;refine ⟨_,rfl,?_⟩)|((with_reducible refine gate_callee (f:=125) rfl ?_);refine goesL_ (some 10) rfl rfl Try.func125 (by kernel_rfl) rfl #[.int .i64 a1] rfl aX ?_;(with_reducible refine(cmp_isNaN_int.calls a1 false _ A4.out).mono ?_);rintro e w' ⟨rfl,⟨nd,rfl⟩⟩;refine ⟨_,rfl,?_⟩))
 go_ret
 exact ⟨by first|rfl|(simp;done)|(simp [*];done),by repeat(first|exact Drawn0.refl _|apply Drawn0.step)⟩
 }
 }
 {
 replace c5:=Bool.eq_false_iff.mpr c5
 subst c5
 have H1:(if t189=true then (some 1) else (if a0<a1 then (some (-1)) else (if a0 > a1 then (some 1) else (some 0))))=some r:=by rw [if_neg (show ¬ (false=true) by decide)] at H;exact H
 clear H
 have H:=H1
 clear H1
 by_cases c7:t189=true
 {
 subst c7
 have H1:(some 1)=some r:=by rw [if_pos rfl] at H;exact H
 clear H
 have H:=H1
 clear H1
 obtain rfl:=Option.some.inj H
 go_enter Try.func123,Try.ntmps123
 go_wp2_with (first|((with_reducible refine gate_callee (f:=125) rfl ?_);refine goesL_ (some 8) rfl rfl Try.func125 (by kernel_rfl) rfl #[.int .i64 a0] rfl aX ?_;(with_reducible refine(cmp_isNaN_int.calls a0 false _ A3.out).mono ?_);rintro e w' ⟨rfl,⟨nd,rfl⟩⟩;refine ⟨_,rfl,?_⟩)|((with_reducible refine gate_callee (f:=125) rfl ?_);refine goesL_ (some 10) rfl rfl Try.func125 (by kernel_rfl) rfl #[.int .i64 a1] rfl aX ?_;(with_reducible refine(cmp_isNaN_int.calls a1 true _ A4.out).mono ?_);rintro e w' ⟨rfl,⟨nd,rfl⟩⟩;refine ⟨_,rfl,?_⟩))
 go_ret
 exact ⟨by first|rfl|(simp;done)|(simp [*];done),by repeat(first|exact Drawn0.refl _|apply Drawn0.step)⟩
 }
 {
 replace c7:=Bool.eq_false_iff.mpr c7
 subst c7
 have H1:(if a0<a1 then (some (-1)) else (if a0 > a1 then (some 1) else (some 0)))=some r:=by rw [if_neg (show ¬ (false=true) by decide)] at H;exact H
 clear H
 have H:=H1
 clear H1
 by_cases c8:a0<a1
 {
 rw [if_pos c8] at H
 have c8b0:=decide_eq_true c8
 clear c8
 obtain rfl:=Option.some.inj H
 go_enter Try.func123,Try.ntmps123
 go_wp2_with (first|((with_reducible refine gate_callee (f:=125) rfl ?_);refine goesL_ (some 8) rfl rfl Try.func125 (by kernel_rfl) rfl #[.int .i64 a0] rfl aX ?_;(with_reducible refine(cmp_isNaN_int.calls a0 false _ A3.out).mono ?_);rintro e w' ⟨rfl,⟨nd,rfl⟩⟩;refine ⟨_,rfl,?_⟩)|((with_reducible refine gate_callee (f:=125) rfl ?_);refine goesL_ (some 10) rfl rfl Try.func125 (by kernel_rfl) rfl #[.int .i64 a1] rfl aX ?_;(with_reducible refine(cmp_isNaN_int.calls a1 false _ A4.out).mono ?_);rintro e w' ⟨rfl,⟨nd,rfl⟩⟩;refine ⟨_,rfl,?_⟩))
 go_ret
 exact ⟨by first|rfl|(simp;done)|(simp [*];done),by repeat(first|exact Drawn0.refl _|apply Drawn0.step)⟩
 }
 {
 rw [if_neg c8] at H
 have c8b0:=decide_eq_false c8
 clear c8
 by_cases c9:a0 > a1
 {
 rw [if_pos c9] at H
 have c9b0:=decide_eq_true c9
 clear c9
 obtain rfl:=Option.some.inj H
 go_enter Try.func123,Try.ntmps123
 go_wp2_with (first|((with_reducible refine gate_callee (f:=125) rfl ?_);refine goesL_ (some 8) rfl rfl Try.func125 (by kernel_rfl) rfl #[.int .i64 a0] rfl aX ?_;(with_reducible refine(cmp_isNaN_int.calls a0 false _ A3.out).mono ?_);rintro e w' ⟨rfl,⟨nd,rfl⟩⟩;refine ⟨_,rfl,?_⟩)|((with_reducible refine gate_callee (f:=125) rfl ?_);refine goesL_ (some 10) rfl rfl Try.func125 (by kernel_rfl) rfl #[.int .i64 a1] rfl aX ?_;(with_reducible refine(cmp_isNaN_int.calls a1 false _ A4.out).mono ?_);rintro e w' ⟨rfl,⟨nd,rfl⟩⟩;refine ⟨_,rfl,?_⟩))
 go_ret
 exact ⟨by first|rfl|(simp;done)|(simp [*];done),by repeat(first|exact Drawn0.refl _|apply Drawn0.step)⟩
 }
 {
 rw [if_neg c9] at H
 have c9b0:=decide_eq_false c9
 clear c9
 obtain rfl:=Option.some.inj H
 go_enter Try.func123,Try.ntmps123
 go_wp2_with (first|((with_reducible refine gate_callee (f:=125) rfl ?_);refine goesL_ (some 8) rfl rfl Try.func125 (by kernel_rfl) rfl #[.int .i64 a0] rfl aX ?_;(with_reducible refine(cmp_isNaN_int.calls a0 false _ A3.out).mono ?_);rintro e w' ⟨rfl,⟨nd,rfl⟩⟩;refine ⟨_,rfl,?_⟩)|((with_reducible refine gate_callee (f:=125) rfl ?_);refine goesL_ (some 10) rfl rfl Try.func125 (by kernel_rfl) rfl #[.int .i64 a1] rfl aX ?_;(with_reducible refine(cmp_isNaN_int.calls a1 false _ A4.out).mono ?_);rintro e w' ⟨rfl,⟨nd,rfl⟩⟩;refine ⟨_,rfl,?_⟩))
 go_ret
 exact ⟨by first|rfl|(simp;done)|(simp [*];done),by repeat(first|exact Drawn0.refl _|apply Drawn0.step)⟩
 }
 }
 }
 }

/-! ### slices_Compare_int_int: function 108 -/
def slices_Compare_int_int.l0 : Nat→List Int→List Int→List Int→Int→Int→Option (Int)
 | 0,_,_,_,_,_=>none
 | k+1,x0,x1,x9,x10,x11=>if x11<x10 then (if 0≤x11 then (if x11<(x9.length:Int) then (if x11≥(x1.length:Int) then (some 1) else (if x11<(x1.length:Int) then ((cmp_Compare_int.f (rd x9 x11) (rd x1 x11)).bind fun t192=>(if t192=0 then (slices_Compare_int_int.l0 k x0 x1 x9 x10 (wrap64 (x11+1))) else (some t192))) else (none))) else (none)) else (none)) else (if (x0.length:Int)<(x1.length:Int) then (some (-1)) else (some 0))
def slices_Compare_int_int.f (k:Nat) (l0:List Int) (l1:List Int):Option (Int):=slices_Compare_int_int.l0 k l0 l1 l0 (l0.length:Int) 0
theorem slices_Compare_int_int.calls (k:Nat) (A0:Option Addr) (c0:Nat) (l0:List Int) (A1:Option Addr) (c1:Nat) (l1:List Int) (r:Int) (w:World) (hr0:Kd.C (Kd.int .i64) w A0 l0.length l0) (hc0:l0.length≤c0) (hr1:Kd.C (Kd.int .i64) w A1 l1.length l1) (hc1:l1.length≤c1) (h:slices_Compare_int_int.f k l0 l1=some r) :
  Calls Try.prog 108 #[.slice A0 l0.length c0,.slice A1 l1.length c1] w fun e w'=>e = .returned (.int .i64 r)∧Drawn0 w w':=by
 have HR0:=aM hr0
 have HC0:=aM hc0
 clear hr0 hc0
 have HR1:=aM hr1
 have HC1:=aM hc1
 clear hr1 hc1
 have H:(slices_Compare_int_int.l0 k l0 l1 l0 (l0.length:Int) 0)=some r:=h
 clear h
 have H':=aM H
 clear H
 go_enter Try.func108,Try.ntmps108
 go_wp2
 go_loopg [11] k (fun kq v11 w'=>∃ (x11_1:Int),v11 = .int .i64 x11_1∧Aside0 (slices_Compare_int_int.l0 kq l0 l1 l0 (l0.length:Int) x11_1=some r)∧Aside0 (kq≤k)∧Drawn0 w w')
 case atStart=>exact ⟨(0),vX,H',⟨Nat.le_refl _⟩,by repeat(first|exact Drawn0.refl _|apply Drawn0.step)⟩
 case round =>
 clear H'
 try clear c1
 obtain ⟨x11_1,rfl,HA,HK1,⟨m1,rfl⟩⟩:=hrel
 cases gk with
 | zero=>exact absurd HA.out (by simp [slices_Compare_int_int.l0])
 | succ k1 =>
 have H:=HA.out
 clear HA
 simp only [slices_Compare_int_int.l0] at H
 by_cases c3:x11_1<(l0.length:Int)
 {
 rw [if_pos c3] at H
 have c3b0:=decide_eq_true c3
 clear c3
 by_cases c4:0≤x11_1
 {
 rw [if_pos c4] at H
 have c4b0:=decide_eq_true c4
 clear c4
 by_cases c5:x11_1<(l0.length:Int)
 {
 rw [if_pos c5] at H
 have c5b0:=decide_eq_true c5
 clear c5
 by_cases c6:x11_1≥(l1.length:Int)
 {
 rw [if_pos c6] at H
 have c6b0:=decide_eq_true c6
 clear c6
 obtain rfl:=Option.some.inj H
 have p190:0≤(x11_1:Int):=dX
 have q190:x11_1<(l0.length:Int):=dX
 obtain ⟨ad190,e190,hx190_0⟩:=Kd.at_int HR0.out x11_1 p190 q190
 cases e190
 replace p190:=eq_true p190
 replace q190:=eq_true q190
 go_wp2
 go_ret
 exact ⟨by first|rfl|(simp;done)|(simp [*];done),by repeat(first|exact Drawn0.refl _|apply Drawn0.step)⟩
 }
 {
 rw [if_neg c6] at H
 have c6b0:=decide_eq_false c6
 clear c6
 by_cases c7:x11_1<(l1.length:Int)
 {
 rw [if_pos c7] at H
 have c7b0:=decide_eq_true c7
 clear c7
 replace H:=oB H
 obtain ⟨t192,A80,H⟩:=H
 have A8:=aM A80
 clear A80
 by_cases c9:t192=0
 {
 rw [if_pos c9] at H
 have c9b0:(t192 == 0)=true:=beq_iff_eq.mpr c9
 have c9b1:(t192 != 0)=false:=bne_eq_false_iff_eq.mpr c9
 clear c9
 have H':=aM H
 clear H
 have p190:0≤(x11_1:Int):=dX
 have q190:x11_1<(l0.length:Int):=dX
 obtain ⟨ad190,e190,hx190_0⟩:=Kd.at_int HR0.out x11_1 p190 q190
 cases e190
 replace p190:=eq_true p190
 replace q190:=eq_true q190
 have p191:0≤(x11_1:Int):=dX
 have q191:x11_1<(l1.length:Int):=dX
 obtain ⟨ad191,e191,hx191_0⟩:=Kd.at_int HR1.out x11_1 p191 q191
 cases e191
 replace p191:=eq_true p191
 replace q191:=eq_true q191
 go_wp2_with (first|((with_reducible refine gate_callee (f:=123) rfl ?_);refine goesL_ (some 26) rfl rfl Try.func123 (by kernel_rfl) rfl #[.int .i64 (rd l0 x11_1),.int .i64 (rd l1 x11_1)] rfl aX ?_;(with_reducible refine(cmp_Compare_int.calls (rd l0 x11_1) (rd l1 x11_1) t192 _ A8.out).mono ?_);rintro e w' ⟨rfl,⟨nd,rfl⟩⟩;refine ⟨_,rfl,?_⟩))
 go_roundg k1
 case measure=>have:=HK1.out;omega
 case rel=>exact ⟨(wrap64 (x11_1+1)),vX,H',⟨by have:=HK1.out;omega⟩,by repeat(first|exact Drawn0.refl _|apply Drawn0.step)⟩
 }
 {
 rw [if_neg c9] at H
 have c9b0:(t192 == 0)=false:=beq_eq_false_iff_ne.mpr c9
 have c9b1:(t192 != 0)=true:=bne_iff_ne.mpr c9
 obtain rfl:=Option.some.inj H
 have p190:0≤(x11_1:Int):=dX
 have q190:x11_1<(l0.length:Int):=dX
 obtain ⟨ad190,e190,hx190_0⟩:=Kd.at_int HR0.out x11_1 p190 q190
 cases e190
 replace p190:=eq_true p190
 replace q190:=eq_true q190
 have p191:0≤(x11_1:Int):=dX
 have q191:x11_1<(l1.length:Int):=dX
 obtain ⟨ad191,e191,hx191_0⟩:=Kd.at_int HR1.out x11_1 p191 q191
 cases e191
 replace p191:=eq_true p191
 replace q191:=eq_true q191
 go_wp2_with (first|((with_reducible refine gate_callee (f:=123) rfl ?_);refine goesL_ (some 26) rfl rfl Try.func123 (by kernel_rfl) rfl #[.int .i64 (rd l0 x11_1),.int .i64 (rd l1 x11_1)] rfl aX ?_;(with_reducible refine(cmp_Compare_int.calls (rd l0 x11_1) (rd l1 x11_1) t192 _ A8.out).mono ?_);rintro e w' ⟨rfl,⟨nd,rfl⟩⟩;refine ⟨_,rfl,?_⟩))
 go_ret
 exact ⟨by first|rfl|(simp;done)|(simp [*];done),by repeat(first|exact Drawn0.refl _|apply Drawn0.step)⟩
 }
 }
 {
 rw [if_neg c7] at H
 exact absurd H (by simp)
 }
 }
 }
 {
 rw [if_neg c5] at H
 exact absurd H (by simp)
 }
 }
 {
 rw [if_neg c4] at H
 exact absurd H (by simp)
 }
 }
 {
 rw [if_neg c3] at H
 have c3b0:=decide_eq_false c3
 clear c3
 by_cases c10:(l0.length:Int)<(l1.length:Int)
 {
 rw [if_pos c10] at H
 have c10b0:=decide_eq_true c10
 have c10b1:decide (l0.length<l1.length)=true:=decide_eq_true (Int.ofNat_lt.mp c10)
 clear c10
 obtain rfl:=Option.some.inj H
 go_wp2
 go_ret
 exact ⟨by first|rfl|(simp;done)|(simp [*];done),by repeat(first|exact Drawn0.refl _|apply Drawn0.step)⟩
 }
 {
 rw [if_neg c10] at H
 have c10b0:=decide_eq_false c10
 have c10b1:decide (l0.length<l1.length)=false:=decide_eq_false (fun h=>c10 (Int.ofNat_lt.mpr h))
 clear c10
 obtain rfl:=Option.some.inj H
 go_wp2
 go_ret
 exact ⟨by first|rfl|(simp;done)|(simp [*];done),by repeat(first|exact Drawn0.refl _|apply Drawn0.step)⟩
 }
 }

/-! ### impl_compareSurfaces: function 75 -/
def impl_compareSurfaces.f (k:Nat) (l0_0:List Int) (l0_1:List Int) (l1_0:List Int) (l1_1:List Int):Option (Int):=(slices_Compare_int_int.f k l0_0 l1_0).bind fun t195=>(if t195=0 then ((slices_Compare_int_int.f k l0_1 l1_1).bind fun t196=>(some t196)) else (some t195))
theorem impl_compareSurfaces.calls (k:Nat) (A0_0:Option Addr) (c0_0:Nat) (l0_0:List Int) (A0_1:Option Addr) (c0_1:Nat) (l0_1:List Int) (A1_0:Option Addr) (c1_0:Nat) (l1_0:List Int) (A1_1:Option Addr) (c1_1:Nat) (l1_1:List Int) (r:Int) (w:World) (hr0_0:Kd.C (Kd.int .i64) w A0_0 l0_0.length l0_0) (hc0_0:l0_0.length≤c0_0) (hr0_1:Kd.C (Kd.int .i64) w A0_1 l0_1.length l0_1) (hc0_1:l0_1.length≤c0_1) (hr1_0:Kd.C (Kd.int .i64) w A1_0 l1_0.length l1_0) (hc1_0:l1_0.length≤c1_0) (hr1_1:Kd.C (Kd.int .i64) w A1_1 l1_1.length l1_1) (hc1_1:l1_1.length≤c1_1) (h:impl_compareSurfaces.f k l0_0 l0_1 l1_0 l1_1=some r) :
  Calls Try.prog 75 #[.agg #[.slice A0_0 l0_0.length c0_0,.slice A0_1 l0_1.length c0_1],.agg #[.slice A1_0 l1_0.length c1_0,.slice A1_1 l1_1.length c1_1]] w fun e w'=>e = .returned (.int .i64 r)∧Below w.heap.size w w':=by
 have hu27:=Try.underlying27
 have HR0_0:=aM hr0_0
 have HC0_0:=aM hc0_0
 clear hr0_0 hc0_0
 have HR0_1:=aM hr0_1
 have HC0_1:=aM hc0_1
 clear hr0_1 hc0_1
 have HR1_0:=aM hr1_0
 have HC1_0:=aM hc1_0
 clear hr1_0 hc1_0
 have HR1_1:=aM hr1_1
 have HC1_1:=aM hc1_1
 clear hr1_1 hc1_1
 have HB:=aM (Below.refl w.heap.size w)
 have H:((slices_Compare_int_int.f k l0_0 l1_0).bind fun t195=>(if t195=0 then ((slices_Compare_int_int.f k l0_1 l1_1).bind fun t196=>(some t196)) else (some t195)))=some r:=h
 clear h
 replace H:=oB H
 obtain ⟨t195,A30,H⟩:=H
 have A3:=aM A30
 clear A30
 by_cases c4:t195=0
 {
 rw [if_pos c4] at H
 have c4b0:(t195 == 0)=true:=beq_iff_eq.mpr c4
 have c4b1:(t195 != 0)=false:=bne_eq_false_iff_eq.mpr c4
 clear c4
 replace H:=oB H
 obtain ⟨t196,A50,H⟩:=H
 have A5:=aM A50
 clear A50
 obtain rfl:=Option.some.inj H
 go_enter Try.func75,Try.ntmps75
 go_wp2_with (first|((with_reducible refine gate_dst (N:=2) rfl ?_);refine bEv (cs:=#[.slice A0_0 l0_0.length c0_0,.slice A0_1 l0_1.length c0_1]) (t:=27) ?_;intro gb193 hg w6 hbox hb;have BK193:=aM (hbox);have GW193:=aM ((szX (below_size (bX HB.out)) hg:w.heap.size≤gb193));have GE193:=GW193;replace HB:=aM (below_step (bX HB.out) hb);clear hb hbox hg)|((with_reducible refine gate_dst (N:=3) rfl ?_);refine bEv (cs:=#[.slice A1_0 l1_0.length c1_0,.slice A1_1 l1_1.length c1_1]) (t:=27) ?_;intro gb194 hg w7 hbox hb;have BK194:=aM (hbox);have GW194:=aM ((szX (below_size (bX1 HB.out GE193.out)) hg:w.heap.size≤gb194));have GE194:=GW194;replace HB:=aM (below_step (bX1 HB.out GE193.out) hb);have NB193_194:=aM (neX BK193.out hg);have NB194_193:=aM (nfX BK193.out hg);replace BK193:=aM (bbX BK193.out hb);clear hb hbox hg;have hnb8:=NB193_194.out;have hnc8:=NB194_193.out;obtain ⟨hcz9_0,hcz9_1,hfz9_0,hfz9_1⟩:=f2Z BK193.out;have hcz10_0:w7.cell? ⟨gb194,0,none⟩=some (.slice A1_0 l1_0.length c1_0):=(blk_cell BK194.out 0).trans rfl;have hcz10_1:w7.cell? ⟨gb194,1,none⟩=some (.slice A1_1 l1_1.length c1_1):=(blk_cell BK194.out 1).trans rfl;have hfz10_0:=blk_frozen BK194.out 0;have hfz10_1:=blk_frozen BK194.out 1)|((with_reducible refine gate_callee (f:=108) rfl ?_);refine goesL_ (some 10) rfl rfl Try.func108 (by kernel_rfl) rfl #[.slice A0_0 l0_0.length c0_0,.slice A1_0 l1_0.length c1_0] rfl aX ?_;(with_reducible refine(slices_Compare_int_int.calls k _ _ l0_0 _ _ l1_0 t195 _ ?side1 ?side2 ?side3 ?side4 A3.out).mono ?_);(case side1=>exact cX (Kd.C_below HR0_0.out HB.out));(case side2=>exact HC0_0.out);(case side3=>exact cX (Kd.C_below HR1_0.out HB.out));(case side4=>exact HC1_0.out);rintro e w' ⟨rfl,⟨nd,rfl⟩⟩;refine ⟨_,rfl,?_⟩)|((with_reducible refine gate_callee (f:=108) rfl ?_);refine goesL_ (some 18) rfl rfl Try.func108 (by kernel_rfl) rfl #[.slice A0_1 l0_1.length c0_1,.slice A1_1 l1_1.length c1_1] rfl aX ?_;(with_reducible refine(slices_Compare_int_int.calls k _ _ l0_1 _ _ l1_1 t196 _ ?side1 ?side2 ?side3 ?side4 A5.out).mono ?_);(case side1=>exact cX (Kd.C_below HR0_1.out (bX2 HB.out GE193.out GE194.out)));(case side2=>exact HC0_1.out);(case side3=>exact cX (Kd.C_below HR1_1.out (bX2 HB.out GE193.out GE194.out)));(case side4=>exact HC1_1.out);rintro e w' ⟨rfl,⟨nd,rfl⟩⟩;refine ⟨_,rfl,?_⟩))
 go_ret
 exact ⟨eX,bX2 HB.out GE193.out GE194.out⟩
 }
 {
 rw [if_neg c4] at H
 have c4b0:(t195 == 0)=false:=beq_eq_false_iff_ne.mpr c4
 have c4b1:(t195 != 0)=true:=bne_iff_ne.mpr c4
 obtain rfl:=Option.some.inj H
 go_enter Try.func75,Try.ntmps75
 go_wp2_with (first|((with_reducible refine gate_dst (N:=2) rfl ?_);refine bEv (cs:=#[.slice A0_0 l0_0.length c0_0,.slice A0_1 l0_1.length c0_1]) (t:=27) ?_;intro gb193 hg w11 hbox hb;have BK193:=aM (hbox);have GW193:=aM ((szX (below_size (bX HB.out)) hg:w.heap.size≤gb193));have GE193:=GW193;replace HB:=aM (below_step (bX HB.out) hb);clear hb hbox hg)|((with_reducible refine gate_dst (N:=3) rfl ?_);refine bEv (cs:=#[.slice A1_0 l1_0.length c1_0,.slice A1_1 l1_1.length c1_1]) (t:=27) ?_;intro gb194 hg w12 hbox hb;have BK194:=aM (hbox);have GW194:=aM ((szX (below_size (bX1 HB.out GE193.out)) hg:w.heap.size≤gb194));have GE194:=GW194;replace HB:=aM (below_step (bX1 HB.out GE193.out) hb);have NB193_194:=aM (neX BK193.out hg);have NB194_193:=aM (nfX BK193.out hg);replace BK193:=aM (bbX BK193.out hb);clear hb hbox hg;have hnb13:=NB193_194.out;have hnc13:=NB194_193.out;obtain ⟨hcz14_0,hcz14_1,hfz14_0,hfz14_1⟩:=f2Z BK193.out;have hcz15_0:w12.cell? ⟨gb194,0,none⟩=some (.slice A1_0 l1_0.length c1_0):=(blk_cell BK194.out 0).trans rfl;have hcz15_1:w12.cell? ⟨gb194,1,none⟩=some (.slice A1_1 l1_1.length c1_1):=(blk_cell BK194.out 1).trans rfl;have hfz15_0:=blk_frozen BK194.out 0;have hfz15_1:=blk_frozen BK194.out 1)|((with_reducible refine gate_callee (f:=108) rfl ?_);refine goesL_ (some 10) rfl rfl Try.func108 (by kernel_rfl) rfl #[.slice A0_0 l0_0.length c0_0,.slice A1_0 l1_0.length c1_0] rfl aX ?_;(with_reducible refine(slices_Compare_int_int.calls k _ _ l0_0 _ _ l1_0 t195 _ ?side1 ?side2 ?side3 ?side4 A3.out).mono ?_);(case side1=>exact cX (Kd.C_below HR0_0.out HB.out));(case side2=>exact HC0_0.out);(case side3=>exact cX (Kd.C_below HR1_0.out HB.out));(case side4=>exact HC1_0.out);rintro e w' ⟨rfl,⟨nd,rfl⟩⟩;refine ⟨_,rfl,?_⟩))
 go_ret
 exact ⟨eX,bX2 HB.out GE193.out GE194.out⟩
 }

end Go.Proofs.Ytmhjcbcjpidegaa.S
