-- PRINTED by print.py (a twelfth state) out of the translation. Not trusted: Lean checks it.
import Derived.Test.YthhdgeafdnikcaaDoorS0
import Derived.Test.YthhdgeafdnikcaaDoorS3
import Derived.Test.YthhdgeafdnikcaaDoorS5
namespace Go.Proofs.YthhdgeafdnikcaaDoor.S
set_option maxHeartbeats 8000000
set_option maxRecDepth 100000
open Go.RowKit Go.Proofs.YthhdgeafdnikcaaDoorW.PrintWords Go.Proofs.YthhdgeafdnikcaaDoorW.PrintLast Go.Proofs.YthhdgeafdnikcaaDoorW.PrintMore
attribute [local go_sem] max2_int min2_int max_two min_two max_three min_three max_four min_four   -- for this text's walks alone
set_option linter.unusedVariables false
set_option linter.unusedSimpArgs false

/-! ### i_FixedPoints: function 10 -/
mutual
def i_FixedPoints.l0 : Nat→List Int→List Int→List Int→Int→Int→List Int→List Int→Option (List Int × Bool)
 | 0,_,_,_,_,_,_,_=>none
 | k+1,x1,x6,x27,x28,x29,x632000,x632001=>if x29<x28 then (if 0≤x29 then (if x29<(x27.length:Int) then (if (rd x27 x29)=x29 then (if 0<(x6.length:Int) then (i_FixedPoints.j1 k x1 (x6.set (0:Int).toNat (wrap64 ((rd x6 0)+1))) x29 (rd x27 x29) x27 x28 x29 x632000 x632001) else (none)) else (i_FixedPoints.j1 k x1 x6 x29 (rd x27 x29) x27 x28 x29 x632000 x632001)) else (none)) else (none)) else ((i_InversePerm.f k x632000).bind fun t648=>((i_InversePerm.f k x632001).bind fun t651=>(if 0≤(x1.length:Int) then (if ((x1.length:Int):Int).toNat≤35184372088832 then ((i_CornersOf.f k x632000 x632001).bind fun t657=>(i_FixedPoints.l1 k x1 x6 t648 t651 (List.replicate ((x1.length:Int):Int).toNat 0) t657 t657 (t657.length:Int) 0)) else (none)) else (none))))
def i_FixedPoints.j1 : Nat→List Int→List Int→Int→Int→List Int→Int→Int→List Int→List Int→Option (List Int × Bool)
 | 0,_,_,_,_,_,_,_,_,_=>none
 | k+1,x1,x6,x7,x8,x27,x28,x29,x632000,x632001=>if 0≤x7 then (if x7<(x632000.length:Int) then (if x8=(rd x632000 x7) then (if 1<(x6.length:Int) then ((some (x6.set (1:Int).toNat (wrap64 ((rd x6 1)+1)):List Int)).bind fun y641=>(if x7<(x632001.length:Int) then (if x8=(rd x632001 x7) then (if 2<(x6.length:Int) then (i_FixedPoints.l0 k x1 (y641.set (2:Int).toNat (wrap64 ((rd y641 2)+1))) x27 x28 (wrap64 (x29+1)) x632000 x632001) else (none)) else (i_FixedPoints.l0 k x1 y641 x27 x28 (wrap64 (x29+1)) x632000 x632001)) else (none))) else (none)) else (if x7<(x632001.length:Int) then (if x8=(rd x632001 x7) then (if 2<(x6.length:Int) then (i_FixedPoints.l0 k x1 (x6.set (2:Int).toNat (wrap64 ((rd x6 2)+1))) x27 x28 (wrap64 (x29+1)) x632000 x632001) else (none)) else (i_FixedPoints.l0 k x1 x6 x27 x28 (wrap64 (x29+1)) x632000 x632001)) else (none))) else (none)) else (none)
def i_FixedPoints.l1 : Nat→List Int→List Int→List Int→List Int→List Int→List (List Int)→List (List Int)→Int→Int→Option (List Int × Bool)
 | 0,_,_,_,_,_,_,_,_,_=>none
 | k+1,x1,x6,x9,x10,x11,x12,x78,x79,x80=>if x80<x79 then (if 0≤x80 then (if x80<(x78.length:Int) then (i_FixedPoints.l2 k x1 x6 x9 x10 x11 x12 x80 x78 x79 x80 (rd_L2 x78 x80) ((rd_L2 x78 x80).length:Int) 0) else (none)) else (none)) else (i_FixedPoints.l3 k x1 x6 x9 x10 x11 x12 (x12.length:Int) 0)
def i_FixedPoints.l2 : Nat→List Int→List Int→List Int→List Int→List Int→List (List Int)→Int→List (List Int)→Int→Int→List Int→Int→Int→Option (List Int × Bool)
 | 0,_,_,_,_,_,_,_,_,_,_,_,_,_=>none
 | k+1,x1,x6,x9,x10,x11,x12,x13,x78,x79,x80,x85,x86,x87=>if x87<x86 then (if 0≤x87 then (if x87<(x85.length:Int) then (if 0≤(rd x85 x87) then (if (rd x85 x87)<(x11.length:Int) then (i_FixedPoints.l2 k x1 x6 x9 x10 (x11.set ((rd x85 x87):Int).toNat x13) x12 x13 x78 x79 x80 x85 x86 (wrap64 (x87+1))) else (none)) else (none)) else (none)) else (none)) else (i_FixedPoints.l1 k x1 x6 x9 x10 x11 x12 x78 x79 (wrap64 (x80+1)))
def i_FixedPoints.l3 : Nat→List Int→List Int→List Int→List Int→List Int→List (List Int)→Int→Int→Option (List Int × Bool)
 | 0,_,_,_,_,_,_,_,_=>none
 | k+1,x1,x6,x9,x10,x11,x97,x98,x99=>if x99<x98 then (if 0≤x99 then (if x99<(x97.length:Int) then (i_FixedPoints.l4 k x1 x6 x9 x10 x11 x99 true x97 x98 x99 (rd_L2 x97 x99) ((rd_L2 x97 x99).length:Int) 0) else (none)) else (none)) else (some (x6,true))
def i_FixedPoints.l4 : Nat→List Int→List Int→List Int→List Int→List Int→Int→Bool→List (List Int)→Int→Int→List Int→Int→Int→Option (List Int × Bool)
 | 0,_,_,_,_,_,_,_,_,_,_,_,_,_=>none
 | k+1,x1,x6,x9,x10,x11,x17,x19,x97,x98,x99,x104,x105,x106=>if x106<x105 then (if 0≤x106 then (if x106<(x104.length:Int) then (if x19=true then (if 0≤(rd x104 x106) then (if (rd x104 x106)<(x1.length:Int) then (if 0≤(rd x1 (rd x104 x106)) then (if (rd x1 (rd x104 x106))<(x9.length:Int) then (if 0≤(rd x9 (rd x1 (rd x104 x106))) then (if (rd x9 (rd x1 (rd x104 x106)))<(x10.length:Int) then (if 0≤(rd x10 (rd x9 (rd x1 (rd x104 x106)))) then (if (rd x10 (rd x9 (rd x1 (rd x104 x106))))<(x11.length:Int) then (i_FixedPoints.l4 k x1 x6 x9 x10 x11 x17 ((rd x11 (rd x10 (rd x9 (rd x1 (rd x104 x106))))) == x17) x97 x98 x99 x104 x105 (wrap64 (x106+1))) else (none)) else (none)) else (none)) else (none)) else (none)) else (none)) else (none)) else (none)) else (i_FixedPoints.l4 k x1 x6 x9 x10 x11 x17 false x97 x98 x99 x104 x105 (wrap64 (x106+1)))) else (none)) else (none)) else (if x19=true then (if 3<(x6.length:Int) then (i_FixedPoints.l3 k x1 (x6.set (3:Int).toNat (wrap64 ((rd x6 3)+1))) x9 x10 x11 x97 x98 (wrap64 (x99+1))) else (none)) else (i_FixedPoints.l3 k x1 x6 x9 x10 x11 x97 x98 (wrap64 (x99+1))))
end
def i_FixedPoints.f (k:Nat) (l0_0:List Int) (l0_1:List Int) (l1:List Int):Option (List Int × Bool):=(i_IsTurn.f k l0_0 l0_1 l1).bind fun t632=>(if t632=true then (if 4≤35184372088832 then (i_FixedPoints.l0 k l1 (List.replicate 4 0) l1 (l1.length:Int) 0 l0_0 l0_1) else (none)) else (some (([]:List Int),false)))
theorem i_FixedPoints.calls (k:Nat) (A0_0:Option Addr) (c0_0:Nat) (l0_0:List Int) (A0_1:Option Addr) (c0_1:Nat) (l0_1:List Int) (A1:Option Addr) (c1:Nat) (l1:List Int) (r1:List Int) (r2:Bool) (w:World) (hr0_0:Kd.C (Kd.int .i64) w A0_0 l0_0.length l0_0) (hc0_0:l0_0.length≤c0_0) (hr0_1:Kd.C (Kd.int .i64) w A0_1 l0_1.length l0_1) (hc0_1:l0_1.length≤c0_1) (hr1:Kd.C (Kd.int .i64) w A1 l1.length l1) (hc1:l1.length≤c1) (h:i_FixedPoints.f k l0_0 l0_1 l1=some (r1,r2)) :
  Calls Tryd.prog 10 #[.agg #[.slice A0_0 l0_0.length c0_0,.slice A0_1 l0_1.length c0_1],.slice A1 l1.length c1] w fun e w'=>∃ v0_:Value,e = .returned (.tuple #[v0_,.bool r2])∧Kd.R (Kd.int .i64) 3 w' w.heap.size (fun _=>True) v0_ r1∧Below w.heap.size w w':=by
 have hu25:=Tryd.underlying25
 have HR0_0:=aM hr0_0
 have HC0_0:=aM hc0_0
 clear hr0_0 hc0_0
 have HR0_1:=aM hr0_1
 have HC0_1:=aM hc0_1
 clear hr0_1 hc0_1
 have HR1:=aM hr1
 have HC1:=aM hc1
 clear hr1 hc1
 have HB:=aM (Below.refl w.heap.size w)
 have H:((i_IsTurn.f k l0_0 l0_1 l1).bind fun t632=>(if t632=true then (if 4≤35184372088832 then (i_FixedPoints.l0 k l1 (List.replicate 4 0) l1 (l1.length:Int) 0 l0_0 l0_1) else (none)) else (some (([]:List Int),false))))=some (r1,r2):=h
 clear h
 replace H:=oB H
 obtain ⟨t632,A30,H⟩:=H
 have A3:=aM A30
 clear A30
 by_cases c4:t632=true
 {
 subst c4
 have H1:(if 4≤35184372088832 then (i_FixedPoints.l0 k l1 (List.replicate 4 0) l1 (l1.length:Int) 0 l0_0 l0_1) else (none))=some (r1,r2):=by rw [if_pos rfl] at H;exact H
 clear H
 have H:=H1
 clear H1
 by_cases c5:4≤35184372088832
 {
 rw [if_pos c5] at H
 have c5b0:=eq_true c5
 have c5b1:=decide_eq_true c5
 clear c5
 obtain ⟨y633,hy633⟩:∃ y_:List Int,y_=(List.replicate 4 0):=⟨_,rfl⟩
 replace H:(i_FixedPoints.l0 k l1 y633 l1 (l1.length:Int) 0 l0_0 l0_1)=some (r1,r2):=by first|(rw [hy633];with_reducible exact H)|(have H2_:=(Option.bind_some _ _).symm.trans H;rw [hy633];with_reducible exact H2_)|(have H2_:=(Option.bind_some _ _).symm.trans H;with_reducible exact H2_)|with_reducible exact H|(rw [hy633];exact H)|exact H
 have Ny633:=aM hy633
 clear hy633
 have H':=aM H
 clear H
 go_enter Tryd.func10,Tryd.ntmps10
 go_wp2_with (first|((with_reducible refine gate_dst (N:=2) rfl ?_);refine bEv (cs:=#[.slice A0_0 l0_0.length c0_0,.slice A0_1 l0_1.length c0_1]) (t:=25) ?_;intro gb631 hg w6 hbox hb;have BK631:=aM (hbox);have GW631:=aM ((szX (below_size (bX HB.out)) hg:w.heap.size≤gb631));have GE631:=GW631;replace HB:=aM (below_step (bX HB.out) hb);clear hb hbox hg;obtain ⟨hcz7_0,hcz7_1,hfz7_0,hfz7_1⟩:=f2Z BK631.out)|((with_reducible refine gate_callee (f:=13) rfl ?_);refine goesL_ (some 24) rfl rfl Tryd.func13 (by kernel_rfl) rfl #[.agg #[.slice A0_0 l0_0.length c0_0,.slice A0_1 l0_1.length c0_1],.slice A1 l1.length c1] rfl aX ?_;(with_reducible refine(i_IsTurn.calls k _ _ l0_0 _ _ l0_1 _ _ l1 true _ ?side1 ?side2 ?side3 ?side4 ?side5 ?side6 A3.out).mono ?_);(case side1=>exact cX (Kd.C_below HR0_0.out HB.out));(case side2=>exact HC0_0.out);(case side3=>exact cX (Kd.C_below HR0_1.out HB.out));(case side4=>exact HC0_1.out);(case side5=>exact cX (Kd.C_below HR1.out HB.out));(case side6=>exact HC1.out);rintro e w8 ⟨rfl,hb⟩;refine ⟨_,rfl,?_⟩;replace BK631:=aM (bbX BK631.out hb);replace HB:=aM (below_step (bX1 HB.out GE631.out) hb);(try clear hb);(try clear hk))|((with_reducible refine gate_dst (N:=26) rfl ?_);refine Kd.R_make (Kd.int .i64) _ 3 rfl (N:=26) rfl 23 _ _ rfl 4 rfl rfl Tryd.underlying23 (.int .i64 0) 8 info3 rfl (by decide) (by omega) 0 (ok:=fun _=>True) (okp:=fun _=>True) rfl (fun _ hk=>hk) trivial (by omega) (by omega) (Below.refl _ _) (Nat.le_refl _) ?_;intro v634 w9 ho10 hb hg_ hnew_;clear hg_ hnew_;(first|rw [← Ny633.out] at ho10|(simp only [Int.reduceToNat] at ho10;rw [← Ny633.out] at ho10));have HO635:=aM (Kd.R_lower ho10 (below_size (bX1 HB.out GE631.out)));replace BK631:=aM (bbX BK631.out hb);replace HB:=aM (below_step (bX1 HB.out GE631.out) hb);clear hb ho10))
 go_loopg [29] k (fun kq v29 w'=>∃ (x6_1:List Int) (x29_1:Int),v29 = .int .i64 x29_1∧Aside0 (i_FixedPoints.l0 kq l1 x6_1 l1 (l1.length:Int) x29_1 l0_0 l0_1=some (r1,r2))∧Aside0 (kq≤k)∧Aside0 (Kd.R (Kd.int .i64) 3 w' w.heap.size (fun _=>True) v634 x6_1)∧Aside0 (w'.heap[gb631]? = some (.cells #[(.slice A0_0 l0_0.length c0_0),(.slice A0_1 l0_1.length c0_1)] 25 (0,0)))∧Aside0 (Below w.heap.size w w'))
 case atStart=>exact ⟨(y633),(0),vX,H',⟨Nat.le_refl _⟩,⟨rX HO635.out⟩,⟨kX BK631.out⟩,⟨bX1 HB.out GE631.out⟩⟩
 case round =>
 clear H'
 try clear c1
 try clear c4
 try clear c5
 try clear c5b0
 try clear c5b1
 try clear hcz7_0
 try clear hcz7_1
 try clear hfz7_0
 try clear hfz7_1
 obtain ⟨x6_1,x29_1,rfl,HA,HK1,HO_6,BK631,HB⟩:=hrel
 cases gk with
 | zero=>exact absurd HA.out (by simp [i_FixedPoints.l0])
 | succ k1 =>
 have H:=HA.out
 clear HA
 simp only [i_FixedPoints.l0] at H
 by_cases c11:x29_1<(l1.length:Int)
 {
 rw [if_pos c11] at H
 have c11b0:=decide_eq_true c11
 clear c11
 by_cases c12:0≤x29_1
 {
 rw [if_pos c12] at H
 have c12b0:=decide_eq_true c12
 clear c12
 by_cases c13:x29_1<(l1.length:Int)
 {
 rw [if_pos c13] at H
 have c13b0:=decide_eq_true c13
 clear c13
 have HC14:=aM H
 clear H
 have p636:0≤(x29_1:Int):=dX
 have q636:x29_1<(l1.length:Int):=dX
 obtain ⟨ad636,e636,hx636_0⟩:=Kd.at_int HR1.out x29_1 p636 q636
 cases e636
 (try replace hx636_0:=(HB.out.cell (World.block_lt_of_cell? w _ hx636_0)).trans hx636_0)
 replace p636:=eq_true p636
 replace q636:=eq_true q636
 go_upto_if 36 with (fail)
 go_cut [] (fun wc=>∃ (kq:Nat) (x6_13:List Int),Aside0 (i_FixedPoints.j1 kq l1 x6_13 x29_1 (rd l1 x29_1) l1 (l1.length:Int) x29_1 l0_0 l0_1=some (r1,r2))∧Aside0 (kq≤k1)∧Aside0 (Kd.R (Kd.int .i64) 3 wc w.heap.size (fun _=>True) v634 x6_13)∧Aside0 (wc.heap[gb631]? = some (.cells #[(.slice A0_0 l0_0.length c0_0),(.slice A0_1 l0_1.length c0_1)] 25 (0,0)))∧Aside0 (Below w.heap.size w wc))
 case first =>
  have H:=HC14.out
  clear HC14
  by_cases c15:(rd l1 x29_1)=x29_1
  {
  rw [if_pos c15] at H
  have c15b0:((rd l1 x29_1) == x29_1)=true:=beq_iff_eq.mpr c15
  have c15b1:((rd l1 x29_1) != x29_1)=false:=bne_eq_false_iff_eq.mpr c15
  clear c15
  (first|rw [c15b0]|(simp only [i64_w,i32_w];rw [c15b0])|skip)
  by_cases c16:0<(x6_1.length:Int)
  {
  rw [if_pos c16] at H
  have c16b0:=decide_eq_true c16
  have c16b1:decide (0<x6_1.length)=true:=decide_eq_true (by omega)
  clear c16
  obtain ⟨y638,hy638⟩:∃ y_:List Int,y_=(x6_1.set (0:Int).toNat (wrap64 ((rd x6_1 0)+1))):=⟨_,rfl⟩
  replace H:(i_FixedPoints.j1 k1 l1 y638 x29_1 (rd l1 x29_1) l1 (l1.length:Int) x29_1 l0_0 l0_1)=some (r1,r2):=by first|(rw [hy638];with_reducible exact H)|(have H2_:=(Option.bind_some _ _).symm.trans H;rw [hy638];with_reducible exact H2_)|(have H2_:=(Option.bind_some _ _).symm.trans H;with_reducible exact H2_)|with_reducible exact H|(rw [hy638];exact H)|exact H
  have Ny638:=aM hy638
  clear hy638
  have H':=aM H
  clear H
  obtain ⟨Ao18,co18,eo18⟩:=Kd.R_slice HO_6.out
  subst eo18
  have p637:0≤(0:Int):=(by omega)
  have q637:0<(x6_1.length:Int):=dX
  obtain ⟨ad637,e637,hx637_0⟩:=Kd.at_int (Kd.R_reads' HO_6.out).2.2 0 p637 q637
  cases e637
  have qi637:(0<x6_1.length)=True:=eq_true (by omega)
  (try rw [show ((0:Int)).toNat=0 from rfl] at hx637_0)
  (try rw [Addr.add_zero'] at hx637_0)
  replace p637:=eq_true p637
  replace q637:=eq_true q637
  have p17:0≤(0:Int):=(by omega)
  have q17:(0:Int)<((x6_1.length:Int):Int):=dX
  have qi17:(0<x6_1.length)=True:=eq_true (by omega)
  obtain ⟨go17,co17,eo17,gb17,gl17,cl17,HG17⟩:=Kd.R_form HO_6.out (by omega)
  (first|cases eo17|(injection eo17 with ea_ en_ ec_;(first|subst ea_|(injection ea_ with ea_;subst ea_));subst ec_;clear en_))
  have GB17:=aM gb17
  have GG17:=aM HG17
  clear gb17 gl17 HG17
  (first|simp only [add_plain] at hx637_0|skip)
  obtain ⟨hx17_0,hf17_0⟩:=Kd.R_celln 0 HO_6.out (0:Int) p17 q17
  (try rw [show ((0:Int)).toNat=0 from rfl] at hx17_0)
  (try simp only [Nat.reduceMul,Nat.zero_mul,Nat.zero_add,Nat.reduceAdd] at hx17_0)
  (try rw [show ((0:Int)).toNat=0 from rfl] at hf17_0)
  (try simp only [Nat.reduceMul,Nat.zero_mul,Nat.zero_add,Nat.reduceAdd] at hf17_0)
  replace p17:=eq_true p17
  replace q17:=eq_true q17
  have HP19:=Kd.R_putg HO_6.out (0:Int) (wrap64 ((rd x6_1 0)+1))
  go_wp2_with (first|((with_reducible refine gate_store (t:=3) (p:=41) rfl ?_);refine store_event (t:=3) (p:=41) (v:=?vo_w20) (w1:=(wr.setCell ⟨go17,(0:Int).toNat,none⟩ (.int .i64 (wrap64 ((rd x6_1 0)+1))))) ?hg ?ho ?hn ?hr ?_;(case ho=>rfl);(case hg=>rfl);(case hn=>rfl);(case hr=>first|(go_simp;done)|(go_simp;rfl));intro w20 hw;have hg:wr.grownBy w20 (some go17):=(by rw [hw];exact HP19.2);have hp_:Kd.R (Kd.int .i64) 3 w20 w.heap.size (fun _=>True) (.slice (some ⟨go17,0,none⟩) x6_1.length co18) y638:=(by rw [hw,Ny638.out];exact HP19.1);clear HP19;replace BK631:=aM (bgX BK631.out hg (Kd.R_ne HO_6.out BK631.out (by decide)));replace HO_6:=aM (hp_);replace HB:=aM ((by rw [hw];exact below_set (HB.out) GB17.out:Below w.heap.size w w20));clear hg hw hp_))
  go_meet
  case rel=>exact ⟨_,(y638),H',⟨by have:=HK1.out;first|omega|exact Nat.le_refl _⟩,⟨rX HO_6.out⟩,⟨kX BK631.out⟩,⟨bX1 HB.out GE631.out⟩⟩
  }
  {
  rw [if_neg c16] at H
  exact absurd H (by simp)
  }
  }
  {
  rw [if_neg c15] at H
  have c15b0:((rd l1 x29_1) == x29_1)=false:=beq_eq_false_iff_ne.mpr c15
  have c15b1:((rd l1 x29_1) != x29_1)=true:=bne_iff_ne.mpr c15
  (first|rw [c15b0]|(simp only [i64_w,i32_w];rw [c15b0])|skip)
  have H':=aM H
  clear H
  go_wp2
  go_meet
  case rel=>exact ⟨_,(x6_1),H',⟨by have:=HK1.out;first|omega|exact Nat.le_refl _⟩,⟨rX HO_6.out⟩,⟨kX BK631.out⟩,⟨bX1 HB.out GE631.out⟩⟩
  }
 case rest =>
 clear HC14
 try clear c1
 try clear c4
 try clear c5
 try clear c5b0
 try clear c5b1
 try clear c11
 try clear c11b0
 try clear c12
 try clear c12b0
 try clear c13
 try clear c13b0
 try clear c15
 try clear c15b0
 try clear c15b1
 try clear c16
 try clear c16b0
 try clear c16b1
 try clear p17
 try clear q17
 try clear qi17
 try clear hcz7_0
 try clear hcz7_1
 try clear hfz7_0
 try clear hfz7_1
 try clear hx17_0
 try clear hx636_0
 try clear hx637_0
 try clear p17
 try clear p636
 try clear p637
 try clear q17
 try clear q636
 try clear q637
 obtain ⟨kq,x6_13,HA,HJ13,HO_6,BK631,HB⟩:=hcut
 cases kq with
 | zero=>exact absurd HA.out (by simp [i_FixedPoints.j1])
 | succ kj13 =>
 have H:=HA.out
 clear HA
 simp only [i_FixedPoints.j1] at H
 by_cases c21:0≤x29_1
 {
 rw [if_pos c21] at H
 have c21b0:=decide_eq_true c21
 clear c21
 by_cases c22:x29_1<(l0_0.length:Int)
 {
 rw [if_pos c22] at H
 have c22b0:=decide_eq_true c22
 clear c22
 by_cases c23:(rd l1 x29_1)=(rd l0_0 x29_1)
 {
 rw [if_pos c23] at H
 have c23b0:((rd l1 x29_1) == (rd l0_0 x29_1))=true:=beq_iff_eq.mpr c23
 have c23b1:((rd l1 x29_1) != (rd l0_0 x29_1))=false:=bne_eq_false_iff_eq.mpr c23
 clear c23
 by_cases c24:1<(x6_13.length:Int)
 {
 rw [if_pos c24] at H
 have c24b0:=decide_eq_true c24
 have c24b1:decide (1<x6_13.length)=true:=decide_eq_true (by omega)
 clear c24
 obtain ⟨y641,hy641⟩:∃ y_:List Int,y_=(x6_13.set (1:Int).toNat (wrap64 ((rd x6_13 1)+1))):=⟨_,rfl⟩
 replace H:(if x29_1<(l0_1.length:Int) then (if (rd l1 x29_1)=(rd l0_1 x29_1) then (if 2<(x6_13.length:Int) then (i_FixedPoints.l0 kj13 l1 (y641.set (2:Int).toNat (wrap64 ((rd y641 2)+1))) l1 (l1.length:Int) (wrap64 (x29_1+1)) l0_0 l0_1) else (none)) else (i_FixedPoints.l0 kj13 l1 y641 l1 (l1.length:Int) (wrap64 (x29_1+1)) l0_0 l0_1)) else (none))=some (r1,r2):=by first|(rw [hy641];with_reducible exact H)|(have H2_:=(Option.bind_some _ _).symm.trans H;rw [hy641];with_reducible exact H2_)|(have H2_:=(Option.bind_some _ _).symm.trans H;with_reducible exact H2_)|with_reducible exact H|(rw [hy641];exact H)|exact H
 have Ny641:=aM hy641
 clear hy641
 by_cases c26:x29_1<(l0_1.length:Int)
 {
 rw [if_pos c26] at H
 have c26b0:=decide_eq_true c26
 clear c26
 by_cases c27:(rd l1 x29_1)=(rd l0_1 x29_1)
 {
 rw [if_pos c27] at H
 have c27b0:((rd l1 x29_1) == (rd l0_1 x29_1))=true:=beq_iff_eq.mpr c27
 have c27b1:((rd l1 x29_1) != (rd l0_1 x29_1))=false:=bne_eq_false_iff_eq.mpr c27
 clear c27
 by_cases c28:2<(x6_13.length:Int)
 {
 rw [if_pos c28] at H
 have c28b0:=decide_eq_true c28
 have c28b1:decide (2<x6_13.length)=true:=decide_eq_true (by omega)
 clear c28
 obtain ⟨y644,hy644⟩:∃ y_:List Int,y_=(y641.set (2:Int).toNat (wrap64 ((rd y641 2)+1))):=⟨_,rfl⟩
 replace H:(i_FixedPoints.l0 kj13 l1 y644 l1 (l1.length:Int) (wrap64 (x29_1+1)) l0_0 l0_1)=some (r1,r2):=by first|(rw [hy644];with_reducible exact H)|(have H2_:=(Option.bind_some _ _).symm.trans H;rw [hy644];with_reducible exact H2_)|(have H2_:=(Option.bind_some _ _).symm.trans H;with_reducible exact H2_)|with_reducible exact H|(rw [hy644];exact H)|exact H
 have Ny644:=aM hy644
 clear hy644
 have H':=aM H
 clear H
 obtain ⟨hcz30_0,hcz30_1,hfz30_0,hfz30_1⟩:=f2Z BK631.out
 have p639:0≤(x29_1:Int):=dX
 have q639:x29_1<(l0_0.length:Int):=dX
 obtain ⟨ad639,e639,hx639_0⟩:=Kd.at_int HR0_0.out x29_1 p639 q639
 cases e639
 (try replace hx639_0:=(HB.out.cell (World.block_lt_of_cell? w _ hx639_0)).trans hx639_0)
 replace p639:=eq_true p639
 replace q639:=eq_true q639
 obtain ⟨Ao31,co31,eo31⟩:=Kd.R_slice HO_6.out
 subst eo31
 have p640:0≤(1:Int):=(by omega)
 have q640:1<(x6_13.length:Int):=dX
 obtain ⟨ad640,e640,hx640_0⟩:=Kd.at_int (Kd.R_reads' HO_6.out).2.2 1 p640 q640
 cases e640
 (try simp only [show (1:Int).toNat=1 from rfl,Nat.reduceMul,Nat.reduceEqDiff,Go.Addr.add,↓reduceIte] at hx640_0)
 have qi640:(1<x6_13.length)=True:=eq_true (by omega)
 (try rw [show ((1:Int)).toNat=1 from rfl] at hx640_0)
 replace p640:=eq_true p640
 replace q640:=eq_true q640
 have p25:0≤(1:Int):=(by omega)
 have q25:(1:Int)<((x6_13.length:Int):Int):=dX
 have qi25:(1<x6_13.length)=True:=eq_true (by omega)
 obtain ⟨go25,co25,eo25,gb25,gl25,cl25,HG25⟩:=Kd.R_form HO_6.out (by omega)
 (first|cases eo25|(injection eo25 with ea_ en_ ec_;(first|subst ea_|(injection ea_ with ea_;subst ea_));subst ec_;clear en_))
 have GB25:=aM gb25
 have GG25:=aM HG25
 clear gb25 gl25 HG25
 (first|simp only [add_plain] at hx640_0|skip)
 obtain ⟨hx25_0,hf25_0⟩:=Kd.R_celln 0 HO_6.out (1:Int) p25 q25
 (try rw [show ((1:Int)).toNat=1 from rfl] at hx25_0)
 (try simp only [Nat.reduceMul,Nat.zero_mul,Nat.zero_add,Nat.reduceAdd] at hx25_0)
 (try rw [show ((1:Int)).toNat=1 from rfl] at hf25_0)
 (try simp only [Nat.reduceMul,Nat.zero_mul,Nat.zero_add,Nat.reduceAdd] at hf25_0)
 replace p25:=eq_true p25
 replace q25:=eq_true q25
 have HP32:=Kd.R_putg HO_6.out (1:Int) (wrap64 ((rd x6_13 1)+1))
 go_wp2_with (first|((with_reducible refine gate_store (t:=3) (p:=53) rfl ?_);refine store_event (t:=3) (p:=53) (v:=?vo_w33) (w1:=(wc.setCell ⟨go25,(1:Int).toNat,none⟩ (.int .i64 (wrap64 ((rd x6_13 1)+1))))) ?hg ?ho ?hn ?hr ?_;(case ho=>rfl);(case hg=>rfl);(case hn=>rfl);(case hr=>first|(go_simp;done)|(go_simp;rfl));intro w33 hw;have hg:wc.grownBy w33 (some go25):=(by rw [hw];exact HP32.2);have hp_:Kd.R (Kd.int .i64) 3 w33 w.heap.size (fun _=>True) (.slice (some ⟨go25,0,none⟩) x6_13.length co31) y641:=(by rw [hw,Ny641.out];exact HP32.1);clear HP32;replace BK631:=aM (bgX BK631.out hg (Kd.R_ne HO_6.out BK631.out (by decide)));replace HO_6:=aM (hp_);replace HB:=aM ((by rw [hw];exact below_set (HB.out) GB25.out:Below w.heap.size w w33));clear hg hw hp_;obtain ⟨hcz34_0,hcz34_1,hfz34_0,hfz34_1⟩:=f2Z BK631.out;have p642:0≤(x29_1:Int):=dX;have q642:x29_1<(l0_1.length:Int):=dX;obtain ⟨ad642,e642,hx642_0⟩:=Kd.at_int HR0_1.out x29_1 p642 q642;cases e642;replace hx642_0:=(HB.out.cell (World.block_lt_of_cell? w _ hx642_0)).trans hx642_0;replace p642:=eq_true p642;replace q642:=eq_true q642;have p643:0≤(2:Int):=(by omega);have q643:2<(y641.length:Int):=(by have h_:(2:Int)<((x6_13.length:Int):Int):=dX;first|(have e_:=(Kd.R_reads' HO_6.out).1;omega)|simpa only [Ny641.out,List.length_set] using h_);have ql643:((2:Int)<((x6_13.length:Int):Int))=True:=eq_true (dX);(try have qn643:(2<x6_13.length)=True:=eq_true (by have h_:(2:Int)<((x6_13.length:Int):Int):=dX;omega));obtain ⟨ad643,e643,hx643_0⟩:=Kd.at_int (Kd.R_reads' HO_6.out).2.2 2 p643 q643;obtain rfl:(⟨go25,0,none⟩:Addr)=ad643:=(by injection e643);(first|simp only [add_plain] at hx643_0|simp only [add_at] at hx643_0|simp only [Addr.add,Nat.zero_add] at hx643_0|skip);have qi643:(2<y641.length)=True:=eq_true (by omega);(try rw [show ((2:Int)).toNat=2 from rfl] at hx643_0);replace p643:=eq_true p643;replace q643:=eq_true q643;have p29:0≤(2:Int):=(by omega);have q29:(2:Int)<((x6_13.length:Int):Int):=dX;have qi29:(2<x6_13.length)=True:=eq_true (by omega);obtain ⟨hx29_0,hf29_0⟩:=Kd.R_celln 0 HO_6.out (2:Int) p29 q29;(try rw [show ((2:Int)).toNat=2 from rfl] at hx29_0);(try simp only [Nat.reduceMul,Nat.zero_mul,Nat.zero_add,Nat.reduceAdd] at hx29_0);(try rw [show ((2:Int)).toNat=2 from rfl] at hf29_0);(try simp only [Nat.reduceMul,Nat.zero_mul,Nat.zero_add,Nat.reduceAdd] at hf29_0);replace p29:=eq_true p29;replace q29:=eq_true q29;obtain ⟨hy35_,hz35_⟩:=Kd.R_celln 0 HO_6.out (2:Int) (by omega) (dX);(try simp only [Int.reduceToNat,Int.toNat_zero,Int.toNat_ofNat,Nat.reduceMul,Nat.zero_mul,Nat.zero_add] at hy35_ hz35_);(try rw [show ((2:Int)).toNat=2 from rfl] at hy35_);(try rw [show ((2:Int)).toNat=2 from rfl] at hz35_);have HP35:=Kd.R_putg HO_6.out (2:Int) (wrap64 ((rd y641 2)+1)))|((with_reducible refine gate_store (t:=3) (p:=65) rfl ?_);refine store_event (t:=3) (p:=65) (v:=?vo_w36) (w1:=(w33.setCell ⟨go25,(2:Int).toNat,none⟩ (.int .i64 (wrap64 ((rd y641 2)+1))))) ?hg ?ho ?hn ?hr ?_;(case ho=>rfl);(case hg=>rfl);(case hn=>rfl);(case hr=>first|(go_simp;done)|(go_simp;rfl));intro w36 hw;have hg:w33.grownBy w36 (some go25):=(by rw [hw];exact HP35.2);have hp_:Kd.R (Kd.int .i64) 3 w36 w.heap.size (fun _=>True) (.slice (some ⟨go25,0,none⟩) x6_13.length co31) y644:=(by rw [hw,Ny644.out];exact HP35.1);clear HP35;replace BK631:=aM (bgX BK631.out hg (Kd.R_ne HO_6.out BK631.out (by decide)));replace HO_6:=aM (hp_);replace HB:=aM ((by rw [hw];exact below_set (HB.out) GB25.out:Below w.heap.size w w36));clear hg hw hp_))
 go_roundg kj13
 case measure=>have:=HK1.out;have:=HJ13.out;omega
 case rel=>exact ⟨(y644),(wrap64 (x29_1+1)),vX,H',⟨by have:=HK1.out;have:=HJ13.out;omega⟩,⟨rX HO_6.out⟩,⟨kX BK631.out⟩,⟨bX1 HB.out GE631.out⟩⟩
 }
 {
 rw [if_neg c28] at H
 exact absurd H (by simp)
 }
 }
 {
 rw [if_neg c27] at H
 have c27b0:((rd l1 x29_1) == (rd l0_1 x29_1))=false:=beq_eq_false_iff_ne.mpr c27
 have c27b1:((rd l1 x29_1) != (rd l0_1 x29_1))=true:=bne_iff_ne.mpr c27
 have H':=aM H
 clear H
 obtain ⟨hcz37_0,hcz37_1,hfz37_0,hfz37_1⟩:=f2Z BK631.out
 have p639:0≤(x29_1:Int):=dX
 have q639:x29_1<(l0_0.length:Int):=dX
 obtain ⟨ad639,e639,hx639_0⟩:=Kd.at_int HR0_0.out x29_1 p639 q639
 cases e639
 (try replace hx639_0:=(HB.out.cell (World.block_lt_of_cell? w _ hx639_0)).trans hx639_0)
 replace p639:=eq_true p639
 replace q639:=eq_true q639
 obtain ⟨Ao38,co38,eo38⟩:=Kd.R_slice HO_6.out
 subst eo38
 have p640:0≤(1:Int):=(by omega)
 have q640:1<(x6_13.length:Int):=dX
 obtain ⟨ad640,e640,hx640_0⟩:=Kd.at_int (Kd.R_reads' HO_6.out).2.2 1 p640 q640
 cases e640
 (try simp only [show (1:Int).toNat=1 from rfl,Nat.reduceMul,Nat.reduceEqDiff,Go.Addr.add,↓reduceIte] at hx640_0)
 have qi640:(1<x6_13.length)=True:=eq_true (by omega)
 (try rw [show ((1:Int)).toNat=1 from rfl] at hx640_0)
 replace p640:=eq_true p640
 replace q640:=eq_true q640
 have p25:0≤(1:Int):=(by omega)
 have q25:(1:Int)<((x6_13.length:Int):Int):=dX
 have qi25:(1<x6_13.length)=True:=eq_true (by omega)
 obtain ⟨go25,co25,eo25,gb25,gl25,cl25,HG25⟩:=Kd.R_form HO_6.out (by omega)
 (first|cases eo25|(injection eo25 with ea_ en_ ec_;(first|subst ea_|(injection ea_ with ea_;subst ea_));subst ec_;clear en_))
 have GB25:=aM gb25
 have GG25:=aM HG25
 clear gb25 gl25 HG25
 (first|simp only [add_plain] at hx640_0|skip)
 obtain ⟨hx25_0,hf25_0⟩:=Kd.R_celln 0 HO_6.out (1:Int) p25 q25
 (try rw [show ((1:Int)).toNat=1 from rfl] at hx25_0)
 (try simp only [Nat.reduceMul,Nat.zero_mul,Nat.zero_add,Nat.reduceAdd] at hx25_0)
 (try rw [show ((1:Int)).toNat=1 from rfl] at hf25_0)
 (try simp only [Nat.reduceMul,Nat.zero_mul,Nat.zero_add,Nat.reduceAdd] at hf25_0)
 replace p25:=eq_true p25
 replace q25:=eq_true q25
 have HP39:=Kd.R_putg HO_6.out (1:Int) (wrap64 ((rd x6_13 1)+1))
 go_wp2_with (first|((with_reducible refine gate_store (t:=3) (p:=53) rfl ?_);refine store_event (t:=3) (p:=53) (v:=?vo_w40) (w1:=(wc.setCell ⟨go25,(1:Int).toNat,none⟩ (.int .i64 (wrap64 ((rd x6_13 1)+1))))) ?hg ?ho ?hn ?hr ?_;(case ho=>rfl);(case hg=>rfl);(case hn=>rfl);(case hr=>first|(go_simp;done)|(go_simp;rfl));intro w40 hw;have hg:wc.grownBy w40 (some go25):=(by rw [hw];exact HP39.2);have hp_:Kd.R (Kd.int .i64) 3 w40 w.heap.size (fun _=>True) (.slice (some ⟨go25,0,none⟩) x6_13.length co38) y641:=(by rw [hw,Ny641.out];exact HP39.1);clear HP39;replace BK631:=aM (bgX BK631.out hg (Kd.R_ne HO_6.out BK631.out (by decide)));replace HO_6:=aM (hp_);replace HB:=aM ((by rw [hw];exact below_set (HB.out) GB25.out:Below w.heap.size w w40));clear hg hw hp_;obtain ⟨hcz41_0,hcz41_1,hfz41_0,hfz41_1⟩:=f2Z BK631.out;have p642:0≤(x29_1:Int):=dX;have q642:x29_1<(l0_1.length:Int):=dX;obtain ⟨ad642,e642,hx642_0⟩:=Kd.at_int HR0_1.out x29_1 p642 q642;cases e642;replace hx642_0:=(HB.out.cell (World.block_lt_of_cell? w _ hx642_0)).trans hx642_0;replace p642:=eq_true p642;replace q642:=eq_true q642))
 go_roundg kj13
 case measure=>have:=HK1.out;have:=HJ13.out;omega
 case rel=>exact ⟨(y641),(wrap64 (x29_1+1)),vX,H',⟨by have:=HK1.out;have:=HJ13.out;omega⟩,⟨rX HO_6.out⟩,⟨kX BK631.out⟩,⟨bX1 HB.out GE631.out⟩⟩
 }
 }
 {
 rw [if_neg c26] at H
 exact absurd H (by simp)
 }
 }
 {
 rw [if_neg c24] at H
 exact absurd H (by simp)
 }
 }
 {
 rw [if_neg c23] at H
 have c23b0:((rd l1 x29_1) == (rd l0_0 x29_1))=false:=beq_eq_false_iff_ne.mpr c23
 have c23b1:((rd l1 x29_1) != (rd l0_0 x29_1))=true:=bne_iff_ne.mpr c23
 by_cases c42:x29_1<(l0_1.length:Int)
 {
 rw [if_pos c42] at H
 have c42b0:=decide_eq_true c42
 clear c42
 by_cases c43:(rd l1 x29_1)=(rd l0_1 x29_1)
 {
 rw [if_pos c43] at H
 have c43b0:((rd l1 x29_1) == (rd l0_1 x29_1))=true:=beq_iff_eq.mpr c43
 have c43b1:((rd l1 x29_1) != (rd l0_1 x29_1))=false:=bne_eq_false_iff_eq.mpr c43
 clear c43
 by_cases c44:2<(x6_13.length:Int)
 {
 rw [if_pos c44] at H
 have c44b0:=decide_eq_true c44
 have c44b1:decide (2<x6_13.length)=true:=decide_eq_true (by omega)
 clear c44
 obtain ⟨y647,hy647⟩:∃ y_:List Int,y_=(x6_13.set (2:Int).toNat (wrap64 ((rd x6_13 2)+1))):=⟨_,rfl⟩
 replace H:(i_FixedPoints.l0 kj13 l1 y647 l1 (l1.length:Int) (wrap64 (x29_1+1)) l0_0 l0_1)=some (r1,r2):=by first|(rw [hy647];with_reducible exact H)|(have H2_:=(Option.bind_some _ _).symm.trans H;rw [hy647];with_reducible exact H2_)|(have H2_:=(Option.bind_some _ _).symm.trans H;with_reducible exact H2_)|with_reducible exact H|(rw [hy647];exact H)|exact H
 have Ny647:=aM hy647
 clear hy647
 have H':=aM H
 clear H
 obtain ⟨hcz46_0,hcz46_1,hfz46_0,hfz46_1⟩:=f2Z BK631.out
 have p639:0≤(x29_1:Int):=dX
 have q639:x29_1<(l0_0.length:Int):=dX
 obtain ⟨ad639,e639,hx639_0⟩:=Kd.at_int HR0_0.out x29_1 p639 q639
 cases e639
 (try replace hx639_0:=(HB.out.cell (World.block_lt_of_cell? w _ hx639_0)).trans hx639_0)
 replace p639:=eq_true p639
 replace q639:=eq_true q639
 have p645:0≤(x29_1:Int):=dX
 have q645:x29_1<(l0_1.length:Int):=dX
 obtain ⟨ad645,e645,hx645_0⟩:=Kd.at_int HR0_1.out x29_1 p645 q645
 cases e645
 (try replace hx645_0:=(HB.out.cell (World.block_lt_of_cell? w _ hx645_0)).trans hx645_0)
 replace p645:=eq_true p645
 replace q645:=eq_true q645
 obtain ⟨Ao47,co47,eo47⟩:=Kd.R_slice HO_6.out
 subst eo47
 have p646:0≤(2:Int):=(by omega)
 have q646:2<(x6_13.length:Int):=dX
 obtain ⟨ad646,e646,hx646_0⟩:=Kd.at_int (Kd.R_reads' HO_6.out).2.2 2 p646 q646
 cases e646
 (try simp only [show (2:Int).toNat=2 from rfl,Nat.reduceMul,Nat.reduceEqDiff,Go.Addr.add,↓reduceIte] at hx646_0)
 have qi646:(2<x6_13.length)=True:=eq_true (by omega)
 (try rw [show ((2:Int)).toNat=2 from rfl] at hx646_0)
 replace p646:=eq_true p646
 replace q646:=eq_true q646
 have p45:0≤(2:Int):=(by omega)
 have q45:(2:Int)<((x6_13.length:Int):Int):=dX
 have qi45:(2<x6_13.length)=True:=eq_true (by omega)
 obtain ⟨go45,co45,eo45,gb45,gl45,cl45,HG45⟩:=Kd.R_form HO_6.out (by omega)
 (first|cases eo45|(injection eo45 with ea_ en_ ec_;(first|subst ea_|(injection ea_ with ea_;subst ea_));subst ec_;clear en_))
 have GB45:=aM gb45
 have GG45:=aM HG45
 clear gb45 gl45 HG45
 (first|simp only [add_plain] at hx646_0|skip)
 obtain ⟨hx45_0,hf45_0⟩:=Kd.R_celln 0 HO_6.out (2:Int) p45 q45
 (try rw [show ((2:Int)).toNat=2 from rfl] at hx45_0)
 (try simp only [Nat.reduceMul,Nat.zero_mul,Nat.zero_add,Nat.reduceAdd] at hx45_0)
 (try rw [show ((2:Int)).toNat=2 from rfl] at hf45_0)
 (try simp only [Nat.reduceMul,Nat.zero_mul,Nat.zero_add,Nat.reduceAdd] at hf45_0)
 replace p45:=eq_true p45
 replace q45:=eq_true q45
 have HP48:=Kd.R_putg HO_6.out (2:Int) (wrap64 ((rd x6_13 2)+1))
 go_wp2_with (first|((with_reducible refine gate_store (t:=3) (p:=65) rfl ?_);refine store_event (t:=3) (p:=65) (v:=?vo_w49) (w1:=(wc.setCell ⟨go45,(2:Int).toNat,none⟩ (.int .i64 (wrap64 ((rd x6_13 2)+1))))) ?hg ?ho ?hn ?hr ?_;(case ho=>rfl);(case hg=>rfl);(case hn=>rfl);(case hr=>first|(go_simp;done)|(go_simp;rfl));intro w49 hw;have hg:wc.grownBy w49 (some go45):=(by rw [hw];exact HP48.2);have hp_:Kd.R (Kd.int .i64) 3 w49 w.heap.size (fun _=>True) (.slice (some ⟨go45,0,none⟩) x6_13.length co47) y647:=(by rw [hw,Ny647.out];exact HP48.1);clear HP48;replace BK631:=aM (bgX BK631.out hg (Kd.R_ne HO_6.out BK631.out (by decide)));replace HO_6:=aM (hp_);replace HB:=aM ((by rw [hw];exact below_set (HB.out) GB45.out:Below w.heap.size w w49));clear hg hw hp_))
 go_roundg kj13
 case measure=>have:=HK1.out;have:=HJ13.out;omega
 case rel=>exact ⟨(y647),(wrap64 (x29_1+1)),vX,H',⟨by have:=HK1.out;have:=HJ13.out;omega⟩,⟨rX HO_6.out⟩,⟨kX BK631.out⟩,⟨bX1 HB.out GE631.out⟩⟩
 }
 {
 rw [if_neg c44] at H
 exact absurd H (by simp)
 }
 }
 {
 rw [if_neg c43] at H
 have c43b0:((rd l1 x29_1) == (rd l0_1 x29_1))=false:=beq_eq_false_iff_ne.mpr c43
 have c43b1:((rd l1 x29_1) != (rd l0_1 x29_1))=true:=bne_iff_ne.mpr c43
 have H':=aM H
 clear H
 obtain ⟨hcz50_0,hcz50_1,hfz50_0,hfz50_1⟩:=f2Z BK631.out
 have p639:0≤(x29_1:Int):=dX
 have q639:x29_1<(l0_0.length:Int):=dX
 obtain ⟨ad639,e639,hx639_0⟩:=Kd.at_int HR0_0.out x29_1 p639 q639
 cases e639
 (try replace hx639_0:=(HB.out.cell (World.block_lt_of_cell? w _ hx639_0)).trans hx639_0)
 replace p639:=eq_true p639
 replace q639:=eq_true q639
 have p645:0≤(x29_1:Int):=dX
 have q645:x29_1<(l0_1.length:Int):=dX
 obtain ⟨ad645,e645,hx645_0⟩:=Kd.at_int HR0_1.out x29_1 p645 q645
 cases e645
 (try replace hx645_0:=(HB.out.cell (World.block_lt_of_cell? w _ hx645_0)).trans hx645_0)
 replace p645:=eq_true p645
 replace q645:=eq_true q645
 go_wp2
 go_roundg kj13
 case measure=>have:=HK1.out;have:=HJ13.out;omega
 case rel=>exact ⟨(x6_13),(wrap64 (x29_1+1)),vX,H',⟨by have:=HK1.out;have:=HJ13.out;omega⟩,⟨rX HO_6.out⟩,⟨kX BK631.out⟩,⟨bX1 HB.out GE631.out⟩⟩
 }
 }
 {
 rw [if_neg c42] at H
 exact absurd H (by simp)
 }
 }
 }
 {
 rw [if_neg c22] at H
 exact absurd H (by simp)
 }
 }
 {
 rw [if_neg c21] at H
 exact absurd H (by simp)
 }
 }
 {
 rw [if_neg c13] at H
 exact absurd H (by simp)
 }
 }
 {
 rw [if_neg c12] at H
 exact absurd H (by simp)
 }
 }
 {
 rw [if_neg c11] at H
 have c11b0:=decide_eq_false c11
 clear c11
 replace H:=oB H
 obtain ⟨t648,A510,H⟩:=H
 have A51:=aM A510
 clear A510
 replace H:=oB H
 obtain ⟨t651,A520,H⟩:=H
 have A52:=aM A520
 clear A520
 by_cases c53:0≤(l1.length:Int)
 {
 rw [if_pos c53] at H
 have c53b0:=eq_true c53
 have c53b1:=decide_eq_true c53
 clear c53
 by_cases c54:((l1.length:Int):Int).toNat≤35184372088832
 {
 rw [if_pos c54] at H
 have c54b0:=eq_true c54
 have c54b1:=decide_eq_true c54
 clear c54
 obtain ⟨y654,hy654⟩:∃ y_:List Int,y_=(List.replicate ((l1.length:Int):Int).toNat 0):=⟨_,rfl⟩
 replace H:((i_CornersOf.f k1 l0_0 l0_1).bind fun t657=>(i_FixedPoints.l1 k1 l1 x6_1 t648 t651 y654 t657 t657 (t657.length:Int) 0))=some (r1,r2):=by first|(rw [hy654];with_reducible exact H)|(have H2_:=(Option.bind_some _ _).symm.trans H;rw [hy654];with_reducible exact H2_)|(have H2_:=(Option.bind_some _ _).symm.trans H;with_reducible exact H2_)|with_reducible exact H|(rw [hy654];exact H)|exact H
 have Ny654:=aM hy654
 clear hy654
 replace H:=oB H
 obtain ⟨t657,A550,H⟩:=H
 have A55:=aM A550
 clear A550
 have H':=aM H
 clear H
 obtain ⟨hcz56_0,hcz56_1,hfz56_0,hfz56_1⟩:=f2Z BK631.out
 go_wp2_with (first|((with_reducible refine gate_callee (f:=30) rfl ?_);refine goesL_ (some 69) rfl rfl Tryd.func30 (by kernel_rfl) rfl #[.slice A0_0 l0_0.length c0_0] rfl aX ?_;(with_reducible refine(i_InversePerm.calls k1 _ _ l0_0 t648 _ ?side1 ?side2 A51.out).mono ?_);(case side1=>exact cX (Kd.C_below HR0_0.out HB.out));(case side2=>exact HC0_0.out);rintro e w57 ⟨v649,rfl,ho0,hb⟩;refine ⟨_,rfl,?_⟩;have HO650:=aM (Kd.R_lower (Kd.R_new' ho0 (Kd.R_lt (rX HO_6.out))) (below_size (bX1 HB.out GE631.out)));replace HO_6:=aM (Kd.R_elder' (rX HO_6.out) (Kd.R_base ho0) hb);replace BK631:=aM (bbX BK631.out hb);replace HB:=aM (below_step (bX1 HB.out GE631.out) hb);(try clear hb);(try clear hk);(try clear ho0);obtain ⟨hcz58_0,hcz58_1,hfz58_0,hfz58_1⟩:=f2Z BK631.out)|((with_reducible refine gate_callee (f:=30) rfl ?_);refine goesL_ (some 72) rfl rfl Tryd.func30 (by kernel_rfl) rfl #[.slice A0_1 l0_1.length c0_1] rfl aX ?_;(with_reducible refine(i_InversePerm.calls k1 _ _ l0_1 t651 _ ?side1 ?side2 A52.out).mono ?_);(case side1=>exact cX (Kd.C_below HR0_1.out HB.out));(case side2=>exact HC0_1.out);rintro e w59 ⟨v652,rfl,ho0,hb⟩;refine ⟨_,rfl,?_⟩;have HO653:=aM (Kd.R_lower (Kd.R_new' (Kd.R_new' ho0 (Kd.R_lt (rX HO_6.out))) (Kd.R_lt (rX HO650.out))) (below_size (bX1 HB.out GE631.out)));replace HO_6:=aM (Kd.R_elder' (rX HO_6.out) (Kd.R_base ho0) hb);replace HO650:=aM (Kd.R_elder' (rX HO650.out) (Kd.R_base ho0) hb);replace BK631:=aM (bbX BK631.out hb);replace HB:=aM (below_step (bX1 HB.out GE631.out) hb);(try clear hb);(try clear hk);(try clear ho0))|((with_reducible refine gate_dst (N:=75) rfl ?_);refine Kd.R_make (Kd.int .i64) _ 3 rfl (N:=75) rfl 23 _ _ rfl (l1.length:Int) rfl rfl Tryd.underlying23 (.int .i64 0) 8 info3 rfl (by decide) (by omega) 0 (ok:=fun _=>True) (okp:=fun _=>True) rfl (fun _ hk=>hk) trivial (dX) (Nat.le_trans (Nat.mul_le_mul_right _ (dX:(l1.length:Int).toNat≤35184372088832)) (by omega)) (Below.refl _ _) (Nat.le_refl _) ?_;intro v655 w60 ho61 hb hg_ hnew_;clear hg_ hnew_;(first|rw [← Ny654.out] at ho61|(simp only [Int.reduceToNat] at ho61;rw [← Ny654.out] at ho61));have HO656:=aM (Kd.R_lower (Kd.R_new' (Kd.R_new' (Kd.R_new' ho61 (Kd.R_lt (rX HO_6.out))) (Kd.R_lt (rX HO650.out))) (Kd.R_lt (rX HO653.out))) (below_size (bX1 HB.out GE631.out)));replace HO_6:=aM (Kd.R_elder' (rX HO_6.out) (Kd.R_base ho61) hb);replace HO650:=aM (Kd.R_elder' (rX HO650.out) (Kd.R_base ho61) hb);replace HO653:=aM (Kd.R_elder' (rX HO653.out) (Kd.R_base ho61) hb);replace BK631:=aM (bbX BK631.out hb);replace HB:=aM (below_step (bX1 HB.out GE631.out) hb);clear hb ho61;obtain ⟨hcz62_0,hcz62_1,hfz62_0,hfz62_1⟩:=f2Z BK631.out)|((with_reducible refine gate_callee (f:=25) rfl ?_);refine goesL_ (some 77) rfl rfl Tryd.func25 (by kernel_rfl) rfl #[.agg #[.slice A0_0 l0_0.length c0_0,.slice A0_1 l0_1.length c0_1]] rfl aX ?_;(with_reducible refine(i_CornersOf.calls k1 _ _ l0_0 _ _ l0_1 t657 _ ?side1 ?side2 ?side3 ?side4 A55.out).mono ?_);(case side1=>exact cX (Kd.C_below HR0_0.out HB.out));(case side2=>exact HC0_0.out);(case side3=>exact cX (Kd.C_below HR0_1.out HB.out));(case side4=>exact HC0_1.out);rintro e w63 ⟨v658,rfl,ho0,hb⟩;refine ⟨_,rfl,?_⟩;have HO659:=aM (Kd.S_lower (Kd.S_new' (Kd.S_new' (Kd.S_new' (Kd.S_new' ho0 (Kd.R_lt (rX HO_6.out))) (Kd.R_lt (rX HO650.out))) (Kd.R_lt (rX HO653.out))) (Kd.R_lt (rX HO656.out))) (below_size (bX1 HB.out GE631.out)));replace HO_6:=aM (Kd.R_below (rX HO_6.out) hb);replace HO650:=aM (Kd.R_below (rX HO650.out) hb);replace HO653:=aM (Kd.R_below (rX HO653.out) hb);replace HO656:=aM (Kd.R_below (rX HO656.out) hb);replace BK631:=aM (bbX BK631.out hb);replace HB:=aM (below_step (bX1 HB.out GE631.out) hb);(try clear hb);(try clear hk);(try clear ho0);obtain ⟨Ao64,co64,eo64⟩:=Kd.S_slice HO659.out;subst eo64))
 go_loopg [80] k1 (fun kq v80 w'=>∃ (x11_2:List Int) (x80_2:Int),v80 = .int .i64 x80_2∧Aside0 (i_FixedPoints.l1 kq l1 x6_1 t648 t651 x11_2 t657 t657 (t657.length:Int) x80_2=some (r1,r2))∧Aside0 (kq≤k1)∧Aside0 (Kd.R (Kd.int .i64) 3 w' w.heap.size (fun k_=>some k_≠(v649:Value).ownBlock∧some k_≠(v652:Value).ownBlock∧some k_≠(v655:Value).ownBlock) v634 x6_1)∧Aside0 (Kd.R (Kd.int .i64) 3 w' w.heap.size (fun k_=>some k_≠(v634:Value).ownBlock∧some k_≠(v652:Value).ownBlock∧some k_≠(v655:Value).ownBlock) v649 t648)∧Aside0 (Kd.R (Kd.int .i64) 3 w' w.heap.size (fun k_=>some k_≠(v634:Value).ownBlock∧some k_≠(v649:Value).ownBlock∧some k_≠(v655:Value).ownBlock) v652 t651)∧Aside0 (Kd.R (Kd.int .i64) 3 w' w.heap.size (fun k_=>some k_≠(v634:Value).ownBlock∧some k_≠(v649:Value).ownBlock∧some k_≠(v652:Value).ownBlock) v655 x11_2)∧Aside0 (Kd.S (Kd.slice 3 (Kd.int .i64)) 23 w' w.heap.size (fun k_=>some k_≠(v634:Value).ownBlock∧some k_≠(v649:Value).ownBlock∧some k_≠(v652:Value).ownBlock∧some k_≠(v655:Value).ownBlock) (.slice Ao64 t657.length co64) t657)∧Aside0 (Kd.S (Kd.slice 3 (Kd.int .i64)) 23 w' w.heap.size (fun k_=>some k_≠(v634:Value).ownBlock∧some k_≠(v649:Value).ownBlock∧some k_≠(v652:Value).ownBlock∧some k_≠(v655:Value).ownBlock) (.slice Ao64 t657.length co64) t657)∧Aside0 (w'.heap[gb631]? = some (.cells #[(.slice A0_0 l0_0.length c0_0),(.slice A0_1 l0_1.length c0_1)] 25 (0,0)))∧Aside0 (Below w.heap.size w w'))
 case atStart=>exact ⟨(y654),(0),vX,H',⟨Nat.le_refl _⟩,⟨rM HO_6.out (fun _ hk=>⟨hk.1.1.2,⟨hk.1.2,hk.2⟩⟩)⟩,⟨rM HO650.out (fun _ hk=>⟨hk.1.1.2,⟨hk.1.2,hk.2⟩⟩)⟩,⟨rM HO653.out (fun _ hk=>⟨hk.1.1.2,⟨hk.1.2,hk.2⟩⟩)⟩,⟨rM HO656.out (fun _ hk=>⟨hk.1.1.2,⟨hk.1.2,hk.2⟩⟩)⟩,⟨by(with_reducible repeat(first|apply Kd.S_alloc|apply Kd.S_drewN|apply Kd.S_drew));exact Kd.S_mono HO659.out (fun _ hk=>⟨hk.1.1.1.2,⟨hk.1.1.2,⟨hk.1.2,hk.2⟩⟩⟩)⟩,⟨by(with_reducible repeat(first|apply Kd.S_alloc|apply Kd.S_drewN|apply Kd.S_drew));exact Kd.S_mono HO659.out (fun _ hk=>⟨hk.1.1.1.2,⟨hk.1.1.2,⟨hk.1.2,hk.2⟩⟩⟩)⟩,⟨kX BK631.out⟩,⟨bX1 HB.out GE631.out⟩⟩
 case round =>
 clear H'
 try clear c1
 try clear c4
 try clear c5
 try clear c5b0
 try clear c5b1
 try clear c11
 try clear c11b0
 try clear c12
 try clear c12b0
 try clear c13
 try clear c13b0
 try clear c15
 try clear c15b0
 try clear c15b1
 try clear c16
 try clear c16b0
 try clear c16b1
 try clear p17
 try clear q17
 try clear qi17
 try clear c21
 try clear c21b0
 try clear c22
 try clear c22b0
 try clear c23
 try clear c23b0
 try clear c23b1
 try clear c24
 try clear c24b0
 try clear c24b1
 try clear p25
 try clear q25
 try clear qi25
 try clear c26
 try clear c26b0
 try clear c27
 try clear c27b0
 try clear c27b1
 try clear c28
 try clear c28b0
 try clear c28b1
 try clear p29
 try clear q29
 try clear qi29
 try clear c42
 try clear c42b0
 try clear c43
 try clear c43b0
 try clear c43b1
 try clear c44
 try clear c44b0
 try clear c44b1
 try clear p45
 try clear q45
 try clear qi45
 try clear c53
 try clear c53b0
 try clear c53b1
 try clear c54
 try clear c54b0
 try clear c54b1
 try clear hcz30_0
 try clear hcz30_1
 try clear hcz34_0
 try clear hcz34_1
 try clear hcz37_0
 try clear hcz37_1
 try clear hcz41_0
 try clear hcz41_1
 try clear hcz46_0
 try clear hcz46_1
 try clear hcz50_0
 try clear hcz50_1
 try clear hcz56_0
 try clear hcz56_1
 try clear hcz58_0
 try clear hcz58_1
 try clear hcz62_0
 try clear hcz62_1
 try clear hcz7_0
 try clear hcz7_1
 try clear hfz30_0
 try clear hfz30_1
 try clear hfz34_0
 try clear hfz34_1
 try clear hfz37_0
 try clear hfz37_1
 try clear hfz41_0
 try clear hfz41_1
 try clear hfz46_0
 try clear hfz46_1
 try clear hfz50_0
 try clear hfz50_1
 try clear hfz56_0
 try clear hfz56_1
 try clear hfz58_0
 try clear hfz58_1
 try clear hfz62_0
 try clear hfz62_1
 try clear hfz7_0
 try clear hfz7_1
 try clear hx17_0
 try clear hx25_0
 try clear hx29_0
 try clear hx45_0
 try clear hx636_0
 try clear hx637_0
 try clear hx639_0
 try clear hx640_0
 try clear hx642_0
 try clear hx643_0
 try clear hx645_0
 try clear hx646_0
 try clear p17
 try clear p25
 try clear p29
 try clear p45
 try clear p636
 try clear p637
 try clear p639
 try clear p640
 try clear p642
 try clear p643
 try clear p645
 try clear p646
 try clear q17
 try clear q25
 try clear q29
 try clear q45
 try clear q636
 try clear q637
 try clear q639
 try clear q640
 try clear q642
 try clear q643
 try clear q645
 try clear q646
 obtain ⟨x11_2,x80_2,rfl,HA,HK2,HO_6,HO_9,HO_10,HO_11,HO_12,HO_78,BK631,HB⟩:=hrel
 cases gk with
 | zero=>exact absurd HA.out (by simp [i_FixedPoints.l1])
 | succ k2 =>
 have H:=HA.out
 clear HA
 simp only [i_FixedPoints.l1] at H
 by_cases c65:x80_2<(t657.length:Int)
 {
 rw [if_pos c65] at H
 have c65b0:=decide_eq_true c65
 clear c65
 by_cases c66:0≤x80_2
 {
 rw [if_pos c66] at H
 have c66b0:=decide_eq_true c66
 clear c66
 by_cases c67:x80_2<(t657.length:Int)
 {
 rw [if_pos c67] at H
 have c67b0:=decide_eq_true c67
 clear c67
 have H':=aM H
 clear H
 have p660:0≤(x80_2:Int):=dX
 have q660:x80_2<(t657.length:Int):=dX
 obtain ⟨ad660,A660_0,c660_0,e660,hx660_0,hl660_0,hi660_0⟩:=at_L2 (Kd.S_reads' HO_78.out).2.2 x80_2 p660 q660
 cases e660
 obtain ⟨ce660,hce660,hMe660,hcc660⟩:=Kd.S_get HO_78.out [] x80_2 p660 (by first|exact q660|exact dX|(have e_:=(Kd.S_reads' HO_78.out).1;omega))
 obtain ⟨ve660_0,rfl,ge660_0⟩:=hMe660
 have hv660_0:=hcc660 0 _ rfl
 rw [Nat.add_zero,show ((Kd.slice 3 (Kd.int .i64))).sz=1 from rfl,Nat.mul_one] at hv660_0
 replace hv660_0:=Option.some.inj (hv660_0.symm.trans hx660_0)
 rw [hv660_0] at ge660_0
 have HL660_0:=aM (show Kd.R (Kd.int .i64) 3 _ _ _ _ (rd_L2 t657 x80_2) from ge660_0)
 clear hv660_0 ge660_0 hcc660 hce660
 have HR660_0:=aM hi660_0
 have HC660_0:=aM hl660_0
 clear hi660_0 hl660_0
 replace p660:=eq_true p660
 replace q660:=eq_true q660
 go_wp2
 go_loopg [87] k2 (fun kq v87 w'=>∃ (x11_3:List Int) (x87_3:Int),v87 = .int .i64 x87_3∧Aside0 (i_FixedPoints.l2 kq l1 x6_1 t648 t651 x11_3 t657 x80_2 t657 (t657.length:Int) x80_2 (rd_L2 t657 x80_2) ((rd_L2 t657 x80_2).length:Int) x87_3=some (r1,r2))∧Aside0 (kq≤k2)∧Aside0 (Kd.R (Kd.int .i64) 3 w' w.heap.size (fun k_=>some k_≠(v649:Value).ownBlock∧some k_≠(v652:Value).ownBlock∧some k_≠(v655:Value).ownBlock) v634 x6_1)∧Aside0 (Kd.R (Kd.int .i64) 3 w' w.heap.size (fun k_=>some k_≠(v634:Value).ownBlock∧some k_≠(v652:Value).ownBlock∧some k_≠(v655:Value).ownBlock) v649 t648)∧Aside0 (Kd.R (Kd.int .i64) 3 w' w.heap.size (fun k_=>some k_≠(v634:Value).ownBlock∧some k_≠(v649:Value).ownBlock∧some k_≠(v655:Value).ownBlock) v652 t651)∧Aside0 (Kd.R (Kd.int .i64) 3 w' w.heap.size (fun k_=>some k_≠(v634:Value).ownBlock∧some k_≠(v649:Value).ownBlock∧some k_≠(v652:Value).ownBlock) v655 x11_3)∧Aside0 (Kd.S (Kd.slice 3 (Kd.int .i64)) 23 w' w.heap.size (fun k_=>some k_≠(v634:Value).ownBlock∧some k_≠(v649:Value).ownBlock∧some k_≠(v652:Value).ownBlock∧some k_≠(v655:Value).ownBlock) (.slice (some ad660) t657.length co64) t657)∧Aside0 (Kd.S (Kd.slice 3 (Kd.int .i64)) 23 w' w.heap.size (fun k_=>some k_≠(v634:Value).ownBlock∧some k_≠(v649:Value).ownBlock∧some k_≠(v652:Value).ownBlock∧some k_≠(v655:Value).ownBlock) (.slice (some ad660) t657.length co64) t657)∧Aside0 (Kd.R (Kd.int .i64) 3 w' w.heap.size (fun k_=>some k_≠(v634:Value).ownBlock∧some k_≠(v649:Value).ownBlock∧some k_≠(v652:Value).ownBlock∧some k_≠(v655:Value).ownBlock) (.slice A660_0 (rd_L2 t657 x80_2).length c660_0) (rd_L2 t657 x80_2))∧Aside0 (w'.heap[gb631]? = some (.cells #[(.slice A0_0 l0_0.length c0_0),(.slice A0_1 l0_1.length c0_1)] 25 (0,0)))∧Aside0 (Below w.heap.size w w'))
 case atStart=>exact ⟨(x11_2),(0),vX,H',⟨Nat.le_refl _⟩,⟨rX HO_6.out⟩,⟨rX HO_9.out⟩,⟨rX HO_10.out⟩,⟨rX HO_11.out⟩,⟨sX HO_12.out⟩,⟨sX HO_78.out⟩,⟨rM HL660_0.out (fun _ hk=>hk.1)⟩,⟨kX BK631.out⟩,⟨bX1 HB.out GE631.out⟩⟩
 case round =>
 clear H'
 try clear c1
 try clear c4
 try clear c5
 try clear c5b0
 try clear c5b1
 try clear c11
 try clear c11b0
 try clear c12
 try clear c12b0
 try clear c13
 try clear c13b0
 try clear c15
 try clear c15b0
 try clear c15b1
 try clear c16
 try clear c16b0
 try clear c16b1
 try clear p17
 try clear q17
 try clear qi17
 try clear c21
 try clear c21b0
 try clear c22
 try clear c22b0
 try clear c23
 try clear c23b0
 try clear c23b1
 try clear c24
 try clear c24b0
 try clear c24b1
 try clear p25
 try clear q25
 try clear qi25
 try clear c26
 try clear c26b0
 try clear c27
 try clear c27b0
 try clear c27b1
 try clear c28
 try clear c28b0
 try clear c28b1
 try clear p29
 try clear q29
 try clear qi29
 try clear c42
 try clear c42b0
 try clear c43
 try clear c43b0
 try clear c43b1
 try clear c44
 try clear c44b0
 try clear c44b1
 try clear p45
 try clear q45
 try clear qi45
 try clear c53
 try clear c53b0
 try clear c53b1
 try clear c54
 try clear c54b0
 try clear c54b1
 try clear c65
 try clear c65b0
 try clear c66
 try clear c66b0
 try clear c67
 try clear c67b0
 try clear hcz30_0
 try clear hcz30_1
 try clear hcz34_0
 try clear hcz34_1
 try clear hcz37_0
 try clear hcz37_1
 try clear hcz41_0
 try clear hcz41_1
 try clear hcz46_0
 try clear hcz46_1
 try clear hcz50_0
 try clear hcz50_1
 try clear hcz56_0
 try clear hcz56_1
 try clear hcz58_0
 try clear hcz58_1
 try clear hcz62_0
 try clear hcz62_1
 try clear hcz7_0
 try clear hcz7_1
 try clear hfz30_0
 try clear hfz30_1
 try clear hfz34_0
 try clear hfz34_1
 try clear hfz37_0
 try clear hfz37_1
 try clear hfz41_0
 try clear hfz41_1
 try clear hfz46_0
 try clear hfz46_1
 try clear hfz50_0
 try clear hfz50_1
 try clear hfz56_0
 try clear hfz56_1
 try clear hfz58_0
 try clear hfz58_1
 try clear hfz62_0
 try clear hfz62_1
 try clear hfz7_0
 try clear hfz7_1
 try clear hx17_0
 try clear hx25_0
 try clear hx29_0
 try clear hx45_0
 try clear hx636_0
 try clear hx637_0
 try clear hx639_0
 try clear hx640_0
 try clear hx642_0
 try clear hx643_0
 try clear hx645_0
 try clear hx646_0
 try clear hx660_0
 try clear p17
 try clear p25
 try clear p29
 try clear p45
 try clear p636
 try clear p637
 try clear p639
 try clear p640
 try clear p642
 try clear p643
 try clear p645
 try clear p646
 try clear p660
 try clear q17
 try clear q25
 try clear q29
 try clear q45
 try clear q636
 try clear q637
 try clear q639
 try clear q640
 try clear q642
 try clear q643
 try clear q645
 try clear q646
 try clear q660
 obtain ⟨x11_3,x87_3,rfl,HA,HK3,HO_6,HO_9,HO_10,HO_11,HO_12,HO_78,HL660_0,BK631,HB⟩:=hrel
 cases gk with
 | zero=>exact absurd HA.out (by simp [i_FixedPoints.l2])
 | succ k3 =>
 have H:=HA.out
 clear HA
 simp only [i_FixedPoints.l2] at H
 by_cases c68:x87_3<((rd_L2 t657 x80_2).length:Int)
 {
 rw [if_pos c68] at H
 have c68b0:=decide_eq_true c68
 clear c68
 by_cases c69:0≤x87_3
 {
 rw [if_pos c69] at H
 have c69b0:=decide_eq_true c69
 clear c69
 by_cases c70:x87_3<((rd_L2 t657 x80_2).length:Int)
 {
 rw [if_pos c70] at H
 have c70b0:=decide_eq_true c70
 clear c70
 by_cases c71:0≤(rd (rd_L2 t657 x80_2) x87_3)
 {
 rw [if_pos c71] at H
 have c71b0:=decide_eq_true c71
 clear c71
 by_cases c72:(rd (rd_L2 t657 x80_2) x87_3)<(x11_3.length:Int)
 {
 rw [if_pos c72] at H
 have c72b0:=decide_eq_true c72
 clear c72
 obtain ⟨y662,hy662⟩:∃ y_:List Int,y_=(x11_3.set ((rd (rd_L2 t657 x80_2) x87_3):Int).toNat x80_2):=⟨_,rfl⟩
 replace H:(i_FixedPoints.l2 k3 l1 x6_1 t648 t651 y662 t657 x80_2 t657 (t657.length:Int) x80_2 (rd_L2 t657 x80_2) ((rd_L2 t657 x80_2).length:Int) (wrap64 (x87_3+1)))=some (r1,r2):=by first|(rw [hy662];with_reducible exact H)|(have H2_:=(Option.bind_some _ _).symm.trans H;rw [hy662];with_reducible exact H2_)|(have H2_:=(Option.bind_some _ _).symm.trans H;with_reducible exact H2_)|with_reducible exact H|(rw [hy662];exact H)|exact H
 have Ny662:=aM hy662
 clear hy662
 have H':=aM H
 clear H
 have p661:0≤(x87_3:Int):=dX
 have q661:x87_3<((rd_L2 t657 x80_2).length:Int):=dX
 obtain ⟨ad661,e661,hx661_0⟩:=Kd.at_int (Kd.R_reads' HL660_0.out).2.2 x87_3 p661 q661
 cases e661
 replace p661:=eq_true p661
 replace q661:=eq_true q661
 have p73:0≤((rd (rd_L2 t657 x80_2) x87_3):Int):=dX
 have q73:((rd (rd_L2 t657 x80_2) x87_3):Int)<((x11_3.length:Int):Int):=dX
 obtain ⟨go73,co73,eo73,gb73,gl73,cl73,HG73⟩:=Kd.R_form HO_11.out (by omega)
 (first|cases eo73|(injection eo73 with ea_ en_ ec_;(first|subst ea_|(injection ea_ with ea_;subst ea_));subst ec_;clear en_))
 have GB73:=aM gb73
 have GG73:=aM HG73
 clear gb73 gl73 HG73
 obtain ⟨hx73_0,hf73_0⟩:=Kd.R_celln 0 HO_11.out ((rd (rd_L2 t657 x80_2) x87_3):Int) p73 q73
 replace p73:=eq_true p73
 replace q73:=eq_true q73
 have HP74:=Kd.R_putg HO_11.out ((rd (rd_L2 t657 x80_2) x87_3):Int) x80_2
 go_wp2_with (first|((with_reducible refine gate_store (t:=3) (p:=94) rfl ?_);refine store_event (t:=3) (p:=94) (v:=?vo_w75) (w1:=(wr.setCell ⟨go73,((rd (rd_L2 t657 x80_2) x87_3):Int).toNat,none⟩ (.int .i64 x80_2))) ?hg ?ho ?hn ?hr ?_;(case ho=>rfl);(case hg=>rfl);(case hn=>rfl);(case hr=>first|(go_simp;done)|(go_simp;rfl));intro w75 hw;have hg:wr.grownBy w75 (some go73):=(by rw [hw];exact HP74.2);have hp_:Kd.R (Kd.int .i64) 3 w75 w.heap.size (fun k_=>some k_≠(v634:Value).ownBlock∧some k_≠(v649:Value).ownBlock∧some k_≠(v652:Value).ownBlock) (.slice (some ⟨go73,0,none⟩) x11_3.length co73) y662:=(by rw [hw,Ny662.out];exact HP74.1);clear HP74;have n0_:=aM (Kd.R_after (v:=(.slice (some ⟨go73,0,none⟩) x11_3.length co73)) (v1:=(.slice (some ⟨go73,0,none⟩) x11_3.length co73)) (ok:=(fun k_=>some k_≠(v649:Value).ownBlock∧some k_≠(v652:Value).ownBlock)) (rM HO_6.out (fun _ hk=>⟨⟨hk.1,hk.2.1⟩,hk.2.2⟩)) hg (.inl rfl));have n1_:=aM (Kd.R_after (v:=(.slice (some ⟨go73,0,none⟩) x11_3.length co73)) (v1:=(.slice (some ⟨go73,0,none⟩) x11_3.length co73)) (ok:=(fun k_=>some k_≠(v634:Value).ownBlock∧some k_≠(v652:Value).ownBlock)) (rM HO_9.out (fun _ hk=>⟨⟨hk.1,hk.2.1⟩,hk.2.2⟩)) hg (.inl rfl));have n2_:=aM (Kd.R_after (v:=(.slice (some ⟨go73,0,none⟩) x11_3.length co73)) (v1:=(.slice (some ⟨go73,0,none⟩) x11_3.length co73)) (ok:=(fun k_=>some k_≠(v634:Value).ownBlock∧some k_≠(v649:Value).ownBlock)) (rM HO_10.out (fun _ hk=>⟨⟨hk.1,hk.2.1⟩,hk.2.2⟩)) hg (.inl rfl));have n3_:=aM (hp_);have n4_:=aM (Kd.S_after (v:=(.slice (some ⟨go73,0,none⟩) x11_3.length co73)) (v1:=(.slice (some ⟨go73,0,none⟩) x11_3.length co73)) (ok:=(fun k_=>some k_≠(v634:Value).ownBlock∧some k_≠(v649:Value).ownBlock∧some k_≠(v652:Value).ownBlock)) (by(with_reducible repeat(first|apply Kd.S_alloc|apply Kd.S_drewN|apply Kd.S_drew));exact Kd.S_mono HO_12.out (fun _ hk=>⟨⟨hk.1,⟨hk.2.1,hk.2.2.1⟩⟩,hk.2.2.2⟩)) hg (.inl rfl));have n5_:=aM (Kd.S_after (v:=(.slice (some ⟨go73,0,none⟩) x11_3.length co73)) (v1:=(.slice (some ⟨go73,0,none⟩) x11_3.length co73)) (ok:=(fun k_=>some k_≠(v634:Value).ownBlock∧some k_≠(v649:Value).ownBlock∧some k_≠(v652:Value).ownBlock)) (by(with_reducible repeat(first|apply Kd.S_alloc|apply Kd.S_drewN|apply Kd.S_drew));exact Kd.S_mono HO_78.out (fun _ hk=>⟨⟨hk.1,⟨hk.2.1,hk.2.2.1⟩⟩,hk.2.2.2⟩)) hg (.inl rfl));have n6_:=aM (bgX BK631.out hg (Kd.R_ne HO_11.out BK631.out (by decide)));have n7_:=aM ((by rw [hw];exact below_set (HB.out) GB73.out:Below w.heap.size w w75));have nL_:=aM (Kd.R_after (v:=(.slice (some ⟨go73,0,none⟩) x11_3.length co73)) (v1:=(.slice (some ⟨go73,0,none⟩) x11_3.length co73)) (ok:=(fun k_=>some k_≠(v634:Value).ownBlock∧some k_≠(v649:Value).ownBlock∧some k_≠(v652:Value).ownBlock)) (rM HL660_0.out (fun _ hk=>⟨⟨hk.1,⟨hk.2.1,hk.2.2.1⟩⟩,hk.2.2.2⟩)) hg (.inl rfl));clear HL660_0;have HL660_0:=nL_;clear nL_ HO_6 HO_9 HO_10 HO_11 HO_12 HO_78 BK631 HB;have HO_6:=n0_;have HO_9:=n1_;have HO_10:=n2_;have HO_11:=n3_;have HO_12:=n4_;have HO_78:=n5_;have BK631:=n6_;have HB:=n7_;clear n0_ n1_ n2_ n3_ n4_ n5_ n6_ n7_ hg hw hp_))
 go_roundg k3
 case measure=>have:=HK1.out;have:=HK2.out;have:=HK3.out;omega
 case rel=>exact ⟨(y662),(wrap64 (x87_3+1)),vX,H',⟨by have:=HK1.out;have:=HK2.out;have:=HK3.out;omega⟩,⟨rM HO_6.out (fun _ hk=>⟨hk.1.1,⟨hk.1.2,hk.2⟩⟩)⟩,⟨rM HO_9.out (fun _ hk=>⟨hk.1.1,⟨hk.1.2,hk.2⟩⟩)⟩,⟨rM HO_10.out (fun _ hk=>⟨hk.1.1,⟨hk.1.2,hk.2⟩⟩)⟩,⟨rX HO_11.out⟩,⟨by(with_reducible repeat(first|apply Kd.S_alloc|apply Kd.S_drewN|apply Kd.S_drew));exact Kd.S_mono HO_12.out (fun _ hk=>⟨hk.1.1,⟨hk.1.2.1,⟨hk.1.2.2,hk.2⟩⟩⟩)⟩,⟨by(with_reducible repeat(first|apply Kd.S_alloc|apply Kd.S_drewN|apply Kd.S_drew));exact Kd.S_mono HO_78.out (fun _ hk=>⟨hk.1.1,⟨hk.1.2.1,⟨hk.1.2.2,hk.2⟩⟩⟩)⟩,⟨rM HL660_0.out (fun _ hk=>⟨hk.1.1,⟨hk.1.2.1,⟨hk.1.2.2,hk.2⟩⟩⟩)⟩,⟨kX BK631.out⟩,⟨bX1 HB.out GE631.out⟩⟩
 }
 {
 rw [if_neg c72] at H
 exact absurd H (by simp)
 }
 }
 {
 rw [if_neg c71] at H
 exact absurd H (by simp)
 }
 }
 {
 rw [if_neg c70] at H
 exact absurd H (by simp)
 }
 }
 {
 rw [if_neg c69] at H
 exact absurd H (by simp)
 }
 }
 {
 rw [if_neg c68] at H
 have c68b0:=decide_eq_false c68
 clear c68
 have H':=aM H
 clear H
 go_wp2
 go_roundg k3
 case measure=>have:=HK1.out;have:=HK2.out;have:=HK3.out;omega
 case rel=>exact ⟨(x11_3),(wrap64 (x80_2+1)),vX,H',⟨by have:=HK1.out;have:=HK2.out;have:=HK3.out;omega⟩,⟨rX HO_6.out⟩,⟨rX HO_9.out⟩,⟨rX HO_10.out⟩,⟨rX HO_11.out⟩,⟨sX HO_12.out⟩,⟨sX HO_78.out⟩,⟨kX BK631.out⟩,⟨bX1 HB.out GE631.out⟩⟩
 }
 }
 {
 rw [if_neg c67] at H
 exact absurd H (by simp)
 }
 }
 {
 rw [if_neg c66] at H
 exact absurd H (by simp)
 }
 }
 {
 rw [if_neg c65] at H
 have c65b0:=decide_eq_false c65
 clear c65
 have H':=aM H
 clear H
 go_wp2
 go_loopg [99] k2 (fun kq v99 w'=>∃ (x6_3:List Int) (x99_3:Int),v99 = .int .i64 x99_3∧Aside0 (i_FixedPoints.l3 kq l1 x6_3 t648 t651 x11_2 t657 (t657.length:Int) x99_3=some (r1,r2))∧Aside0 (kq≤k2)∧Aside0 (Kd.R (Kd.int .i64) 3 w' w.heap.size (fun k_=>some k_≠(v649:Value).ownBlock∧some k_≠(v652:Value).ownBlock∧some k_≠(v655:Value).ownBlock) v634 x6_3)∧Aside0 (Kd.R (Kd.int .i64) 3 w' w.heap.size (fun k_=>some k_≠(v634:Value).ownBlock∧some k_≠(v652:Value).ownBlock∧some k_≠(v655:Value).ownBlock) v649 t648)∧Aside0 (Kd.R (Kd.int .i64) 3 w' w.heap.size (fun k_=>some k_≠(v634:Value).ownBlock∧some k_≠(v649:Value).ownBlock∧some k_≠(v655:Value).ownBlock) v652 t651)∧Aside0 (Kd.R (Kd.int .i64) 3 w' w.heap.size (fun k_=>some k_≠(v634:Value).ownBlock∧some k_≠(v649:Value).ownBlock∧some k_≠(v652:Value).ownBlock) v655 x11_2)∧Aside0 (Kd.S (Kd.slice 3 (Kd.int .i64)) 23 w' w.heap.size (fun k_=>some k_≠(v634:Value).ownBlock∧some k_≠(v649:Value).ownBlock∧some k_≠(v652:Value).ownBlock∧some k_≠(v655:Value).ownBlock) (.slice Ao64 t657.length co64) t657)∧Aside0 (w'.heap[gb631]? = some (.cells #[(.slice A0_0 l0_0.length c0_0),(.slice A0_1 l0_1.length c0_1)] 25 (0,0)))∧Aside0 (Below w.heap.size w w'))
 case atStart=>exact ⟨(x6_1),(0),vX,H',⟨Nat.le_refl _⟩,⟨rX HO_6.out⟩,⟨rX HO_9.out⟩,⟨rX HO_10.out⟩,⟨rX HO_11.out⟩,⟨sX HO_12.out⟩,⟨kX BK631.out⟩,⟨bX1 HB.out GE631.out⟩⟩
 case round =>
 clear H'
 try clear c1
 try clear c4
 try clear c5
 try clear c5b0
 try clear c5b1
 try clear c11
 try clear c11b0
 try clear c12
 try clear c12b0
 try clear c13
 try clear c13b0
 try clear c15
 try clear c15b0
 try clear c15b1
 try clear c16
 try clear c16b0
 try clear c16b1
 try clear p17
 try clear q17
 try clear qi17
 try clear c21
 try clear c21b0
 try clear c22
 try clear c22b0
 try clear c23
 try clear c23b0
 try clear c23b1
 try clear c24
 try clear c24b0
 try clear c24b1
 try clear p25
 try clear q25
 try clear qi25
 try clear c26
 try clear c26b0
 try clear c27
 try clear c27b0
 try clear c27b1
 try clear c28
 try clear c28b0
 try clear c28b1
 try clear p29
 try clear q29
 try clear qi29
 try clear c42
 try clear c42b0
 try clear c43
 try clear c43b0
 try clear c43b1
 try clear c44
 try clear c44b0
 try clear c44b1
 try clear p45
 try clear q45
 try clear qi45
 try clear c53
 try clear c53b0
 try clear c53b1
 try clear c54
 try clear c54b0
 try clear c54b1
 try clear c65
 try clear c65b0
 try clear c66
 try clear c66b0
 try clear c67
 try clear c67b0
 try clear c68
 try clear c68b0
 try clear c69
 try clear c69b0
 try clear c70
 try clear c70b0
 try clear c71
 try clear c71b0
 try clear c72
 try clear c72b0
 try clear p73
 try clear q73
 try clear hcz30_0
 try clear hcz30_1
 try clear hcz34_0
 try clear hcz34_1
 try clear hcz37_0
 try clear hcz37_1
 try clear hcz41_0
 try clear hcz41_1
 try clear hcz46_0
 try clear hcz46_1
 try clear hcz50_0
 try clear hcz50_1
 try clear hcz56_0
 try clear hcz56_1
 try clear hcz58_0
 try clear hcz58_1
 try clear hcz62_0
 try clear hcz62_1
 try clear hcz7_0
 try clear hcz7_1
 try clear hfz30_0
 try clear hfz30_1
 try clear hfz34_0
 try clear hfz34_1
 try clear hfz37_0
 try clear hfz37_1
 try clear hfz41_0
 try clear hfz41_1
 try clear hfz46_0
 try clear hfz46_1
 try clear hfz50_0
 try clear hfz50_1
 try clear hfz56_0
 try clear hfz56_1
 try clear hfz58_0
 try clear hfz58_1
 try clear hfz62_0
 try clear hfz62_1
 try clear hfz7_0
 try clear hfz7_1
 try clear hx17_0
 try clear hx25_0
 try clear hx29_0
 try clear hx45_0
 try clear hx636_0
 try clear hx637_0
 try clear hx639_0
 try clear hx640_0
 try clear hx642_0
 try clear hx643_0
 try clear hx645_0
 try clear hx646_0
 try clear hx660_0
 try clear hx661_0
 try clear hx73_0
 try clear p17
 try clear p25
 try clear p29
 try clear p45
 try clear p636
 try clear p637
 try clear p639
 try clear p640
 try clear p642
 try clear p643
 try clear p645
 try clear p646
 try clear p660
 try clear p661
 try clear p73
 try clear q17
 try clear q25
 try clear q29
 try clear q45
 try clear q636
 try clear q637
 try clear q639
 try clear q640
 try clear q642
 try clear q643
 try clear q645
 try clear q646
 try clear q660
 try clear q661
 try clear q73
 obtain ⟨x6_3,x99_3,rfl,HA,HK3,HO_6,HO_9,HO_10,HO_11,HO_97,BK631,HB⟩:=hrel
 cases gk with
 | zero=>exact absurd HA.out (by simp [i_FixedPoints.l3])
 | succ k3 =>
 have H:=HA.out
 clear HA
 simp only [i_FixedPoints.l3] at H
 by_cases c76:x99_3<(t657.length:Int)
 {
 rw [if_pos c76] at H
 have c76b0:=decide_eq_true c76
 clear c76
 by_cases c77:0≤x99_3
 {
 rw [if_pos c77] at H
 have c77b0:=decide_eq_true c77
 clear c77
 by_cases c78:x99_3<(t657.length:Int)
 {
 rw [if_pos c78] at H
 have c78b0:=decide_eq_true c78
 clear c78
 have H':=aM H
 clear H
 have p663:0≤(x99_3:Int):=dX
 have q663:x99_3<(t657.length:Int):=dX
 obtain ⟨ad663,A663_0,c663_0,e663,hx663_0,hl663_0,hi663_0⟩:=at_L2 (Kd.S_reads' HO_97.out).2.2 x99_3 p663 q663
 cases e663
 obtain ⟨ce663,hce663,hMe663,hcc663⟩:=Kd.S_get HO_97.out [] x99_3 p663 (by first|exact q663|exact dX|(have e_:=(Kd.S_reads' HO_97.out).1;omega))
 obtain ⟨ve663_0,rfl,ge663_0⟩:=hMe663
 have hv663_0:=hcc663 0 _ rfl
 rw [Nat.add_zero,show ((Kd.slice 3 (Kd.int .i64))).sz=1 from rfl,Nat.mul_one] at hv663_0
 replace hv663_0:=Option.some.inj (hv663_0.symm.trans hx663_0)
 rw [hv663_0] at ge663_0
 have HL663_0:=aM (show Kd.R (Kd.int .i64) 3 _ _ _ _ (rd_L2 t657 x99_3) from ge663_0)
 clear hv663_0 ge663_0 hcc663 hce663
 have HR663_0:=aM hi663_0
 have HC663_0:=aM hl663_0
 clear hi663_0 hl663_0
 replace p663:=eq_true p663
 replace q663:=eq_true q663
 go_wp2
 go_loopg [19,106] k3 (fun kq v19 v106 w'=>∃ (x19_4:Bool) (x106_4:Int),v19 = .bool x19_4∧v106 = .int .i64 x106_4∧Aside0 (i_FixedPoints.l4 kq l1 x6_3 t648 t651 x11_2 x99_3 x19_4 t657 (t657.length:Int) x99_3 (rd_L2 t657 x99_3) ((rd_L2 t657 x99_3).length:Int) x106_4=some (r1,r2))∧Aside0 (kq≤k3)∧Aside0 (Kd.R (Kd.int .i64) 3 w' w.heap.size (fun k_=>some k_≠(v649:Value).ownBlock∧some k_≠(v652:Value).ownBlock∧some k_≠(v655:Value).ownBlock) v634 x6_3)∧Aside0 (Kd.R (Kd.int .i64) 3 w' w.heap.size (fun k_=>some k_≠(v634:Value).ownBlock∧some k_≠(v652:Value).ownBlock∧some k_≠(v655:Value).ownBlock) v649 t648)∧Aside0 (Kd.R (Kd.int .i64) 3 w' w.heap.size (fun k_=>some k_≠(v634:Value).ownBlock∧some k_≠(v649:Value).ownBlock∧some k_≠(v655:Value).ownBlock) v652 t651)∧Aside0 (Kd.R (Kd.int .i64) 3 w' w.heap.size (fun k_=>some k_≠(v634:Value).ownBlock∧some k_≠(v649:Value).ownBlock∧some k_≠(v652:Value).ownBlock) v655 x11_2)∧Aside0 (Kd.S (Kd.slice 3 (Kd.int .i64)) 23 w' w.heap.size (fun k_=>some k_≠(v634:Value).ownBlock∧some k_≠(v649:Value).ownBlock∧some k_≠(v652:Value).ownBlock∧some k_≠(v655:Value).ownBlock) (.slice (some ad663) t657.length co64) t657)∧Aside0 (w'.heap[gb631]? = some (.cells #[(.slice A0_0 l0_0.length c0_0),(.slice A0_1 l0_1.length c0_1)] 25 (0,0)))∧Aside0 (Kd.C (Kd.int .i64) w' A663_0 (rd_L2 t657 x99_3).length (rd_L2 t657 x99_3))∧Aside0 (Below w.heap.size w w'))
 case atStart=>exact ⟨(true),(0),vX,vX,H',⟨Nat.le_refl _⟩,⟨rX HO_6.out⟩,⟨rX HO_9.out⟩,⟨rX HO_10.out⟩,⟨rX HO_11.out⟩,⟨sX HO_97.out⟩,⟨kX BK631.out⟩,⟨cX HR663_0.out⟩,⟨bX1 HB.out GE631.out⟩⟩
 case round =>
 clear H'
 try clear c1
 try clear c4
 try clear c5
 try clear c5b0
 try clear c5b1
 try clear c11
 try clear c11b0
 try clear c12
 try clear c12b0
 try clear c13
 try clear c13b0
 try clear c15
 try clear c15b0
 try clear c15b1
 try clear c16
 try clear c16b0
 try clear c16b1
 try clear p17
 try clear q17
 try clear qi17
 try clear c21
 try clear c21b0
 try clear c22
 try clear c22b0
 try clear c23
 try clear c23b0
 try clear c23b1
 try clear c24
 try clear c24b0
 try clear c24b1
 try clear p25
 try clear q25
 try clear qi25
 try clear c26
 try clear c26b0
 try clear c27
 try clear c27b0
 try clear c27b1
 try clear c28
 try clear c28b0
 try clear c28b1
 try clear p29
 try clear q29
 try clear qi29
 try clear c42
 try clear c42b0
 try clear c43
 try clear c43b0
 try clear c43b1
 try clear c44
 try clear c44b0
 try clear c44b1
 try clear p45
 try clear q45
 try clear qi45
 try clear c53
 try clear c53b0
 try clear c53b1
 try clear c54
 try clear c54b0
 try clear c54b1
 try clear c65
 try clear c65b0
 try clear c66
 try clear c66b0
 try clear c67
 try clear c67b0
 try clear c68
 try clear c68b0
 try clear c69
 try clear c69b0
 try clear c70
 try clear c70b0
 try clear c71
 try clear c71b0
 try clear c72
 try clear c72b0
 try clear p73
 try clear q73
 try clear c76
 try clear c76b0
 try clear c77
 try clear c77b0
 try clear c78
 try clear c78b0
 try clear hcz30_0
 try clear hcz30_1
 try clear hcz34_0
 try clear hcz34_1
 try clear hcz37_0
 try clear hcz37_1
 try clear hcz41_0
 try clear hcz41_1
 try clear hcz46_0
 try clear hcz46_1
 try clear hcz50_0
 try clear hcz50_1
 try clear hcz56_0
 try clear hcz56_1
 try clear hcz58_0
 try clear hcz58_1
 try clear hcz62_0
 try clear hcz62_1
 try clear hcz7_0
 try clear hcz7_1
 try clear hfz30_0
 try clear hfz30_1
 try clear hfz34_0
 try clear hfz34_1
 try clear hfz37_0
 try clear hfz37_1
 try clear hfz41_0
 try clear hfz41_1
 try clear hfz46_0
 try clear hfz46_1
 try clear hfz50_0
 try clear hfz50_1
 try clear hfz56_0
 try clear hfz56_1
 try clear hfz58_0
 try clear hfz58_1
 try clear hfz62_0
 try clear hfz62_1
 try clear hfz7_0
 try clear hfz7_1
 try clear hx17_0
 try clear hx25_0
 try clear hx29_0
 try clear hx45_0
 try clear hx636_0
 try clear hx637_0
 try clear hx639_0
 try clear hx640_0
 try clear hx642_0
 try clear hx643_0
 try clear hx645_0
 try clear hx646_0
 try clear hx660_0
 try clear hx661_0
 try clear hx663_0
 try clear hx73_0
 try clear p17
 try clear p25
 try clear p29
 try clear p45
 try clear p636
 try clear p637
 try clear p639
 try clear p640
 try clear p642
 try clear p643
 try clear p645
 try clear p646
 try clear p660
 try clear p661
 try clear p663
 try clear p73
 try clear q17
 try clear q25
 try clear q29
 try clear q45
 try clear q636
 try clear q637
 try clear q639
 try clear q640
 try clear q642
 try clear q643
 try clear q645
 try clear q646
 try clear q660
 try clear q661
 try clear q663
 try clear q73
 obtain ⟨x19_4,x106_4,rfl,rfl,HA,HK4,HO_6,HO_9,HO_10,HO_11,HO_97,BK631,HR663_0,HB⟩:=hrel
 cases gk with
 | zero=>exact absurd HA.out (by simp [i_FixedPoints.l4])
 | succ k4 =>
 have H:=HA.out
 clear HA
 simp only [i_FixedPoints.l4] at H
 by_cases c79:x106_4<((rd_L2 t657 x99_3).length:Int)
 {
 rw [if_pos c79] at H
 have c79b0:=decide_eq_true c79
 clear c79
 by_cases c80:0≤x106_4
 {
 rw [if_pos c80] at H
 have c80b0:=decide_eq_true c80
 clear c80
 by_cases c81:x106_4<((rd_L2 t657 x99_3).length:Int)
 {
 rw [if_pos c81] at H
 have c81b0:=decide_eq_true c81
 clear c81
 by_cases c82:x19_4=true
 {
 subst c82
 have H1:(if 0≤(rd (rd_L2 t657 x99_3) x106_4) then (if (rd (rd_L2 t657 x99_3) x106_4)<(l1.length:Int) then (if 0≤(rd l1 (rd (rd_L2 t657 x99_3) x106_4)) then (if (rd l1 (rd (rd_L2 t657 x99_3) x106_4))<(t648.length:Int) then (if 0≤(rd t648 (rd l1 (rd (rd_L2 t657 x99_3) x106_4))) then (if (rd t648 (rd l1 (rd (rd_L2 t657 x99_3) x106_4)))<(t651.length:Int) then (if 0≤(rd t651 (rd t648 (rd l1 (rd (rd_L2 t657 x99_3) x106_4)))) then (if (rd t651 (rd t648 (rd l1 (rd (rd_L2 t657 x99_3) x106_4))))<(x11_2.length:Int) then (i_FixedPoints.l4 k4 l1 x6_3 t648 t651 x11_2 x99_3 ((rd x11_2 (rd t651 (rd t648 (rd l1 (rd (rd_L2 t657 x99_3) x106_4))))) == x99_3) t657 (t657.length:Int) x99_3 (rd_L2 t657 x99_3) ((rd_L2 t657 x99_3).length:Int) (wrap64 (x106_4+1))) else (none)) else (none)) else (none)) else (none)) else (none)) else (none)) else (none)) else (none))=some (r1,r2):=by rw [if_pos rfl] at H;exact H
 clear H
 have H:=H1
 clear H1
 by_cases c83:0≤(rd (rd_L2 t657 x99_3) x106_4)
 {
 rw [if_pos c83] at H
 have c83b0:=decide_eq_true c83
 clear c83
 by_cases c84:(rd (rd_L2 t657 x99_3) x106_4)<(l1.length:Int)
 {
 rw [if_pos c84] at H
 have c84b0:=decide_eq_true c84
 clear c84
 by_cases c85:0≤(rd l1 (rd (rd_L2 t657 x99_3) x106_4))
 {
 rw [if_pos c85] at H
 have c85b0:=decide_eq_true c85
 clear c85
 by_cases c86:(rd l1 (rd (rd_L2 t657 x99_3) x106_4))<(t648.length:Int)
 {
 rw [if_pos c86] at H
 have c86b0:=decide_eq_true c86
 clear c86
 by_cases c87:0≤(rd t648 (rd l1 (rd (rd_L2 t657 x99_3) x106_4)))
 {
 rw [if_pos c87] at H
 have c87b0:=decide_eq_true c87
 clear c87
 by_cases c88:(rd t648 (rd l1 (rd (rd_L2 t657 x99_3) x106_4)))<(t651.length:Int)
 {
 rw [if_pos c88] at H
 have c88b0:=decide_eq_true c88
 clear c88
 by_cases c89:0≤(rd t651 (rd t648 (rd l1 (rd (rd_L2 t657 x99_3) x106_4))))
 {
 rw [if_pos c89] at H
 have c89b0:=decide_eq_true c89
 clear c89
 by_cases c90:(rd t651 (rd t648 (rd l1 (rd (rd_L2 t657 x99_3) x106_4))))<(x11_2.length:Int)
 {
 rw [if_pos c90] at H
 have c90b0:=decide_eq_true c90
 clear c90
 have H':=aM H
 clear H
 have p664:0≤(x106_4:Int):=dX
 have q664:x106_4<((rd_L2 t657 x99_3).length:Int):=dX
 obtain ⟨ad664,e664,hx664_0⟩:=Kd.at_int HR663_0.out x106_4 p664 q664
 cases e664
 (try replace hx664_0:=(HB.out.cell (World.block_lt_of_cell? w _ hx664_0)).trans hx664_0)
 replace p664:=eq_true p664
 replace q664:=eq_true q664
 have p665:0≤((rd (rd_L2 t657 x99_3) x106_4):Int):=dX
 have q665:(rd (rd_L2 t657 x99_3) x106_4)<(l1.length:Int):=dX
 obtain ⟨ad665,e665,hx665_0⟩:=Kd.at_int HR1.out (rd (rd_L2 t657 x99_3) x106_4) p665 q665
 cases e665
 (try replace hx665_0:=(HB.out.cell (World.block_lt_of_cell? w _ hx665_0)).trans hx665_0)
 replace p665:=eq_true p665
 replace q665:=eq_true q665
 obtain ⟨Ao91,co91,eo91⟩:=Kd.R_slice HO_9.out
 subst eo91
 have p666:0≤((rd l1 (rd (rd_L2 t657 x99_3) x106_4)):Int):=dX
 have q666:(rd l1 (rd (rd_L2 t657 x99_3) x106_4))<(t648.length:Int):=dX
 obtain ⟨ad666,e666,hx666_0⟩:=Kd.at_int (Kd.R_reads' HO_9.out).2.2 (rd l1 (rd (rd_L2 t657 x99_3) x106_4)) p666 q666
 cases e666
 replace p666:=eq_true p666
 replace q666:=eq_true q666
 obtain ⟨Ao92,co92,eo92⟩:=Kd.R_slice HO_10.out
 subst eo92
 have p667:0≤((rd t648 (rd l1 (rd (rd_L2 t657 x99_3) x106_4))):Int):=dX
 have q667:(rd t648 (rd l1 (rd (rd_L2 t657 x99_3) x106_4)))<(t651.length:Int):=dX
 obtain ⟨ad667,e667,hx667_0⟩:=Kd.at_int (Kd.R_reads' HO_10.out).2.2 (rd t648 (rd l1 (rd (rd_L2 t657 x99_3) x106_4))) p667 q667
 cases e667
 replace p667:=eq_true p667
 replace q667:=eq_true q667
 obtain ⟨Ao93,co93,eo93⟩:=Kd.R_slice HO_11.out
 subst eo93
 have p668:0≤((rd t651 (rd t648 (rd l1 (rd (rd_L2 t657 x99_3) x106_4)))):Int):=dX
 have q668:(rd t651 (rd t648 (rd l1 (rd (rd_L2 t657 x99_3) x106_4))))<(x11_2.length:Int):=dX
 obtain ⟨ad668,e668,hx668_0⟩:=Kd.at_int (Kd.R_reads' HO_11.out).2.2 (rd t651 (rd t648 (rd l1 (rd (rd_L2 t657 x99_3) x106_4)))) p668 q668
 cases e668
 replace p668:=eq_true p668
 replace q668:=eq_true q668
 go_wp2
 go_roundg k4
 case measure=>have:=HK1.out;have:=HK2.out;have:=HK3.out;have:=HK4.out;omega
 case rel=>exact ⟨(((rd x11_2 (rd t651 (rd t648 (rd l1 (rd (rd_L2 t657 x99_3) x106_4))))) == x99_3)),(wrap64 (x106_4+1)),vX,vX,H',⟨by have:=HK1.out;have:=HK2.out;have:=HK3.out;have:=HK4.out;omega⟩,⟨rX HO_6.out⟩,⟨rX HO_9.out⟩,⟨rX HO_10.out⟩,⟨rX HO_11.out⟩,⟨sX HO_97.out⟩,⟨kX BK631.out⟩,⟨cX HR663_0.out⟩,⟨bX1 HB.out GE631.out⟩⟩
 }
 {
 rw [if_neg c90] at H
 exact absurd H (by simp)
 }
 }
 {
 rw [if_neg c89] at H
 exact absurd H (by simp)
 }
 }
 {
 rw [if_neg c88] at H
 exact absurd H (by simp)
 }
 }
 {
 rw [if_neg c87] at H
 exact absurd H (by simp)
 }
 }
 {
 rw [if_neg c86] at H
 exact absurd H (by simp)
 }
 }
 {
 rw [if_neg c85] at H
 exact absurd H (by simp)
 }
 }
 {
 rw [if_neg c84] at H
 exact absurd H (by simp)
 }
 }
 {
 rw [if_neg c83] at H
 exact absurd H (by simp)
 }
 }
 {
 replace c82:=Bool.eq_false_iff.mpr c82
 subst c82
 have H1:(i_FixedPoints.l4 k4 l1 x6_3 t648 t651 x11_2 x99_3 false t657 (t657.length:Int) x99_3 (rd_L2 t657 x99_3) ((rd_L2 t657 x99_3).length:Int) (wrap64 (x106_4+1)))=some (r1,r2):=by rw [if_neg (show ¬ (false=true) by decide)] at H;exact H
 clear H
 have H:=H1
 clear H1
 have H':=aM H
 clear H
 have p664:0≤(x106_4:Int):=dX
 have q664:x106_4<((rd_L2 t657 x99_3).length:Int):=dX
 obtain ⟨ad664,e664,hx664_0⟩:=Kd.at_int HR663_0.out x106_4 p664 q664
 cases e664
 (try replace hx664_0:=(HB.out.cell (World.block_lt_of_cell? w _ hx664_0)).trans hx664_0)
 replace p664:=eq_true p664
 replace q664:=eq_true q664
 go_wp2
 go_roundg k4
 case measure=>have:=HK1.out;have:=HK2.out;have:=HK3.out;have:=HK4.out;omega
 case rel=>exact ⟨(false),(wrap64 (x106_4+1)),vX,vX,H',⟨by have:=HK1.out;have:=HK2.out;have:=HK3.out;have:=HK4.out;omega⟩,⟨rX HO_6.out⟩,⟨rX HO_9.out⟩,⟨rX HO_10.out⟩,⟨rX HO_11.out⟩,⟨sX HO_97.out⟩,⟨kX BK631.out⟩,⟨cX HR663_0.out⟩,⟨bX1 HB.out GE631.out⟩⟩
 }
 }
 {
 rw [if_neg c81] at H
 exact absurd H (by simp)
 }
 }
 {
 rw [if_neg c80] at H
 exact absurd H (by simp)
 }
 }
 {
 rw [if_neg c79] at H
 have c79b0:=decide_eq_false c79
 clear c79
 by_cases c94:x19_4=true
 {
 subst c94
 have H1:(if 3<(x6_3.length:Int) then (i_FixedPoints.l3 k4 l1 (x6_3.set (3:Int).toNat (wrap64 ((rd x6_3 3)+1))) t648 t651 x11_2 t657 (t657.length:Int) (wrap64 (x99_3+1))) else (none))=some (r1,r2):=by rw [if_pos rfl] at H;exact H
 clear H
 have H:=H1
 clear H1
 by_cases c95:3<(x6_3.length:Int)
 {
 rw [if_pos c95] at H
 have c95b0:=decide_eq_true c95
 have c95b1:decide (3<x6_3.length)=true:=decide_eq_true (by omega)
 clear c95
 obtain ⟨y670,hy670⟩:∃ y_:List Int,y_=(x6_3.set (3:Int).toNat (wrap64 ((rd x6_3 3)+1))):=⟨_,rfl⟩
 replace H:(i_FixedPoints.l3 k4 l1 y670 t648 t651 x11_2 t657 (t657.length:Int) (wrap64 (x99_3+1)))=some (r1,r2):=by first|(rw [hy670];with_reducible exact H)|(have H2_:=(Option.bind_some _ _).symm.trans H;rw [hy670];with_reducible exact H2_)|(have H2_:=(Option.bind_some _ _).symm.trans H;with_reducible exact H2_)|with_reducible exact H|(rw [hy670];exact H)|exact H
 have Ny670:=aM hy670
 clear hy670
 have H':=aM H
 clear H
 obtain ⟨Ao97,co97,eo97⟩:=Kd.R_slice HO_6.out
 subst eo97
 have p669:0≤(3:Int):=(by omega)
 have q669:3<(x6_3.length:Int):=dX
 obtain ⟨ad669,e669,hx669_0⟩:=Kd.at_int (Kd.R_reads' HO_6.out).2.2 3 p669 q669
 cases e669
 (try simp only [show (3:Int).toNat=3 from rfl,Nat.reduceMul,Nat.reduceEqDiff,Go.Addr.add,↓reduceIte] at hx669_0)
 have qi669:(3<x6_3.length)=True:=eq_true (by omega)
 (try rw [show ((3:Int)).toNat=3 from rfl] at hx669_0)
 replace p669:=eq_true p669
 replace q669:=eq_true q669
 have p96:0≤(3:Int):=(by omega)
 have q96:(3:Int)<((x6_3.length:Int):Int):=dX
 have qi96:(3<x6_3.length)=True:=eq_true (by omega)
 obtain ⟨go96,co96,eo96,gb96,gl96,cl96,HG96⟩:=Kd.R_form HO_6.out (by omega)
 (first|cases eo96|(injection eo96 with ea_ en_ ec_;(first|subst ea_|(injection ea_ with ea_;subst ea_));subst ec_;clear en_))
 have GB96:=aM gb96
 have GG96:=aM HG96
 clear gb96 gl96 HG96
 (first|simp only [add_plain] at hx669_0|skip)
 obtain ⟨hx96_0,hf96_0⟩:=Kd.R_celln 0 HO_6.out (3:Int) p96 q96
 (try rw [show ((3:Int)).toNat=3 from rfl] at hx96_0)
 (try simp only [Nat.reduceMul,Nat.zero_mul,Nat.zero_add,Nat.reduceAdd] at hx96_0)
 (try rw [show ((3:Int)).toNat=3 from rfl] at hf96_0)
 (try simp only [Nat.reduceMul,Nat.zero_mul,Nat.zero_add,Nat.reduceAdd] at hf96_0)
 replace p96:=eq_true p96
 replace q96:=eq_true q96
 have HP98:=Kd.R_putg HO_6.out (3:Int) (wrap64 ((rd x6_3 3)+1))
 go_wp2_with (first|((with_reducible refine gate_store (t:=3) (p:=134) rfl ?_);refine store_event (t:=3) (p:=134) (v:=?vo_w99) (w1:=(wr.setCell ⟨go96,(3:Int).toNat,none⟩ (.int .i64 (wrap64 ((rd x6_3 3)+1))))) ?hg ?ho ?hn ?hr ?_;(case ho=>rfl);(case hg=>rfl);(case hn=>rfl);(case hr=>first|(go_simp;done)|(go_simp;rfl));intro w99 hw;have hg:wr.grownBy w99 (some go96):=(by rw [hw];exact HP98.2);have hp_:Kd.R (Kd.int .i64) 3 w99 w.heap.size (fun k_=>some k_≠(v649:Value).ownBlock∧some k_≠(v652:Value).ownBlock∧some k_≠(v655:Value).ownBlock) (.slice (some ⟨go96,0,none⟩) x6_3.length co97) y670:=(by rw [hw,Ny670.out];exact HP98.1);clear HP98;replace HO_9:=aM (Kd.R_after (v:=(.slice (some ⟨go96,0,none⟩) x6_3.length co97)) (v1:=(.slice (some ⟨go96,0,none⟩) x6_3.length co97)) (ok:=(fun k_=>some k_≠(v652:Value).ownBlock∧some k_≠(v655:Value).ownBlock)) (rM HO_9.out (fun _ hk=>⟨⟨hk.2.1,hk.2.2⟩,hk.1⟩)) hg (.inl rfl));replace HO_10:=aM (Kd.R_after (v:=(.slice (some ⟨go96,0,none⟩) x6_3.length co97)) (v1:=(.slice (some ⟨go96,0,none⟩) x6_3.length co97)) (ok:=(fun k_=>some k_≠(v649:Value).ownBlock∧some k_≠(v655:Value).ownBlock)) (rM HO_10.out (fun _ hk=>⟨⟨hk.2.1,hk.2.2⟩,hk.1⟩)) hg (.inl rfl));replace HO_11:=aM (Kd.R_after (v:=(.slice (some ⟨go96,0,none⟩) x6_3.length co97)) (v1:=(.slice (some ⟨go96,0,none⟩) x6_3.length co97)) (ok:=(fun k_=>some k_≠(v649:Value).ownBlock∧some k_≠(v652:Value).ownBlock)) (rM HO_11.out (fun _ hk=>⟨⟨hk.2.1,hk.2.2⟩,hk.1⟩)) hg (.inl rfl));replace HO_97:=aM (Kd.S_after (v:=(.slice (some ⟨go96,0,none⟩) x6_3.length co97)) (v1:=(.slice (some ⟨go96,0,none⟩) x6_3.length co97)) (ok:=(fun k_=>some k_≠(v649:Value).ownBlock∧some k_≠(v652:Value).ownBlock∧some k_≠(v655:Value).ownBlock)) (by(with_reducible repeat(first|apply Kd.S_alloc|apply Kd.S_drewN|apply Kd.S_drew));exact Kd.S_mono HO_97.out (fun _ hk=>⟨⟨hk.2.1,⟨hk.2.2.1,hk.2.2.2⟩⟩,hk.1⟩)) hg (.inl rfl));replace BK631:=aM (bgX BK631.out hg (Kd.R_ne HO_6.out BK631.out (by decide)));replace HO_6:=aM (hp_);replace HB:=aM ((by rw [hw];exact below_set (HB.out) GB96.out:Below w.heap.size w w99));clear hg hw hp_))
 go_roundg k4
 case measure=>have:=HK1.out;have:=HK2.out;have:=HK3.out;have:=HK4.out;omega
 case rel=>exact ⟨(y670),(wrap64 (x99_3+1)),vX,H',⟨by have:=HK1.out;have:=HK2.out;have:=HK3.out;have:=HK4.out;omega⟩,⟨rX HO_6.out⟩,⟨rM HO_9.out (fun _ hk=>⟨hk.2,⟨hk.1.1,hk.1.2⟩⟩)⟩,⟨rM HO_10.out (fun _ hk=>⟨hk.2,⟨hk.1.1,hk.1.2⟩⟩)⟩,⟨rM HO_11.out (fun _ hk=>⟨hk.2,⟨hk.1.1,hk.1.2⟩⟩)⟩,⟨by(with_reducible repeat(first|apply Kd.S_alloc|apply Kd.S_drewN|apply Kd.S_drew));exact Kd.S_mono HO_97.out (fun _ hk=>⟨hk.2,⟨hk.1.1,⟨hk.1.2.1,hk.1.2.2⟩⟩⟩)⟩,⟨kX BK631.out⟩,⟨bX1 HB.out GE631.out⟩⟩
 }
 {
 rw [if_neg c95] at H
 exact absurd H (by simp)
 }
 }
 {
 replace c94:=Bool.eq_false_iff.mpr c94
 subst c94
 have H1:(i_FixedPoints.l3 k4 l1 x6_3 t648 t651 x11_2 t657 (t657.length:Int) (wrap64 (x99_3+1)))=some (r1,r2):=by rw [if_neg (show ¬ (false=true) by decide)] at H;exact H
 clear H
 have H:=H1
 clear H1
 have H':=aM H
 clear H
 go_wp2
 go_roundg k4
 case measure=>have:=HK1.out;have:=HK2.out;have:=HK3.out;have:=HK4.out;omega
 case rel=>exact ⟨(x6_3),(wrap64 (x99_3+1)),vX,H',⟨by have:=HK1.out;have:=HK2.out;have:=HK3.out;have:=HK4.out;omega⟩,⟨rX HO_6.out⟩,⟨rX HO_9.out⟩,⟨rX HO_10.out⟩,⟨rX HO_11.out⟩,⟨sX HO_97.out⟩,⟨kX BK631.out⟩,⟨bX1 HB.out GE631.out⟩⟩
 }
 }
 }
 {
 rw [if_neg c78] at H
 exact absurd H (by simp)
 }
 }
 {
 rw [if_neg c77] at H
 exact absurd H (by simp)
 }
 }
 {
 rw [if_neg c76] at H
 have c76b0:=decide_eq_false c76
 clear c76
 simp only [Option.some.injEq,Prod.mk.injEq] at H
 obtain ⟨rfl,rfl⟩:=H
 go_wp2
 go_ret2
 exact ⟨_,eX,by(with_reducible repeat(first|apply rA|apply rN|apply rD));exact Kd.R_mono HO_6.out (fun _ hk=>trivial),bX1 HB.out GE631.out⟩
 }
 }
 }
 {
 rw [if_neg c54] at H
 exact absurd H (by simp)
 }
 }
 {
 rw [if_neg c53] at H
 exact absurd H (by simp)
 }
 }
 }
 {
 rw [if_neg c5] at H
 exact absurd H (by simp)
 }
 }
 {
 replace c4:=Bool.eq_false_iff.mpr c4
 subst c4
 have H1:(some (([]:List Int),false))=some (r1,r2):=by rw [if_neg (show ¬ (false=true) by decide)] at H;exact H
 clear H
 have H:=H1
 clear H1
 simp only [Option.some.injEq,Prod.mk.injEq] at H
 obtain ⟨rfl,rfl⟩:=H
 go_enter Tryd.func10,Tryd.ntmps10
 go_wp2_with (first|((with_reducible refine gate_dst (N:=2) rfl ?_);refine bEv (cs:=#[.slice A0_0 l0_0.length c0_0,.slice A0_1 l0_1.length c0_1]) (t:=25) ?_;intro gb631 hg w100 hbox hb;have BK631:=aM (hbox);have GW631:=aM ((szX (below_size (bX HB.out)) hg:w.heap.size≤gb631));have GE631:=GW631;replace HB:=aM (below_step (bX HB.out) hb);clear hb hbox hg;obtain ⟨hcz101_0,hcz101_1,hfz101_0,hfz101_1⟩:=f2Z BK631.out)|((with_reducible refine gate_callee (f:=13) rfl ?_);refine goesL_ (some 24) rfl rfl Tryd.func13 (by kernel_rfl) rfl #[.agg #[.slice A0_0 l0_0.length c0_0,.slice A0_1 l0_1.length c0_1],.slice A1 l1.length c1] rfl aX ?_;(with_reducible refine(i_IsTurn.calls k _ _ l0_0 _ _ l0_1 _ _ l1 false _ ?side1 ?side2 ?side3 ?side4 ?side5 ?side6 A3.out).mono ?_);(case side1=>exact cX (Kd.C_below HR0_0.out HB.out));(case side2=>exact HC0_0.out);(case side3=>exact cX (Kd.C_below HR0_1.out HB.out));(case side4=>exact HC0_1.out);(case side5=>exact cX (Kd.C_below HR1.out HB.out));(case side6=>exact HC1.out);rintro e w102 ⟨rfl,hb⟩;refine ⟨_,rfl,?_⟩;replace BK631:=aM (bbX BK631.out hb);replace HB:=aM (below_step (bX1 HB.out GE631.out) hb);(try clear hb);(try clear hk)))
 go_ret2
 exact ⟨_,eX,by first|exact Kd.R_nil _ _ _ _ _|exact Kd.N_nil _ _ _ _ _|exact Kd.V_nil _ _ _ _ _|exact Kd.Q_nil _ _ _ _ _|exact Kd.S_nil _ _ _ _ _,bX1 HB.out GE631.out⟩
 }

/-! ### i_CountFixed: function 11 -/
def i_CountFixed.f (k:Nat) (l0_0:List Int) (l0_1:List Int) (l1:List Int):Option (Int):=(i_FixedPoints.f k l0_0 l0_1 l1).bind fun bt672=>(if bt672.2=true then (if 0<(bt672.1.length:Int) then (if 1<(bt672.1.length:Int) then (if 2<(bt672.1.length:Int) then (if 3<(bt672.1.length:Int) then (some (wrap64 ((wrap64 ((wrap64 ((rd bt672.1 0)+(rd bt672.1 1)))+(rd bt672.1 2)))+(rd bt672.1 3)))) else (none)) else (none)) else (none)) else (none)) else (some (-1)))
theorem i_CountFixed.calls (k:Nat) (A0_0:Option Addr) (c0_0:Nat) (l0_0:List Int) (A0_1:Option Addr) (c0_1:Nat) (l0_1:List Int) (A1:Option Addr) (c1:Nat) (l1:List Int) (r:Int) (w:World) (hr0_0:Kd.C (Kd.int .i64) w A0_0 l0_0.length l0_0) (hc0_0:l0_0.length≤c0_0) (hr0_1:Kd.C (Kd.int .i64) w A0_1 l0_1.length l0_1) (hc0_1:l0_1.length≤c0_1) (hr1:Kd.C (Kd.int .i64) w A1 l1.length l1) (hc1:l1.length≤c1) (h:i_CountFixed.f k l0_0 l0_1 l1=some r) :
  Calls Tryd.prog 11 #[.agg #[.slice A0_0 l0_0.length c0_0,.slice A0_1 l0_1.length c0_1],.slice A1 l1.length c1] w fun e w'=>e = .returned (.int .i64 r)∧Below w.heap.size w w':=by
 have hu25:=Tryd.underlying25
 have HR0_0:=aM hr0_0
 have HC0_0:=aM hc0_0
 clear hr0_0 hc0_0
 have HR0_1:=aM hr0_1
 have HC0_1:=aM hc0_1
 clear hr0_1 hc0_1
 have HR1:=aM hr1
 have HC1:=aM hc1
 clear hr1 hc1
 have HB:=aM (Below.refl w.heap.size w)
 have H:((i_FixedPoints.f k l0_0 l0_1 l1).bind fun bt672=>(if bt672.2=true then (if 0<(bt672.1.length:Int) then (if 1<(bt672.1.length:Int) then (if 2<(bt672.1.length:Int) then (if 3<(bt672.1.length:Int) then (some (wrap64 ((wrap64 ((wrap64 ((rd bt672.1 0)+(rd bt672.1 1)))+(rd bt672.1 2)))+(rd bt672.1 3)))) else (none)) else (none)) else (none)) else (none)) else (some (-1))))=some r:=h
 clear h
 replace H:=oB H
 obtain ⟨⟨t672,t675⟩,A30,H⟩:=H
 replace H:(if t675=true then (if 0<(t672.length:Int) then (if 1<(t672.length:Int) then (if 2<(t672.length:Int) then (if 3<(t672.length:Int) then (some (wrap64 ((wrap64 ((wrap64 ((rd t672 0)+(rd t672 1)))+(rd t672 2)))+(rd t672 3)))) else (none)) else (none)) else (none)) else (none)) else (some (-1)))=some r:=H
 have A3:=aM A30
 clear A30
 by_cases c4:t675=true
 {
 subst c4
 have H1:(if 0<(t672.length:Int) then (if 1<(t672.length:Int) then (if 2<(t672.length:Int) then (if 3<(t672.length:Int) then (some (wrap64 ((wrap64 ((wrap64 ((rd t672 0)+(rd t672 1)))+(rd t672 2)))+(rd t672 3)))) else (none)) else (none)) else (none)) else (none))=some r:=by rw [if_pos rfl] at H;exact H
 clear H
 have H:=H1
 clear H1
 by_cases c5:0<(t672.length:Int)
 {
 rw [if_pos c5] at H
 have c5b0:=decide_eq_true c5
 have c5b1:decide (0<t672.length)=true:=decide_eq_true (by omega)
 clear c5
 by_cases c6:1<(t672.length:Int)
 {
 rw [if_pos c6] at H
 have c6b0:=decide_eq_true c6
 have c6b1:decide (1<t672.length)=true:=decide_eq_true (by omega)
 clear c6
 by_cases c7:2<(t672.length:Int)
 {
 rw [if_pos c7] at H
 have c7b0:=decide_eq_true c7
 have c7b1:decide (2<t672.length)=true:=decide_eq_true (by omega)
 clear c7
 by_cases c8:3<(t672.length:Int)
 {
 rw [if_pos c8] at H
 have c8b0:=decide_eq_true c8
 have c8b1:decide (3<t672.length)=true:=decide_eq_true (by omega)
 clear c8
 obtain rfl:=Option.some.inj H
 go_enter Tryd.func11,Tryd.ntmps11
 go_wp2_with (first|((with_reducible refine gate_dst (N:=2) rfl ?_);refine bEv (cs:=#[.slice A0_0 l0_0.length c0_0,.slice A0_1 l0_1.length c0_1]) (t:=25) ?_;intro gb671 hg w9 hbox hb;have BK671:=aM (hbox);have GW671:=aM ((szX (below_size (bX HB.out)) hg:w.heap.size≤gb671));have GE671:=GW671;replace HB:=aM (below_step (bX HB.out) hb);clear hb hbox hg;obtain ⟨hcz10_0,hcz10_1,hfz10_0,hfz10_1⟩:=f2Z BK671.out)|(go_at_call 10;(with_reducible refine(i_FixedPoints.calls k _ _ l0_0 _ _ l0_1 _ _ l1 t672 true _ ?side1 ?side2 ?side3 ?side4 ?side5 ?side6 A3.out).mono ?_);(case side1=>exact cX (Kd.C_below HR0_0.out HB.out));(case side2=>exact HC0_0.out);(case side3=>exact cX (Kd.C_below HR0_1.out HB.out));(case side4=>exact HC0_1.out);(case side5=>exact cX (Kd.C_below HR1.out HB.out));(case side6=>exact HC1.out);rintro e w11 ⟨v673,rfl,ho0,hb⟩;have HO674:=aM (Kd.R_lower ho0 (below_size (bX1 HB.out GE671.out)));replace BK671:=aM (bbX BK671.out hb);replace HB:=aM (below_step (bX1 HB.out GE671.out) hb);(try clear hb);(try clear ho0);obtain ⟨Ao12,co12,eo12⟩:=Kd.R_slice HO674.out;subst eo12;have p676:0≤(0:Int):=(by omega);have q676:0<(t672.length:Int):=dX;obtain ⟨ad676,e676,hx676_0⟩:=Kd.at_int (Kd.R_reads' HO674.out).2.2 0 p676 q676;cases e676;have qi676:(0<t672.length)=True:=eq_true (by omega);(try rw [show ((0:Int)).toNat=0 from rfl] at hx676_0);(try rw [Addr.add_zero'] at hx676_0);replace p676:=eq_true p676;replace q676:=eq_true q676;have p677:0≤(1:Int):=(by omega);have q677:1<(t672.length:Int):=dX;obtain ⟨ad677,e677,hx677_0⟩:=Kd.at_int (Kd.R_reads' HO674.out).2.2 1 p677 q677;obtain rfl:ad676=ad677:=(by injection e677);(try simp only [show (1:Int).toNat=1 from rfl,Nat.reduceMul,Nat.reduceEqDiff,Go.Addr.add,↓reduceIte] at hx677_0);have qi677:(1<t672.length)=True:=eq_true (by omega);(try rw [show ((1:Int)).toNat=1 from rfl] at hx677_0);replace p677:=eq_true p677;replace q677:=eq_true q677;have p678:0≤(2:Int):=(by omega);have q678:2<(t672.length:Int):=dX;obtain ⟨ad678,e678,hx678_0⟩:=Kd.at_int (Kd.R_reads' HO674.out).2.2 2 p678 q678;obtain rfl:ad676=ad678:=(by injection e678);(try simp only [show (2:Int).toNat=2 from rfl,Nat.reduceMul,Nat.reduceEqDiff,Go.Addr.add,↓reduceIte] at hx678_0);have qi678:(2<t672.length)=True:=eq_true (by omega);(try rw [show ((2:Int)).toNat=2 from rfl] at hx678_0);replace p678:=eq_true p678;replace q678:=eq_true q678;have p679:0≤(3:Int):=(by omega);have q679:3<(t672.length:Int):=dX;obtain ⟨ad679,e679,hx679_0⟩:=Kd.at_int (Kd.R_reads' HO674.out).2.2 3 p679 q679;obtain rfl:ad676=ad679:=(by injection e679);(try simp only [show (3:Int).toNat=3 from rfl,Nat.reduceMul,Nat.reduceEqDiff,Go.Addr.add,↓reduceIte] at hx679_0);have qi679:(3<t672.length)=True:=eq_true (by omega);(try rw [show ((3:Int)).toNat=3 from rfl] at hx679_0);replace p679:=eq_true p679;replace q679:=eq_true q679))
 repeat(go_quiet (first|((with_reducible refine gate_dst (N:=2) rfl ?_);refine bEv (cs:=#[.slice A0_0 l0_0.length c0_0,.slice A0_1 l0_1.length c0_1]) (t:=25) ?_;intro gb671 hg w9 hbox hb;have BK671:=aM (hbox);have GW671:=aM ((szX (below_size (bX HB.out)) hg:w.heap.size≤gb671));have GE671:=GW671;replace HB:=aM (below_step (bX HB.out) hb);clear hb hbox hg;obtain ⟨hcz10_0,hcz10_1,hfz10_0,hfz10_1⟩:=f2Z BK671.out)|(go_at_call 10;(with_reducible refine(i_FixedPoints.calls k _ _ l0_0 _ _ l0_1 _ _ l1 t672 true _ ?side1 ?side2 ?side3 ?side4 ?side5 ?side6 A3.out).mono ?_);(case side1=>exact cX (Kd.C_below HR0_0.out HB.out));(case side2=>exact HC0_0.out);(case side3=>exact cX (Kd.C_below HR0_1.out HB.out));(case side4=>exact HC0_1.out);(case side5=>exact cX (Kd.C_below HR1.out HB.out));(case side6=>exact HC1.out);rintro e w11 ⟨v673,rfl,ho0,hb⟩;have HO674:=aM (Kd.R_lower ho0 (below_size (bX1 HB.out GE671.out)));replace BK671:=aM (bbX BK671.out hb);replace HB:=aM (below_step (bX1 HB.out GE671.out) hb);(try clear hb);(try clear ho0);obtain ⟨Ao12,co12,eo12⟩:=Kd.R_slice HO674.out;subst eo12;have p676:0≤(0:Int):=(by omega);have q676:0<(t672.length:Int):=dX;obtain ⟨ad676,e676,hx676_0⟩:=Kd.at_int (Kd.R_reads' HO674.out).2.2 0 p676 q676;cases e676;have qi676:(0<t672.length)=True:=eq_true (by omega);(try rw [show ((0:Int)).toNat=0 from rfl] at hx676_0);(try rw [Addr.add_zero'] at hx676_0);replace p676:=eq_true p676;replace q676:=eq_true q676;have p677:0≤(1:Int):=(by omega);have q677:1<(t672.length:Int):=dX;obtain ⟨ad677,e677,hx677_0⟩:=Kd.at_int (Kd.R_reads' HO674.out).2.2 1 p677 q677;obtain rfl:ad676=ad677:=(by injection e677);(try simp only [show (1:Int).toNat=1 from rfl,Nat.reduceMul,Nat.reduceEqDiff,Go.Addr.add,↓reduceIte] at hx677_0);have qi677:(1<t672.length)=True:=eq_true (by omega);(try rw [show ((1:Int)).toNat=1 from rfl] at hx677_0);replace p677:=eq_true p677;replace q677:=eq_true q677;have p678:0≤(2:Int):=(by omega);have q678:2<(t672.length:Int):=dX;obtain ⟨ad678,e678,hx678_0⟩:=Kd.at_int (Kd.R_reads' HO674.out).2.2 2 p678 q678;obtain rfl:ad676=ad678:=(by injection e678);(try simp only [show (2:Int).toNat=2 from rfl,Nat.reduceMul,Nat.reduceEqDiff,Go.Addr.add,↓reduceIte] at hx678_0);have qi678:(2<t672.length)=True:=eq_true (by omega);(try rw [show ((2:Int)).toNat=2 from rfl] at hx678_0);replace p678:=eq_true p678;replace q678:=eq_true q678;have p679:0≤(3:Int):=(by omega);have q679:3<(t672.length:Int):=dX;obtain ⟨ad679,e679,hx679_0⟩:=Kd.at_int (Kd.R_reads' HO674.out).2.2 3 p679 q679;obtain rfl:ad676=ad679:=(by injection e679);(try simp only [show (3:Int).toNat=3 from rfl,Nat.reduceMul,Nat.reduceEqDiff,Go.Addr.add,↓reduceIte] at hx679_0);have qi679:(3<t672.length)=True:=eq_true (by omega);(try rw [show ((3:Int)).toNat=3 from rfl] at hx679_0);replace p679:=eq_true p679;replace q679:=eq_true q679));try go_wp2_with (first|((with_reducible refine gate_dst (N:=2) rfl ?_);refine bEv (cs:=#[.slice A0_0 l0_0.length c0_0,.slice A0_1 l0_1.length c0_1]) (t:=25) ?_;intro gb671 hg w9 hbox hb;have BK671:=aM (hbox);have GW671:=aM ((szX (below_size (bX HB.out)) hg:w.heap.size≤gb671));have GE671:=GW671;replace HB:=aM (below_step (bX HB.out) hb);clear hb hbox hg;obtain ⟨hcz10_0,hcz10_1,hfz10_0,hfz10_1⟩:=f2Z BK671.out)|(go_at_call 10;(with_reducible refine(i_FixedPoints.calls k _ _ l0_0 _ _ l0_1 _ _ l1 t672 true _ ?side1 ?side2 ?side3 ?side4 ?side5 ?side6 A3.out).mono ?_);(case side1=>exact cX (Kd.C_below HR0_0.out HB.out));(case side2=>exact HC0_0.out);(case side3=>exact cX (Kd.C_below HR0_1.out HB.out));(case side4=>exact HC0_1.out);(case side5=>exact cX (Kd.C_below HR1.out HB.out));(case side6=>exact HC1.out);rintro e w11 ⟨v673,rfl,ho0,hb⟩;have HO674:=aM (Kd.R_lower ho0 (below_size (bX1 HB.out GE671.out)));replace BK671:=aM (bbX BK671.out hb);replace HB:=aM (below_step (bX1 HB.out GE671.out) hb);(try clear hb);(try clear ho0);obtain ⟨Ao12,co12,eo12⟩:=Kd.R_slice HO674.out;subst eo12;have p676:0≤(0:Int):=(by omega);have q676:0<(t672.length:Int):=dX;obtain ⟨ad676,e676,hx676_0⟩:=Kd.at_int (Kd.R_reads' HO674.out).2.2 0 p676 q676;cases e676;have qi676:(0<t672.length)=True:=eq_true (by omega);(try rw [show ((0:Int)).toNat=0 from rfl] at hx676_0);(try rw [Addr.add_zero'] at hx676_0);replace p676:=eq_true p676;replace q676:=eq_true q676;have p677:0≤(1:Int):=(by omega);have q677:1<(t672.length:Int):=dX;obtain ⟨ad677,e677,hx677_0⟩:=Kd.at_int (Kd.R_reads' HO674.out).2.2 1 p677 q677;obtain rfl:ad676=ad677:=(by injection e677);(try simp only [show (1:Int).toNat=1 from rfl,Nat.reduceMul,Nat.reduceEqDiff,Go.Addr.add,↓reduceIte] at hx677_0);have qi677:(1<t672.length)=True:=eq_true (by omega);(try rw [show ((1:Int)).toNat=1 from rfl] at hx677_0);replace p677:=eq_true p677;replace q677:=eq_true q677;have p678:0≤(2:Int):=(by omega);have q678:2<(t672.length:Int):=dX;obtain ⟨ad678,e678,hx678_0⟩:=Kd.at_int (Kd.R_reads' HO674.out).2.2 2 p678 q678;obtain rfl:ad676=ad678:=(by injection e678);(try simp only [show (2:Int).toNat=2 from rfl,Nat.reduceMul,Nat.reduceEqDiff,Go.Addr.add,↓reduceIte] at hx678_0);have qi678:(2<t672.length)=True:=eq_true (by omega);(try rw [show ((2:Int)).toNat=2 from rfl] at hx678_0);replace p678:=eq_true p678;replace q678:=eq_true q678;have p679:0≤(3:Int):=(by omega);have q679:3<(t672.length:Int):=dX;obtain ⟨ad679,e679,hx679_0⟩:=Kd.at_int (Kd.R_reads' HO674.out).2.2 3 p679 q679;obtain rfl:ad676=ad679:=(by injection e679);(try simp only [show (3:Int).toNat=3 from rfl,Nat.reduceMul,Nat.reduceEqDiff,Go.Addr.add,↓reduceIte] at hx679_0);have qi679:(3<t672.length)=True:=eq_true (by omega);(try rw [show ((3:Int)).toNat=3 from rfl] at hx679_0);replace p679:=eq_true p679;replace q679:=eq_true q679)))
 go_ret
 exact ⟨eX,bX1 HB.out GE671.out⟩
 }
 {
 rw [if_neg c8] at H
 exact absurd H (by simp)
 }
 }
 {
 rw [if_neg c7] at H
 exact absurd H (by simp)
 }
 }
 {
 rw [if_neg c6] at H
 exact absurd H (by simp)
 }
 }
 {
 rw [if_neg c5] at H
 exact absurd H (by simp)
 }
 }
 {
 replace c4:=Bool.eq_false_iff.mpr c4
 subst c4
 have H1:(some (-1))=some r:=by rw [if_neg (show ¬ (false=true) by decide)] at H;exact H
 clear H
 have H:=H1
 clear H1
 obtain rfl:=Option.some.inj H
 go_enter Tryd.func11,Tryd.ntmps11
 go_wp2_with (first|((with_reducible refine gate_dst (N:=2) rfl ?_);refine bEv (cs:=#[.slice A0_0 l0_0.length c0_0,.slice A0_1 l0_1.length c0_1]) (t:=25) ?_;intro gb671 hg w13 hbox hb;have BK671:=aM (hbox);have GW671:=aM ((szX (below_size (bX HB.out)) hg:w.heap.size≤gb671));have GE671:=GW671;replace HB:=aM (below_step (bX HB.out) hb);clear hb hbox hg;obtain ⟨hcz14_0,hcz14_1,hfz14_0,hfz14_1⟩:=f2Z BK671.out)|(go_at_call 10;(with_reducible refine(i_FixedPoints.calls k _ _ l0_0 _ _ l0_1 _ _ l1 t672 false _ ?side1 ?side2 ?side3 ?side4 ?side5 ?side6 A3.out).mono ?_);(case side1=>exact cX (Kd.C_below HR0_0.out HB.out));(case side2=>exact HC0_0.out);(case side3=>exact cX (Kd.C_below HR0_1.out HB.out));(case side4=>exact HC0_1.out);(case side5=>exact cX (Kd.C_below HR1.out HB.out));(case side6=>exact HC1.out);rintro e w15 ⟨v673,rfl,ho0,hb⟩;have HO674:=aM (Kd.R_lower ho0 (below_size (bX1 HB.out GE671.out)));replace BK671:=aM (bbX BK671.out hb);replace HB:=aM (below_step (bX1 HB.out GE671.out) hb);(try clear hb);(try clear ho0)))
 repeat(go_quiet (first|((with_reducible refine gate_dst (N:=2) rfl ?_);refine bEv (cs:=#[.slice A0_0 l0_0.length c0_0,.slice A0_1 l0_1.length c0_1]) (t:=25) ?_;intro gb671 hg w13 hbox hb;have BK671:=aM (hbox);have GW671:=aM ((szX (below_size (bX HB.out)) hg:w.heap.size≤gb671));have GE671:=GW671;replace HB:=aM (below_step (bX HB.out) hb);clear hb hbox hg;obtain ⟨hcz14_0,hcz14_1,hfz14_0,hfz14_1⟩:=f2Z BK671.out)|(go_at_call 10;(with_reducible refine(i_FixedPoints.calls k _ _ l0_0 _ _ l0_1 _ _ l1 t672 false _ ?side1 ?side2 ?side3 ?side4 ?side5 ?side6 A3.out).mono ?_);(case side1=>exact cX (Kd.C_below HR0_0.out HB.out));(case side2=>exact HC0_0.out);(case side3=>exact cX (Kd.C_below HR0_1.out HB.out));(case side4=>exact HC0_1.out);(case side5=>exact cX (Kd.C_below HR1.out HB.out));(case side6=>exact HC1.out);rintro e w15 ⟨v673,rfl,ho0,hb⟩;have HO674:=aM (Kd.R_lower ho0 (below_size (bX1 HB.out GE671.out)));replace BK671:=aM (bbX BK671.out hb);replace HB:=aM (below_step (bX1 HB.out GE671.out) hb);(try clear hb);(try clear ho0)));try go_wp2_with (first|((with_reducible refine gate_dst (N:=2) rfl ?_);refine bEv (cs:=#[.slice A0_0 l0_0.length c0_0,.slice A0_1 l0_1.length c0_1]) (t:=25) ?_;intro gb671 hg w13 hbox hb;have BK671:=aM (hbox);have GW671:=aM ((szX (below_size (bX HB.out)) hg:w.heap.size≤gb671));have GE671:=GW671;replace HB:=aM (below_step (bX HB.out) hb);clear hb hbox hg;obtain ⟨hcz14_0,hcz14_1,hfz14_0,hfz14_1⟩:=f2Z BK671.out)|(go_at_call 10;(with_reducible refine(i_FixedPoints.calls k _ _ l0_0 _ _ l0_1 _ _ l1 t672 false _ ?side1 ?side2 ?side3 ?side4 ?side5 ?side6 A3.out).mono ?_);(case side1=>exact cX (Kd.C_below HR0_0.out HB.out));(case side2=>exact HC0_0.out);(case side3=>exact cX (Kd.C_below HR0_1.out HB.out));(case side4=>exact HC0_1.out);(case side5=>exact cX (Kd.C_below HR1.out HB.out));(case side6=>exact HC1.out);rintro e w15 ⟨v673,rfl,ho0,hb⟩;have HO674:=aM (Kd.R_lower ho0 (below_size (bX1 HB.out GE671.out)));replace BK671:=aM (bbX BK671.out hb);replace HB:=aM (below_step (bX1 HB.out GE671.out) hb);(try clear hb);(try clear ho0))))
 go_ret
 exact ⟨eX,bX1 HB.out GE671.out⟩
 }

/-! ### i_QuotientGenus: function 12 -/
def i_QuotientGenus.l0 : Nat→List Int→Int→Int→List Int→List Int→Option (Int)
 | 0,_,_,_,_,_=>none
 | k+1,x1,x11,x12,x681000,x681001=>if x12<x11 then (if 0≤x12 then (if x12<(x1.length:Int) then (if 0≤(rd x1 x12) then (if (rd x1 x12)<(x1.length:Int) then (if (rd x1 (rd x1 x12))=x12 then (i_QuotientGenus.l0 k x1 x11 (wrap64 (x12+1)) x681000 x681001) else (some (-1))) else (none)) else (none)) else (none)) else (none)) else ((i_GenusOf.f k x681000 x681001).bind fun t684=>((i_CountFixed.f k x681000 x681001 x1).bind fun t685=>(some (wrap64 (Int.tdiv (wrap64 ((wrap64 ((wrap64 (2*t684))+2)) - t685)) 4)))))
def i_QuotientGenus.f (k:Nat) (l0_0:List Int) (l0_1:List Int) (l1:List Int):Option (Int):=(i_IsTurn.f k l0_0 l0_1 l1).bind fun t681=>(if t681=true then (i_QuotientGenus.l0 k l1 (l1.length:Int) 0 l0_0 l0_1) else (some (-1)))
def i_QuotientGenus.T9 : Bool × List (List Nat × List Nat):=(true,[([],[]),([0],[0]),([1],[1]),([2],[2]),([],[]),([],[]),([4,5,1],[4,5]),([3,6],[3,6]),([7],[7]),([8,6,0,1,2,3,4,5,6,7,8],[8])])
def i_QuotientGenus.B9 : List Nat:=[0,1,3,7,0,0,51,127,255,511]
theorem i_QuotientGenus.tab9 : rtab .any (opsOf Tryd.f12 9)=i_QuotientGenus.T9:=by kernel_rfl
theorem i_QuotientGenus.bits9 : waitsOk i_QuotientGenus.T9.2 i_QuotientGenus.B9=true:=by kernel_rfl
theorem i_QuotientGenus.calls (k:Nat) (A0_0:Option Addr) (c0_0:Nat) (l0_0:List Int) (A0_1:Option Addr) (c0_1:Nat) (l0_1:List Int) (A1:Option Addr) (c1:Nat) (l1:List Int) (r:Int) (w:World) (hr0_0:Kd.C (Kd.int .i64) w A0_0 l0_0.length l0_0) (hc0_0:l0_0.length≤c0_0) (hr0_1:Kd.C (Kd.int .i64) w A0_1 l0_1.length l0_1) (hc0_1:l0_1.length≤c0_1) (hr1:Kd.C (Kd.int .i64) w A1 l1.length l1) (hc1:l1.length≤c1) (h:i_QuotientGenus.f k l0_0 l0_1 l1=some r) :
  Calls Tryd.prog 12 #[.agg #[.slice A0_0 l0_0.length c0_0,.slice A0_1 l0_1.length c0_1],.slice A1 l1.length c1] w fun e w'=>e = .returned (.int .i64 r)∧Below w.heap.size w w':=by
 have hu25:=Tryd.underlying25
 have HR0_0:=aM hr0_0
 have HC0_0:=aM hc0_0
 clear hr0_0 hc0_0
 have HR0_1:=aM hr0_1
 have HC0_1:=aM hc0_1
 clear hr0_1 hc0_1
 have HR1:=aM hr1
 have HC1:=aM hc1
 clear hr1 hc1
 have HB:=aM (Below.refl w.heap.size w)
 have H:((i_IsTurn.f k l0_0 l0_1 l1).bind fun t681=>(if t681=true then (i_QuotientGenus.l0 k l1 (l1.length:Int) 0 l0_0 l0_1) else (some (-1))))=some r:=h
 clear h
 replace H:=oB H
 obtain ⟨t681,A30,H⟩:=H
 have A3:=aM A30
 clear A30
 by_cases c4:t681=true
 {
 subst c4
 have H1:(i_QuotientGenus.l0 k l1 (l1.length:Int) 0 l0_0 l0_1)=some r:=by rw [if_pos rfl] at H;exact H
 clear H
 have H:=H1
 clear H1
 have H':=aM H
 clear H
 go_enter Tryd.func12,Tryd.ntmps12
 go_wp2_with (first|((with_reducible refine gate_dst (N:=2) rfl ?_);refine bEv (cs:=#[.slice A0_0 l0_0.length c0_0,.slice A0_1 l0_1.length c0_1]) (t:=25) ?_;intro gb680 hg w5 hbox hb;have BK680:=aM (hbox);have GW680:=aM ((szX (below_size (bX HB.out)) hg:w.heap.size≤gb680));have GE680:=GW680;replace HB:=aM (below_step (bX HB.out) hb);clear hb hbox hg;obtain ⟨hcz6_0,hcz6_1,hfz6_0,hfz6_1⟩:=f2Z BK680.out)|((with_reducible refine gate_callee (f:=13) rfl ?_);refine goesL_ (some 8) rfl rfl Tryd.func13 (by kernel_rfl) rfl #[.agg #[.slice A0_0 l0_0.length c0_0,.slice A0_1 l0_1.length c0_1],.slice A1 l1.length c1] rfl aX ?_;(with_reducible refine(i_IsTurn.calls k _ _ l0_0 _ _ l0_1 _ _ l1 true _ ?side1 ?side2 ?side3 ?side4 ?side5 ?side6 A3.out).mono ?_);(case side1=>exact cX (Kd.C_below HR0_0.out HB.out));(case side2=>exact HC0_0.out);(case side3=>exact cX (Kd.C_below HR0_1.out HB.out));(case side4=>exact HC0_1.out);(case side5=>exact cX (Kd.C_below HR1.out HB.out));(case side6=>exact HC1.out);rintro e w7 ⟨rfl,hb⟩;refine ⟨_,rfl,?_⟩;replace BK680:=aM (bbX BK680.out hb);replace HB:=aM (below_step (bX1 HB.out GE680.out) hb);(try clear hb)))
 go_loopg [12] k (fun kq v12 w'=>∃ (x12_1:Int),v12 = .int .i64 x12_1∧Aside0 (i_QuotientGenus.l0 kq l1 (l1.length:Int) x12_1 l0_0 l0_1=some r)∧Aside0 (kq≤k)∧Aside0 (w'.heap[gb680]? = some (.cells #[(.slice A0_0 l0_0.length c0_0),(.slice A0_1 l0_1.length c0_1)] 25 (0,0)))∧Aside0 (Below w.heap.size w w'))
 case atStart=>exact ⟨(0),vX,H',⟨Nat.le_refl _⟩,⟨kX BK680.out⟩,⟨bX1 HB.out GE680.out⟩⟩
 case round =>
 clear H'
 try clear c1
 try clear c4
 try clear hcz6_0
 try clear hcz6_1
 try clear hfz6_0
 try clear hfz6_1
 obtain ⟨x12_1,rfl,HA,HK1,BK680,HB⟩:=hrel
 cases gk with
 | zero=>exact absurd HA.out (by simp [i_QuotientGenus.l0])
 | succ k1 =>
 have H:=HA.out
 clear HA
 simp only [i_QuotientGenus.l0] at H
 by_cases c8:x12_1<(l1.length:Int)
 {
 rw [if_pos c8] at H
 have c8b0:=decide_eq_true c8
 clear c8
 by_cases c9:0≤x12_1
 {
 rw [if_pos c9] at H
 have c9b0:=decide_eq_true c9
 clear c9
 by_cases c10:x12_1<(l1.length:Int)
 {
 rw [if_pos c10] at H
 have c10b0:=decide_eq_true c10
 clear c10
 by_cases c11:0≤(rd l1 x12_1)
 {
 rw [if_pos c11] at H
 have c11b0:=decide_eq_true c11
 clear c11
 by_cases c12:(rd l1 x12_1)<(l1.length:Int)
 {
 rw [if_pos c12] at H
 have c12b0:=decide_eq_true c12
 clear c12
 by_cases c13:(rd l1 (rd l1 x12_1))=x12_1
 {
 rw [if_pos c13] at H
 have c13b0:((rd l1 (rd l1 x12_1)) == x12_1)=true:=beq_iff_eq.mpr c13
 have c13b1:((rd l1 (rd l1 x12_1)) != x12_1)=false:=bne_eq_false_iff_eq.mpr c13
 clear c13
 have H':=aM H
 clear H
 have p682:0≤(x12_1:Int):=dX
 have q682:x12_1<(l1.length:Int):=dX
 obtain ⟨ad682,e682,hx682_0⟩:=Kd.at_int HR1.out x12_1 p682 q682
 cases e682
 replace hx682_0:=(HB.out.cell (World.block_lt_of_cell? w _ hx682_0)).trans hx682_0
 replace p682:=eq_true p682
 replace q682:=eq_true q682
 have p683:0≤((rd l1 x12_1):Int):=dX
 have q683:(rd l1 x12_1)<(l1.length:Int):=dX
 obtain ⟨ad683,e683,hx683_0⟩:=Kd.at_int HR1.out (rd l1 x12_1) p683 q683
 obtain rfl:ad682=ad683:=(by injection e683)
 replace hx683_0:=(HB.out.cell (World.block_lt_of_cell? w _ hx683_0)).trans hx683_0
 replace p683:=eq_true p683
 replace q683:=eq_true q683
 go_wp2
 go_roundg k1
 case measure=>have:=HK1.out;omega
 case rel=>exact ⟨(wrap64 (x12_1+1)),vX,H',⟨by have:=HK1.out;omega⟩,⟨kX BK680.out⟩,⟨bX1 HB.out GE680.out⟩⟩
 }
 {
 rw [if_neg c13] at H
 have c13b0:((rd l1 (rd l1 x12_1)) == x12_1)=false:=beq_eq_false_iff_ne.mpr c13
 have c13b1:((rd l1 (rd l1 x12_1)) != x12_1)=true:=bne_iff_ne.mpr c13
 obtain rfl:=Option.some.inj H
 have p682:0≤(x12_1:Int):=dX
 have q682:x12_1<(l1.length:Int):=dX
 obtain ⟨ad682,e682,hx682_0⟩:=Kd.at_int HR1.out x12_1 p682 q682
 cases e682
 replace hx682_0:=(HB.out.cell (World.block_lt_of_cell? w _ hx682_0)).trans hx682_0
 replace p682:=eq_true p682
 replace q682:=eq_true q682
 have p683:0≤((rd l1 x12_1):Int):=dX
 have q683:(rd l1 x12_1)<(l1.length:Int):=dX
 obtain ⟨ad683,e683,hx683_0⟩:=Kd.at_int HR1.out (rd l1 x12_1) p683 q683
 obtain rfl:ad682=ad683:=(by injection e683)
 replace hx683_0:=(HB.out.cell (World.block_lt_of_cell? w _ hx683_0)).trans hx683_0
 replace p683:=eq_true p683
 replace q683:=eq_true q683
 go_wp2
 go_ret
 exact ⟨eX,bX1 HB.out GE680.out⟩
 }
 }
 {
 rw [if_neg c12] at H
 exact absurd H (by simp)
 }
 }
 {
 rw [if_neg c11] at H
 exact absurd H (by simp)
 }
 }
 {
 rw [if_neg c10] at H
 exact absurd H (by simp)
 }
 }
 {
 rw [if_neg c9] at H
 exact absurd H (by simp)
 }
 }
 {
 rw [if_neg c8] at H
 have c8b0:=decide_eq_false c8
 clear c8
 replace H:=oB H
 obtain ⟨t684,A140,H⟩:=H
 have A14:=aM A140
 clear A140
 replace H:=oB H
 obtain ⟨t685,A150,H⟩:=H
 have A15:=aM A150
 clear A150
 obtain rfl:=Option.some.inj H
 try go_wp2
 replace BK680:=aM (blk_drew BK680.out)
 replace HB:=aM (below_drew1 HB.out)
 refine start_ (n:=10) (S:=fun w'=>w'.cell? ⟨gb680,0,none⟩=some (.slice A0_0 l0_0.length c0_0)∧w'.cell? ⟨gb680,1,none⟩=some (.slice A0_1 l0_1.length c0_1)) (ds:=[]) #[ff,ff,ff,ff,ff,ff,ff,ff,ff,ff] (by kernel_rfl) rfl rfl ⟨cz20 BK680.out,cz21 BK680.out⟩ (fun hHeld => ?_);refine with_tabW i_QuotientGenus.tab9 i_QuotientGenus.bits9 (fun HT_ HW_ => ?_)
 generalize wr.drew=w16 at BK680 HB hHeld ⊢
 refine pX 5 30 (fl 10 32) rfl rfl HT_.out ?_
 refine tX2 0 25 (fl 10 33) rfl rfl HT_.out HW_.out hHeld ?_
 refine tX2 4 29 (fl 10 49) rfl rfl HT_.out HW_.out hHeld ?_
 refine one_ (i:=1) (N:=some 26) #[tt,tt,ff,ff,tt,tt,ff,ff,ff,ff] rfl rfl (one_of HT_.out (by kernel_rfl)) (by decide) (fun K hK => ?_)
 refine goes_ Tryd.func6 (by kernel_rfl) rfl #[.agg #[.slice A0_0 l0_0.length c0_0,.slice A0_1 l0_1.length c0_1]] (by rfl) rfl rfl aX ?_
 with_reducible refine(i_GenusOf.calls k1 _ _ l0_0 _ _ l0_1 t684 _ ?side1 ?side2 ?side3 ?side4 A14.out).mono ?_
 (case side1=>exact cX (Kd.C_below HR0_0.out HB.out))
 (case side2=>exact HC0_0.out)
 (case side3=>exact cX (Kd.C_below HR0_1.out HB.out))
 (case side4=>exact HC0_1.out)
 rintro e w17 ⟨rfl,hb⟩
 refine ⟨_,rfl,?_⟩
 replace BK680:=aM (bbX BK680.out hb)
 replace HB:=aM (below_step (bX1 HB.out GE680.out) hb)
 (try clear hb)
 refine hK.out _ _ ⟨cz20 BK680.out,cz21 BK680.out⟩ (fun hHeld => ?_)
 clear hK K
 refine norm_ (a':=?_) ?_ ?_
 rotate_left
 {
 show Act.put _ (some 26) _=_
 simp only [Act.put,zA,zB,zC,i64_w,i32_w]
 rfl
 }
 refine pX 2 27 (fl 10 55) rfl rfl HT_.out ?_
 refine pX 3 28 (fl 10 63) rfl rfl HT_.out ?_
 refine one_ (i:=6) (N:=some 31) #[tt,tt,tt,tt,tt,tt,tt,ff,ff,ff] rfl rfl (one_of HT_.out (by kernel_rfl)) (by decide) (fun K hK => ?_)
 refine goes_ Tryd.func11 (by kernel_rfl) rfl #[.agg #[.slice A0_0 l0_0.length c0_0,.slice A0_1 l0_1.length c0_1],.slice A1 l1.length c1] (by rfl) rfl rfl aX ?_
 with_reducible refine(i_CountFixed.calls k1 _ _ l0_0 _ _ l0_1 _ _ l1 t685 _ ?side1 ?side2 ?side3 ?side4 ?side5 ?side6 A15.out).mono ?_
 (case side1=>exact cX (Kd.C_below HR0_0.out HB.out))
 (case side2=>exact HC0_0.out)
 (case side3=>exact cX (Kd.C_below HR0_1.out HB.out))
 (case side4=>exact HC0_1.out)
 (case side5=>exact cX (Kd.C_below HR1.out HB.out))
 (case side6=>exact HC1.out)
 rintro e w18 ⟨rfl,hb⟩
 refine ⟨_,rfl,?_⟩
 replace BK680:=aM (bbX BK680.out hb)
 replace HB:=aM (below_step (bX1 HB.out GE680.out) hb)
 (try clear hb)
 refine hK.out _ _ ⟨cz20 BK680.out,cz21 BK680.out⟩ (fun hHeld => ?_)
 clear hK K
 refine norm_ (a':=?_) ?_ ?_
 rotate_left
 {
 show Act.put _ (some 31) _=_
 simp only [Act.put,zA,zB,zC,i64_w,i32_w]
 rfl
 }
 refine pX 7 32 (fl 10 255) rfl rfl HT_.out ?_
 refine pX 8 33 (fl 10 511) rfl rfl HT_.out ?_
 refine pX 9 4 (fl 10 1023) rfl rfl HT_.out ?_
 refine done_ (done_of HT_.out (by kernel_rfl)) ?_
 try go_wp2
 go_ret
 exact ⟨eX,bX1 HB.out GE680.out⟩
 }
 }
 {
 replace c4:=Bool.eq_false_iff.mpr c4
 subst c4
 have H1:(some (-1))=some r:=by rw [if_neg (show ¬ (false=true) by decide)] at H;exact H
 clear H
 have H:=H1
 clear H1
 obtain rfl:=Option.some.inj H
 go_enter Tryd.func12,Tryd.ntmps12
 go_wp2_with (first|((with_reducible refine gate_dst (N:=2) rfl ?_);refine bEv (cs:=#[.slice A0_0 l0_0.length c0_0,.slice A0_1 l0_1.length c0_1]) (t:=25) ?_;intro gb680 hg w19 hbox hb;have BK680:=aM (hbox);have GW680:=aM ((szX (below_size (bX HB.out)) hg:w.heap.size≤gb680));have GE680:=GW680;replace HB:=aM (below_step (bX HB.out) hb);clear hb hbox hg;obtain ⟨hcz20_0,hcz20_1,hfz20_0,hfz20_1⟩:=f2Z BK680.out)|((with_reducible refine gate_callee (f:=13) rfl ?_);refine goesL_ (some 8) rfl rfl Tryd.func13 (by kernel_rfl) rfl #[.agg #[.slice A0_0 l0_0.length c0_0,.slice A0_1 l0_1.length c0_1],.slice A1 l1.length c1] rfl aX ?_;(with_reducible refine(i_IsTurn.calls k _ _ l0_0 _ _ l0_1 _ _ l1 false _ ?side1 ?side2 ?side3 ?side4 ?side5 ?side6 A3.out).mono ?_);(case side1=>exact cX (Kd.C_below HR0_0.out HB.out));(case side2=>exact HC0_0.out);(case side3=>exact cX (Kd.C_below HR0_1.out HB.out));(case side4=>exact HC0_1.out);(case side5=>exact cX (Kd.C_below HR1.out HB.out));(case side6=>exact HC1.out);rintro e w21 ⟨rfl,hb⟩;refine ⟨_,rfl,?_⟩;replace BK680:=aM (bbX BK680.out hb);replace HB:=aM (below_step (bX1 HB.out GE680.out) hb);(try clear hb)))
 go_ret
 exact ⟨eX,bX1 HB.out GE680.out⟩
 }

end Go.Proofs.YthhdgeafdnikcaaDoor.S
