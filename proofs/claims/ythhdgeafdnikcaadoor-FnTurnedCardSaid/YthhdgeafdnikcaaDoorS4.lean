-- PRINTED by print.py (a twelfth state) out of the translation. Not trusted: Lean checks it.
import Derived.Test.YthhdgeafdnikcaaDoorS0
import Derived.Test.YthhdgeafdnikcaaDoorS2
import Derived.Test.YthhdgeafdnikcaaDoorS3
namespace Go.Proofs.YthhdgeafdnikcaaDoor.S
set_option maxHeartbeats 8000000
set_option maxRecDepth 100000
open Go.RowKit Go.Proofs.YthhdgeafdnikcaaDoorW.PrintWords Go.Proofs.YthhdgeafdnikcaaDoorW.PrintLast Go.Proofs.YthhdgeafdnikcaaDoorW.PrintMore
attribute [local go_sem] max2_int min2_int max_two min_two max_three min_three max_four min_four   -- for this text's walks alone
set_option linter.unusedVariables false
set_option linter.unusedSimpArgs false

/-! ### i_turnTo: function 23 -/
mutual
def i_turnTo.l0 : Nat→Int→List Int→List Int→List Int→Int→Int→List Int→List Int→Option (List Int)
 | 0,_,_,_,_,_,_,_,_=>none
 | k+1,x1,x5,x6,x7,x25,x26,x336000,x336001=>if x26<x25 then (if 0≤x26 then (if x26<(x7.length:Int) then (i_turnTo.l0 k x1 x5 x6 (x7.set (x26:Int).toNat (-1)) x25 (wrap64 (x26+1)) x336000 x336001) else (none)) else (none)) else (if 0<(x7.length:Int) then (i_turnTo.l1 k x5 x6 (x7.set (0:Int).toNat x1) (([0]:List Int)) 0 x336000 x336001) else (none))
def i_turnTo.l1 : Nat→List Int→List Int→List Int→List Int→Int→List Int→List Int→Option (List Int)
 | 0,_,_,_,_,_,_,_=>none
 | k+1,x5,x6,x7,x9,x10,x336000,x336001=>if x10<(x9.length:Int) then (if 0≤x10 then (if 0≤(rd x9 x10) then (if (rd x9 x10)<(x336000.length:Int) then (if (rd x9 x10)<(x7.length:Int) then (if 0≤(rd x7 (rd x9 x10)) then (if (rd x7 (rd x9 x10))<(x5.length:Int) then (if (rd x9 x10)<(x336001.length:Int) then (if (rd x7 (rd x9 x10))<(x6.length:Int) then ((some (([(⟨rd x336000 (rd x9 x10),rd x5 (rd x7 (rd x9 x10))⟩:S63),(⟨rd x336001 (rd x9 x10),rd x6 (rd x7 (rd x9 x10))⟩:S63)]:List (S63)):List (S63))).bind fun y357=>(i_turnTo.l2 k x5 x6 x7 x9 x10 y357 (y357.length:Int) 0 x336000 x336001)) else (none)) else (none)) else (none)) else (none)) else (none)) else (none)) else (none)) else (none)) else (some x7)
def i_turnTo.l2 : Nat→List Int→List Int→List Int→List Int→Int→List (S63)→Int→Int→List Int→List Int→Option (List Int)
 | 0,_,_,_,_,_,_,_,_,_,_=>none
 | k+1,x5,x6,x7,x9,x10,x73,x74,x75,x336000,x336001=>if x75<x74 then (if 0≤x75 then (if x75<(x73.length:Int) then (if 0≤((rd_T63 x73 x75).f0) then (if ((rd_T63 x73 x75).f0)<(x7.length:Int) then (if (rd x7 ((rd_T63 x73 x75).f0))<0 then (if x9.length<17592186044416 then (i_turnTo.l2 k x5 x6 (x7.set (((rd_T63 x73 x75).f0):Int).toNat ((rd_T63 x73 x75).f1)) (x9 ++ [(rd_T63 x73 x75).f0]) x10 x73 x74 (wrap64 (x75+1)) x336000 x336001) else (none)) else (i_turnTo.l2 k x5 x6 x7 x9 x10 x73 x74 (wrap64 (x75+1)) x336000 x336001)) else (none)) else (none)) else (none)) else (none)) else (i_turnTo.l1 k x5 x6 x7 x9 (wrap64 (x10+1)) x336000 x336001)
end
def i_turnTo.f (k:Nat) (l0_0:List Int) (l0_1:List Int) (a1:Int):Option (List Int):=(i_InversePerm.f k l0_0).bind fun t336=>((i_InversePerm.f k l0_1).bind fun t339=>(if 0≤(l0_0.length:Int) then (if ((l0_0.length:Int):Int).toNat≤35184372088832 then ((some (List.replicate ((l0_0.length:Int):Int).toNat 0:List Int)).bind fun y342=>(i_turnTo.l0 k a1 t336 t339 y342 (y342.length:Int) 0 l0_0 l0_1)) else (none)) else (none)))
def i_turnTo.T15 : Bool × List (List Nat × List Nat):=(true,[([],[]),([0],[0]),([],[]),([1,2],[1,2]),([3],[3]),([],[]),([],[]),([],[]),([6,7],[6,7]),([8],[8]),([5,9],[5,9]),([10],[10]),([4,11],[4,11]),([],[]),([13],[13]),([],[]),([14,15],[14,15]),([16],[16]),([],[]),([],[]),([],[]),([19,20],[19,20]),([21],[21]),([18,22],[18,22]),([23],[23]),([17,24],[17,24]),([12,25],[12,25]),([26],[26]),([],[])])
def i_turnTo.B15 : List Nat:=[0,1,0,7,15,0,0,0,192,448,992,2016,4095,0,8192,0,57344,122880,0,0,0,1572864,3670016,8126464,16515072,33546240,67108863,134217727,0]
theorem i_turnTo.tab15 : rtab .any (opsOf Tryd.f23 15)=i_turnTo.T15:=by kernel_rfl
theorem i_turnTo.bits15 : waitsOk i_turnTo.T15.2 i_turnTo.B15=true:=by kernel_rfl
theorem i_turnTo.calls (k:Nat) (A0_0:Option Addr) (c0_0:Nat) (l0_0:List Int) (A0_1:Option Addr) (c0_1:Nat) (l0_1:List Int) (a1:Int) (r:List Int) (w:World) (hr0_0:Kd.C (Kd.int .i64) w A0_0 l0_0.length l0_0) (hc0_0:l0_0.length≤c0_0) (hr0_1:Kd.C (Kd.int .i64) w A0_1 l0_1.length l0_1) (hc0_1:l0_1.length≤c0_1) (h:i_turnTo.f k l0_0 l0_1 a1=some r) :
  Calls Tryd.prog 23 #[.agg #[.slice A0_0 l0_0.length c0_0,.slice A0_1 l0_1.length c0_1],.int .i64 a1] w fun e w'=>∃ v0_:Value,e = .returned (v0_)∧Kd.R (Kd.int .i64) 3 w' w.heap.size (fun _=>True) v0_ r∧Below w.heap.size w w':=by
 have hu25:=Tryd.underlying25
 have hu63:=Tryd.underlying63
 have HR0_0:=aM hr0_0
 have HC0_0:=aM hc0_0
 clear hr0_0 hc0_0
 have HR0_1:=aM hr0_1
 have HC0_1:=aM hc0_1
 clear hr0_1 hc0_1
 have HB:=aM (Below.refl w.heap.size w)
 have H:((i_InversePerm.f k l0_0).bind fun t336=>((i_InversePerm.f k l0_1).bind fun t339=>(if 0≤(l0_0.length:Int) then (if ((l0_0.length:Int):Int).toNat≤35184372088832 then ((some (List.replicate ((l0_0.length:Int):Int).toNat 0:List Int)).bind fun y342=>(i_turnTo.l0 k a1 t336 t339 y342 (y342.length:Int) 0 l0_0 l0_1)) else (none)) else (none))))=some r:=h
 clear h
 replace H:=oB H
 obtain ⟨t336,A30,H⟩:=H
 have A3:=aM A30
 clear A30
 replace H:=oB H
 obtain ⟨t339,A40,H⟩:=H
 have A4:=aM A40
 clear A40
 by_cases c5:0≤(l0_0.length:Int)
 {
 rw [if_pos c5] at H
 have c5b0:=eq_true c5
 have c5b1:=decide_eq_true c5
 clear c5
 by_cases c6:((l0_0.length:Int):Int).toNat≤35184372088832
 {
 rw [if_pos c6] at H
 have c6b0:=eq_true c6
 have c6b1:=decide_eq_true c6
 clear c6
 obtain ⟨y342,hy342⟩:∃ y_:List Int,y_=(List.replicate ((l0_0.length:Int):Int).toNat 0):=⟨_,rfl⟩
 replace H:(i_turnTo.l0 k a1 t336 t339 y342 (y342.length:Int) 0 l0_0 l0_1)=some r:=by first|(rw [hy342];with_reducible exact H)|(have H2_:=(Option.bind_some _ _).symm.trans H;rw [hy342];with_reducible exact H2_)|(have H2_:=(Option.bind_some _ _).symm.trans H;with_reducible exact H2_)|with_reducible exact H|(rw [hy342];exact H)|exact H
 have Ny342:=aM hy342
 clear hy342
 have H':=aM H
 clear H
 go_enter Tryd.func23,Tryd.ntmps23
 go_wp2_with (first|((with_reducible refine gate_dst (N:=2) rfl ?_);refine bEv (cs:=#[.slice A0_0 l0_0.length c0_0,.slice A0_1 l0_1.length c0_1]) (t:=25) ?_;intro gb335 hg w7 hbox hb;have BK335:=aM (hbox);have GW335:=aM ((szX (below_size (bX HB.out)) hg:w.heap.size≤gb335));have GE335:=GW335;replace HB:=aM (below_step (bX HB.out) hb);clear hb hbox hg;obtain ⟨hcz8_0,hcz8_1,hfz8_0,hfz8_1⟩:=f2Z BK335.out)|((with_reducible refine gate_callee (f:=30) rfl ?_);refine goesL_ (some 16) rfl rfl Tryd.func30 (by kernel_rfl) rfl #[.slice A0_0 l0_0.length c0_0] rfl aX ?_;(with_reducible refine(i_InversePerm.calls k _ _ l0_0 t336 _ ?side1 ?side2 A3.out).mono ?_);(case side1=>exact cX (Kd.C_below HR0_0.out HB.out));(case side2=>exact HC0_0.out);rintro e w9 ⟨v337,rfl,ho0,hb⟩;refine ⟨_,rfl,?_⟩;have HO338:=aM (Kd.R_lower ho0 (below_size (bX1 HB.out GE335.out)));replace BK335:=aM (bbX BK335.out hb);replace HB:=aM (below_step (bX1 HB.out GE335.out) hb);(try clear hb);(try clear hk);(try clear ho0);obtain ⟨hcz10_0,hcz10_1,hfz10_0,hfz10_1⟩:=f2Z BK335.out)|((with_reducible refine gate_callee (f:=30) rfl ?_);refine goesL_ (some 19) rfl rfl Tryd.func30 (by kernel_rfl) rfl #[.slice A0_1 l0_1.length c0_1] rfl aX ?_;(with_reducible refine(i_InversePerm.calls k _ _ l0_1 t339 _ ?side1 ?side2 A4.out).mono ?_);(case side1=>exact cX (Kd.C_below HR0_1.out HB.out));(case side2=>exact HC0_1.out);rintro e w11 ⟨v340,rfl,ho0,hb⟩;refine ⟨_,rfl,?_⟩;have HO341:=aM (Kd.R_lower (Kd.R_new' ho0 (Kd.R_lt (rX HO338.out))) (below_size (bX1 HB.out GE335.out)));replace HO338:=aM (Kd.R_elder' (rX HO338.out) (Kd.R_base ho0) hb);replace BK335:=aM (bbX BK335.out hb);replace HB:=aM (below_step (bX1 HB.out GE335.out) hb);(try clear hb);(try clear hk);(try clear ho0);obtain ⟨hcz12_0,hcz12_1,hfz12_0,hfz12_1⟩:=f2Z BK335.out)|((with_reducible refine gate_dst (N:=23) rfl ?_);refine Kd.R_make (Kd.int .i64) _ 3 rfl (N:=23) rfl 23 _ _ rfl (l0_0.length:Int) rfl rfl Tryd.underlying23 (.int .i64 0) 8 info3 rfl (by decide) (by omega) 0 (ok:=fun _=>True) (okp:=fun _=>True) rfl (fun _ hk=>hk) trivial (dX) (Nat.le_trans (Nat.mul_le_mul_right _ (dX:(l0_0.length:Int).toNat≤35184372088832)) (by omega)) (Below.refl _ _) (Nat.le_refl _) ?_;intro v343 w13 ho14 hb hg_ hnew_;clear hg_ hnew_;(first|rw [← Ny342.out] at ho14|(simp only [Int.reduceToNat] at ho14;rw [← Ny342.out] at ho14));have HO344:=aM (Kd.R_lower (Kd.R_new' (Kd.R_new' ho14 (Kd.R_lt (rX HO338.out))) (Kd.R_lt (rX HO341.out))) (below_size (bX1 HB.out GE335.out)));replace HO338:=aM (Kd.R_elder' (rX HO338.out) (Kd.R_base ho14) hb);replace HO341:=aM (Kd.R_elder' (rX HO341.out) (Kd.R_base ho14) hb);replace BK335:=aM (bbX BK335.out hb);replace HB:=aM (below_step (bX1 HB.out GE335.out) hb);clear hb ho14;obtain ⟨Ao15,co15,eo15⟩:=Kd.R_slice HO344.out;subst eo15))
 go_loopg [26] k (fun kq v26 w'=>∃ (x7_1:List Int) (x26_1:Int),v26 = .int .i64 x26_1∧Aside0 (i_turnTo.l0 kq a1 t336 t339 x7_1 (y342.length:Int) x26_1 l0_0 l0_1=some r)∧Aside0 (kq≤k)∧Aside0 (Kd.R (Kd.int .i64) 3 w' w.heap.size (fun k_=>some k_≠(v340:Value).ownBlock∧some k_≠((.slice Ao15 y342.length co15):Value).ownBlock) v337 t336)∧Aside0 (Kd.R (Kd.int .i64) 3 w' w.heap.size (fun k_=>some k_≠(v337:Value).ownBlock∧some k_≠((.slice Ao15 y342.length co15):Value).ownBlock) v340 t339)∧Aside0 (Kd.R (Kd.int .i64) 3 w' w.heap.size (fun k_=>some k_≠(v337:Value).ownBlock∧some k_≠(v340:Value).ownBlock) (.slice Ao15 y342.length co15) x7_1)∧Aside0 (w'.heap[gb335]? = some (.cells #[(.slice A0_0 l0_0.length c0_0),(.slice A0_1 l0_1.length c0_1)] 25 (0,0)))∧Aside0 (Below w.heap.size w w'))
 case atStart=>exact ⟨(y342),(0),vX,H',⟨Nat.le_refl _⟩,⟨rM HO338.out (fun _ hk=>⟨hk.1.2,hk.2⟩)⟩,⟨rM HO341.out (fun _ hk=>⟨hk.1.2,hk.2⟩)⟩,⟨rM HO344.out (fun _ hk=>⟨hk.1.2,hk.2⟩)⟩,⟨kX BK335.out⟩,⟨bX1 HB.out GE335.out⟩⟩
 case round =>
 clear H'
 try clear c2
 try clear c5
 try clear c5b0
 try clear c5b1
 try clear c6
 try clear c6b0
 try clear c6b1
 try clear hcz10_0
 try clear hcz10_1
 try clear hcz12_0
 try clear hcz12_1
 try clear hcz8_0
 try clear hcz8_1
 try clear hfz10_0
 try clear hfz10_1
 try clear hfz12_0
 try clear hfz12_1
 try clear hfz8_0
 try clear hfz8_1
 obtain ⟨x7_1,x26_1,rfl,HA,HK1,HO_5,HO_6,HO_7,BK335,HB⟩:=hrel
 have hl7_1:=(Kd.R_reads' HO_7.out).1
 rw [hl7_1] at HO_7
 (try simp only [hl7_1])
 (try simp only [hl7_1] at BK335)
 (try simp only [hl7_1] at HO_5)
 (try simp only [hl7_1] at HO_6)
 cases gk with
 | zero=>exact absurd HA.out (by simp [i_turnTo.l0])
 | succ k1 =>
 have H:=HA.out
 clear HA
 simp only [i_turnTo.l0] at H
 by_cases c16:x26_1<(y342.length:Int)
 {
 rw [if_pos c16] at H
 have c16b0:=decide_eq_true c16
 clear c16
 by_cases c17:0≤x26_1
 {
 rw [if_pos c17] at H
 have c17b0:=decide_eq_true c17
 clear c17
 by_cases c18:x26_1<(x7_1.length:Int)
 {
 rw [if_pos c18] at H
 have c18b0:=decide_eq_true c18
 clear c18
 obtain ⟨y345,hy345⟩:∃ y_:List Int,y_=(x7_1.set (x26_1:Int).toNat (-1)):=⟨_,rfl⟩
 replace H:(i_turnTo.l0 k1 a1 t336 t339 y345 (y342.length:Int) (wrap64 (x26_1+1)) l0_0 l0_1)=some r:=by first|(rw [hy345];with_reducible exact H)|(have H2_:=(Option.bind_some _ _).symm.trans H;rw [hy345];with_reducible exact H2_)|(have H2_:=(Option.bind_some _ _).symm.trans H;with_reducible exact H2_)|with_reducible exact H|(rw [hy345];exact H)|exact H
 have Ny345:=aM hy345
 clear hy345
 have H':=aM H
 clear H
 have p19:0≤(x26_1:Int):=dX
 have q19:(x26_1:Int)<((x7_1.length:Int):Int):=dX
 obtain ⟨go19,co19,eo19,gb19,gl19,cl19,HG19⟩:=Kd.R_form HO_7.out (by omega)
 (first|cases eo19|(injection eo19 with ea_ en_ ec_;(first|subst ea_|(injection ea_ with ea_;subst ea_));subst ec_;clear en_))
 have GB19:=aM gb19
 have GG19:=aM HG19
 clear gb19 gl19 HG19
 obtain ⟨hx19_0,hf19_0⟩:=Kd.R_celln 0 HO_7.out (x26_1:Int) p19 q19
 replace p19:=eq_true p19
 replace q19:=eq_true q19
 have HP20:=Kd.R_putg HO_7.out (x26_1:Int) (-1)
 go_wp2_with (first|((with_reducible refine gate_store (t:=3) (p:=31) rfl ?_);refine store_event (t:=3) (p:=31) (v:=?vo_w21) (w1:=(wr.setCell ⟨go19,(x26_1:Int).toNat,none⟩ (.int .i64 (-1)))) ?hg ?ho ?hn ?hr ?_;(case ho=>rfl);(case hg=>rfl);(case hn=>rfl);(case hr=>first|(go_simp;done)|(go_simp;rfl));intro w21 hw;have hg:wr.grownBy w21 (some go19):=(by rw [hw];exact HP20.2);have hp_:Kd.R (Kd.int .i64) 3 w21 w.heap.size (fun k_=>some k_≠(v337:Value).ownBlock∧some k_≠(v340:Value).ownBlock) (.slice (some ⟨go19,0,none⟩) x7_1.length co15) y345:=(by rw [hw,Ny345.out];exact HP20.1);clear HP20;replace HO_5:=aM (Kd.R_after (v:=(.slice (some ⟨go19,0,none⟩) x7_1.length co15)) (v1:=(.slice (some ⟨go19,0,none⟩) x7_1.length co15)) (ok:=(fun k_=>some k_≠(v340:Value).ownBlock)) (rX HO_5.out) hg (.inl rfl));replace HO_6:=aM (Kd.R_after (v:=(.slice (some ⟨go19,0,none⟩) x7_1.length co15)) (v1:=(.slice (some ⟨go19,0,none⟩) x7_1.length co15)) (ok:=(fun k_=>some k_≠(v337:Value).ownBlock)) (rX HO_6.out) hg (.inl rfl));replace BK335:=aM (bgX BK335.out hg (Kd.R_ne HO_7.out BK335.out (by decide)));replace HO_7:=aM (hp_);replace HB:=aM ((by rw [hw];exact below_set (HB.out) GB19.out:Below w.heap.size w w21));clear hg hw hp_))
 (try simp only [← hl7_1])
 go_roundg k1
 case measure=>have:=HK1.out;omega
 case rel=>exact ⟨(y345),(wrap64 (x26_1+1)),vX,H',⟨by have:=HK1.out;omega⟩,⟨by(try simp only [hl7_1]);(with_reducible repeat(first|apply rA|apply rN|apply rD));exact HO_5.out⟩,⟨by(try simp only [hl7_1]);(with_reducible repeat(first|apply rA|apply rN|apply rD));exact HO_6.out⟩,⟨by(try simp only [hl7_1]);(with_reducible repeat(first|apply rA|apply rN|apply rD));exact HO_7.out⟩,⟨by(try simp only [hl7_1]);(with_reducible repeat(first|refine kN ?_ _|refine kD ?_|refine kA ?_ _));exact BK335.out⟩,⟨bX1 HB.out GE335.out⟩⟩
 }
 {
 rw [if_neg c18] at H
 exact absurd H (by simp)
 }
 }
 {
 rw [if_neg c17] at H
 exact absurd H (by simp)
 }
 }
 {
 rw [if_neg c16] at H
 have c16b0:=decide_eq_false c16
 (try rw [hl7_1] at c16b0)
 clear c16
 by_cases c22:0<(x7_1.length:Int)
 {
 rw [if_pos c22] at H
 have c22b0:=decide_eq_true c22
 have c22b1:decide (0<x7_1.length)=true:=decide_eq_true (by omega)
 clear c22
 obtain ⟨y346,hy346⟩:∃ y_:List Int,y_=(x7_1.set (0:Int).toNat a1):=⟨_,rfl⟩
 replace H:(i_turnTo.l1 k1 t336 t339 y346 (([0]:List Int)) 0 l0_0 l0_1)=some r:=by first|(rw [hy346];with_reducible exact H)|(have H2_:=(Option.bind_some _ _).symm.trans H;rw [hy346];with_reducible exact H2_)|(have H2_:=(Option.bind_some _ _).symm.trans H;with_reducible exact H2_)|with_reducible exact H|(rw [hy346];exact H)|exact H
 have Ny346:=aM hy346
 clear hy346
 obtain ⟨y347,hy347⟩:∃ y_:List Int,y_=(([0]:List Int)):=⟨_,rfl⟩
 replace H:(i_turnTo.l1 k1 t336 t339 y346 y347 0 l0_0 l0_1)=some r:=by first|(rw [hy347];with_reducible exact H)|(have H2_:=(Option.bind_some _ _).symm.trans H;rw [hy347];with_reducible exact H2_)|(have H2_:=(Option.bind_some _ _).symm.trans H;with_reducible exact H2_)|with_reducible exact H|(rw [hy347];exact H)|exact H
 have Ny347:=aM hy347
 clear hy347
 have H':=aM H
 clear H
 have p23:0≤(0:Int):=(by omega)
 have q23:(0:Int)<((x7_1.length:Int):Int):=dX
 have qi23:(0<x7_1.length)=True:=eq_true (by omega)
 obtain ⟨go23,co23,eo23,gb23,gl23,cl23,HG23⟩:=Kd.R_form HO_7.out (by omega)
 (first|cases eo23|(injection eo23 with ea_ en_ ec_;(first|subst ea_|(injection ea_ with ea_;subst ea_));subst ec_;clear en_))
 have GB23:=aM gb23
 have GG23:=aM HG23
 clear gb23 gl23 HG23
 obtain ⟨hx23_0,hf23_0⟩:=Kd.R_celln 0 HO_7.out (0:Int) p23 q23
 (try rw [show ((0:Int)).toNat=0 from rfl] at hx23_0)
 (try simp only [Nat.reduceMul,Nat.zero_mul,Nat.zero_add,Nat.reduceAdd] at hx23_0)
 (try rw [show ((0:Int)).toNat=0 from rfl] at hf23_0)
 (try simp only [Nat.reduceMul,Nat.zero_mul,Nat.zero_add,Nat.reduceAdd] at hf23_0)
 replace p23:=eq_true p23
 replace q23:=eq_true q23
 have HP24:=Kd.R_putg HO_7.out (0:Int) a1
 go_wp2_with (first|((with_reducible refine gate_store (t:=3) (p:=35) rfl ?_);refine store_event (t:=3) (p:=35) (v:=?vo_w25) (w1:=(wr.setCell ⟨go23,(0:Int).toNat,none⟩ (.int .i64 a1))) ?hg ?ho ?hn ?hr ?_;(case ho=>rfl);(case hg=>rfl);(case hn=>rfl);(case hr=>first|(go_simp;done)|(go_simp;rfl));intro w25 hw;have hg:wr.grownBy w25 (some go23):=(by rw [hw];exact HP24.2);have hp_:Kd.R (Kd.int .i64) 3 w25 w.heap.size (fun k_=>some k_≠(v337:Value).ownBlock∧some k_≠(v340:Value).ownBlock) (.slice (some ⟨go23,0,none⟩) x7_1.length co15) y346:=(by rw [hw,Ny346.out];exact HP24.1);clear HP24;replace HO_5:=aM (Kd.R_after (v:=(.slice (some ⟨go23,0,none⟩) x7_1.length co15)) (v1:=(.slice (some ⟨go23,0,none⟩) x7_1.length co15)) (ok:=(fun k_=>some k_≠(v340:Value).ownBlock)) (rX HO_5.out) hg (.inl rfl));replace HO_6:=aM (Kd.R_after (v:=(.slice (some ⟨go23,0,none⟩) x7_1.length co15)) (v1:=(.slice (some ⟨go23,0,none⟩) x7_1.length co15)) (ok:=(fun k_=>some k_≠(v337:Value).ownBlock)) (rX HO_6.out) hg (.inl rfl));replace BK335:=aM (bgX BK335.out hg (Kd.R_ne HO_7.out BK335.out (by decide)));replace HO_7:=aM (hp_);replace HB:=aM ((by rw [hw];exact below_set (HB.out) GB23.out:Below w.heap.size w w25));clear hg hw hp_)|((with_reducible refine gate_dst (N:=36) rfl ?_);refine Kd.R_lit (Kd.int .i64) _ 3 ?hg (N:=36) ?hd (xs:=([0]:List Int)) (inner:=[.int .i64 0]) (ok:=fun _=>True) (okp:=fun _=>True) ?hr ?hp (fun _ hk=>hk) trivial (Below.refl _ _) (Nat.le_refl _) (by simp) ?_;(case hd=>rfl);(case hg=>rfl);(case hr=>first|(go_simp;done)|(go_simp;rfl));(case hp=>exact(Reps.one (show Kd.M (Kd.int .i64) _ _ _ 0 [.int .i64 0] from rfl) (Reps.none _ _)));intro v348 w26 ho27 hb hg_ hnew_;clear hg_ hnew_;(first|rw [← Ny347.out] at ho27|(simp only [Int.reduceToNat] at ho27;rw [← Ny347.out] at ho27));have HO349:=aM (Kd.R_lower (Kd.R_new' (Kd.R_new' (Kd.R_new' ho27 (Kd.R_lt (rX HO_5.out))) (Kd.R_lt (rX HO_6.out))) (Kd.R_lt (rX HO_7.out))) (below_size (bX1 HB.out GE335.out)));replace HO_5:=aM (Kd.R_elder' (rX HO_5.out) (Kd.R_base ho27) hb);replace HO_6:=aM (Kd.R_elder' (rX HO_6.out) (Kd.R_base ho27) hb);replace HO_7:=aM (Kd.R_elder' (rX HO_7.out) (Kd.R_base ho27) hb);replace BK335:=aM (bbX BK335.out hb);replace HB:=aM (below_step (bX1 HB.out GE335.out) hb);clear hb ho27))
 go_loopg [9,10] k1 (fun kq v9 v10 w'=>∃ (x7_2:List Int) (x9_2:List Int) (x10_2:Int),v10 = .int .i64 x10_2∧Aside0 (i_turnTo.l1 kq t336 t339 x7_2 x9_2 x10_2 l0_0 l0_1=some r)∧Aside0 (kq≤k1)∧Aside0 (Kd.R (Kd.int .i64) 3 w' w.heap.size (fun k_=>some k_≠(v340:Value).ownBlock∧some k_≠((.slice (some ⟨go23,0,none⟩) x7_1.length co15):Value).ownBlock∧some k_≠(v9:Value).ownBlock) v337 t336)∧Aside0 (Kd.R (Kd.int .i64) 3 w' w.heap.size (fun k_=>some k_≠(v337:Value).ownBlock∧some k_≠((.slice (some ⟨go23,0,none⟩) x7_1.length co15):Value).ownBlock∧some k_≠(v9:Value).ownBlock) v340 t339)∧Aside0 (Kd.R (Kd.int .i64) 3 w' w.heap.size (fun k_=>some k_≠(v337:Value).ownBlock∧some k_≠(v340:Value).ownBlock∧some k_≠(v9:Value).ownBlock) (.slice (some ⟨go23,0,none⟩) x7_1.length co15) x7_2)∧Aside0 (Kd.R (Kd.int .i64) 3 w' w.heap.size (fun k_=>some k_≠(v337:Value).ownBlock∧some k_≠(v340:Value).ownBlock∧some k_≠((.slice (some ⟨go23,0,none⟩) x7_1.length co15):Value).ownBlock) v9 x9_2)∧Aside0 (w'.heap[gb335]? = some (.cells #[(.slice A0_0 l0_0.length c0_0),(.slice A0_1 l0_1.length c0_1)] 25 (0,0)))∧Aside0 (Below w.heap.size w w'))
 case atStart=>exact ⟨(y346),(y347),(0),vX,H',⟨Nat.le_refl _⟩,⟨by(try simp only [hl7_1]);(with_reducible repeat(first|apply rA|apply rN|apply rD));exact Kd.R_mono HO_5.out (fun _ hk=>⟨hk.1.1,⟨hk.1.2,hk.2⟩⟩)⟩,⟨by(try simp only [hl7_1]);(with_reducible repeat(first|apply rA|apply rN|apply rD));exact Kd.R_mono HO_6.out (fun _ hk=>⟨hk.1.1,⟨hk.1.2,hk.2⟩⟩)⟩,⟨by(try simp only [hl7_1]);(with_reducible repeat(first|apply rA|apply rN|apply rD));exact Kd.R_mono HO_7.out (fun _ hk=>⟨hk.1.1,⟨hk.1.2,hk.2⟩⟩)⟩,⟨by(try simp only [hl7_1]);(with_reducible repeat(first|apply rA|apply rN|apply rD));exact Kd.R_mono HO349.out (fun _ hk=>⟨hk.1.1.2,⟨hk.1.2,hk.2⟩⟩)⟩,⟨by(try simp only [hl7_1]);(with_reducible repeat(first|refine kN ?_ _|refine kD ?_|refine kA ?_ _));exact BK335.out⟩,⟨bX1 HB.out GE335.out⟩⟩
 case round =>
 clear H'
 try clear c2
 try clear c5
 try clear c5b0
 try clear c5b1
 try clear c6
 try clear c6b0
 try clear c6b1
 try clear c16
 try clear c16b0
 try clear c17
 try clear c17b0
 try clear c18
 try clear c18b0
 try clear p19
 try clear q19
 try clear c22
 try clear c22b0
 try clear c22b1
 try clear p23
 try clear q23
 try clear qi23
 try clear hcz10_0
 try clear hcz10_1
 try clear hcz12_0
 try clear hcz12_1
 try clear hcz8_0
 try clear hcz8_1
 try clear hfz10_0
 try clear hfz10_1
 try clear hfz12_0
 try clear hfz12_1
 try clear hfz8_0
 try clear hfz8_1
 try clear hx19_0
 try clear hx23_0
 try clear p19
 try clear p23
 try clear q19
 try clear q23
 obtain ⟨x7_2,x9_2,x10_2,rfl,HA,HK2,HO_5,HO_6,HO_7,HO_9,BK335,HB⟩:=hrel
 have hl7_2:=(Kd.R_reads' HO_7.out).1
 rw [hl7_2] at HO_7
 (try simp only [hl7_2])
 (try simp only [hl7_2] at BK335)
 (try simp only [hl7_2] at HO_5)
 (try simp only [hl7_2] at HO_6)
 (try simp only [hl7_2] at HO_9)
 cases gk with
 | zero=>exact absurd HA.out (by simp [i_turnTo.l1])
 | succ k2 =>
 have H:=HA.out
 clear HA
 simp only [i_turnTo.l1] at H
 by_cases c28:x10_2<(x9_2.length:Int)
 {
 rw [if_pos c28] at H
 have c28b0:=decide_eq_true c28
 clear c28
 by_cases c29:0≤x10_2
 {
 rw [if_pos c29] at H
 have c29b0:=decide_eq_true c29
 clear c29
 by_cases c30:0≤(rd x9_2 x10_2)
 {
 rw [if_pos c30] at H
 have c30b0:=decide_eq_true c30
 clear c30
 by_cases c31:(rd x9_2 x10_2)<(l0_0.length:Int)
 {
 rw [if_pos c31] at H
 have c31b0:=decide_eq_true c31
 clear c31
 by_cases c32:(rd x9_2 x10_2)<(x7_2.length:Int)
 {
 rw [if_pos c32] at H
 have c32b0:=decide_eq_true c32
 clear c32
 by_cases c33:0≤(rd x7_2 (rd x9_2 x10_2))
 {
 rw [if_pos c33] at H
 have c33b0:=decide_eq_true c33
 clear c33
 by_cases c34:(rd x7_2 (rd x9_2 x10_2))<(t336.length:Int)
 {
 rw [if_pos c34] at H
 have c34b0:=decide_eq_true c34
 clear c34
 by_cases c35:(rd x9_2 x10_2)<(l0_1.length:Int)
 {
 rw [if_pos c35] at H
 have c35b0:=decide_eq_true c35
 clear c35
 by_cases c36:(rd x7_2 (rd x9_2 x10_2))<(t339.length:Int)
 {
 rw [if_pos c36] at H
 have c36b0:=decide_eq_true c36
 clear c36
 obtain ⟨y357,hy357⟩:∃ y_:List (S63),y_=(([(⟨rd l0_0 (rd x9_2 x10_2),rd t336 (rd x7_2 (rd x9_2 x10_2))⟩:S63),(⟨rd l0_1 (rd x9_2 x10_2),rd t339 (rd x7_2 (rd x9_2 x10_2))⟩:S63)]:List (S63))):=⟨_,rfl⟩
 replace H:(i_turnTo.l2 k2 t336 t339 x7_2 x9_2 x10_2 y357 (y357.length:Int) 0 l0_0 l0_1)=some r:=by first|(rw [hy357];with_reducible exact H)|(have H2_:=(Option.bind_some _ _).symm.trans H;rw [hy357];with_reducible exact H2_)|(have H2_:=(Option.bind_some _ _).symm.trans H;with_reducible exact H2_)|with_reducible exact H|(rw [hy357];exact H)|exact H
 have Ny357:=aM hy357
 clear hy357
 have H':=aM H
 clear H
 obtain ⟨Ao37,co37,eo37⟩:=Kd.R_slice HO_9.out
 subst eo37
 have p350:0≤(x10_2:Int):=dX
 have q350:x10_2<(x9_2.length:Int):=dX
 obtain ⟨ad350,e350,hx350_0⟩:=Kd.at_int (Kd.R_reads' HO_9.out).2.2 x10_2 p350 q350
 cases e350
 replace p350:=eq_true p350
 replace q350:=eq_true q350
 try go_wp2
 replace HO_5:=aM (Kd.R_drew HO_5.out)
 replace HO_6:=aM (Kd.R_drew HO_6.out)
 replace HO_7:=aM (Kd.R_drew HO_7.out)
 replace HO_9:=aM (Kd.R_drew HO_9.out)
 replace BK335:=aM (blk_drew BK335.out)
 replace HB:=aM (below_drew1 HB.out)
 have p351:0≤((rd x9_2 x10_2):Int):=dX
 have q351:(rd x9_2 x10_2)<(l0_0.length:Int):=dX
 obtain ⟨ad351,e351,hx351_0⟩:=Kd.at_int HR0_0.out (rd x9_2 x10_2) p351 q351
 have hw351_0:=hx351_0
 cases e351
 replace hx351_0:=(HB.out.cell (World.block_lt_of_cell? w _ hx351_0)).trans hx351_0
 replace p351:=eq_true p351
 replace q351:=eq_true q351
 have p352:0≤((rd x9_2 x10_2):Int):=dX
 have q352:(rd x9_2 x10_2)<(x7_2.length:Int):=dX
 obtain ⟨ad352,e352,hx352_0⟩:=Kd.at_int (Kd.R_reads' HO_7.out).2.2 (rd x9_2 x10_2) p352 q352
 obtain rfl:(⟨go23,0,none⟩:Addr)=ad352:=(by injection e352)
 (first|simp only [add_plain] at hx352_0|simp only [add_at] at hx352_0|simp only [Addr.add,Nat.zero_add] at hx352_0|skip)
 replace p352:=eq_true p352
 replace q352:=eq_true q352
 obtain ⟨Ao39,co39,eo39⟩:=Kd.R_slice HO_5.out
 (first|subst eo39|(injection eo39 with f1_ f2_ f3_;have f4_:=f1_.symm;have f5_:=f3_.symm;clear f1_ f2_ f3_;subst f4_;subst f5_))
 have p353:0≤((rd x7_2 (rd x9_2 x10_2)):Int):=dX
 have q353:(rd x7_2 (rd x9_2 x10_2))<(t336.length:Int):=dX
 obtain ⟨ad353,e353,hx353_0⟩:=Kd.at_int (Kd.R_reads' HO_5.out).2.2 (rd x7_2 (rd x9_2 x10_2)) p353 q353
 cases e353
 replace p353:=eq_true p353
 replace q353:=eq_true q353
 have p354:0≤((rd x9_2 x10_2):Int):=dX
 have q354:(rd x9_2 x10_2)<(l0_1.length:Int):=dX
 obtain ⟨ad354,e354,hx354_0⟩:=Kd.at_int HR0_1.out (rd x9_2 x10_2) p354 q354
 have hw354_0:=hx354_0
 cases e354
 replace hx354_0:=(HB.out.cell (World.block_lt_of_cell? w _ hx354_0)).trans hx354_0
 replace p354:=eq_true p354
 replace q354:=eq_true q354
 have p355:0≤((rd x9_2 x10_2):Int):=dX
 have q355:(rd x9_2 x10_2)<(x7_2.length:Int):=dX
 obtain ⟨ad355,e355,hx355_0⟩:=Kd.at_int (Kd.R_reads' HO_7.out).2.2 (rd x9_2 x10_2) p355 q355
 obtain rfl:(⟨go23,0,none⟩:Addr)=ad355:=(by injection e355)
 (first|simp only [add_plain] at hx355_0|simp only [add_at] at hx355_0|simp only [Addr.add,Nat.zero_add] at hx355_0|skip)
 replace p355:=eq_true p355
 replace q355:=eq_true q355
 obtain ⟨Ao40,co40,eo40⟩:=Kd.R_slice HO_6.out
 (first|subst eo40|(injection eo40 with f1_ f2_ f3_;have f4_:=f1_.symm;have f5_:=f3_.symm;clear f1_ f2_ f3_;subst f4_;subst f5_))
 have p356:0≤((rd x7_2 (rd x9_2 x10_2)):Int):=dX
 have q356:(rd x7_2 (rd x9_2 x10_2))<(t339.length:Int):=dX
 obtain ⟨ad356,e356,hx356_0⟩:=Kd.at_int (Kd.R_reads' HO_6.out).2.2 (rd x7_2 (rd x9_2 x10_2)) p356 q356
 cases e356
 replace p356:=eq_true p356
 replace q356:=eq_true q356
 refine start_ (n:=29) (S:=fun w'=>w'.cell? ⟨gb335,0,none⟩=some (.slice (some ad351) l0_0.length c0_0)∧w'.cell? ⟨gb335,1,none⟩=some (.slice (some ad354) l0_1.length c0_1)∧w'.cell? (ad351.add ((rd x9_2 x10_2)).toNat)=some (.int .i64 (rd l0_0 (rd x9_2 x10_2)))∧w'.cell? ⟨go23,((rd x9_2 x10_2)).toNat,none⟩=some (.int .i64 (rd x7_2 (rd x9_2 x10_2)))∧w'.cell? (ad353.add ((rd x7_2 (rd x9_2 x10_2))).toNat)=some (.int .i64 (rd t336 (rd x7_2 (rd x9_2 x10_2))))∧w'.cell? (ad354.add ((rd x9_2 x10_2)).toNat)=some (.int .i64 (rd l0_1 (rd x9_2 x10_2)))∧w'.cell? ⟨go23,((rd x9_2 x10_2)).toNat,none⟩=some (.int .i64 (rd x7_2 (rd x9_2 x10_2)))∧w'.cell? (ad356.add ((rd x7_2 (rd x9_2 x10_2))).toNat)=some (.int .i64 (rd t339 (rd x7_2 (rd x9_2 x10_2))))) (ds:=[]) #[ff,ff,ff,ff,ff,ff,ff,ff,ff,ff,ff,ff,ff,ff,ff,ff,ff,ff,ff,ff,ff,ff,ff,ff,ff,ff,ff,ff,ff] (by kernel_rfl) rfl rfl ⟨cz20 BK335.out,cz21 BK335.out,((HB.out.cell (World.block_lt_of_cell? w _ hw351_0)).trans hw351_0),hx352_0,hx353_0,((HB.out.cell (World.block_lt_of_cell? w _ hw354_0)).trans hw354_0),hx355_0,hx356_0⟩ (fun hHeld => ?_);refine with_tabW i_turnTo.tab15 i_turnTo.bits15 (fun HT_ HW_ => ?_)
 generalize wr.drew=w38 at HO_5 HO_6 HO_7 HO_9 BK335 HB hx351_0 hx352_0 hx353_0 hx354_0 hx355_0 hx356_0 hHeld ⊢
 refine pX 0 47 (fl 29 1) rfl rfl HT_.out ?_
 refine pX 2 49 (fl 29 5) rfl rfl HT_.out ?_
 refine pX 5 52 (fl 29 37) rfl rfl HT_.out ?_
 refine pX 6 53 (fl 29 101) rfl rfl HT_.out ?_
 refine pX 7 54 (fl 29 229) rfl rfl HT_.out ?_
 refine pX 8 55 (fl 29 485) rfl rfl HT_.out ?_
 refine pX 13 60 (fl 29 8677) rfl rfl HT_.out ?_
 refine pX 15 62 (fl 29 41445) rfl rfl HT_.out ?_
 refine pX 18 65 (fl 29 303589) rfl rfl HT_.out ?_
 refine pX 19 66 (fl 29 827877) rfl rfl HT_.out ?_
 refine pX 20 67 (fl 29 1876453) rfl rfl HT_.out ?_
 refine pX 21 68 (fl 29 3973605) rfl rfl HT_.out ?_
 refine pX 28 75 (fl 29 272409061) rfl rfl HT_.out ?_
 refine tX8 1 48 (fl 29 272409063) rfl rfl HT_.out HW_.out hHeld ?_
 refine pX 3 50 (fl 29 272409071) rfl rfl HT_.out ?_
 refine tX8 4 51 (fl 29 272409087) rfl rfl HT_.out HW_.out hHeld ?_
 refine tX8 9 56 (fl 29 272409599) rfl rfl HT_.out HW_.out hHeld ?_
 refine pX 10 57 (fl 29 272410623) rfl rfl HT_.out ?_
 refine tX8 11 58 (fl 29 272412671) rfl rfl HT_.out HW_.out hHeld ?_
 refine pX 12 59 (fl 29 272416767) rfl rfl HT_.out ?_
 refine tX8 14 61 (fl 29 272433151) rfl rfl HT_.out HW_.out hHeld ?_
 refine pX 16 63 (fl 29 272498687) rfl rfl HT_.out ?_
 refine tX8 17 64 (fl 29 272629759) rfl rfl HT_.out HW_.out hHeld ?_
 refine tX8 22 69 (fl 29 276824063) rfl rfl HT_.out HW_.out hHeld ?_
 refine pX 23 70 (fl 29 285212671) rfl rfl HT_.out ?_
 refine tX8 24 71 (fl 29 301989887) rfl rfl HT_.out HW_.out hHeld ?_
 refine pX 25 72 (fl 29 335544319) rfl rfl HT_.out ?_
 refine one_ (i:=26) (N:=some 73) #[tt,tt,tt,tt,tt,tt,tt,tt,tt,tt,tt,tt,tt,tt,tt,tt,tt,tt,tt,tt,tt,tt,tt,tt,tt,tt,tt,ff,tt] rfl rfl (one_of HT_.out (by kernel_rfl)) (by decide) (fun K hK => ?_)
 refine Kd.R_lit_step k63 _ 63 ?hg (N:=73) ?hd (xs:=([(⟨rd l0_0 (rd x9_2 x10_2),rd t336 (rd x7_2 (rd x9_2 x10_2))⟩:S63),(⟨rd l0_1 (rd x9_2 x10_2),rd t339 (rd x7_2 (rd x9_2 x10_2))⟩:S63)]:List (S63))) (inner:=[.int .i64 (rd l0_0 (rd x9_2 x10_2)),.int .i64 (rd t336 (rd x7_2 (rd x9_2 x10_2))),.int .i64 (rd l0_1 (rd x9_2 x10_2)),.int .i64 (rd t339 (rd x7_2 (rd x9_2 x10_2)))]) (ok:=fun _=>True) (okp:=fun _=>True) ?hr ?hp (fun _ hk=>hk) trivial (Below.refl _ _) (Nat.le_refl _) (by simp) ?_;(case hd=>rfl);(case hg=>rfl);(case hr=>first|(go_simp;done)|(go_simp;rfl));(case hp=>exact(Reps.c2 (show Kd.M k63 _ _ _ (⟨rd l0_0 (rd x9_2 x10_2),rd t336 (rd x7_2 (rd x9_2 x10_2))⟩:S63) [.int .i64 (rd l0_0 (rd x9_2 x10_2)),.int .i64 (rd t336 (rd x7_2 (rd x9_2 x10_2)))] from (k63_mkM _ _ _ (⟨rd l0_0 (rd x9_2 x10_2),rd t336 (rd x7_2 (rd x9_2 x10_2))⟩:S63) )) (Reps.c2 (show Kd.M k63 _ _ _ (⟨rd l0_1 (rd x9_2 x10_2),rd t339 (rd x7_2 (rd x9_2 x10_2))⟩:S63) [.int .i64 (rd l0_1 (rd x9_2 x10_2)),.int .i64 (rd t339 (rd x7_2 (rd x9_2 x10_2)))] from (k63_mkM _ _ _ (⟨rd l0_1 (rd x9_2 x10_2),rd t339 (rd x7_2 (rd x9_2 x10_2))⟩:S63) )) (Reps.none _ _))))
 intro v358 w41 ho42 hb hg_ hnew_
 have HS3_:=(hb.cell (World.block_lt_of_cell? _ _ (hHeld.2.2.2.1))).trans (hHeld.2.2.2.1)
 have HS4_:=(hb.cell (World.block_lt_of_cell? _ _ (hHeld.2.2.2.2.1))).trans (hHeld.2.2.2.2.1)
 have HS6_:=(hb.cell (World.block_lt_of_cell? _ _ (hHeld.2.2.2.2.2.2.1))).trans (hHeld.2.2.2.2.2.2.1)
 have HS7_:=(hb.cell (World.block_lt_of_cell? _ _ (hHeld.2.2.2.2.2.2.2))).trans (hHeld.2.2.2.2.2.2.2)
 clear hg_ hnew_
 (first|rw [← Ny357.out] at ho42|(simp only [Int.reduceToNat] at ho42;rw [← Ny357.out] at ho42))
 replace HO_5:=aM (Kd.R_below (rX HO_5.out) hb)
 replace HO_6:=aM (Kd.R_below (rX HO_6.out) hb)
 replace HO_7:=aM (Kd.R_below (rX HO_7.out) hb)
 replace HO_9:=aM (Kd.R_below (rX HO_9.out) hb)
 have HO359:=aM (Kd.R_lower ho42 (below_size (bX1 HB.out GE335.out)))
 replace BK335:=aM (bbX BK335.out hb)
 replace HB:=aM (below_step (bX1 HB.out GE335.out) hb)
 clear hb ho42
 obtain ⟨Ao43,co43,eo43⟩:=Kd.R_slice HO359.out
 (first|subst eo43|(injection eo43 with f1_ f2_ f3_;have f4_:=f1_.symm;have f5_:=f3_.symm;clear f1_ f2_ f3_;subst f4_;subst f5_))
 refine hK.out _ _ ⟨cz20 BK335.out,cz21 BK335.out,((HB.out.cell (World.block_lt_of_cell? w _ hw351_0)).trans hw351_0),HS3_,HS4_,((HB.out.cell (World.block_lt_of_cell? w _ hw354_0)).trans hw354_0),HS6_,HS7_⟩ (fun hHeld => ?_)
 clear hK K
 refine norm_ (a':=?_) ?_ ?_
 rotate_left
 {
 show Act.put _ (some 73) _=_
 simp only [Act.put,zA,zB,zC,i64_w,i32_w]
 rfl
 }
 refine pX 27 74 (fl 29 536870911) rfl rfl HT_.out ?_
 refine done_ (done_of HT_.out (by kernel_rfl)) ?_
 try go_wp2
 go_loopg [9,75] k2 (fun kq v9 v75 w'=>∃ (x7_3:List Int) (x9_3:List Int) (x75_3:Int),v75 = .int .i64 x75_3∧Aside0 (i_turnTo.l2 kq t336 t339 x7_3 x9_3 x10_2 y357 (y357.length:Int) x75_3 l0_0 l0_1=some r)∧Aside0 (kq≤k2)∧Aside0 (Kd.R (Kd.int .i64) 3 w' w.heap.size (fun k_=>some k_≠((.slice (some ad356) t339.length co40):Value).ownBlock∧some k_≠((.slice (some ⟨go23,0,none⟩) x7_2.length co15):Value).ownBlock∧some k_≠(v9:Value).ownBlock) (.slice (some ad353) t336.length co39) t336)∧Aside0 (Kd.R (Kd.int .i64) 3 w' w.heap.size (fun k_=>some k_≠((.slice (some ad353) t336.length co39):Value).ownBlock∧some k_≠((.slice (some ⟨go23,0,none⟩) x7_2.length co15):Value).ownBlock∧some k_≠(v9:Value).ownBlock) (.slice (some ad356) t339.length co40) t339)∧Aside0 (Kd.R (Kd.int .i64) 3 w' w.heap.size (fun k_=>some k_≠((.slice (some ad353) t336.length co39):Value).ownBlock∧some k_≠((.slice (some ad356) t339.length co40):Value).ownBlock∧some k_≠(v9:Value).ownBlock) (.slice (some ⟨go23,0,none⟩) x7_2.length co15) x7_3)∧Aside0 (Kd.R (Kd.int .i64) 3 w' w.heap.size (fun k_=>some k_≠((.slice (some ad353) t336.length co39):Value).ownBlock∧some k_≠((.slice (some ad356) t339.length co40):Value).ownBlock∧some k_≠((.slice (some ⟨go23,0,none⟩) x7_2.length co15):Value).ownBlock) v9 x9_3)∧Aside0 (Kd.R k63 63 w' w.heap.size (fun _=>True) (.slice Ao43 y357.length co43) y357)∧Aside0 (w'.heap[gb335]? = some (.cells #[(.slice (some ad351) l0_0.length c0_0),(.slice (some ad354) l0_1.length c0_1)] 25 (0,0)))∧Aside0 (Below w.heap.size w w'))
 case atStart=>exact ⟨(x7_2),(x9_2),(0),vX,H',⟨Nat.le_refl _⟩,⟨by(try simp only [hl7_1]);(try simp only [hl7_2]);(with_reducible repeat(first|apply rA|apply rN|apply rD));exact HO_5.out⟩,⟨by(try simp only [hl7_1]);(try simp only [hl7_2]);(with_reducible repeat(first|apply rA|apply rN|apply rD));exact HO_6.out⟩,⟨by(try simp only [hl7_1]);(try simp only [hl7_2]);(with_reducible repeat(first|apply rA|apply rN|apply rD));exact HO_7.out⟩,⟨by(try simp only [hl7_1]);(try simp only [hl7_2]);(with_reducible repeat(first|apply rA|apply rN|apply rD));exact HO_9.out⟩,⟨by(try simp only [hl7_1]);(try simp only [hl7_2]);(with_reducible repeat(first|apply rA|apply rN|apply rD));exact HO359.out⟩,⟨by(try simp only [hl7_1]);(try simp only [hl7_2]);(with_reducible repeat(first|refine kN ?_ _|refine kD ?_|refine kA ?_ _));exact BK335.out⟩,⟨bX1 HB.out GE335.out⟩⟩
 case round =>
 clear H'
 try clear c2
 try clear c5
 try clear c5b0
 try clear c5b1
 try clear c6
 try clear c6b0
 try clear c6b1
 try clear c16
 try clear c16b0
 try clear c17
 try clear c17b0
 try clear c18
 try clear c18b0
 try clear p19
 try clear q19
 try clear c22
 try clear c22b0
 try clear c22b1
 try clear p23
 try clear q23
 try clear qi23
 try clear c28
 try clear c28b0
 try clear c29
 try clear c29b0
 try clear c30
 try clear c30b0
 try clear c31
 try clear c31b0
 try clear c32
 try clear c32b0
 try clear c33
 try clear c33b0
 try clear c34
 try clear c34b0
 try clear c35
 try clear c35b0
 try clear c36
 try clear c36b0
 try clear hcz10_0
 try clear hcz10_1
 try clear hcz12_0
 try clear hcz12_1
 try clear hcz8_0
 try clear hcz8_1
 try clear hfz10_0
 try clear hfz10_1
 try clear hfz12_0
 try clear hfz12_1
 try clear hfz8_0
 try clear hfz8_1
 try clear hx19_0
 try clear hx23_0
 try clear hx350_0
 try clear hx351_0
 try clear hx352_0
 try clear hx353_0
 try clear hx354_0
 try clear hx355_0
 try clear hx356_0
 try clear p19
 try clear p23
 try clear p350
 try clear p351
 try clear p352
 try clear p353
 try clear p354
 try clear p355
 try clear p356
 try clear q19
 try clear q23
 try clear q350
 try clear q351
 try clear q352
 try clear q353
 try clear q354
 try clear q355
 try clear q356
 obtain ⟨x7_3,x9_3,x75_3,rfl,HA,HK3,HO_5,HO_6,HO_7,HO_9,HO_73,BK335,HB⟩:=hrel
 have hl7_3:=(Kd.R_reads' HO_7.out).1
 rw [hl7_3] at HO_7
 (try simp only [hl7_3])
 (try simp only [hl7_3] at BK335)
 (try simp only [hl7_3] at HO_5)
 (try simp only [hl7_3] at HO_6)
 (try simp only [hl7_3] at HO_9)
 (try simp only [hl7_3] at HO_73)
 cases gk with
 | zero=>exact absurd HA.out (by simp [i_turnTo.l2])
 | succ k3 =>
 have H:=HA.out
 clear HA
 simp only [i_turnTo.l2] at H
 by_cases c44:x75_3<(y357.length:Int)
 {
 rw [if_pos c44] at H
 have c44b0:=decide_eq_true c44
 clear c44
 by_cases c45:0≤x75_3
 {
 rw [if_pos c45] at H
 have c45b0:=decide_eq_true c45
 clear c45
 by_cases c46:x75_3<(y357.length:Int)
 {
 rw [if_pos c46] at H
 have c46b0:=decide_eq_true c46
 clear c46
 by_cases c47:0≤((rd_T63 y357 x75_3).f0)
 {
 rw [if_pos c47] at H
 have c47b0:=decide_eq_true c47
 clear c47
 by_cases c48:((rd_T63 y357 x75_3).f0)<(x7_3.length:Int)
 {
 rw [if_pos c48] at H
 have c48b0:=decide_eq_true c48
 clear c48
 by_cases c49:(rd x7_3 ((rd_T63 y357 x75_3).f0))<0
 {
 rw [if_pos c49] at H
 have c49b0:=decide_eq_true c49
 clear c49
 obtain ⟨y363,hy363⟩:∃ y_:List Int,y_=(x7_3.set (((rd_T63 y357 x75_3).f0):Int).toNat ((rd_T63 y357 x75_3).f1)):=⟨_,rfl⟩
 replace H:(if x9_3.length<17592186044416 then (i_turnTo.l2 k3 t336 t339 y363 (x9_3 ++ [(rd_T63 y357 x75_3).f0]) x10_2 y357 (y357.length:Int) (wrap64 (x75_3+1)) l0_0 l0_1) else (none))=some r:=by first|(rw [hy363];with_reducible exact H)|(have H2_:=(Option.bind_some _ _).symm.trans H;rw [hy363];with_reducible exact H2_)|(have H2_:=(Option.bind_some _ _).symm.trans H;with_reducible exact H2_)|with_reducible exact H|(rw [hy363];exact H)|exact H
 have Ny363:=aM hy363
 clear hy363
 by_cases c51:x9_3.length<17592186044416
 {
 rw [if_pos c51] at H
 have LMc51:=aM c51
 clear c51
 obtain ⟨y364,hy364⟩:∃ y_:List Int,y_=(x9_3 ++ [(rd_T63 y357 x75_3).f0]):=⟨_,rfl⟩
 replace H:(i_turnTo.l2 k3 t336 t339 y363 y364 x10_2 y357 (y357.length:Int) (wrap64 (x75_3+1)) l0_0 l0_1)=some r:=by first|(rw [hy364];with_reducible exact H)|(have H2_:=(Option.bind_some _ _).symm.trans H;rw [hy364];with_reducible exact H2_)|(have H2_:=(Option.bind_some _ _).symm.trans H;with_reducible exact H2_)|with_reducible exact H|(rw [hy364];exact H)|exact H
 have Ny364:=aM hy364
 clear hy364
 have H':=aM H
 clear H
 have p360:0≤(x75_3:Int):=dX
 have q360:x75_3<(y357.length:Int):=dX
 obtain ⟨ad360,e360,hx360_0,hx360_1⟩:=at_T63 (Kd.R_reads' HO_73.out).2.2 x75_3 p360 q360
 cases e360
 replace p360:=eq_true p360
 replace q360:=eq_true q360
 go_wp2_with (first|((with_reducible refine gate_dst (N:=13) rfl ?_);refine bEv (cs:=#[.int .i64 0,.int .i64 0]) (t:=63) ?_;intro gb361 hg w52 hbox hb;replace HO_5:=aM (Kd.R_below (rX HO_5.out) hb);replace HO_6:=aM (Kd.R_below (rX HO_6.out) hb);replace HO_7:=aM (Kd.R_below (rX HO_7.out) hb);replace HO_9:=aM (Kd.R_below (rX HO_9.out) hb);replace HO_73:=aM (Kd.R_below (Kd.R_elderB (rX HO_73.out) gb361 (Nat.le_of_eq hg.symm)) hb);have BK361:=aM (hbox);have GW361:=aM ((szX (below_size (bX1 HB.out GE335.out)) hg:w.heap.size≤gb361));have GE361:=GW361;replace HB:=aM (below_step (bX1 HB.out GE335.out) hb);have NB335_361:=aM (neX BK335.out hg);have NB361_335:=aM (nfX BK335.out hg);replace BK335:=aM (bbX BK335.out hb);clear hb hbox hg;have hnb53:=NB361_335.out;have hnc53:=NB335_361.out;obtain ⟨hcz54_0,hcz54_1,hfz54_0,hfz54_1⟩:=f2Z BK361.out)|((with_reducible refine gate_store (t:=63) (p:=13) rfl ?_);refine store_event (t:=63) (p:=13) (v:=?vo_w55) (w1:=((w52.setCell ⟨gb361,0,none⟩ (.int .i64 ((rd_T63 y357 x75_3).f0))).setCell ⟨gb361,1,none⟩ (.int .i64 ((rd_T63 y357 x75_3).f1)))) ?hg ?ho ?hn ?hr ?_;(case ho=>rfl);(case hg=>rfl);(case hn=>rfl);(case hr=>first|(go_simp;done)|(go_simp;rfl));intro w55 hw;have n0_:Aside0 (Kd.R (Kd.int .i64) 3 w55 w.heap.size (fun k_=>some k_≠(.slice (some ad356) t339.length co40:Value).ownBlock∧some k_≠(.slice (some ⟨go23,0,none⟩) x7_3.length co15:Value).ownBlock∧some k_≠(u9:Value).ownBlock) (.slice (some ad353) t336.length co39) t336):=⟨(by rw [hw];exact(by(with_reducible repeat(first|apply rA|apply rN|apply rD));exact Kd.R_mono (Kd.R_far (p:=⟨gb361,1,none⟩) (Kd.R_far (p:=⟨gb361,0,none⟩) (Kd.R_types HO_5.out BK361.out (by decide)) (fun _ hk=>hk.2) (.int .i64 ((rd_T63 y357 x75_3).f0))) (fun _ hk=>hk.2) (.int .i64 ((rd_T63 y357 x75_3).f1))) (fun _ hk=>⟨hk.1.1,⟨hk.1.2.1,hk.1.2.2⟩⟩)))⟩;have n1_:Aside0 (Kd.R (Kd.int .i64) 3 w55 w.heap.size (fun k_=>some k_≠(.slice (some ad353) t336.length co39:Value).ownBlock∧some k_≠(.slice (some ⟨go23,0,none⟩) x7_3.length co15:Value).ownBlock∧some k_≠(u9:Value).ownBlock) (.slice (some ad356) t339.length co40) t339):=⟨(by rw [hw];exact(by(with_reducible repeat(first|apply rA|apply rN|apply rD));exact Kd.R_mono (Kd.R_far (p:=⟨gb361,1,none⟩) (Kd.R_far (p:=⟨gb361,0,none⟩) (Kd.R_types HO_6.out BK361.out (by decide)) (fun _ hk=>hk.2) (.int .i64 ((rd_T63 y357 x75_3).f0))) (fun _ hk=>hk.2) (.int .i64 ((rd_T63 y357 x75_3).f1))) (fun _ hk=>⟨hk.1.1,⟨hk.1.2.1,hk.1.2.2⟩⟩)))⟩;have n2_:Aside0 (Kd.R (Kd.int .i64) 3 w55 w.heap.size (fun k_=>some k_≠(.slice (some ad353) t336.length co39:Value).ownBlock∧some k_≠(.slice (some ad356) t339.length co40:Value).ownBlock∧some k_≠(u9:Value).ownBlock) (.slice (some ⟨go23,0,none⟩) x7_3.length co15) x7_3):=⟨(by rw [hw];exact(by(with_reducible repeat(first|apply rA|apply rN|apply rD));exact Kd.R_mono (Kd.R_far (p:=⟨gb361,1,none⟩) (Kd.R_far (p:=⟨gb361,0,none⟩) (Kd.R_types HO_7.out BK361.out (by decide)) (fun _ hk=>hk.2) (.int .i64 ((rd_T63 y357 x75_3).f0))) (fun _ hk=>hk.2) (.int .i64 ((rd_T63 y357 x75_3).f1))) (fun _ hk=>⟨hk.1.1,⟨hk.1.2.1,hk.1.2.2⟩⟩)))⟩;have n3_:Aside0 (Kd.R (Kd.int .i64) 3 w55 w.heap.size (fun k_=>some k_≠(.slice (some ad353) t336.length co39:Value).ownBlock∧some k_≠(.slice (some ad356) t339.length co40:Value).ownBlock∧some k_≠(.slice (some ⟨go23,0,none⟩) x7_3.length co15:Value).ownBlock) u9 x9_3):=⟨(by rw [hw];exact(by(with_reducible repeat(first|apply rA|apply rN|apply rD));exact Kd.R_mono (Kd.R_far (p:=⟨gb361,1,none⟩) (Kd.R_far (p:=⟨gb361,0,none⟩) (Kd.R_types HO_9.out BK361.out (by decide)) (fun _ hk=>hk.2) (.int .i64 ((rd_T63 y357 x75_3).f0))) (fun _ hk=>hk.2) (.int .i64 ((rd_T63 y357 x75_3).f1))) (fun _ hk=>⟨hk.1.1,⟨hk.1.2.1,hk.1.2.2⟩⟩)))⟩;have n4_:Aside0 (Kd.R k63 63 w55 w.heap.size (fun k_=>k_≠gb361) (.slice (some ad360) y357.length co43) y357):=⟨(by rw [hw];exact(by(with_reducible repeat(first|apply rA|apply rN|apply rD));exact Kd.R_mono (Kd.R_far (p:=⟨gb361,1,none⟩) (Kd.R_far (p:=⟨gb361,0,none⟩) (Kd.R_mono HO_73.out (fun k_ hk=>(⟨hk,hk.2⟩:_∧k_≠gb361))) (fun _ hk=>hk.2) (.int .i64 ((rd_T63 y357 x75_3).f0))) (fun _ hk=>hk.2) (.int .i64 ((rd_T63 y357 x75_3).f1))) (fun _ hk=>hk.1.2)))⟩;have n5_:Aside0 (w55.heap[gb335]? = some (.cells #[.slice (some ad351) l0_0.length c0_0,.slice (some ad354) l0_1.length c0_1] 25 (0,0))):=⟨(by rw [hw];exact(by(with_reducible repeat(first|refine kN ?_ _|refine kD ?_|refine kA ?_ _));refine blk_far ?_ NB335_361.out _;(with_reducible repeat(first|refine kN ?_ _|refine kD ?_|refine kA ?_ _));refine blk_far ?_ NB335_361.out _;(with_reducible repeat(first|refine kN ?_ _|refine kD ?_|refine kA ?_ _));exact BK335.out))⟩;have n6_:Aside0 (w55.heap[gb361]? = some (.cells #[.int .i64 ((rd_T63 y357 x75_3).f0),.int .i64 ((rd_T63 y357 x75_3).f1)] 63 (0,0))):=⟨(by rw [hw];exact(by(with_reducible repeat(first|refine kN ?_ _|refine kD ?_|refine kA ?_ _));refine blk_put (cs:=#[.int .i64 ((rd_T63 y357 x75_3).f0),.int .i64 0]) ?_ 1 _ rfl;(with_reducible repeat(first|refine kN ?_ _|refine kD ?_|refine kA ?_ _));refine blk_put (cs:=#[.int .i64 0,.int .i64 0]) ?_ 0 _ rfl;(with_reducible repeat(first|refine kN ?_ _|refine kD ?_|refine kA ?_ _));exact BK361.out))⟩;have n7_:Aside0 (Below w.heap.size w w55):=⟨(by rw [hw];exact(bX2 HB.out GE335.out GE361.out))⟩;clear hw HO_5 HO_6 HO_7 HO_9 HO_73 BK335 BK361 HB;have HO_5:=n0_;have HO_6:=n1_;have HO_7:=n2_;have HO_9:=n3_;have HO_73:=n4_;have BK335:=n5_;have BK361:=n6_;have HB:=n7_;clear n0_ n1_ n2_ n3_ n4_ n5_ n6_ n7_;have hcz56_0:w55.cell? ⟨gb361,0,none⟩=some (.int .i64 ((rd_T63 y357 x75_3).f0)):=cz20 BK361.out;have hcz56_1:w55.cell? ⟨gb361,1,none⟩=some (.int .i64 ((rd_T63 y357 x75_3).f1)):=cz21 BK361.out;have hfz56_0:=blk_frozen BK361.out 0;have hfz56_1:=blk_frozen BK361.out 1;have p362:0≤(((rd_T63 y357 x75_3).f0):Int):=dX;have q362:((rd_T63 y357 x75_3).f0)<(x7_3.length:Int):=dX;obtain ⟨ad362,e362,hx362_0⟩:=Kd.at_int (Kd.R_reads' HO_7.out).2.2 ((rd_T63 y357 x75_3).f0) p362 q362;obtain rfl:(⟨go23,0,none⟩:Addr)=ad362:=(by injection e362);(first|simp only [add_plain] at hx362_0|simp only [add_at] at hx362_0|simp only [Addr.add,Nat.zero_add] at hx362_0|skip);replace p362:=eq_true p362;replace q362:=eq_true q362;have p50:0≤(((rd_T63 y357 x75_3).f0):Int):=dX;have q50:(((rd_T63 y357 x75_3).f0):Int)<((x7_3.length:Int):Int):=dX;obtain ⟨hx50_0,hf50_0⟩:=Kd.R_celln 0 HO_7.out (((rd_T63 y357 x75_3).f0):Int) p50 q50;replace p50:=eq_true p50;replace q50:=eq_true q50;obtain ⟨hy57_,hz57_⟩:=Kd.R_celln 0 HO_7.out (((rd_T63 y357 x75_3).f0):Int) (dX) (dX);have HP57:=Kd.R_putg HO_7.out (((rd_T63 y357 x75_3).f0):Int) ((rd_T63 y357 x75_3).f1))|((with_reducible refine gate_store (t:=3) (p:=90) rfl ?_);refine store_event (t:=3) (p:=90) (v:=?vo_w58) (w1:=(w55.setCell ⟨go23,(((rd_T63 y357 x75_3).f0):Int).toNat,none⟩ (.int .i64 ((rd_T63 y357 x75_3).f1)))) ?hg ?ho ?hn ?hr ?_;(case ho=>rfl);(case hg=>rfl);(case hn=>rfl);(case hr=>first|(go_simp;done)|(go_simp;rfl));intro w58 hw;have hg:w55.grownBy w58 (some go23):=(by rw [hw];exact HP57.2);have hp_:Kd.R (Kd.int .i64) 3 w58 w.heap.size (fun k_=>some k_≠(.slice (some ad353) t336.length co39:Value).ownBlock∧some k_≠(.slice (some ad356) t339.length co40:Value).ownBlock∧some k_≠(u9:Value).ownBlock) (.slice (some ⟨go23,0,none⟩) x7_3.length co15) y363:=(by rw [hw,Ny363.out];exact HP57.1);clear HP57;replace HO_5:=aM (Kd.R_after (v:=(.slice (some ⟨go23,0,none⟩) x7_3.length co15)) (v1:=(.slice (some ⟨go23,0,none⟩) x7_3.length co15)) (ok:=(fun k_=>some k_≠(.slice (some ad356) t339.length co40:Value).ownBlock∧some k_≠(u9:Value).ownBlock)) (rM HO_5.out (fun _ hk=>⟨⟨hk.1,hk.2.2⟩,hk.2.1⟩)) hg (.inl rfl));replace HO_6:=aM (Kd.R_after (v:=(.slice (some ⟨go23,0,none⟩) x7_3.length co15)) (v1:=(.slice (some ⟨go23,0,none⟩) x7_3.length co15)) (ok:=(fun k_=>some k_≠(.slice (some ad353) t336.length co39:Value).ownBlock∧some k_≠(u9:Value).ownBlock)) (rM HO_6.out (fun _ hk=>⟨⟨hk.1,hk.2.2⟩,hk.2.1⟩)) hg (.inl rfl));replace HO_9:=aM (Kd.R_after (v:=(.slice (some ⟨go23,0,none⟩) x7_3.length co15)) (v1:=(.slice (some ⟨go23,0,none⟩) x7_3.length co15)) (ok:=(fun k_=>some k_≠(.slice (some ad353) t336.length co39:Value).ownBlock∧some k_≠(.slice (some ad356) t339.length co40:Value).ownBlock)) (rM HO_9.out (fun _ hk=>⟨⟨hk.1,hk.2.1⟩,hk.2.2⟩)) hg (.inl rfl));replace HO_73:=aM (Kd.R_over' (v:=(.slice (some ⟨go23,0,none⟩) x7_3.length co15)) (rX HO_73.out) (Kd.R_typed HO_7.out) (by decide) hg);replace BK335:=aM (bgX BK335.out hg (Kd.R_ne HO_7.out BK335.out (by decide)));replace BK361:=aM (bgX BK361.out hg (Kd.R_ne HO_7.out BK361.out (by decide)));replace HO_7:=aM (hp_);replace HB:=aM ((by rw [hw];exact below_set (HB.out) GB23.out:Below w.heap.size w w58));clear hg hw hp_;have hcz59_0:w58.cell? ⟨gb361,0,none⟩=some (.int .i64 ((rd_T63 y357 x75_3).f0)):=cz20 BK361.out;have hcz59_1:w58.cell? ⟨gb361,1,none⟩=some (.int .i64 ((rd_T63 y357 x75_3).f1)):=cz21 BK361.out;have hfz59_0:=blk_frozen BK361.out 0;have hfz59_1:=blk_frozen BK361.out 1)|((with_reducible refine gate_builtin (b:=.append) (xs:=#[.tmp 91,.tmp 94]) rfl ?_);at_builtin;refine Kd.R_append (Kd.int .i64) (w0:=w) w.heap.size rfl (.tmp 91) (.tmp 94) 23 3 (.int .i64 0) 8 rfl Tryd.underlying23 info3 rfl (by decide) (by omega) u9 x9_3 ((rd_T63 y357 x75_3).f0) [.int .i64 ((rd_T63 y357 x75_3).f0)] (fun k_=>some k_≠(.slice (some ad353) t336.length co39:Value).ownBlock∧some k_≠(.slice (some ad356) t339.length co40:Value).ownBlock∧some k_≠(.slice (some ⟨go23,0,none⟩) x7_3.length co15:Value).ownBlock) (fun _=>False) rfl rfl ?aP (fun _ hk=>hk.elim) ?aF ?aO ?aB ?aS ?aL ?_;(case aP=>exact rfl);(case aB=>exact(bX2 HB.out GE335.out GE361.out));(case aF=>exact(fun k_ hk=>⟨Kd.fresh' (Kd.R_lt (rX HO_5.out)) k_ hk,Kd.fresh' (Kd.R_lt (rX HO_6.out)) k_ hk,Kd.fresh' (Kd.R_lt (rX HO_7.out)) k_ hk⟩));(case aO=>exact(rM HO_9.out (fun _ hk=>⟨hk.1.1,⟨hk.1.2,hk.2⟩⟩)));(case aS=>exact(below_size (bX2 HB.out GE335.out GE361.out)));(case aL=>have:=LMc51.out;omega);intro v365 w60 ho hb hg hat;rw [← Ny364.out] at ho;replace HO_5:=aM (Kd.R_after (ok:=(fun k_=>some k_≠(.slice (some ad356) t339.length co40:Value).ownBlock∧some k_≠(.slice (some ⟨go23,0,none⟩) x7_3.length co15:Value).ownBlock)) (rM HO_5.out (fun _ hk=>⟨⟨hk.1.1,hk.2⟩,hk.1.2⟩)) hg hat);replace HO_6:=aM (Kd.R_after (ok:=(fun k_=>some k_≠(.slice (some ad353) t336.length co39:Value).ownBlock∧some k_≠(.slice (some ⟨go23,0,none⟩) x7_3.length co15:Value).ownBlock)) (rM HO_6.out (fun _ hk=>⟨⟨hk.1.1,hk.2⟩,hk.1.2⟩)) hg hat);replace HO_7:=aM (Kd.R_after (ok:=(fun k_=>some k_≠(.slice (some ad353) t336.length co39:Value).ownBlock∧some k_≠(.slice (some ad356) t339.length co40:Value).ownBlock)) (rM HO_7.out (fun _ hk=>⟨⟨hk.1,hk.2.1⟩,hk.2.2⟩)) hg hat);replace HO_73:=aM (Kd.R_over' (rX HO_73.out) (Kd.R_typed (rX HO_9.out)) (by decide) hg);replace BK335:=aM (bgX BK335.out hg (Kd.R_ne HO_9.out BK335.out (by decide)));replace BK361:=aM (bgX BK361.out hg (Kd.R_ne HO_9.out BK361.out (by decide)));replace HB:=aM (hb);have HO366:=aM (ho);clear HO_9 ho hb hg hat))
 (try simp only [← hl7_3])
 go_roundg k3
 case measure=>have:=HK1.out;have:=HK2.out;have:=HK3.out;omega
 case rel=>exact ⟨(y363),(y364),(wrap64 (x75_3+1)),vX,H',⟨by have:=HK1.out;have:=HK2.out;have:=HK3.out;omega⟩,⟨by(try simp only [hl7_1]);(try simp only [hl7_2]);(try simp only [hl7_3]);(with_reducible repeat(first|apply rA|apply rN|apply rD));exact Kd.R_mono HO_5.out (fun _ hk=>⟨hk.1.1,⟨hk.1.2,hk.2⟩⟩)⟩,⟨by(try simp only [hl7_1]);(try simp only [hl7_2]);(try simp only [hl7_3]);(with_reducible repeat(first|apply rA|apply rN|apply rD));exact Kd.R_mono HO_6.out (fun _ hk=>⟨hk.1.1,⟨hk.1.2,hk.2⟩⟩)⟩,⟨by(try simp only [hl7_1]);(try simp only [hl7_2]);(try simp only [hl7_3]);(with_reducible repeat(first|apply rA|apply rN|apply rD));exact Kd.R_mono HO_7.out (fun _ hk=>⟨hk.1.1,⟨hk.1.2,hk.2⟩⟩)⟩,⟨by(try simp only [hl7_1]);(try simp only [hl7_2]);(try simp only [hl7_3]);(with_reducible repeat(first|apply rA|apply rN|apply rD));exact HO366.out⟩,⟨by(try simp only [hl7_1]);(try simp only [hl7_2]);(try simp only [hl7_3]);(with_reducible repeat(first|apply rA|apply rN|apply rD));exact Kd.R_mono HO_73.out (fun _ hk=>trivial)⟩,⟨by(try simp only [hl7_1]);(try simp only [hl7_2]);(try simp only [hl7_3]);(with_reducible repeat(first|refine kN ?_ _|refine kD ?_|refine kA ?_ _));exact BK335.out⟩,⟨bX2 HB.out GE335.out GE361.out⟩⟩
 }
 {
 rw [if_neg c51] at H
 exact absurd H (by simp)
 }
 }
 {
 rw [if_neg c49] at H
 have c49b0:=decide_eq_false c49
 clear c49
 have H':=aM H
 clear H
 have p360:0≤(x75_3:Int):=dX
 have q360:x75_3<(y357.length:Int):=dX
 obtain ⟨ad360,e360,hx360_0,hx360_1⟩:=at_T63 (Kd.R_reads' HO_73.out).2.2 x75_3 p360 q360
 cases e360
 replace p360:=eq_true p360
 replace q360:=eq_true q360
 go_wp2_with (first|((with_reducible refine gate_dst (N:=13) rfl ?_);refine bEv (cs:=#[.int .i64 0,.int .i64 0]) (t:=63) ?_;intro gb361 hg w61 hbox hb;replace HO_5:=aM (Kd.R_below (rX HO_5.out) hb);replace HO_6:=aM (Kd.R_below (rX HO_6.out) hb);replace HO_7:=aM (Kd.R_below (rX HO_7.out) hb);replace HO_9:=aM (Kd.R_below (rX HO_9.out) hb);replace HO_73:=aM (Kd.R_below (Kd.R_elderB (rX HO_73.out) gb361 (Nat.le_of_eq hg.symm)) hb);have BK361:=aM (hbox);have GW361:=aM ((szX (below_size (bX1 HB.out GE335.out)) hg:w.heap.size≤gb361));have GE361:=GW361;replace HB:=aM (below_step (bX1 HB.out GE335.out) hb);have NB335_361:=aM (neX BK335.out hg);have NB361_335:=aM (nfX BK335.out hg);replace BK335:=aM (bbX BK335.out hb);clear hb hbox hg;have hnb62:=NB361_335.out;have hnc62:=NB335_361.out;obtain ⟨hcz63_0,hcz63_1,hfz63_0,hfz63_1⟩:=f2Z BK361.out;have p362:0≤(((rd_T63 y357 x75_3).f0):Int):=dX;have q362:((rd_T63 y357 x75_3).f0)<(x7_3.length:Int):=dX;obtain ⟨ad362,e362,hx362_0⟩:=Kd.at_int (Kd.R_reads' HO_7.out).2.2 ((rd_T63 y357 x75_3).f0) p362 q362;obtain rfl:(⟨go23,0,none⟩:Addr)=ad362:=(by injection e362);(first|simp only [add_plain] at hx362_0|simp only [add_at] at hx362_0|simp only [Addr.add,Nat.zero_add] at hx362_0|skip);have hn362_0:(⟨go23,0,none⟩:Addr).block≠gb361:=Kd.own_blk (Kd.R_ne HO_7.out BK361.out (by decide));have hn362_1:(⟨go23,0,none⟩:Addr).block≠gb361:=Kd.own_blk (Kd.R_ne HO_7.out BK361.out (by decide));replace hx362_0:=(cell_far (p:=⟨gb361,0,none⟩) (by first|(rw [add_block];exact hn362_0)|(show (Addr.add _ _).block≠_;rw [add_block];exact hn362_0)|exact hn362_0) (.int .i64 ((rd_T63 y357 x75_3).f0))).trans hx362_0;replace hx362_0:=(cell_far (p:=⟨gb361,1,none⟩) (by first|(rw [add_block];exact hn362_1)|(show (Addr.add _ _).block≠_;rw [add_block];exact hn362_1)|exact hn362_1) (.int .i64 ((rd_T63 y357 x75_3).f1))).trans hx362_0;clear hn362_0 hn362_1;replace p362:=eq_true p362;replace q362:=eq_true q362))
 (try simp only [← hl7_3])
 go_roundg k3
 case measure=>have:=HK1.out;have:=HK2.out;have:=HK3.out;omega
 case rel=>exact ⟨(x7_3),(x9_3),(wrap64 (x75_3+1)),vX,H',⟨by have:=HK1.out;have:=HK2.out;have:=HK3.out;omega⟩,⟨by(try simp only [hl7_1]);(try simp only [hl7_2]);(try simp only [hl7_3]);(with_reducible repeat(first|apply rA|apply rN|apply rD));exact Kd.R_mono (Kd.R_far (p:=⟨gb361,1,none⟩) (Kd.R_far (p:=⟨gb361,0,none⟩) (Kd.R_types HO_5.out BK361.out (by decide)) (fun _ hk=>hk.2) (.int .i64 ((rd_T63 y357 x75_3).f0))) (fun _ hk=>hk.2) (.int .i64 ((rd_T63 y357 x75_3).f1))) (fun _ hk=>⟨hk.1.1,⟨hk.1.2.1,hk.1.2.2⟩⟩)⟩,⟨by(try simp only [hl7_1]);(try simp only [hl7_2]);(try simp only [hl7_3]);(with_reducible repeat(first|apply rA|apply rN|apply rD));exact Kd.R_mono (Kd.R_far (p:=⟨gb361,1,none⟩) (Kd.R_far (p:=⟨gb361,0,none⟩) (Kd.R_types HO_6.out BK361.out (by decide)) (fun _ hk=>hk.2) (.int .i64 ((rd_T63 y357 x75_3).f0))) (fun _ hk=>hk.2) (.int .i64 ((rd_T63 y357 x75_3).f1))) (fun _ hk=>⟨hk.1.1,⟨hk.1.2.1,hk.1.2.2⟩⟩)⟩,⟨by(try simp only [hl7_1]);(try simp only [hl7_2]);(try simp only [hl7_3]);(with_reducible repeat(first|apply rA|apply rN|apply rD));exact Kd.R_mono (Kd.R_far (p:=⟨gb361,1,none⟩) (Kd.R_far (p:=⟨gb361,0,none⟩) (Kd.R_types HO_7.out BK361.out (by decide)) (fun _ hk=>hk.2) (.int .i64 ((rd_T63 y357 x75_3).f0))) (fun _ hk=>hk.2) (.int .i64 ((rd_T63 y357 x75_3).f1))) (fun _ hk=>⟨hk.1.1,⟨hk.1.2.1,hk.1.2.2⟩⟩)⟩,⟨by(try simp only [hl7_1]);(try simp only [hl7_2]);(try simp only [hl7_3]);(with_reducible repeat(first|apply rA|apply rN|apply rD));exact Kd.R_mono (Kd.R_far (p:=⟨gb361,1,none⟩) (Kd.R_far (p:=⟨gb361,0,none⟩) (Kd.R_types HO_9.out BK361.out (by decide)) (fun _ hk=>hk.2) (.int .i64 ((rd_T63 y357 x75_3).f0))) (fun _ hk=>hk.2) (.int .i64 ((rd_T63 y357 x75_3).f1))) (fun _ hk=>⟨hk.1.1,⟨hk.1.2.1,hk.1.2.2⟩⟩)⟩,⟨by(try simp only [hl7_1]);(try simp only [hl7_2]);(try simp only [hl7_3]);(with_reducible repeat(first|apply rA|apply rN|apply rD));exact Kd.R_mono (Kd.R_far (p:=⟨gb361,1,none⟩) (Kd.R_far (p:=⟨gb361,0,none⟩) (Kd.R_mono HO_73.out (fun k_ hk=>(⟨hk,hk.2⟩:_∧k_≠gb361))) (fun _ hk=>hk.2) (.int .i64 ((rd_T63 y357 x75_3).f0))) (fun _ hk=>hk.2) (.int .i64 ((rd_T63 y357 x75_3).f1))) (fun _ hk=>trivial)⟩,⟨by(try simp only [hl7_1]);(try simp only [hl7_2]);(try simp only [hl7_3]);(with_reducible repeat(first|refine kN ?_ _|refine kD ?_|refine kA ?_ _));refine blk_far ?_ NB335_361.out _;(with_reducible repeat(first|refine kN ?_ _|refine kD ?_|refine kA ?_ _));refine blk_far ?_ NB335_361.out _;(with_reducible repeat(first|refine kN ?_ _|refine kD ?_|refine kA ?_ _));exact BK335.out⟩,⟨bX2 HB.out GE335.out GE361.out⟩⟩
 }
 }
 {
 rw [if_neg c48] at H
 exact absurd H (by simp)
 }
 }
 {
 rw [if_neg c47] at H
 exact absurd H (by simp)
 }
 }
 {
 rw [if_neg c46] at H
 exact absurd H (by simp)
 }
 }
 {
 rw [if_neg c45] at H
 exact absurd H (by simp)
 }
 }
 {
 rw [if_neg c44] at H
 have c44b0:=decide_eq_false c44
 clear c44
 have H':=aM H
 clear H
 go_wp2
 (try simp only [← hl7_2,← hl7_3])
 go_roundg k3
 case measure=>have:=HK1.out;have:=HK2.out;have:=HK3.out;omega
 case rel=>exact ⟨(x7_3),(x9_3),(wrap64 (x10_2+1)),vX,H',⟨by have:=HK1.out;have:=HK2.out;have:=HK3.out;omega⟩,⟨by(try simp only [hl7_1]);(try simp only [hl7_2]);(try simp only [hl7_3]);(with_reducible repeat(first|apply rA|apply rN|apply rD));exact HO_5.out⟩,⟨by(try simp only [hl7_1]);(try simp only [hl7_2]);(try simp only [hl7_3]);(with_reducible repeat(first|apply rA|apply rN|apply rD));exact HO_6.out⟩,⟨by(try simp only [hl7_1]);(try simp only [hl7_2]);(try simp only [hl7_3]);(with_reducible repeat(first|apply rA|apply rN|apply rD));exact HO_7.out⟩,⟨by(try simp only [hl7_1]);(try simp only [hl7_2]);(try simp only [hl7_3]);(with_reducible repeat(first|apply rA|apply rN|apply rD));exact HO_9.out⟩,⟨by(try simp only [hl7_1]);(try simp only [hl7_2]);(try simp only [hl7_3]);(with_reducible repeat(first|refine kN ?_ _|refine kD ?_|refine kA ?_ _));exact BK335.out⟩,⟨bX1 HB.out GE335.out⟩⟩
 }
 }
 {
 rw [if_neg c36] at H
 exact absurd H (by simp)
 }
 }
 {
 rw [if_neg c35] at H
 exact absurd H (by simp)
 }
 }
 {
 rw [if_neg c34] at H
 exact absurd H (by simp)
 }
 }
 {
 rw [if_neg c33] at H
 exact absurd H (by simp)
 }
 }
 {
 rw [if_neg c32] at H
 exact absurd H (by simp)
 }
 }
 {
 rw [if_neg c31] at H
 exact absurd H (by simp)
 }
 }
 {
 rw [if_neg c30] at H
 exact absurd H (by simp)
 }
 }
 {
 rw [if_neg c29] at H
 exact absurd H (by simp)
 }
 }
 {
 rw [if_neg c28] at H
 have c28b0:=decide_eq_false c28
 clear c28
 obtain rfl:=Option.some.inj H
 obtain ⟨Ao64,co64,eo64⟩:=Kd.R_slice HO_9.out
 subst eo64
 go_wp2
 go_ret
 exact ⟨_,eX,by(with_reducible repeat(first|apply rA|apply rN|apply rD));exact Kd.R_mono HO_7.out (fun _ hk=>trivial),bX1 HB.out GE335.out⟩
 }
 }
 {
 rw [if_neg c22] at H
 exact absurd H (by simp)
 }
 }
 }
 {
 rw [if_neg c6] at H
 exact absurd H (by simp)
 }
 }
 {
 rw [if_neg c5] at H
 exact absurd H (by simp)
 }

/-! ### i_TurnsOf: function 5 -/
def i_TurnsOf.l0 : Nat→List (List Int)→Int→Int→List Int→List Int→Option ((List (List Int)))
 | 0,_,_,_,_,_=>none
 | k+1,x3,x12,x13,x368000,x368001=>if x13<x12 then ((i_turnTo.f k x368000 x368001 x13).bind fun t372=>((i_IsTurn.f k x368000 x368001 t372).bind fun t375=>(if t375=true then (if x3.length<5864062014805 then (i_TurnsOf.l0 k (x3 ++ [t372]) x12 (wrap64 (x13+1)) x368000 x368001) else (none)) else (i_TurnsOf.l0 k x3 x12 (wrap64 (x13+1)) x368000 x368001)))) else (some x3)
def i_TurnsOf.f (k:Nat) (l0_0:List Int) (l0_1:List Int):Option ((List (List Int))):=(i_SurfaceOk.f k l0_0 l0_1).bind fun t368=>(if t368=true then (i_TurnsOf.l0 k (([]:List (List Int))) (l0_0.length:Int) 0 l0_0 l0_1) else (some ([]:List (List Int))))
theorem i_TurnsOf.calls (k:Nat) (A0_0:Option Addr) (c0_0:Nat) (l0_0:List Int) (A0_1:Option Addr) (c0_1:Nat) (l0_1:List Int) (r:List (List Int)) (w:World) (hr0_0:Kd.C (Kd.int .i64) w A0_0 l0_0.length l0_0) (hc0_0:l0_0.length≤c0_0) (hr0_1:Kd.C (Kd.int .i64) w A0_1 l0_1.length l0_1) (hc0_1:l0_1.length≤c0_1) (h:i_TurnsOf.f k l0_0 l0_1=some r) :
  Calls Tryd.prog 5 #[.agg #[.slice A0_0 l0_0.length c0_0,.slice A0_1 l0_1.length c0_1]] w fun e w'=>∃ v0_:Value,e = .returned (v0_)∧Kd.S (Kd.slice 3 (Kd.int .i64)) 23 w' w.heap.size (fun _=>True) v0_ r∧Below w.heap.size w w':=by
 have hu25:=Tryd.underlying25
 have HR0_0:=aM hr0_0
 have HC0_0:=aM hc0_0
 clear hr0_0 hc0_0
 have HR0_1:=aM hr0_1
 have HC0_1:=aM hc0_1
 clear hr0_1 hc0_1
 have HB:=aM (Below.refl w.heap.size w)
 have H:((i_SurfaceOk.f k l0_0 l0_1).bind fun t368=>(if t368=true then (i_TurnsOf.l0 k (([]:List (List Int))) (l0_0.length:Int) 0 l0_0 l0_1) else (some ([]:List (List Int)))))=some r:=h
 clear h
 replace H:=oB H
 obtain ⟨t368,A20,H⟩:=H
 have A2:=aM A20
 clear A20
 by_cases c3:t368=true
 {
 subst c3
 have H1:(i_TurnsOf.l0 k (([]:List (List Int))) (l0_0.length:Int) 0 l0_0 l0_1)=some r:=by rw [if_pos rfl] at H;exact H
 clear H
 have H:=H1
 clear H1
 obtain ⟨y369,hy369⟩:∃ y_:List (List Int),y_=(([]:List (List Int))):=⟨_,rfl⟩
 replace H:(i_TurnsOf.l0 k y369 (l0_0.length:Int) 0 l0_0 l0_1)=some r:=by first|(rw [hy369];with_reducible exact H)|(have H2_:=(Option.bind_some _ _).symm.trans H;rw [hy369];with_reducible exact H2_)|(have H2_:=(Option.bind_some _ _).symm.trans H;with_reducible exact H2_)|with_reducible exact H|(rw [hy369];exact H)|exact H
 have Ny369:=aM hy369
 clear hy369
 have H':=aM H
 clear H
 go_enter Tryd.func5,Tryd.ntmps5
 go_wp2_with (first|((with_reducible refine gate_dst (N:=1) rfl ?_);refine bEv (cs:=#[.slice A0_0 l0_0.length c0_0,.slice A0_1 l0_1.length c0_1]) (t:=25) ?_;intro gb367 hg w4 hbox hb;have BK367:=aM (hbox);have GW367:=aM ((szX (below_size (bX HB.out)) hg:w.heap.size≤gb367));have GE367:=GW367;replace HB:=aM (below_step (bX HB.out) hb);clear hb hbox hg;obtain ⟨hcz5_0,hcz5_1,hfz5_0,hfz5_1⟩:=f2Z BK367.out)|((with_reducible refine gate_callee (f:=22) rfl ?_);refine goesL_ (some 7) rfl rfl Tryd.func22 (by kernel_rfl) rfl #[.agg #[.slice A0_0 l0_0.length c0_0,.slice A0_1 l0_1.length c0_1]] rfl aX ?_;(with_reducible refine(i_SurfaceOk.calls k _ _ l0_0 _ _ l0_1 true _ ?side1 ?side2 ?side3 ?side4 A2.out).mono ?_);(case side1=>exact cX (Kd.C_below HR0_0.out HB.out));(case side2=>exact HC0_0.out);(case side3=>exact cX (Kd.C_below HR0_1.out HB.out));(case side4=>exact HC0_1.out);rintro e w6 ⟨rfl,hb⟩;refine ⟨_,rfl,?_⟩;replace BK367:=aM (bbX BK367.out hb);replace HB:=aM (below_step (bX1 HB.out GE367.out) hb);(try clear hb);(try clear hk))|((with_reducible refine gate_dst (N:=9) rfl ?_);refine Kd.S_lit (Kd.slice 3 (Kd.int .i64)) _ 23 ?hg (N:=9) ?hd (xs:=([]:List (List Int))) (inner:=[]) (ok:=fun _=>True) (okp:=fun _=>True) ?hr ?hp (fun _ hk=>hk) trivial (Below.refl _ _) (Nat.le_refl _) (by simp) ?_;(case hd=>rfl);(case hg=>rfl);(case hr=>first|(go_simp;done)|(go_simp;rfl));(case hp=>exact(Reps.none _ _));intro v370 w7 ho8 hb hg_ hnew_;clear hg_ hnew_;(first|rw [← Ny369.out] at ho8|(simp only [Int.reduceToNat] at ho8;rw [← Ny369.out] at ho8));have HO371:=aM (Kd.S_lower ho8 (below_size (bX1 HB.out GE367.out)));replace BK367:=aM (bbX BK367.out hb);replace HB:=aM (below_step (bX1 HB.out GE367.out) hb);clear hb ho8;obtain ⟨hcz9_0,hcz9_1,hfz9_0,hfz9_1⟩:=f2Z BK367.out))
 go_loopg [3,13] k (fun kq v3 v13 w'=>∃ (x3_1:List (List Int)) (x13_1:Int),v13 = .int .i64 x13_1∧Aside0 (i_TurnsOf.l0 kq x3_1 (l0_0.length:Int) x13_1 l0_0 l0_1=some r)∧Aside0 (kq≤k)∧Aside0 (Kd.S (Kd.slice 3 (Kd.int .i64)) 23 w' w.heap.size (fun _=>True) v3 x3_1)∧Aside0 (w'.heap[gb367]? = some (.cells #[(.slice A0_0 l0_0.length c0_0),(.slice A0_1 l0_1.length c0_1)] 25 (0,0)))∧Aside0 (Below w.heap.size w w'))
 case atStart=>exact ⟨(y369),(0),vX,H',⟨Nat.le_refl _⟩,⟨sX HO371.out⟩,⟨kX BK367.out⟩,⟨bX1 HB.out GE367.out⟩⟩
 case round =>
 clear H'
 try clear c3
 try clear hcz5_0
 try clear hcz5_1
 try clear hcz9_0
 try clear hcz9_1
 try clear hfz5_0
 try clear hfz5_1
 try clear hfz9_0
 try clear hfz9_1
 obtain ⟨x3_1,x13_1,rfl,HA,HK1,HO_3,BK367,HB⟩:=hrel
 cases gk with
 | zero=>exact absurd HA.out (by simp [i_TurnsOf.l0])
 | succ k1 =>
 have H:=HA.out
 clear HA
 simp only [i_TurnsOf.l0] at H
 by_cases c10:x13_1<(l0_0.length:Int)
 {
 rw [if_pos c10] at H
 have c10b0:=decide_eq_true c10
 clear c10
 replace H:=oB H
 obtain ⟨t372,A110,H⟩:=H
 have A11:=aM A110
 clear A110
 replace H:=oB H
 obtain ⟨t375,A120,H⟩:=H
 have A12:=aM A120
 clear A120
 by_cases c13:t375=true
 {
 subst c13
 have H1:(if x3_1.length<5864062014805 then (i_TurnsOf.l0 k1 (x3_1 ++ [t372]) (l0_0.length:Int) (wrap64 (x13_1+1)) l0_0 l0_1) else (none))=some r:=by rw [if_pos rfl] at H;exact H
 clear H
 have H:=H1
 clear H1
 by_cases c14:x3_1.length<5864062014805
 {
 rw [if_pos c14] at H
 have LMc14:=aM c14
 clear c14
 obtain ⟨y376,hy376⟩:∃ y_:List (List Int),y_=(x3_1 ++ [t372]):=⟨_,rfl⟩
 replace H:(i_TurnsOf.l0 k1 y376 (l0_0.length:Int) (wrap64 (x13_1+1)) l0_0 l0_1)=some r:=by first|(rw [hy376];with_reducible exact H)|(have H2_:=(Option.bind_some _ _).symm.trans H;rw [hy376];with_reducible exact H2_)|(have H2_:=(Option.bind_some _ _).symm.trans H;with_reducible exact H2_)|with_reducible exact H|(rw [hy376];exact H)|exact H
 have Ny376:=aM hy376
 clear hy376
 have H':=aM H
 clear H
 obtain ⟨hcz15_0,hcz15_1,hfz15_0,hfz15_1⟩:=f2Z BK367.out
 go_wp2_with (first|((with_reducible refine gate_callee (f:=23) rfl ?_);refine goesL_ (some 18) rfl rfl Tryd.func23 (by kernel_rfl) rfl #[.agg #[.slice A0_0 l0_0.length c0_0,.slice A0_1 l0_1.length c0_1],.int .i64 x13_1] rfl aX ?_;(with_reducible refine(i_turnTo.calls k1 _ _ l0_0 _ _ l0_1 x13_1 t372 _ ?side1 ?side2 ?side3 ?side4 A11.out).mono ?_);(case side1=>exact cX (Kd.C_below HR0_0.out HB.out));(case side2=>exact HC0_0.out);(case side3=>exact cX (Kd.C_below HR0_1.out HB.out));(case side4=>exact HC0_1.out);rintro e w16 ⟨v373,rfl,ho0,hb⟩;refine ⟨_,rfl,?_⟩;replace HO_3:=aM (Kd.S_elder' (sX HO_3.out) (Kd.R_base ho0) hb);have HO374:=aM (Kd.R_lower ho0 (below_size (bX1 HB.out GE367.out)));replace BK367:=aM (bbX BK367.out hb);replace HB:=aM (below_step (bX1 HB.out GE367.out) hb);(try clear hb);(try clear hk);(try clear ho0);obtain ⟨hcz17_0,hcz17_1,hfz17_0,hfz17_1⟩:=f2Z BK367.out;obtain ⟨Ao18,co18,eo18⟩:=Kd.R_slice HO374.out;subst eo18)|((with_reducible refine gate_callee (f:=13) rfl ?_);refine goesL_ (some 21) rfl rfl Tryd.func13 (by kernel_rfl) rfl #[.agg #[.slice A0_0 l0_0.length c0_0,.slice A0_1 l0_1.length c0_1],.slice Ao18 t372.length co18] rfl aX ?_;(with_reducible refine(i_IsTurn.calls k1 _ _ l0_0 _ _ l0_1 _ _ t372 true _ ?side1 ?side2 ?side3 ?side4 ?side5 ?side6 A12.out).mono ?_);(case side1=>exact cX (Kd.C_below HR0_0.out HB.out));(case side2=>exact HC0_0.out);(case side3=>exact cX (Kd.C_below HR0_1.out HB.out));(case side4=>exact HC0_1.out);(case side5=>exact cX (Kd.R_reads' HO374.out).2.2);(case side6=>exact(Kd.R_reads' HO374.out).2.1);rintro e w19 ⟨rfl,hb⟩;refine ⟨_,rfl,?_⟩;replace HO_3:=aM (Kd.S_below (sX HO_3.out) hb);replace HO374:=aM (Kd.R_below (rX HO374.out) hb);replace BK367:=aM (bbX BK367.out hb);replace HB:=aM (below_step (bX1 HB.out GE367.out) hb);(try clear hb);(try clear hk))|((with_reducible refine gate_builtin (b:=.append) (xs:=#[.tmp 22,.tmp 24]) rfl ?_);at_builtin;refine Kd.S_append (Kd.slice 3 (Kd.int .i64)) (w0:=w) w.heap.size rfl (.tmp 22) (.tmp 24) 27 23 (.slice none 0 0) 24 rfl Tryd.underlying27 info23 rfl (by decide) (by omega) u3 x3_1 t372 [.slice Ao18 t372.length co18] (fun _=>True) (fun k_=>some k_=(.slice Ao18 t372.length co18:Value).ownBlock) rfl rfl ?aP (fun k_ hk_=>((Kd.R_mono (ok':=fun k_=>((fun _=>True)) k_∧some k_≠(u3:Value).ownBlock) (Kd.R_apart' (HO374.out) (Kd.S_typed HO_3.out) (by decide)) (fun k_ hk=>⟨trivial,hk.2⟩))).1 k_ hk_.symm) ?aF ?aO ?aB ?aS ?aL ?_;(case aP=>exact Kd.M_row (Kd.R_mono (Kd.R_tight rfl (Kd.R_mono (ok':=fun k_=>((fun _=>True)) k_∧some k_≠(u3:Value).ownBlock) (Kd.R_apart' (HO374.out) (Kd.S_typed HO_3.out) (by decide)) (fun k_ hk=>⟨trivial,hk.2⟩))) (fun _ h_=>h_)));(case aB=>exact(bX1 HB.out GE367.out));(case aF=>exact(fun _ _=>trivial));(case aO=>exact(by(with_reducible repeat(first|apply Kd.S_alloc|apply Kd.S_drewN|apply Kd.S_drew));exact Kd.S_mono HO_3.out (fun k_ hk=>⟨trivial,fun e_=>hk.2 e_⟩)));(case aS=>exact(below_size (bX1 HB.out GE367.out)));(case aL=>have:=LMc14.out;omega);intro v377 w20 ho hb hg hat;rw [← Ny376.out] at ho;replace BK367:=aM (bgX BK367.out hg (Kd.S_ne HO_3.out BK367.out (by decide)));replace HB:=aM (hb);have HO378:=aM (ho);clear HO_3 HO374 ho hb hg hat))
 go_roundg k1
 case measure=>have:=HK1.out;omega
 case rel=>exact ⟨(y376),(wrap64 (x13_1+1)),vX,H',⟨by have:=HK1.out;omega⟩,⟨sX HO378.out⟩,⟨kX BK367.out⟩,⟨bX1 HB.out GE367.out⟩⟩
 }
 {
 rw [if_neg c14] at H
 exact absurd H (by simp)
 }
 }
 {
 replace c13:=Bool.eq_false_iff.mpr c13
 subst c13
 have H1:(i_TurnsOf.l0 k1 x3_1 (l0_0.length:Int) (wrap64 (x13_1+1)) l0_0 l0_1)=some r:=by rw [if_neg (show ¬ (false=true) by decide)] at H;exact H
 clear H
 have H:=H1
 clear H1
 have H':=aM H
 clear H
 obtain ⟨hcz21_0,hcz21_1,hfz21_0,hfz21_1⟩:=f2Z BK367.out
 go_wp2_with (first|((with_reducible refine gate_callee (f:=23) rfl ?_);refine goesL_ (some 18) rfl rfl Tryd.func23 (by kernel_rfl) rfl #[.agg #[.slice A0_0 l0_0.length c0_0,.slice A0_1 l0_1.length c0_1],.int .i64 x13_1] rfl aX ?_;(with_reducible refine(i_turnTo.calls k1 _ _ l0_0 _ _ l0_1 x13_1 t372 _ ?side1 ?side2 ?side3 ?side4 A11.out).mono ?_);(case side1=>exact cX (Kd.C_below HR0_0.out HB.out));(case side2=>exact HC0_0.out);(case side3=>exact cX (Kd.C_below HR0_1.out HB.out));(case side4=>exact HC0_1.out);rintro e w22 ⟨v373,rfl,ho0,hb⟩;refine ⟨_,rfl,?_⟩;replace HO_3:=aM (Kd.S_elder' (sX HO_3.out) (Kd.R_base ho0) hb);have HO374:=aM (Kd.R_lower ho0 (below_size (bX1 HB.out GE367.out)));replace BK367:=aM (bbX BK367.out hb);replace HB:=aM (below_step (bX1 HB.out GE367.out) hb);(try clear hb);(try clear hk);(try clear ho0);obtain ⟨hcz23_0,hcz23_1,hfz23_0,hfz23_1⟩:=f2Z BK367.out;obtain ⟨Ao24,co24,eo24⟩:=Kd.R_slice HO374.out;subst eo24)|((with_reducible refine gate_callee (f:=13) rfl ?_);refine goesL_ (some 21) rfl rfl Tryd.func13 (by kernel_rfl) rfl #[.agg #[.slice A0_0 l0_0.length c0_0,.slice A0_1 l0_1.length c0_1],.slice Ao24 t372.length co24] rfl aX ?_;(with_reducible refine(i_IsTurn.calls k1 _ _ l0_0 _ _ l0_1 _ _ t372 false _ ?side1 ?side2 ?side3 ?side4 ?side5 ?side6 A12.out).mono ?_);(case side1=>exact cX (Kd.C_below HR0_0.out HB.out));(case side2=>exact HC0_0.out);(case side3=>exact cX (Kd.C_below HR0_1.out HB.out));(case side4=>exact HC0_1.out);(case side5=>exact cX (Kd.R_reads' HO374.out).2.2);(case side6=>exact(Kd.R_reads' HO374.out).2.1);rintro e w25 ⟨rfl,hb⟩;refine ⟨_,rfl,?_⟩;replace HO_3:=aM (Kd.S_below (sX HO_3.out) hb);replace HO374:=aM (Kd.R_below (rX HO374.out) hb);replace BK367:=aM (bbX BK367.out hb);replace HB:=aM (below_step (bX1 HB.out GE367.out) hb);(try clear hb);(try clear hk)))
 go_roundg k1
 case measure=>have:=HK1.out;omega
 case rel=>exact ⟨(x3_1),(wrap64 (x13_1+1)),vX,H',⟨by have:=HK1.out;omega⟩,⟨by(with_reducible repeat(first|apply Kd.S_alloc|apply Kd.S_drewN|apply Kd.S_drew));exact Kd.S_mono HO_3.out (fun _ hk=>trivial)⟩,⟨kX BK367.out⟩,⟨bX1 HB.out GE367.out⟩⟩
 }
 }
 {
 rw [if_neg c10] at H
 have c10b0:=decide_eq_false c10
 clear c10
 obtain rfl:=Option.some.inj H
 go_wp2
 go_ret
 exact ⟨_,eX,sX HO_3.out,bX1 HB.out GE367.out⟩
 }
 }
 {
 replace c3:=Bool.eq_false_iff.mpr c3
 subst c3
 have H1:(some ([]:List (List Int)))=some r:=by rw [if_neg (show ¬ (false=true) by decide)] at H;exact H
 clear H
 have H:=H1
 clear H1
 obtain rfl:=Option.some.inj H
 go_enter Tryd.func5,Tryd.ntmps5
 go_wp2_with (first|((with_reducible refine gate_dst (N:=1) rfl ?_);refine bEv (cs:=#[.slice A0_0 l0_0.length c0_0,.slice A0_1 l0_1.length c0_1]) (t:=25) ?_;intro gb367 hg w26 hbox hb;have BK367:=aM (hbox);have GW367:=aM ((szX (below_size (bX HB.out)) hg:w.heap.size≤gb367));have GE367:=GW367;replace HB:=aM (below_step (bX HB.out) hb);clear hb hbox hg;obtain ⟨hcz27_0,hcz27_1,hfz27_0,hfz27_1⟩:=f2Z BK367.out)|((with_reducible refine gate_callee (f:=22) rfl ?_);refine goesL_ (some 7) rfl rfl Tryd.func22 (by kernel_rfl) rfl #[.agg #[.slice A0_0 l0_0.length c0_0,.slice A0_1 l0_1.length c0_1]] rfl aX ?_;(with_reducible refine(i_SurfaceOk.calls k _ _ l0_0 _ _ l0_1 false _ ?side1 ?side2 ?side3 ?side4 A2.out).mono ?_);(case side1=>exact cX (Kd.C_below HR0_0.out HB.out));(case side2=>exact HC0_0.out);(case side3=>exact cX (Kd.C_below HR0_1.out HB.out));(case side4=>exact HC0_1.out);rintro e w28 ⟨rfl,hb⟩;refine ⟨_,rfl,?_⟩;replace BK367:=aM (bbX BK367.out hb);replace HB:=aM (below_step (bX1 HB.out GE367.out) hb);(try clear hb);(try clear hk)))
 go_ret
 exact ⟨_,eX,by first|exact Kd.S_nil _ _ _ _ _|exact Kd.N_nil _ _ _ _ _|exact Kd.V_nil _ _ _ _ _|exact Kd.Q_nil _ _ _ _ _|exact Kd.R_nil _ _ _ _ _,bX1 HB.out GE367.out⟩
 }

/-! ### i_CountSquares: function 24 -/
def i_CountSquares.f (k:Nat) (l0_0:List Int) (l0_1:List Int):Option (Int):=(i_SurfaceOk.f k l0_0 l0_1).bind fun t380=>(if t380=true then (some (l0_0.length:Int)) else (some 0))
theorem i_CountSquares.calls (k:Nat) (A0_0:Option Addr) (c0_0:Nat) (l0_0:List Int) (A0_1:Option Addr) (c0_1:Nat) (l0_1:List Int) (r:Int) (w:World) (hr0_0:Kd.C (Kd.int .i64) w A0_0 l0_0.length l0_0) (hc0_0:l0_0.length≤c0_0) (hr0_1:Kd.C (Kd.int .i64) w A0_1 l0_1.length l0_1) (hc0_1:l0_1.length≤c0_1) (h:i_CountSquares.f k l0_0 l0_1=some r) :
  Calls Tryd.prog 24 #[.agg #[.slice A0_0 l0_0.length c0_0,.slice A0_1 l0_1.length c0_1]] w fun e w'=>e = .returned (.int .i64 r)∧Below w.heap.size w w':=by
 have hu25:=Tryd.underlying25
 have HR0_0:=aM hr0_0
 have HC0_0:=aM hc0_0
 clear hr0_0 hc0_0
 have HR0_1:=aM hr0_1
 have HC0_1:=aM hc0_1
 clear hr0_1 hc0_1
 have HB:=aM (Below.refl w.heap.size w)
 have H:((i_SurfaceOk.f k l0_0 l0_1).bind fun t380=>(if t380=true then (some (l0_0.length:Int)) else (some 0)))=some r:=h
 clear h
 replace H:=oB H
 obtain ⟨t380,A20,H⟩:=H
 have A2:=aM A20
 clear A20
 by_cases c3:t380=true
 {
 subst c3
 have H1:(some (l0_0.length:Int))=some r:=by rw [if_pos rfl] at H;exact H
 clear H
 have H:=H1
 clear H1
 obtain rfl:=Option.some.inj H
 go_enter Tryd.func24,Tryd.ntmps24
 go_wp2_with (first|((with_reducible refine gate_dst (N:=1) rfl ?_);refine bEv (cs:=#[.slice A0_0 l0_0.length c0_0,.slice A0_1 l0_1.length c0_1]) (t:=25) ?_;intro gb379 hg w4 hbox hb;have BK379:=aM (hbox);have GW379:=aM ((szX (below_size (bX HB.out)) hg:w.heap.size≤gb379));have GE379:=GW379;replace HB:=aM (below_step (bX HB.out) hb);clear hb hbox hg;obtain ⟨hcz5_0,hcz5_1,hfz5_0,hfz5_1⟩:=f2Z BK379.out)|((with_reducible refine gate_callee (f:=22) rfl ?_);refine goesL_ (some 4) rfl rfl Tryd.func22 (by kernel_rfl) rfl #[.agg #[.slice A0_0 l0_0.length c0_0,.slice A0_1 l0_1.length c0_1]] rfl aX ?_;(with_reducible refine(i_SurfaceOk.calls k _ _ l0_0 _ _ l0_1 true _ ?side1 ?side2 ?side3 ?side4 A2.out).mono ?_);(case side1=>exact cX (Kd.C_below HR0_0.out HB.out));(case side2=>exact HC0_0.out);(case side3=>exact cX (Kd.C_below HR0_1.out HB.out));(case side4=>exact HC0_1.out);rintro e w6 ⟨rfl,hb⟩;refine ⟨_,rfl,?_⟩;replace BK379:=aM (bbX BK379.out hb);replace HB:=aM (below_step (bX1 HB.out GE379.out) hb);(try clear hb);obtain ⟨hcz7_0,hcz7_1,hfz7_0,hfz7_1⟩:=f2Z BK379.out))
 go_ret
 exact ⟨eX,bX1 HB.out GE379.out⟩
 }
 {
 replace c3:=Bool.eq_false_iff.mpr c3
 subst c3
 have H1:(some 0)=some r:=by rw [if_neg (show ¬ (false=true) by decide)] at H;exact H
 clear H
 have H:=H1
 clear H1
 obtain rfl:=Option.some.inj H
 go_enter Tryd.func24,Tryd.ntmps24
 go_wp2_with (first|((with_reducible refine gate_dst (N:=1) rfl ?_);refine bEv (cs:=#[.slice A0_0 l0_0.length c0_0,.slice A0_1 l0_1.length c0_1]) (t:=25) ?_;intro gb379 hg w8 hbox hb;have BK379:=aM (hbox);have GW379:=aM ((szX (below_size (bX HB.out)) hg:w.heap.size≤gb379));have GE379:=GW379;replace HB:=aM (below_step (bX HB.out) hb);clear hb hbox hg;obtain ⟨hcz9_0,hcz9_1,hfz9_0,hfz9_1⟩:=f2Z BK379.out)|((with_reducible refine gate_callee (f:=22) rfl ?_);refine goesL_ (some 4) rfl rfl Tryd.func22 (by kernel_rfl) rfl #[.agg #[.slice A0_0 l0_0.length c0_0,.slice A0_1 l0_1.length c0_1]] rfl aX ?_;(with_reducible refine(i_SurfaceOk.calls k _ _ l0_0 _ _ l0_1 false _ ?side1 ?side2 ?side3 ?side4 A2.out).mono ?_);(case side1=>exact cX (Kd.C_below HR0_0.out HB.out));(case side2=>exact HC0_0.out);(case side3=>exact cX (Kd.C_below HR0_1.out HB.out));(case side4=>exact HC0_1.out);rintro e w10 ⟨rfl,hb⟩;refine ⟨_,rfl,?_⟩;replace BK379:=aM (bbX BK379.out hb);replace HB:=aM (below_step (bX1 HB.out GE379.out) hb);(try clear hb)))
 go_ret
 exact ⟨eX,bX1 HB.out GE379.out⟩
 }

/-! ### i_CyclesOf: function 42 -/
mutual
def i_CyclesOf.l0 : Nat→List Int→List Bool→List (List Int)→Int→Int→Option ((List (List Int)))
 | 0,_,_,_,_,_=>none
 | k+1,x0,x3,x4,x16,x17=>if x17<x16 then (if 0≤x17 then (if x17<(x3.length:Int) then (if rdOf false x3 x17=true then (i_CyclesOf.l0 k x0 x3 x4 x16 (wrap64 (x17+1))) else (i_CyclesOf.l1 k x0 x3 x4 (([]:List Int)) x17 x16 x17)) else (none)) else (none)) else (some x4)
def i_CyclesOf.l1 : Nat→List Int→List Bool→List (List Int)→List Int→Int→Int→Int→Option ((List (List Int)))
 | 0,_,_,_,_,_,_,_=>none
 | k+1,x0,x3,x4,x6,x7,x16,x17=>if 0≤x7 then (if x7<(x3.length:Int) then (if rdOf false x3 x7=true then (if x4.length<5864062014805 then (i_CyclesOf.l0 k x0 x3 (x4 ++ [x6]) x16 (wrap64 (x17+1))) else (none)) else (if x6.length<17592186044416 then (if x7<(x0.length:Int) then (i_CyclesOf.l1 k x0 (x3.set (x7:Int).toNat true) x4 (x6 ++ [x7]) (rd x0 x7) x16 x17) else (none)) else (none))) else (none)) else (none)
end
def i_CyclesOf.f (k:Nat) (l0:List Int):Option ((List (List Int))):=(i_PermOk.f l0).bind fun t381=>(if t381=true then (if 0≤(l0.length:Int) then (if ((l0.length:Int):Int).toNat≤281474976710656 then (i_CyclesOf.l0 k l0 (List.replicate ((l0.length:Int):Int).toNat false) (([]:List (List Int))) (l0.length:Int) 0) else (none)) else (none)) else (some ([]:List (List Int))))
theorem i_CyclesOf.calls (k:Nat) (A0:Option Addr) (c0:Nat) (l0:List Int) (r:List (List Int)) (w:World) (hr0:Kd.C (Kd.int .i64) w A0 l0.length l0) (hc0:l0.length≤c0) (h:i_CyclesOf.f k l0=some r) :
  Calls Tryd.prog 42 #[.slice A0 l0.length c0] w fun e w'=>∃ v0_:Value,e = .returned (v0_)∧Kd.S (Kd.slice 3 (Kd.int .i64)) 23 w' w.heap.size (fun _=>True) v0_ r∧Below w.heap.size w w':=by
 have HR0:=aM hr0
 have HC0:=aM hc0
 clear hr0 hc0
 have HB:=aM (Below.refl w.heap.size w)
 have H:((i_PermOk.f l0).bind fun t381=>(if t381=true then (if 0≤(l0.length:Int) then (if ((l0.length:Int):Int).toNat≤281474976710656 then (i_CyclesOf.l0 k l0 (List.replicate ((l0.length:Int):Int).toNat false) (([]:List (List Int))) (l0.length:Int) 0) else (none)) else (none)) else (some ([]:List (List Int)))))=some r:=h
 clear h
 replace H:=oB H
 obtain ⟨t381,A20,H⟩:=H
 have A2:=aM A20
 clear A20
 by_cases c3:t381=true
 {
 subst c3
 have H1:(if 0≤(l0.length:Int) then (if ((l0.length:Int):Int).toNat≤281474976710656 then (i_CyclesOf.l0 k l0 (List.replicate ((l0.length:Int):Int).toNat false) (([]:List (List Int))) (l0.length:Int) 0) else (none)) else (none))=some r:=by rw [if_pos rfl] at H;exact H
 clear H
 have H:=H1
 clear H1
 by_cases c4:0≤(l0.length:Int)
 {
 rw [if_pos c4] at H
 have c4b0:=eq_true c4
 have c4b1:=decide_eq_true c4
 clear c4
 by_cases c5:((l0.length:Int):Int).toNat≤281474976710656
 {
 rw [if_pos c5] at H
 have c5b0:=eq_true c5
 have c5b1:=decide_eq_true c5
 clear c5
 obtain ⟨y382,hy382⟩:∃ y_:List Bool,y_=(List.replicate ((l0.length:Int):Int).toNat false):=⟨_,rfl⟩
 replace H:(i_CyclesOf.l0 k l0 y382 (([]:List (List Int))) (l0.length:Int) 0)=some r:=by first|(rw [hy382];with_reducible exact H)|(have H2_:=(Option.bind_some _ _).symm.trans H;rw [hy382];with_reducible exact H2_)|(have H2_:=(Option.bind_some _ _).symm.trans H;with_reducible exact H2_)|with_reducible exact H|(rw [hy382];exact H)|exact H
 have Ny382:=aM hy382
 clear hy382
 obtain ⟨y385,hy385⟩:∃ y_:List (List Int),y_=(([]:List (List Int))):=⟨_,rfl⟩
 replace H:(i_CyclesOf.l0 k l0 y382 y385 (l0.length:Int) 0)=some r:=by first|(rw [hy385];with_reducible exact H)|(have H2_:=(Option.bind_some _ _).symm.trans H;rw [hy385];with_reducible exact H2_)|(have H2_:=(Option.bind_some _ _).symm.trans H;with_reducible exact H2_)|with_reducible exact H|(rw [hy385];exact H)|exact H
 have Ny385:=aM hy385
 clear hy385
 have H':=aM H
 clear H
 go_enter Tryd.func42,Tryd.ntmps42
 go_wp2_with (first|((with_reducible refine gate_callee (f:=31) rfl ?_);refine goesL_ (some 9) rfl rfl Tryd.func31 (by kernel_rfl) rfl #[.slice A0 l0.length c0] rfl aX ?_;(with_reducible refine(i_PermOk.calls _ _ l0 true _ ?side1 ?side2 A2.out).mono ?_);(case side1=>exact cX HR0.out);(case side2=>exact HC0.out);rintro e w6 ⟨rfl,hb⟩;refine ⟨_,rfl,?_⟩;replace HB:=aM (below_step (bX HB.out) hb);(try clear hb);(try clear hk))|((with_reducible refine gate_dst (N:=13) rfl ?_);refine Kd.R_make Kd.bool _ 4 rfl (N:=13) rfl 76 _ _ rfl (l0.length:Int) rfl rfl Tryd.underlying76 (.bool false) 1 info4 rfl (by decide) (by omega) false (ok:=fun _=>True) (okp:=fun _=>True) rfl (fun _ hk=>hk) trivial (dX) (Nat.le_trans (Nat.mul_le_mul_right _ (dX:(l0.length:Int).toNat≤281474976710656)) (by omega)) (Below.refl _ _) (Nat.le_refl _) ?_;intro v383 w7 ho8 hb hg_ hnew_;clear hg_ hnew_;(first|rw [← Ny382.out] at ho8|(simp only [Int.reduceToNat] at ho8;rw [← Ny382.out] at ho8));have HO384:=aM (Kd.R_lower ho8 (below_size (bX HB.out)));replace HB:=aM (below_step (bX HB.out) hb);clear hb ho8)|((with_reducible refine gate_dst (N:=14) rfl ?_);refine Kd.S_lit (Kd.slice 3 (Kd.int .i64)) _ 23 ?hg (N:=14) ?hd (xs:=([]:List (List Int))) (inner:=[]) (ok:=fun _=>True) (okp:=fun _=>True) ?hr ?hp (fun _ hk=>hk) trivial (Below.refl _ _) (Nat.le_refl _) (by simp) ?_;(case hd=>rfl);(case hg=>rfl);(case hr=>first|(go_simp;done)|(go_simp;rfl));(case hp=>exact(Reps.none _ _));intro v386 w9 ho10 hb hg_ hnew_;clear hg_ hnew_;(first|rw [← Ny385.out] at ho10|(simp only [Int.reduceToNat] at ho10;rw [← Ny385.out] at ho10));replace HO384:=aM (Kd.R_below (rX HO384.out) hb);have HO387:=aM (Kd.S_lower ho10 (below_size (bX HB.out)));replace HB:=aM (below_step (bX HB.out) hb);clear hb ho10))
 go_loopg [4,17] k (fun kq v4 v17 w'=>∃ (x3_1:List Bool) (x4_1:List (List Int)) (x17_1:Int),v17 = .int .i64 x17_1∧Aside0 (i_CyclesOf.l0 kq l0 x3_1 x4_1 (l0.length:Int) x17_1=some r)∧Aside0 (kq≤k)∧Aside0 (Kd.R Kd.bool 4 w' w.heap.size (fun _=>True) v383 x3_1)∧Aside0 (Kd.S (Kd.slice 3 (Kd.int .i64)) 23 w' w.heap.size (fun _=>True) v4 x4_1)∧Aside0 (Below w.heap.size w w'))
 case atStart=>exact ⟨(y382),(y385),(0),vX,H',⟨Nat.le_refl _⟩,⟨rX HO384.out⟩,⟨sX HO387.out⟩,⟨bX HB.out⟩⟩
 case round =>
 clear H'
 try clear c3
 try clear c4
 try clear c4b0
 try clear c4b1
 try clear c5
 try clear c5b0
 try clear c5b1
 obtain ⟨x3_1,x4_1,x17_1,rfl,HA,HK1,HO_3,HO_4,HB⟩:=hrel
 cases gk with
 | zero=>exact absurd HA.out (by simp [i_CyclesOf.l0])
 | succ k1 =>
 have H:=HA.out
 clear HA
 simp only [i_CyclesOf.l0] at H
 by_cases c11:x17_1<(l0.length:Int)
 {
 rw [if_pos c11] at H
 have c11b0:=decide_eq_true c11
 clear c11
 by_cases c12:0≤x17_1
 {
 rw [if_pos c12] at H
 have c12b0:=decide_eq_true c12
 clear c12
 by_cases c13:x17_1<(x3_1.length:Int)
 {
 rw [if_pos c13] at H
 have c13b0:=decide_eq_true c13
 clear c13
 obtain ⟨bq14,hbq14⟩:∃ b_:Bool,b_=(rdOf false x3_1 x17_1):=⟨_,rfl⟩
 replace H:(if bq14=true then (i_CyclesOf.l0 k1 l0 x3_1 x4_1 (l0.length:Int) (wrap64 (x17_1+1))) else (i_CyclesOf.l1 k1 l0 x3_1 x4_1 (([]:List Int)) x17_1 (l0.length:Int) x17_1))=some r:=by rw [← hbq14] at H;exact H
 have Nbq14:=aM hbq14
 clear hbq14
 by_cases c15:bq14=true
 {
 subst c15
 have H1:(i_CyclesOf.l0 k1 l0 x3_1 x4_1 (l0.length:Int) (wrap64 (x17_1+1)))=some r:=by rw [if_pos rfl] at H;exact H
 clear H
 have H:=H1
 clear H1
 have H':=aM H
 clear H
 obtain ⟨Ao16,co16,eo16⟩:=Kd.R_slice HO_3.out
 subst eo16
 have p388:0≤(x17_1:Int):=dX
 have q388:x17_1<(x3_1.length:Int):=dX
 obtain ⟨ad388,e388,hx388_0⟩:=Kd.at_bool (Kd.R_reads' HO_3.out).2.2 x17_1 p388 q388
 (try rw [← Nbq14.out] at hx388_0)
 cases e388
 replace p388:=eq_true p388
 replace q388:=eq_true q388
 go_wp2
 go_roundg k1
 case measure=>have:=HK1.out;omega
 case rel=>exact ⟨(x3_1),(x4_1),(wrap64 (x17_1+1)),vX,H',⟨by have:=HK1.out;omega⟩,⟨rX HO_3.out⟩,⟨sX HO_4.out⟩,⟨bX HB.out⟩⟩
 }
 {
 replace c15:=Bool.eq_false_iff.mpr c15
 subst c15
 have H1:(i_CyclesOf.l1 k1 l0 x3_1 x4_1 (([]:List Int)) x17_1 (l0.length:Int) x17_1)=some r:=by rw [if_neg (show ¬ (false=true) by decide)] at H;exact H
 clear H
 have H:=H1
 clear H1
 obtain ⟨y389,hy389⟩:∃ y_:List Int,y_=(([]:List Int)):=⟨_,rfl⟩
 replace H:(i_CyclesOf.l1 k1 l0 x3_1 x4_1 y389 x17_1 (l0.length:Int) x17_1)=some r:=by first|(rw [hy389];with_reducible exact H)|(have H2_:=(Option.bind_some _ _).symm.trans H;rw [hy389];with_reducible exact H2_)|(have H2_:=(Option.bind_some _ _).symm.trans H;with_reducible exact H2_)|with_reducible exact H|(rw [hy389];exact H)|exact H
 have Ny389:=aM hy389
 clear hy389
 have H':=aM H
 clear H
 obtain ⟨Ao17,co17,eo17⟩:=Kd.R_slice HO_3.out
 subst eo17
 have p388:0≤(x17_1:Int):=dX
 have q388:x17_1<(x3_1.length:Int):=dX
 obtain ⟨ad388,e388,hx388_0⟩:=Kd.at_bool (Kd.R_reads' HO_3.out).2.2 x17_1 p388 q388
 (try rw [← Nbq14.out] at hx388_0)
 cases e388
 replace p388:=eq_true p388
 replace q388:=eq_true q388
 go_wp2_with (first|((with_reducible refine gate_dst (N:=24) rfl ?_);refine Kd.R_lit (Kd.int .i64) _ 3 ?hg (N:=24) ?hd (xs:=([]:List Int)) (inner:=[]) (ok:=fun _=>True) (okp:=fun _=>True) ?hr ?hp (fun _ hk=>hk) trivial (Below.refl _ _) (Nat.le_refl _) (by simp) ?_;(case hd=>rfl);(case hg=>rfl);(case hr=>first|(go_simp;done)|(go_simp;rfl));(case hp=>exact(Reps.none _ _));intro v390 w18 ho19 hb hg_ hnew_;clear hg_ hnew_;(first|rw [← Ny389.out] at ho19|(simp only [Int.reduceToNat] at ho19;rw [← Ny389.out] at ho19));replace HO_3:=aM (Kd.R_below (rX HO_3.out) hb);replace HO_4:=aM (Kd.S_elder' (sX HO_4.out) (Kd.R_base ho19) hb);have HO391:=aM (Kd.R_lower ho19 (below_size (bX HB.out)));replace HB:=aM (below_step (bX HB.out) hb);clear hb ho19))
 go_loopg [6,7] k1 (fun kq v6 v7 w'=>∃ (x3_2:List Bool) (x6_2:List Int) (x7_2:Int),v7 = .int .i64 x7_2∧Aside0 (i_CyclesOf.l1 kq l0 x3_2 x4_1 x6_2 x7_2 (l0.length:Int) x17_1=some r)∧Aside0 (kq≤k1)∧Aside0 (Kd.R Kd.bool 4 w' w.heap.size (fun _=>True) (.slice (some ad388) x3_1.length co17) x3_2)∧Aside0 (Kd.S (Kd.slice 3 (Kd.int .i64)) 23 w' w.heap.size (fun k_=>some k_≠(v6:Value).ownBlock) u4 x4_1)∧Aside0 (Kd.R (Kd.int .i64) 3 w' w.heap.size (fun _=>True) v6 x6_2)∧Aside0 (Below w.heap.size w w'))
 case atStart=>exact ⟨(x3_1),(y389),(x17_1),vX,H',⟨Nat.le_refl _⟩,⟨rX HO_3.out⟩,⟨by(with_reducible repeat(first|apply Kd.S_alloc|apply Kd.S_drewN|apply Kd.S_drew));exact Kd.S_mono HO_4.out (fun _ hk=>hk.2)⟩,⟨rX HO391.out⟩,⟨bX HB.out⟩⟩
 case round =>
 clear H'
 try clear c3
 try clear c4
 try clear c4b0
 try clear c4b1
 try clear c5
 try clear c5b0
 try clear c5b1
 try clear c11
 try clear c11b0
 try clear c12
 try clear c12b0
 try clear c13
 try clear c13b0
 try clear c15
 try clear hx388_0
 try clear p388
 try clear q388
 obtain ⟨x3_2,x6_2,x7_2,rfl,HA,HK2,HO_3,HO_4,HO_6,HB⟩:=hrel
 have hl3_2:=(Kd.R_reads' HO_3.out).1
 rw [hl3_2] at HO_3
 (try simp only [hl3_2])
 (try simp only [hl3_2] at HO_4)
 (try simp only [hl3_2] at HO_6)
 cases gk with
 | zero=>exact absurd HA.out (by simp [i_CyclesOf.l1])
 | succ k2 =>
 have H:=HA.out
 clear HA
 simp only [i_CyclesOf.l1] at H
 by_cases c20:0≤x7_2
 {
 rw [if_pos c20] at H
 have c20b0:=decide_eq_true c20
 clear c20
 by_cases c21:x7_2<(x3_2.length:Int)
 {
 rw [if_pos c21] at H
 have c21b0:=decide_eq_true c21
 clear c21
 obtain ⟨bq22,hbq22⟩:∃ b_:Bool,b_=(rdOf false x3_2 x7_2):=⟨_,rfl⟩
 replace H:(if bq22=true then (if x4_1.length<5864062014805 then (i_CyclesOf.l0 k2 l0 x3_2 (x4_1 ++ [x6_2]) (l0.length:Int) (wrap64 (x17_1+1))) else (none)) else (if x6_2.length<17592186044416 then (if x7_2<(l0.length:Int) then (i_CyclesOf.l1 k2 l0 (x3_2.set (x7_2:Int).toNat true) x4_1 (x6_2 ++ [x7_2]) (rd l0 x7_2) (l0.length:Int) x17_1) else (none)) else (none)))=some r:=by rw [← hbq22] at H;exact H
 have Nbq22:=aM hbq22
 clear hbq22
 by_cases c23:bq22=true
 {
 subst c23
 have H1:(if x4_1.length<5864062014805 then (i_CyclesOf.l0 k2 l0 x3_2 (x4_1 ++ [x6_2]) (l0.length:Int) (wrap64 (x17_1+1))) else (none))=some r:=by rw [if_pos rfl] at H;exact H
 clear H
 have H:=H1
 clear H1
 by_cases c24:x4_1.length<5864062014805
 {
 rw [if_pos c24] at H
 have LMc24:=aM c24
 clear c24
 obtain ⟨y393,hy393⟩:∃ y_:List (List Int),y_=(x4_1 ++ [x6_2]):=⟨_,rfl⟩
 replace H:(i_CyclesOf.l0 k2 l0 x3_2 y393 (l0.length:Int) (wrap64 (x17_1+1)))=some r:=by first|(rw [hy393];with_reducible exact H)|(have H2_:=(Option.bind_some _ _).symm.trans H;rw [hy393];with_reducible exact H2_)|(have H2_:=(Option.bind_some _ _).symm.trans H;with_reducible exact H2_)|with_reducible exact H|(rw [hy393];exact H)|exact H
 have Ny393:=aM hy393
 clear hy393
 have H':=aM H
 clear H
 have p392:0≤(x7_2:Int):=dX
 have q392:x7_2<(x3_2.length:Int):=dX
 obtain ⟨ad392,e392,hx392_0⟩:=Kd.at_bool (Kd.R_reads' HO_3.out).2.2 x7_2 p392 q392
 (try rw [← Nbq14.out] at hx392_0)
 (try rw [← Nbq22.out] at hx392_0)
 obtain rfl:ad388=ad392:=(by injection e392)
 replace p392:=eq_true p392
 replace q392:=eq_true q392
 obtain ⟨Ao26,co26,eo26⟩:=Kd.R_slice HO_6.out
 subst eo26
 go_wp2_with (first|((with_reducible refine gate_builtin (b:=.append) (xs:=#[.tmp 42,.tmp 44]) rfl ?_);at_builtin;refine Kd.S_append (Kd.slice 3 (Kd.int .i64)) (w0:=w) w.heap.size rfl (.tmp 42) (.tmp 44) 27 23 (.slice none 0 0) 24 rfl Tryd.underlying27 info23 rfl (by decide) (by omega) u4 x4_1 x6_2 [.slice Ao26 x6_2.length co26] (fun _=>True) (fun k_=>some k_=(.slice Ao26 x6_2.length co26:Value).ownBlock) rfl rfl ?aP (fun k_ hk_=>((Kd.R_mono (ok':=fun k_=>((fun _=>True)) k_∧some k_≠(u4:Value).ownBlock) (Kd.R_apart' (HO_6.out) (Kd.S_typed HO_4.out) (by decide)) (fun k_ hk=>⟨trivial,hk.2⟩))).1 k_ hk_.symm) ?aF ?aO ?aB ?aS ?aL ?_;(case aP=>exact Kd.M_row (Kd.R_mono (Kd.R_tight rfl (Kd.R_mono (ok':=fun k_=>((fun _=>True)) k_∧some k_≠(u4:Value).ownBlock) (Kd.R_apart' (HO_6.out) (Kd.S_typed HO_4.out) (by decide)) (fun k_ hk=>⟨trivial,hk.2⟩))) (fun _ h_=>h_)));(case aB=>exact(bX HB.out));(case aF=>exact(fun _ _=>trivial));(case aO=>exact(by(with_reducible repeat(first|apply Kd.S_alloc|apply Kd.S_drewN|apply Kd.S_drew));exact Kd.S_mono HO_4.out (fun k_ hk=>⟨trivial,fun e_=>hk e_⟩)));(case aS=>exact(below_size (bX HB.out)));(case aL=>have:=LMc24.out;omega);intro v394 w25 ho hb hg hat;rw [← Ny393.out] at ho;replace HO_3:=aM (Kd.R_over' (rX HO_3.out) (Kd.S_typed (sX HO_4.out)) (by decide) hg);replace HB:=aM (hb);have HO395:=aM (ho);clear HO_4 HO_6 ho hb hg hat))
 (try simp only [← hl3_2])
 (try simp only [add_plain] at *)
 go_roundg k2
 case measure=>have:=HK1.out;have:=HK2.out;omega
 case rel=>exact ⟨(x3_2),(y393),(wrap64 (x17_1+1)),vX,H',⟨by have:=HK1.out;have:=HK2.out;omega⟩,⟨by(try simp only [hl3_2]);(with_reducible repeat(first|apply rA|apply rN|apply rD));exact HO_3.out⟩,⟨by(try simp only [hl3_2]);(with_reducible repeat(first|apply Kd.S_alloc|apply Kd.S_drewN|apply Kd.S_drew));exact HO395.out⟩,⟨bX HB.out⟩⟩
 }
 {
 rw [if_neg c24] at H
 exact absurd H (by simp)
 }
 }
 {
 replace c23:=Bool.eq_false_iff.mpr c23
 subst c23
 have H1:(if x6_2.length<17592186044416 then (if x7_2<(l0.length:Int) then (i_CyclesOf.l1 k2 l0 (x3_2.set (x7_2:Int).toNat true) x4_1 (x6_2 ++ [x7_2]) (rd l0 x7_2) (l0.length:Int) x17_1) else (none)) else (none))=some r:=by rw [if_neg (show ¬ (false=true) by decide)] at H;exact H
 clear H
 have H:=H1
 clear H1
 obtain ⟨y396,hy396⟩:∃ y_:List Bool,y_=(x3_2.set (x7_2:Int).toNat true):=⟨_,rfl⟩
 replace H:(if x6_2.length<17592186044416 then (if x7_2<(l0.length:Int) then (i_CyclesOf.l1 k2 l0 y396 x4_1 (x6_2 ++ [x7_2]) (rd l0 x7_2) (l0.length:Int) x17_1) else (none)) else (none))=some r:=by first|(rw [hy396];with_reducible exact H)|(have H2_:=(Option.bind_some _ _).symm.trans H;rw [hy396];with_reducible exact H2_)|(have H2_:=(Option.bind_some _ _).symm.trans H;with_reducible exact H2_)|with_reducible exact H|(rw [hy396];exact H)|exact H
 have Ny396:=aM hy396
 clear hy396
 by_cases c28:x6_2.length<17592186044416
 {
 rw [if_pos c28] at H
 have LMc28:=aM c28
 clear c28
 obtain ⟨y397,hy397⟩:∃ y_:List Int,y_=(x6_2 ++ [x7_2]):=⟨_,rfl⟩
 replace H:(if x7_2<(l0.length:Int) then (i_CyclesOf.l1 k2 l0 y396 x4_1 y397 (rd l0 x7_2) (l0.length:Int) x17_1) else (none))=some r:=by first|(rw [hy397];with_reducible exact H)|(have H2_:=(Option.bind_some _ _).symm.trans H;rw [hy397];with_reducible exact H2_)|(have H2_:=(Option.bind_some _ _).symm.trans H;with_reducible exact H2_)|with_reducible exact H|(rw [hy397];exact H)|exact H
 have Ny397:=aM hy397
 clear hy397
 by_cases c29:x7_2<(l0.length:Int)
 {
 rw [if_pos c29] at H
 have c29b0:=decide_eq_true c29
 clear c29
 have H':=aM H
 clear H
 have p392:0≤(x7_2:Int):=dX
 have q392:x7_2<(x3_2.length:Int):=dX
 obtain ⟨ad392,e392,hx392_0⟩:=Kd.at_bool (Kd.R_reads' HO_3.out).2.2 x7_2 p392 q392
 (try rw [← Nbq14.out] at hx392_0)
 (try rw [← Nbq22.out] at hx392_0)
 obtain rfl:ad388=ad392:=(by injection e392)
 replace p392:=eq_true p392
 replace q392:=eq_true q392
 have p27:0≤(x7_2:Int):=dX
 have q27:(x7_2:Int)<((x3_2.length:Int):Int):=dX
 obtain ⟨go27,co27,eo27,gb27,gl27,cl27,HG27⟩:=Kd.R_form HO_3.out (by omega)
 (first|cases eo27|(injection eo27 with ea_ en_ ec_;(first|subst ea_|(injection ea_ with ea_;subst ea_));subst ec_;clear en_))
 have GB27:=aM gb27
 have GG27:=aM HG27
 clear gb27 gl27 HG27
 (first|simp only [add_plain] at hx388_0|skip)
 (first|simp only [add_plain] at hx392_0|skip)
 obtain ⟨hx27_0,hf27_0⟩:=Kd.R_celln false HO_3.out (x7_2:Int) p27 q27
 replace p27:=eq_true p27
 replace q27:=eq_true q27
 have HP30:=Kd.R_putg HO_3.out (x7_2:Int) true
 go_wp2_with (first|((with_reducible refine gate_store (t:=4) (p:=37) rfl ?_);refine store_event (t:=4) (p:=37) (v:=?vo_w31) (w1:=(wr.setCell ⟨go27,(x7_2:Int).toNat,none⟩ (.bool true))) ?hg ?ho ?hn ?hr ?_;(case ho=>rfl);(case hg=>rfl);(case hn=>rfl);(case hr=>first|(go_simp;done)|(go_simp;rfl));intro w31 hw;have hg:wr.grownBy w31 (some go27):=(by rw [hw];exact HP30.2);have hp_:Kd.R Kd.bool 4 w31 w.heap.size (fun _=>True) (.slice (some ⟨go27,0,none⟩) x3_2.length co17) y396:=(by rw [hw,Ny396.out];exact HP30.1);clear HP30;replace HO_4:=aM (Kd.S_over' (v:=(.slice (some ⟨go27,0,none⟩) x3_2.length co17)) (sX HO_4.out) (Kd.R_typed HO_3.out) (by decide) hg);replace HO_6:=aM (Kd.R_over' (v:=(.slice (some ⟨go27,0,none⟩) x3_2.length co17)) (rX HO_6.out) (Kd.R_typed HO_3.out) (by decide) hg);replace HO_3:=aM (hp_);replace HB:=aM ((by rw [hw];exact below_set (HB.out) GB27.out:Below w.heap.size w w31));clear hg hw hp_)|((with_reducible refine gate_builtin (b:=.append) (xs:=#[.tmp 38,.tmp 40]) rfl ?_);at_builtin;refine Kd.R_append (Kd.int .i64) (w0:=w) w.heap.size rfl (.tmp 38) (.tmp 40) 23 3 (.int .i64 0) 8 rfl Tryd.underlying23 info3 rfl (by decide) (by omega) u6 x6_2 x7_2 [.int .i64 x7_2] (fun _=>True) (fun _=>False) rfl rfl ?aP (fun _ hk=>hk.elim) ?aF ?aO ?aB ?aS ?aL ?_;(case aP=>exact rfl);(case aB=>exact(bX HB.out));(case aF=>exact(fun _ _=>trivial));(case aO=>exact(rX HO_6.out));(case aS=>exact(below_size (bX HB.out)));(case aL=>have:=LMc28.out;omega);intro v398 w32 ho hb hg hat;rw [← Ny397.out] at ho;replace HO_3:=aM (Kd.R_over' (rX HO_3.out) (Kd.R_typed (rX HO_6.out)) (by decide) hg);replace HO_4:=aM (Kd.S_after (ok:=(fun _=>True)) (by(with_reducible repeat(first|apply Kd.S_alloc|apply Kd.S_drewN|apply Kd.S_drew));exact Kd.S_mono HO_4.out (fun _ hk=>⟨trivial,hk⟩)) hg hat);replace HB:=aM (hb);have HO399:=aM (ho);clear HO_6 ho hb hg hat;have p400:0≤(x7_2:Int):=dX;have q400:x7_2<(l0.length:Int):=dX;obtain ⟨ad400,e400,hx400_0⟩:=Kd.at_int HR0.out x7_2 p400 q400;cases e400;replace hx400_0:=(HB.out.cell (World.block_lt_of_cell? w _ hx400_0)).trans hx400_0;replace p400:=eq_true p400;replace q400:=eq_true q400))
 (try simp only [← hl3_2])
 (try simp only [add_plain] at *)
 go_roundg k2
 case measure=>have:=HK1.out;have:=HK2.out;omega
 case rel=>exact ⟨(y396),(y397),(rd l0 x7_2),vX,H',⟨by have:=HK1.out;have:=HK2.out;omega⟩,⟨by(try simp only [hl3_2]);(with_reducible repeat(first|apply rA|apply rN|apply rD));exact HO_3.out⟩,⟨by(try simp only [hl3_2]);(with_reducible repeat(first|apply Kd.S_alloc|apply Kd.S_drewN|apply Kd.S_drew));exact Kd.S_mono HO_4.out (fun _ hk=>hk.2)⟩,⟨by(try simp only [hl3_2]);(with_reducible repeat(first|apply rA|apply rN|apply rD));exact HO399.out⟩,⟨bX HB.out⟩⟩
 }
 {
 rw [if_neg c29] at H
 exact absurd H (by simp)
 }
 }
 {
 rw [if_neg c28] at H
 exact absurd H (by simp)
 }
 }
 }
 {
 rw [if_neg c21] at H
 exact absurd H (by simp)
 }
 }
 {
 rw [if_neg c20] at H
 exact absurd H (by simp)
 }
 }
 }
 {
 rw [if_neg c13] at H
 exact absurd H (by simp)
 }
 }
 {
 rw [if_neg c12] at H
 exact absurd H (by simp)
 }
 }
 {
 rw [if_neg c11] at H
 have c11b0:=decide_eq_false c11
 clear c11
 obtain rfl:=Option.some.inj H
 (try simp only [hl3_2] at *)
 go_wp2
 go_ret
 exact ⟨_,eX,sX HO_4.out,bX HB.out⟩
 }
 }
 {
 rw [if_neg c5] at H
 exact absurd H (by simp)
 }
 }
 {
 rw [if_neg c4] at H
 exact absurd H (by simp)
 }
 }
 {
 replace c3:=Bool.eq_false_iff.mpr c3
 subst c3
 have H1:(some ([]:List (List Int)))=some r:=by rw [if_neg (show ¬ (false=true) by decide)] at H;exact H
 clear H
 have H:=H1
 clear H1
 obtain rfl:=Option.some.inj H
 go_enter Tryd.func42,Tryd.ntmps42
 go_wp2_with (first|((with_reducible refine gate_callee (f:=31) rfl ?_);refine goesL_ (some 9) rfl rfl Tryd.func31 (by kernel_rfl) rfl #[.slice A0 l0.length c0] rfl aX ?_;(with_reducible refine(i_PermOk.calls _ _ l0 false _ ?side1 ?side2 A2.out).mono ?_);(case side1=>exact cX HR0.out);(case side2=>exact HC0.out);rintro e w33 ⟨rfl,hb⟩;refine ⟨_,rfl,?_⟩;replace HB:=aM (below_step (bX HB.out) hb);(try clear hb);(try clear hk)))
 go_ret
 exact ⟨_,eX,by first|exact Kd.S_nil _ _ _ _ _|exact Kd.N_nil _ _ _ _ _|exact Kd.V_nil _ _ _ _ _|exact Kd.Q_nil _ _ _ _ _|exact Kd.R_nil _ _ _ _ _,bX HB.out⟩
 }

/-! ### i_ThenPerm: function 54 -/
mutual
def i_ThenPerm.j0 : Nat→List Int→List Int→Bool→Option (List Int)
 | 0,_,_,_=>none
 | k+1,x0,x1,x22=>if x22=true then (some ([]:List Int)) else (if 0≤(x0.length:Int) then (if ((x0.length:Int):Int).toNat≤35184372088832 then (i_ThenPerm.l0 k x1 (List.replicate ((x0.length:Int):Int).toNat 0) x0 (x0.length:Int) 0) else (none)) else (none))
def i_ThenPerm.l0 : Nat→List Int→List Int→List Int→Int→Int→Option (List Int)
 | 0,_,_,_,_,_=>none
 | k+1,x1,x5,x26,x27,x28=>if x28<x27 then (if 0≤x28 then (if x28<(x26.length:Int) then (if 0≤(rd x26 x28) then (if (rd x26 x28)<(x1.length:Int) then (if x28<(x5.length:Int) then (i_ThenPerm.l0 k x1 (x5.set (x28:Int).toNat (rd x1 (rd x26 x28))) x26 x27 (wrap64 (x28+1))) else (none)) else (none)) else (none)) else (none)) else (none)) else (some x5)
end
def i_ThenPerm.f (k:Nat) (l0:List Int) (l1:List Int):Option (List Int):=(i_PermOk.f l0).bind fun t401=>(if t401=true then ((i_PermOk.f l1).bind fun t402=>(if t402=true then (i_ThenPerm.j0 k l0 l1 ((l0.length:Int) != (l1.length:Int))) else (i_ThenPerm.j0 k l0 l1 true))) else (i_ThenPerm.j0 k l0 l1 true))
theorem i_ThenPerm.calls (k:Nat) (A0:Option Addr) (c0:Nat) (l0:List Int) (A1:Option Addr) (c1:Nat) (l1:List Int) (r:List Int) (w:World) (hr0:Kd.C (Kd.int .i64) w A0 l0.length l0) (hc0:l0.length≤c0) (hr1:Kd.C (Kd.int .i64) w A1 l1.length l1) (hc1:l1.length≤c1) (h:i_ThenPerm.f k l0 l1=some r) :
  Calls Tryd.prog 54 #[.slice A0 l0.length c0,.slice A1 l1.length c1] w fun e w'=>∃ v0_:Value,e = .returned (v0_)∧Kd.R (Kd.int .i64) 3 w' w.heap.size (fun _=>True) v0_ r∧Below w.heap.size w w':=by
 have HR0:=aM hr0
 have HC0:=aM hc0
 clear hr0 hc0
 have HR1:=aM hr1
 have HC1:=aM hc1
 clear hr1 hc1
 have HB:=aM (Below.refl w.heap.size w)
 have H:((i_PermOk.f l0).bind fun t401=>(if t401=true then ((i_PermOk.f l1).bind fun t402=>(if t402=true then (i_ThenPerm.j0 k l0 l1 ((l0.length:Int) != (l1.length:Int))) else (i_ThenPerm.j0 k l0 l1 true))) else (i_ThenPerm.j0 k l0 l1 true)))=some r:=h
 clear h
 have HC3:=aM H
 clear H
 go_enter Tryd.func54,Tryd.ntmps54
 go_upto_region 1 with (fail)
 go_cut [22] (fun v22 wc=>∃ (kq:Nat) (x22_2:Bool),v22 = .bool x22_2∧Aside0 (i_ThenPerm.j0 kq l0 l1 x22_2=some r)∧Aside0 (kq≤k)∧Aside0 (Below w.heap.size w wc))
 case first =>
  have H:=HC3.out
  clear HC3
  replace H:=oB H
  obtain ⟨t401,A40,H⟩:=H
  have A4:=aM A40
  clear A40
  by_cases c5:t401=true
  {
  subst c5
  have H1:((i_PermOk.f l1).bind fun t402=>(if t402=true then (i_ThenPerm.j0 k l0 l1 ((l0.length:Int) != (l1.length:Int))) else (i_ThenPerm.j0 k l0 l1 true)))=some r:=by rw [if_pos rfl] at H;exact H
  clear H
  have H:=H1
  clear H1
  replace H:=oB H
  obtain ⟨t402,A60,H⟩:=H
  have A6:=aM A60
  clear A60
  by_cases c7:t402=true
  {
  subst c7
  have H1:(i_ThenPerm.j0 k l0 l1 ((l0.length:Int) != (l1.length:Int)))=some r:=by rw [if_pos rfl] at H;exact H
  clear H
  have H:=H1
  clear H1
  have H':=aM H
  clear H
  go_wp2_with (first|((with_reducible refine gate_callee (f:=31) rfl ?_);refine goesL_ (some 9) rfl rfl Tryd.func31 (by kernel_rfl) rfl #[.slice A0 l0.length c0] rfl aX ?_;(with_reducible refine(i_PermOk.calls _ _ l0 true _ ?side1 ?side2 A4.out).mono ?_);(case side1=>exact cX (Kd.C_below HR0.out HB.out));(case side2=>exact HC0.out);rintro e w8 ⟨rfl,hb⟩;refine ⟨_,rfl,?_⟩;replace HB:=aM (below_step (bX HB.out) hb);(try clear hb);(try clear hk))|(go_at_call 31;(with_reducible refine(i_PermOk.calls _ _ l1 true _ ?side1 ?side2 A6.out).mono ?_);(case side1=>exact cX (Kd.C_below HR1.out HB.out));(case side2=>exact HC1.out);rintro e w9 ⟨rfl,hb⟩;replace HB:=aM (below_step (bX HB.out) hb);(try clear hb);(try clear hk)))
  go_meet
  case rel=>exact ⟨_,(((l0.length:Int) != (l1.length:Int))),vX,H',⟨by first|omega|exact Nat.le_refl _⟩,⟨bX HB.out⟩⟩
  }
  {
  replace c7:=Bool.eq_false_iff.mpr c7
  subst c7
  have H1:(i_ThenPerm.j0 k l0 l1 true)=some r:=by rw [if_neg (show ¬ (false=true) by decide)] at H;exact H
  clear H
  have H:=H1
  clear H1
  have H':=aM H
  clear H
  go_wp2_with (first|((with_reducible refine gate_callee (f:=31) rfl ?_);refine goesL_ (some 9) rfl rfl Tryd.func31 (by kernel_rfl) rfl #[.slice A0 l0.length c0] rfl aX ?_;(with_reducible refine(i_PermOk.calls _ _ l0 true _ ?side1 ?side2 A4.out).mono ?_);(case side1=>exact cX (Kd.C_below HR0.out HB.out));(case side2=>exact HC0.out);rintro e w10 ⟨rfl,hb⟩;refine ⟨_,rfl,?_⟩;replace HB:=aM (below_step (bX HB.out) hb);(try clear hb);(try clear hk))|(go_at_call 31;(with_reducible refine(i_PermOk.calls _ _ l1 false _ ?side1 ?side2 A6.out).mono ?_);(case side1=>exact cX (Kd.C_below HR1.out HB.out));(case side2=>exact HC1.out);rintro e w11 ⟨rfl,hb⟩;replace HB:=aM (below_step (bX HB.out) hb);(try clear hb);(try clear hk)))
  go_meet
  case rel=>exact ⟨_,(true),vX,H',⟨by first|omega|exact Nat.le_refl _⟩,⟨bX HB.out⟩⟩
  }
  }
  {
  replace c5:=Bool.eq_false_iff.mpr c5
  subst c5
  have H1:(i_ThenPerm.j0 k l0 l1 true)=some r:=by rw [if_neg (show ¬ (false=true) by decide)] at H;exact H
  clear H
  have H:=H1
  clear H1
  have H':=aM H
  clear H
  go_wp2_with (first|((with_reducible refine gate_callee (f:=31) rfl ?_);refine goesL_ (some 9) rfl rfl Tryd.func31 (by kernel_rfl) rfl #[.slice A0 l0.length c0] rfl aX ?_;(with_reducible refine(i_PermOk.calls _ _ l0 false _ ?side1 ?side2 A4.out).mono ?_);(case side1=>exact cX (Kd.C_below HR0.out HB.out));(case side2=>exact HC0.out);rintro e w12 ⟨rfl,hb⟩;refine ⟨_,rfl,?_⟩;replace HB:=aM (below_step (bX HB.out) hb);(try clear hb);(try clear hk)))
  go_meet
  case rel=>exact ⟨_,(true),vX,H',⟨by first|omega|exact Nat.le_refl _⟩,⟨bX HB.out⟩⟩
  }
 case rest =>
 clear HC3
 try clear c1
 try clear c5
 try clear c7
 obtain ⟨kq,x22_2,rfl,HA,HJ2,HB⟩:=hcut
 cases kq with
 | zero=>exact absurd HA.out (by simp [i_ThenPerm.j0])
 | succ kj2 =>
 have H:=HA.out
 clear HA
 simp only [i_ThenPerm.j0] at H
 by_cases c13:x22_2=true
 {
 subst c13
 have H1:(some ([]:List Int))=some r:=by rw [if_pos rfl] at H;exact H
 clear H
 have H:=H1
 clear H1
 obtain rfl:=Option.some.inj H
 go_wp2
 go_ret
 exact ⟨_,eX,by first|exact Kd.R_nil _ _ _ _ _|exact Kd.N_nil _ _ _ _ _|exact Kd.V_nil _ _ _ _ _|exact Kd.Q_nil _ _ _ _ _|exact Kd.S_nil _ _ _ _ _,bX HB.out⟩
 }
 {
 replace c13:=Bool.eq_false_iff.mpr c13
 subst c13
 have H1:(if 0≤(l0.length:Int) then (if ((l0.length:Int):Int).toNat≤35184372088832 then (i_ThenPerm.l0 kj2 l1 (List.replicate ((l0.length:Int):Int).toNat 0) l0 (l0.length:Int) 0) else (none)) else (none))=some r:=by rw [if_neg (show ¬ (false=true) by decide)] at H;exact H
 clear H
 have H:=H1
 clear H1
 by_cases c14:0≤(l0.length:Int)
 {
 rw [if_pos c14] at H
 have c14b0:=eq_true c14
 have c14b1:=decide_eq_true c14
 clear c14
 by_cases c15:((l0.length:Int):Int).toNat≤35184372088832
 {
 rw [if_pos c15] at H
 have c15b0:=eq_true c15
 have c15b1:=decide_eq_true c15
 clear c15
 obtain ⟨y403,hy403⟩:∃ y_:List Int,y_=(List.replicate ((l0.length:Int):Int).toNat 0):=⟨_,rfl⟩
 replace H:(i_ThenPerm.l0 kj2 l1 y403 l0 (l0.length:Int) 0)=some r:=by first|(rw [hy403];with_reducible exact H)|(have H2_:=(Option.bind_some _ _).symm.trans H;rw [hy403];with_reducible exact H2_)|(have H2_:=(Option.bind_some _ _).symm.trans H;with_reducible exact H2_)|with_reducible exact H|(rw [hy403];exact H)|exact H
 have Ny403:=aM hy403
 clear hy403
 have H':=aM H
 clear H
 go_wp2_with (first|((with_reducible refine gate_dst (N:=25) rfl ?_);(try(refine gate_guard (by rfl) ?_;dsimp only));refine Kd.R_make (Kd.int .i64) _ 3 rfl (N:=25) rfl 23 _ _ rfl (l0.length:Int) rfl rfl Tryd.underlying23 (.int .i64 0) 8 info3 rfl (by decide) (by omega) 0 (ok:=fun _=>True) (okp:=fun _=>True) rfl (fun _ hk=>hk) trivial (dX) (Nat.le_trans (Nat.mul_le_mul_right _ (dX:(l0.length:Int).toNat≤35184372088832)) (by omega)) (Below.refl _ _) (Nat.le_refl _) ?_;intro v404 w16 ho17 hb hg_ hnew_;clear hg_ hnew_;(first|rw [← Ny403.out] at ho17|(simp only [Int.reduceToNat] at ho17;rw [← Ny403.out] at ho17));have HO405:=aM (Kd.R_lower ho17 (below_size (bX HB.out)));replace HB:=aM (below_step (bX HB.out) hb);clear hb ho17))
 go_loopg [28] kj2 (fun kq v28 w'=>∃ (x5_2:List Int) (x28_2:Int),v28 = .int .i64 x28_2∧Aside0 (i_ThenPerm.l0 kq l1 x5_2 l0 (l0.length:Int) x28_2=some r)∧Aside0 (kq≤kj2)∧Aside0 (Kd.R (Kd.int .i64) 3 w' w.heap.size (fun _=>True) v404 x5_2)∧Aside0 (Below w.heap.size w w'))
 case atStart=>exact ⟨(y403),(0),vX,H',⟨Nat.le_refl _⟩,⟨rX HO405.out⟩,⟨bX HB.out⟩⟩
 case round =>
 clear H'
 try clear c1
 try clear c5
 try clear c7
 try clear c13
 try clear c14
 try clear c14b0
 try clear c14b1
 try clear c15
 try clear c15b0
 try clear c15b1
 obtain ⟨x5_2,x28_2,rfl,HA,HK2,HO_5,HB⟩:=hrel
 cases gk with
 | zero=>exact absurd HA.out (by simp [i_ThenPerm.l0])
 | succ k2 =>
 have H:=HA.out
 clear HA
 simp only [i_ThenPerm.l0] at H
 by_cases c18:x28_2<(l0.length:Int)
 {
 rw [if_pos c18] at H
 have c18b0:=decide_eq_true c18
 clear c18
 by_cases c19:0≤x28_2
 {
 rw [if_pos c19] at H
 have c19b0:=decide_eq_true c19
 clear c19
 by_cases c20:x28_2<(l0.length:Int)
 {
 rw [if_pos c20] at H
 have c20b0:=decide_eq_true c20
 clear c20
 by_cases c21:0≤(rd l0 x28_2)
 {
 rw [if_pos c21] at H
 have c21b0:=decide_eq_true c21
 clear c21
 by_cases c22:(rd l0 x28_2)<(l1.length:Int)
 {
 rw [if_pos c22] at H
 have c22b0:=decide_eq_true c22
 clear c22
 by_cases c23:x28_2<(x5_2.length:Int)
 {
 rw [if_pos c23] at H
 have c23b0:=decide_eq_true c23
 clear c23
 obtain ⟨y408,hy408⟩:∃ y_:List Int,y_=(x5_2.set (x28_2:Int).toNat (rd l1 (rd l0 x28_2))):=⟨_,rfl⟩
 replace H:(i_ThenPerm.l0 k2 l1 y408 l0 (l0.length:Int) (wrap64 (x28_2+1)))=some r:=by first|(rw [hy408];with_reducible exact H)|(have H2_:=(Option.bind_some _ _).symm.trans H;rw [hy408];with_reducible exact H2_)|(have H2_:=(Option.bind_some _ _).symm.trans H;with_reducible exact H2_)|with_reducible exact H|(rw [hy408];exact H)|exact H
 have Ny408:=aM hy408
 clear hy408
 have H':=aM H
 clear H
 have p406:0≤(x28_2:Int):=dX
 have q406:x28_2<(l0.length:Int):=dX
 obtain ⟨ad406,e406,hx406_0⟩:=Kd.at_int HR0.out x28_2 p406 q406
 cases e406
 replace hx406_0:=(HB.out.cell (World.block_lt_of_cell? w _ hx406_0)).trans hx406_0
 replace p406:=eq_true p406
 replace q406:=eq_true q406
 have p407:0≤((rd l0 x28_2):Int):=dX
 have q407:(rd l0 x28_2)<(l1.length:Int):=dX
 obtain ⟨ad407,e407,hx407_0⟩:=Kd.at_int HR1.out (rd l0 x28_2) p407 q407
 cases e407
 replace hx407_0:=(HB.out.cell (World.block_lt_of_cell? w _ hx407_0)).trans hx407_0
 replace p407:=eq_true p407
 replace q407:=eq_true q407
 have p24:0≤(x28_2:Int):=dX
 have q24:(x28_2:Int)<((x5_2.length:Int):Int):=dX
 obtain ⟨go24,co24,eo24,gb24,gl24,cl24,HG24⟩:=Kd.R_form HO_5.out (by omega)
 (first|cases eo24|(injection eo24 with ea_ en_ ec_;(first|subst ea_|(injection ea_ with ea_;subst ea_));subst ec_;clear en_))
 have GB24:=aM gb24
 have GG24:=aM HG24
 clear gb24 gl24 HG24
 obtain ⟨hx24_0,hf24_0⟩:=Kd.R_celln 0 HO_5.out (x28_2:Int) p24 q24
 replace p24:=eq_true p24
 replace q24:=eq_true q24
 have HP25:=Kd.R_putg HO_5.out (x28_2:Int) (rd l1 (rd l0 x28_2))
 go_wp2_with (first|((with_reducible refine gate_store (t:=3) (p:=39) rfl ?_);refine store_event (t:=3) (p:=39) (v:=?vo_w26) (w1:=(wr.setCell ⟨go24,(x28_2:Int).toNat,none⟩ (.int .i64 (rd l1 (rd l0 x28_2))))) ?hg ?ho ?hn ?hr ?_;(case ho=>rfl);(case hg=>rfl);(case hn=>rfl);(case hr=>first|(go_simp;done)|(go_simp;rfl));intro w26 hw;have hg:wr.grownBy w26 (some go24):=(by rw [hw];exact HP25.2);have hp_:Kd.R (Kd.int .i64) 3 w26 w.heap.size (fun _=>True) (.slice (some ⟨go24,0,none⟩) x5_2.length co24) y408:=(by rw [hw,Ny408.out];exact HP25.1);clear HP25;replace HO_5:=aM (hp_);replace HB:=aM ((by rw [hw];exact below_set (HB.out) GB24.out:Below w.heap.size w w26));clear hg hw hp_))
 go_roundg k2
 case measure=>have:=HJ2.out;have:=HK2.out;omega
 case rel=>exact ⟨(y408),(wrap64 (x28_2+1)),vX,H',⟨by have:=HJ2.out;have:=HK2.out;omega⟩,⟨rX HO_5.out⟩,⟨bX HB.out⟩⟩
 }
 {
 rw [if_neg c23] at H
 exact absurd H (by simp)
 }
 }
 {
 rw [if_neg c22] at H
 exact absurd H (by simp)
 }
 }
 {
 rw [if_neg c21] at H
 exact absurd H (by simp)
 }
 }
 {
 rw [if_neg c20] at H
 exact absurd H (by simp)
 }
 }
 {
 rw [if_neg c19] at H
 exact absurd H (by simp)
 }
 }
 {
 rw [if_neg c18] at H
 have c18b0:=decide_eq_false c18
 clear c18
 obtain rfl:=Option.some.inj H
 go_wp2
 go_ret
 exact ⟨_,eX,by(with_reducible repeat(first|apply rA|apply rN|apply rD));exact HO_5.out,bX HB.out⟩
 }
 }
 {
 rw [if_neg c15] at H
 exact absurd H (by simp)
 }
 }
 {
 rw [if_neg c14] at H
 exact absurd H (by simp)
 }
 }

end Go.Proofs.YthhdgeafdnikcaaDoor.S
