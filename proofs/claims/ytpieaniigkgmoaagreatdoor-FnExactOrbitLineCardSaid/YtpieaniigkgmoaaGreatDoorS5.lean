-- PRINTED by print.py (a twelfth state) out of the translation. Not trusted: Lean checks it.
import Derived.Test.YtpieaniigkgmoaaGreatDoorS0
import Derived.Test.YtpieaniigkgmoaaGreatDoorS1
import Derived.Test.YtpieaniigkgmoaaGreatDoorS4
namespace Go.Proofs.YtpieaniigkgmoaaGreatDoor.S
set_option maxHeartbeats 8000000
set_option maxRecDepth 100000
open Go.RowKit Go.Proofs.YtpieaniigkgmoaaGreatDoorW.PrintWords Go.Proofs.YtpieaniigkgmoaaGreatDoorW.PrintLast Go.Proofs.YtpieaniigkgmoaaGreatDoorW.PrintMore
attribute [local go_sem] max2_int min2_int max_two min_two max_three min_three max_four min_four   -- for this text's walks alone
set_option linter.unusedVariables false
set_option linter.unusedSimpArgs false

/-! ### spec_CuspsOf: function 11 -/
mutual
def spec_CuspsOf.l0 : Nat→List Int→List Int→List Bool→Int→Int→Option (List Int × Bool)
 | 0,_,_,_,_,_=>none
 | k+1,x6,x7,x8,x26,x27=>if x27<x26 then (spec_CuspsOf.l1 k x6 x7 x8 0 x27 x26 x27) else ((spec_l04Down.f k x7).bind fun t374=>(some (t374,true)))
def spec_CuspsOf.l1 : Nat→List Int→List Int→List Bool→Int→Int→Int→Int→Option (List Int × Bool)
 | 0,_,_,_,_,_,_,_=>none
 | k+1,x6,x7,x8,x10,x11,x26,x27=>if 0≤x11 then (if x11<(x8.length:Int) then (if rdOf false x8 x11=true then (if x10 > 0 then (if x7.length<17592186044416 then (spec_CuspsOf.l0 k x6 (x7 ++ [x10]) x8 x26 (wrap64 (x27+1))) else (none)) else (spec_CuspsOf.l0 k x6 x7 x8 x26 (wrap64 (x27+1)))) else (if x11<(x6.length:Int) then (spec_CuspsOf.l1 k x6 x7 (x8.set (x11:Int).toNat true) (wrap64 (x10+1)) (rd x6 x11) x26 x27) else (none))) else (none)) else (none)
end
def spec_CuspsOf.f (k:Nat) (l0_0:List Int) (l0_1:List Int):Option (List Int × Bool):=(spec_OrbitOf.f k l0_0 l0_1).bind fun bt361=>(if bt361.2=true then ((spec_l06Shears.f k bt361.1).bind fun t365=>(if 0≤(t365.length:Int) then (if ((t365.length:Int):Int).toNat≤281474976710656 then (spec_CuspsOf.l0 k t365 (([]:List Int)) (List.replicate ((t365.length:Int):Int).toNat false) (t365.length:Int) 0) else (none)) else (none))) else (some (([]:List Int),false)))
theorem spec_CuspsOf.calls (k:Nat) (A0_0:Option Addr) (c0_0:Nat) (l0_0:List Int) (A0_1:Option Addr) (c0_1:Nat) (l0_1:List Int) (r1:List Int) (r2:Bool) (w:World) (hr0_0:Kd.C (Kd.int .i64) w A0_0 l0_0.length l0_0) (hc0_0:l0_0.length≤c0_0) (hr0_1:Kd.C (Kd.int .i64) w A0_1 l0_1.length l0_1) (hc0_1:l0_1.length≤c0_1) (h:spec_CuspsOf.f k l0_0 l0_1=some (r1,r2)) :
  Calls Tryz.prog 11 #[.agg #[.slice A0_0 l0_0.length c0_0,.slice A0_1 l0_1.length c0_1]] w fun e w'=>∃ v0_:Value,e = .returned (.tuple #[v0_,.bool r2])∧Kd.R (Kd.int .i64) 3 w' w.heap.size (fun _=>True) v0_ r1∧Below w.heap.size w w':=by
 have hu27:=Tryz.underlying27
 have HR0_0:=aM hr0_0
 have HC0_0:=aM hc0_0
 clear hr0_0 hc0_0
 have HR0_1:=aM hr0_1
 have HC0_1:=aM hc0_1
 clear hr0_1 hc0_1
 have HB:=aM (Below.refl w.heap.size w)
 have H:((spec_OrbitOf.f k l0_0 l0_1).bind fun bt361=>(if bt361.2=true then ((spec_l06Shears.f k bt361.1).bind fun t365=>(if 0≤(t365.length:Int) then (if ((t365.length:Int):Int).toNat≤281474976710656 then (spec_CuspsOf.l0 k t365 (([]:List Int)) (List.replicate ((t365.length:Int):Int).toNat false) (t365.length:Int) 0) else (none)) else (none))) else (some (([]:List Int),false))))=some (r1,r2):=h
 clear h
 replace H:=oB H
 obtain ⟨⟨t361,t364⟩,A20,H⟩:=H
 replace H:(if t364=true then ((spec_l06Shears.f k t361).bind fun t365=>(if 0≤(t365.length:Int) then (if ((t365.length:Int):Int).toNat≤281474976710656 then (spec_CuspsOf.l0 k t365 (([]:List Int)) (List.replicate ((t365.length:Int):Int).toNat false) (t365.length:Int) 0) else (none)) else (none))) else (some (([]:List Int),false)))=some (r1,r2):=H
 have A2:=aM A20
 clear A20
 by_cases c3:t364=true
 {
 subst c3
 have H1:((spec_l06Shears.f k t361).bind fun t365=>(if 0≤(t365.length:Int) then (if ((t365.length:Int):Int).toNat≤281474976710656 then (spec_CuspsOf.l0 k t365 (([]:List Int)) (List.replicate ((t365.length:Int):Int).toNat false) (t365.length:Int) 0) else (none)) else (none)))=some (r1,r2):=by rw [if_pos rfl] at H;exact H
 clear H
 have H:=H1
 clear H1
 replace H:=oB H
 obtain ⟨t365,A40,H⟩:=H
 have A4:=aM A40
 clear A40
 obtain ⟨y368,hy368⟩:∃ y_:List Int,y_=(([]:List Int)):=⟨_,rfl⟩
 replace H:(if 0≤(t365.length:Int) then (if ((t365.length:Int):Int).toNat≤281474976710656 then (spec_CuspsOf.l0 k t365 y368 (List.replicate ((t365.length:Int):Int).toNat false) (t365.length:Int) 0) else (none)) else (none))=some (r1,r2):=by first|(rw [hy368];with_reducible exact H)|(have H2_:=(Option.bind_some _ _).symm.trans H;rw [hy368];with_reducible exact H2_)|(have H2_:=(Option.bind_some _ _).symm.trans H;with_reducible exact H2_)|with_reducible exact H|(rw [hy368];exact H)|exact H
 have Ny368:=aM hy368
 clear hy368
 by_cases c5:0≤(t365.length:Int)
 {
 rw [if_pos c5] at H
 have c5b0:=eq_true c5
 have c5b1:=decide_eq_true c5
 clear c5
 by_cases c6:((t365.length:Int):Int).toNat≤281474976710656
 {
 rw [if_pos c6] at H
 have c6b0:=eq_true c6
 have c6b1:=decide_eq_true c6
 clear c6
 obtain ⟨y371,hy371⟩:∃ y_:List Bool,y_=(List.replicate ((t365.length:Int):Int).toNat false):=⟨_,rfl⟩
 replace H:(spec_CuspsOf.l0 k t365 y368 y371 (t365.length:Int) 0)=some (r1,r2):=by first|(rw [hy371];with_reducible exact H)|(have H2_:=(Option.bind_some _ _).symm.trans H;rw [hy371];with_reducible exact H2_)|(have H2_:=(Option.bind_some _ _).symm.trans H;with_reducible exact H2_)|with_reducible exact H|(rw [hy371];exact H)|exact H
 have Ny371:=aM hy371
 clear hy371
 have H':=aM H
 clear H
 go_enter Tryz.func11,Tryz.ntmps11
 go_wp2_with (first|((with_reducible refine gate_dst (N:=1) rfl ?_);refine bEv (cs:=#[.slice A0_0 l0_0.length c0_0,.slice A0_1 l0_1.length c0_1]) (t:=27) ?_;intro gb360 hg w7 hbox hb;have BK360:=aM (hbox);have GW360:=aM ((szX (below_size (bX HB.out)) hg:w.heap.size≤gb360));have GE360:=GW360;replace HB:=aM (below_step (bX HB.out) hb);clear hb hbox hg;obtain ⟨hcz8_0,hcz8_1,hfz8_0,hfz8_1⟩:=f2Z BK360.out)|((with_reducible refine gate_callee (f:=23) rfl ?_);refine goesL_ (some 14) rfl rfl Tryz.func23 (by kernel_rfl) rfl #[.agg #[.slice A0_0 l0_0.length c0_0,.slice A0_1 l0_1.length c0_1]] rfl aX ?_;(with_reducible refine(spec_OrbitOf.calls k _ _ l0_0 _ _ l0_1 t361 true _ ?side1 ?side2 ?side3 ?side4 A2.out).mono ?_);(case side1=>exact cX (Kd.C_below HR0_0.out HB.out));(case side2=>exact HC0_0.out);(case side3=>exact cX (Kd.C_below HR0_1.out HB.out));(case side4=>exact HC0_1.out);rintro e w9 ⟨v362,rfl,ho0,hb⟩;refine ⟨_,rfl,?_⟩;have HO363:=aM (Kd.N_lower (Kd.N_mono (ok':=fun k_=>k_≠gb360) ho0 (fun k_ hk_=>(Kd.freshB (g:=gb360) (o:=.cells #[.slice A0_0 l0_0.length c0_0,.slice A0_1 l0_1.length c0_1] 27 (0,0)) (kX BK360.out) k_ hk_))) (below_size (bX1 HB.out GE360.out)));replace BK360:=aM (bbX BK360.out hb);replace HB:=aM (below_step (bX1 HB.out GE360.out) hb);(try clear hb);(try clear hk);(try clear ho0);obtain ⟨Ao10,co10,eo10⟩:=Kd.N_slice HO363.out;subst eo10)|((with_reducible refine gate_callee (f:=24) rfl ?_);refine goesL_ (some 20) rfl rfl Tryz.func24 (by kernel_rfl) rfl #[.slice Ao10 t361.length co10] rfl aX ?_;(with_reducible refine(spec_l06Shears.calls k _ _ t361 t365 _ ?side1 ?side2 A4.out).mono ?_);(case side1=>repeat(first|exact(Kd.N_reads' HO363.out).2.2|(with_reducible refine Kd.C_alloc ?_ _)|(with_reducible refine Kd.C_drewN ?_ _)|(with_reducible refine Kd.C_drew ?_)));(case side2=>exact(Kd.N_reads' HO363.out).2.1);rintro e w11 ⟨v366,rfl,ho0,hb⟩;refine ⟨_,rfl,?_⟩;replace HO363:=aM (Kd.N_elder' (by(with_reducible repeat(first|apply Kd.N_alloc|apply Kd.N_drewN|apply Kd.N_drew));exact HO363.out) (Kd.R_base ho0) hb);have HO367:=aM (Kd.R_lower ho0 (below_size (bX1 HB.out GE360.out)));replace BK360:=aM (bbX BK360.out hb);replace HB:=aM (below_step (bX1 HB.out GE360.out) hb);(try clear hb);(try clear hk);(try clear ho0))|((with_reducible refine gate_dst (N:=21) rfl ?_);refine Kd.R_lit (Kd.int .i64) _ 3 ?hg (N:=21) ?hd (xs:=([]:List Int)) (inner:=[]) (ok:=fun _=>True) (okp:=fun _=>True) ?hr ?hp (fun _ hk=>hk) trivial (Below.refl _ _) (Nat.le_refl _) (by simp) ?_;(case hd=>rfl);(case hg=>rfl);(case hr=>first|(go_simp;done)|(go_simp;rfl));(case hp=>exact(Reps.none _ _));intro v369 w12 ho13 hb hg_ hnew_;clear hg_ hnew_;(first|rw [← Ny368.out] at ho13|(simp only [Int.reduceToNat] at ho13;rw [← Ny368.out] at ho13));replace HO363:=aM (Kd.N_elder' (by(with_reducible repeat(first|apply Kd.N_alloc|apply Kd.N_drewN|apply Kd.N_drew));exact HO363.out) (Kd.R_base ho13) hb);have HO370:=aM (Kd.R_lower (Kd.R_new' ho13 (Kd.R_lt (rX HO367.out))) (below_size (bX1 HB.out GE360.out)));replace HO367:=aM (Kd.R_elder' (rX HO367.out) (Kd.R_base ho13) hb);replace BK360:=aM (bbX BK360.out hb);replace HB:=aM (below_step (bX1 HB.out GE360.out) hb);clear hb ho13;obtain ⟨Ao14,co14,eo14⟩:=Kd.R_slice HO367.out;subst eo14)|((with_reducible refine gate_dst (N:=24) rfl ?_);refine Kd.R_make Kd.bool _ 4 rfl (N:=24) rfl 44 _ _ rfl (t365.length:Int) rfl rfl Tryz.underlying44 (.bool false) 1 info4 rfl (by decide) (by omega) false (ok:=fun _=>True) (okp:=fun _=>True) rfl (fun _ hk=>hk) trivial (dX) (Nat.le_trans (Nat.mul_le_mul_right _ (dX:(t365.length:Int).toNat≤281474976710656)) (by omega)) (Below.refl _ _) (Nat.le_refl _) ?_;intro v372 w15 ho16 hb hg_ hnew_;clear hg_ hnew_;(first|rw [← Ny371.out] at ho16|(simp only [Int.reduceToNat] at ho16;rw [← Ny371.out] at ho16));replace HO363:=aM (Kd.N_elder' (by(with_reducible repeat(first|apply Kd.N_alloc|apply Kd.N_drewN|apply Kd.N_drew));exact HO363.out) (Kd.R_base ho16) hb);replace HO367:=aM (Kd.R_below (rX HO367.out) hb);replace HO370:=aM (Kd.R_below (rX HO370.out) hb);have HO373:=aM (Kd.R_lower ho16 (below_size (bX1 HB.out GE360.out)));replace BK360:=aM (bbX BK360.out hb);replace HB:=aM (below_step (bX1 HB.out GE360.out) hb);clear hb ho16))
 go_loopg [7,27] k (fun kq v7 v27 w'=>∃ (x7_1:List Int) (x8_1:List Bool) (x27_1:Int),v27 = .int .i64 x27_1∧Aside0 (spec_CuspsOf.l0 kq t365 x7_1 x8_1 (t365.length:Int) x27_1=some (r1,r2))∧Aside0 (kq≤k)∧Aside0 (Kd.R (Kd.int .i64) 3 w' w.heap.size (fun k_=>some k_≠(v7:Value).ownBlock) (.slice Ao14 t365.length co14) t365)∧Aside0 (Kd.R (Kd.int .i64) 3 w' w.heap.size (fun k_=>some k_≠((.slice Ao14 t365.length co14):Value).ownBlock) v7 x7_1)∧Aside0 (Kd.R Kd.bool 4 w' w.heap.size (fun _=>True) v372 x8_1)∧Aside0 (w'.heap[gb360]? = some (.cells #[(.slice A0_0 l0_0.length c0_0),(.slice A0_1 l0_1.length c0_1)] 27 (0,0)))∧Aside0 (Below w.heap.size w w'))
 case atStart=>exact ⟨(y368),(y371),(0),vX,H',⟨Nat.le_refl _⟩,⟨rM HO367.out (fun _ hk=>hk.2)⟩,⟨rM HO370.out (fun _ hk=>hk.2)⟩,⟨rX HO373.out⟩,⟨kX BK360.out⟩,⟨bX1 HB.out GE360.out⟩⟩
 case round =>
 clear H'
 try clear c3
 try clear c5
 try clear c5b0
 try clear c5b1
 try clear c6
 try clear c6b0
 try clear c6b1
 try clear hcz8_0
 try clear hcz8_1
 try clear hfz8_0
 try clear hfz8_1
 obtain ⟨x7_1,x8_1,x27_1,rfl,HA,HK1,HO_6,HO_7,HO_8,BK360,HB⟩:=hrel
 cases gk with
 | zero=>exact absurd HA.out (by simp [spec_CuspsOf.l0])
 | succ k1 =>
 have H:=HA.out
 clear HA
 simp only [spec_CuspsOf.l0] at H
 by_cases c17:x27_1<(t365.length:Int)
 {
 rw [if_pos c17] at H
 have c17b0:=decide_eq_true c17
 clear c17
 have H':=aM H
 clear H
 go_wp2
 go_loopg [10,11] k1 (fun kq v10 v11 w'=>∃ (x8_2:List Bool) (x10_2:Int) (x11_2:Int),v10 = .int .i64 x10_2∧v11 = .int .i64 x11_2∧Aside0 (spec_CuspsOf.l1 kq t365 x7_1 x8_2 x10_2 x11_2 (t365.length:Int) x27_1=some (r1,r2))∧Aside0 (kq≤k1)∧Aside0 (Kd.R (Kd.int .i64) 3 w' w.heap.size (fun k_=>some k_≠(u7:Value).ownBlock) (.slice Ao14 t365.length co14) t365)∧Aside0 (Kd.R (Kd.int .i64) 3 w' w.heap.size (fun k_=>some k_≠((.slice Ao14 t365.length co14):Value).ownBlock) u7 x7_1)∧Aside0 (Kd.R Kd.bool 4 w' w.heap.size (fun _=>True) v372 x8_2)∧Aside0 (w'.heap[gb360]? = some (.cells #[(.slice A0_0 l0_0.length c0_0),(.slice A0_1 l0_1.length c0_1)] 27 (0,0)))∧Aside0 (Below w.heap.size w w'))
 case atStart=>exact ⟨(x8_1),(0),(x27_1),vX,vX,H',⟨Nat.le_refl _⟩,⟨rX HO_6.out⟩,⟨rX HO_7.out⟩,⟨rX HO_8.out⟩,⟨kX BK360.out⟩,⟨bX1 HB.out GE360.out⟩⟩
 case round =>
 clear H'
 try clear c3
 try clear c5
 try clear c5b0
 try clear c5b1
 try clear c6
 try clear c6b0
 try clear c6b1
 try clear c17
 try clear c17b0
 try clear hcz8_0
 try clear hcz8_1
 try clear hfz8_0
 try clear hfz8_1
 obtain ⟨x8_2,x10_2,x11_2,rfl,rfl,HA,HK2,HO_6,HO_7,HO_8,BK360,HB⟩:=hrel
 cases gk with
 | zero=>exact absurd HA.out (by simp [spec_CuspsOf.l1])
 | succ k2 =>
 have H:=HA.out
 clear HA
 simp only [spec_CuspsOf.l1] at H
 by_cases c18:0≤x11_2
 {
 rw [if_pos c18] at H
 have c18b0:=decide_eq_true c18
 clear c18
 by_cases c19:x11_2<(x8_2.length:Int)
 {
 rw [if_pos c19] at H
 have c19b0:=decide_eq_true c19
 clear c19
 obtain ⟨bq20,hbq20⟩:∃ b_:Bool,b_=(rdOf false x8_2 x11_2):=⟨_,rfl⟩
 replace H:(if bq20=true then (if x10_2 > 0 then (if x7_1.length<17592186044416 then (spec_CuspsOf.l0 k2 t365 (x7_1 ++ [x10_2]) x8_2 (t365.length:Int) (wrap64 (x27_1+1))) else (none)) else (spec_CuspsOf.l0 k2 t365 x7_1 x8_2 (t365.length:Int) (wrap64 (x27_1+1)))) else (if x11_2<(t365.length:Int) then (spec_CuspsOf.l1 k2 t365 x7_1 (x8_2.set (x11_2:Int).toNat true) (wrap64 (x10_2+1)) (rd t365 x11_2) (t365.length:Int) x27_1) else (none)))=some (r1,r2):=by rw [← hbq20] at H;exact H
 have Nbq20:=aM hbq20
 clear hbq20
 by_cases c21:bq20=true
 {
 subst c21
 have H1:(if x10_2 > 0 then (if x7_1.length<17592186044416 then (spec_CuspsOf.l0 k2 t365 (x7_1 ++ [x10_2]) x8_2 (t365.length:Int) (wrap64 (x27_1+1))) else (none)) else (spec_CuspsOf.l0 k2 t365 x7_1 x8_2 (t365.length:Int) (wrap64 (x27_1+1))))=some (r1,r2):=by rw [if_pos rfl] at H;exact H
 clear H
 have H:=H1
 clear H1
 by_cases c22:x10_2 > 0
 {
 rw [if_pos c22] at H
 have c22b0:=decide_eq_true c22
 clear c22
 by_cases c23:x7_1.length<17592186044416
 {
 rw [if_pos c23] at H
 have LMc23:=aM c23
 clear c23
 obtain ⟨y378,hy378⟩:∃ y_:List Int,y_=(x7_1 ++ [x10_2]):=⟨_,rfl⟩
 replace H:(spec_CuspsOf.l0 k2 t365 y378 x8_2 (t365.length:Int) (wrap64 (x27_1+1)))=some (r1,r2):=by first|(rw [hy378];with_reducible exact H)|(have H2_:=(Option.bind_some _ _).symm.trans H;rw [hy378];with_reducible exact H2_)|(have H2_:=(Option.bind_some _ _).symm.trans H;with_reducible exact H2_)|with_reducible exact H|(rw [hy378];exact H)|exact H
 have Ny378:=aM hy378
 clear hy378
 have H':=aM H
 clear H
 obtain ⟨Ao24,co24,eo24⟩:=Kd.R_slice HO_8.out
 subst eo24
 have p377:0≤(x11_2:Int):=dX
 have q377:x11_2<(x8_2.length:Int):=dX
 obtain ⟨ad377,e377,hx377_0⟩:=Kd.at_bool (Kd.R_reads' HO_8.out).2.2 x11_2 p377 q377
 (try rw [← Nbq20.out] at hx377_0)
 cases e377
 replace p377:=eq_true p377
 replace q377:=eq_true q377
 go_wp2_with (first|((with_reducible refine gate_builtin (b:=.append) (xs:=#[.tmp 47,.tmp 49]) rfl ?_);at_builtin;refine Kd.R_append (Kd.int .i64) (w0:=w) w.heap.size rfl (.tmp 47) (.tmp 49) 22 3 (.int .i64 0) 8 rfl Tryz.underlying22 info3 rfl (by decide) (by omega) u7 x7_1 x10_2 [.int .i64 x10_2] (fun k_=>some k_≠(.slice Ao14 t365.length co14:Value).ownBlock) (fun _=>False) rfl rfl ?aP (fun _ hk=>hk.elim) ?aF ?aO ?aB ?aS ?aL ?_;(case aP=>exact rfl);(case aB=>exact(bX1 HB.out GE360.out));(case aF=>exact(fun k_ hk=>Kd.fresh' (Kd.R_lt (rX HO_6.out)) k_ hk));(case aO=>exact(rX HO_7.out));(case aS=>exact(below_size (bX1 HB.out GE360.out)));(case aL=>have:=LMc23.out;omega);intro v379 w25 ho hb hg hat;rw [← Ny378.out] at ho;replace HO_6:=aM (Kd.R_after (ok:=(fun _=>True)) (rM HO_6.out (fun _ hk=>⟨trivial,hk⟩)) hg hat);replace HO_8:=aM (Kd.R_over' (rX HO_8.out) (Kd.R_typed (rX HO_7.out)) (by decide) hg);replace BK360:=aM (bgX BK360.out hg (Kd.R_ne HO_7.out BK360.out (by decide)));replace HB:=aM (hb);have HO380:=aM (ho);clear HO_7 ho hb hg hat))
 go_roundg k2
 case measure=>have:=HK1.out;have:=HK2.out;omega
 case rel=>exact ⟨(y378),(x8_2),(wrap64 (x27_1+1)),vX,H',⟨by have:=HK1.out;have:=HK2.out;omega⟩,⟨rM HO_6.out (fun _ hk=>hk.2)⟩,⟨rX HO380.out⟩,⟨rX HO_8.out⟩,⟨kX BK360.out⟩,⟨bX1 HB.out GE360.out⟩⟩
 }
 {
 rw [if_neg c23] at H
 exact absurd H (by simp)
 }
 }
 {
 rw [if_neg c22] at H
 have c22b0:=decide_eq_false c22
 clear c22
 have H':=aM H
 clear H
 obtain ⟨Ao26,co26,eo26⟩:=Kd.R_slice HO_8.out
 subst eo26
 have p377:0≤(x11_2:Int):=dX
 have q377:x11_2<(x8_2.length:Int):=dX
 obtain ⟨ad377,e377,hx377_0⟩:=Kd.at_bool (Kd.R_reads' HO_8.out).2.2 x11_2 p377 q377
 (try rw [← Nbq20.out] at hx377_0)
 cases e377
 replace p377:=eq_true p377
 replace q377:=eq_true q377
 go_wp2
 go_roundg k2
 case measure=>have:=HK1.out;have:=HK2.out;omega
 case rel=>exact ⟨(x7_1),(x8_2),(wrap64 (x27_1+1)),vX,H',⟨by have:=HK1.out;have:=HK2.out;omega⟩,⟨rX HO_6.out⟩,⟨rX HO_7.out⟩,⟨rX HO_8.out⟩,⟨kX BK360.out⟩,⟨bX1 HB.out GE360.out⟩⟩
 }
 }
 {
 replace c21:=Bool.eq_false_iff.mpr c21
 subst c21
 have H1:(if x11_2<(t365.length:Int) then (spec_CuspsOf.l1 k2 t365 x7_1 (x8_2.set (x11_2:Int).toNat true) (wrap64 (x10_2+1)) (rd t365 x11_2) (t365.length:Int) x27_1) else (none))=some (r1,r2):=by rw [if_neg (show ¬ (false=true) by decide)] at H;exact H
 clear H
 have H:=H1
 clear H1
 obtain ⟨y381,hy381⟩:∃ y_:List Bool,y_=(x8_2.set (x11_2:Int).toNat true):=⟨_,rfl⟩
 replace H:(if x11_2<(t365.length:Int) then (spec_CuspsOf.l1 k2 t365 x7_1 y381 (wrap64 (x10_2+1)) (rd t365 x11_2) (t365.length:Int) x27_1) else (none))=some (r1,r2):=by first|(rw [hy381];with_reducible exact H)|(have H2_:=(Option.bind_some _ _).symm.trans H;rw [hy381];with_reducible exact H2_)|(have H2_:=(Option.bind_some _ _).symm.trans H;with_reducible exact H2_)|with_reducible exact H|(rw [hy381];exact H)|exact H
 have Ny381:=aM hy381
 clear hy381
 by_cases c28:x11_2<(t365.length:Int)
 {
 rw [if_pos c28] at H
 have c28b0:=decide_eq_true c28
 clear c28
 have H':=aM H
 clear H
 obtain ⟨Ao29,co29,eo29⟩:=Kd.R_slice HO_8.out
 subst eo29
 have p377:0≤(x11_2:Int):=dX
 have q377:x11_2<(x8_2.length:Int):=dX
 obtain ⟨ad377,e377,hx377_0⟩:=Kd.at_bool (Kd.R_reads' HO_8.out).2.2 x11_2 p377 q377
 (try rw [← Nbq20.out] at hx377_0)
 cases e377
 replace p377:=eq_true p377
 replace q377:=eq_true q377
 have p27:0≤(x11_2:Int):=dX
 have q27:(x11_2:Int)<((x8_2.length:Int):Int):=dX
 obtain ⟨go27,co27,eo27,gb27,gl27,cl27,HG27⟩:=Kd.R_form HO_8.out (by omega)
 (first|cases eo27|(injection eo27 with ea_ en_ ec_;(first|subst ea_|(injection ea_ with ea_;subst ea_));subst ec_;clear en_))
 have GB27:=aM gb27
 have GG27:=aM HG27
 clear gb27 gl27 HG27
 (first|simp only [add_plain] at hx377_0|skip)
 obtain ⟨hx27_0,hf27_0⟩:=Kd.R_celln false HO_8.out (x11_2:Int) p27 q27
 replace p27:=eq_true p27
 replace q27:=eq_true q27
 have HP30:=Kd.R_putg HO_8.out (x11_2:Int) true
 go_wp2_with (first|((with_reducible refine gate_store (t:=4) (p:=42) rfl ?_);refine store_event (t:=4) (p:=42) (v:=?vo_w31) (w1:=(wr.setCell ⟨go27,(x11_2:Int).toNat,none⟩ (.bool true))) ?hg ?ho ?hn ?hr ?_;(case ho=>rfl);(case hg=>rfl);(case hn=>rfl);(case hr=>first|(go_simp;done)|(go_simp;rfl));intro w31 hw;have hg:wr.grownBy w31 (some go27):=(by rw [hw];exact HP30.2);have hp_:Kd.R Kd.bool 4 w31 w.heap.size (fun _=>True) (.slice (some ⟨go27,0,none⟩) x8_2.length co29) y381:=(by rw [hw,Ny381.out];exact HP30.1);clear HP30;replace HO_6:=aM (Kd.R_over' (v:=(.slice (some ⟨go27,0,none⟩) x8_2.length co29)) (rX HO_6.out) (Kd.R_typed HO_8.out) (by decide) hg);replace HO_7:=aM (Kd.R_over' (v:=(.slice (some ⟨go27,0,none⟩) x8_2.length co29)) (rX HO_7.out) (Kd.R_typed HO_8.out) (by decide) hg);replace BK360:=aM (bgX BK360.out hg (Kd.R_ne HO_8.out BK360.out (by decide)));replace HO_8:=aM (hp_);replace HB:=aM ((by rw [hw];exact below_set (HB.out) GB27.out:Below w.heap.size w w31));clear hg hw hp_;have p382:0≤(x11_2:Int):=dX;have q382:x11_2<(t365.length:Int):=dX;obtain ⟨ad382,e382,hx382_0⟩:=Kd.at_int (Kd.R_reads' HO_6.out).2.2 x11_2 p382 q382;cases e382;replace p382:=eq_true p382;replace q382:=eq_true q382))
 go_roundg k2
 case measure=>have:=HK1.out;have:=HK2.out;omega
 case rel=>exact ⟨(y381),(wrap64 (x10_2+1)),(rd t365 x11_2),vX,vX,H',⟨by have:=HK1.out;have:=HK2.out;omega⟩,⟨rX HO_6.out⟩,⟨rX HO_7.out⟩,⟨rX HO_8.out⟩,⟨kX BK360.out⟩,⟨bX1 HB.out GE360.out⟩⟩
 }
 {
 rw [if_neg c28] at H
 exact absurd H (by simp)
 }
 }
 }
 {
 rw [if_neg c19] at H
 exact absurd H (by simp)
 }
 }
 {
 rw [if_neg c18] at H
 exact absurd H (by simp)
 }
 }
 {
 rw [if_neg c17] at H
 have c17b0:=decide_eq_false c17
 clear c17
 replace H:=oB H
 obtain ⟨t374,A320,H⟩:=H
 have A32:=aM A320
 clear A320
 simp only [Option.some.injEq,Prod.mk.injEq] at H
 obtain ⟨rfl,rfl⟩:=H
 obtain ⟨Ao33,co33,eo33⟩:=Kd.R_slice HO_7.out
 subst eo33
 go_wp2_with (first|((with_reducible refine gate_callee (f:=25) rfl ?_);refine goesL_ (some 53) rfl rfl Tryz.func25 (by kernel_rfl) rfl #[.slice Ao33 x7_1.length co33] rfl aX ?_;(with_reducible refine(spec_l04Down.calls k1 _ _ x7_1 t374 _ ?side1 ?side2 A32.out).mono ?_);(case side1=>exact cX (Kd.R_reads' HO_7.out).2.2);(case side2=>exact(Kd.R_reads' HO_7.out).2.1);rintro e w34 ⟨v375,rfl,ho0,hb⟩;refine ⟨_,rfl,?_⟩;replace HO_8:=aM (Kd.R_below (rX HO_8.out) hb);have HO376:=aM (Kd.R_lower (Kd.R_new' (Kd.R_new' ho0 (Kd.R_lt (rX HO_6.out))) (Kd.R_lt (rX HO_7.out))) (below_size (bX1 HB.out GE360.out)));replace HO_6:=aM (Kd.R_elder' (rX HO_6.out) (Kd.R_base ho0) hb);replace HO_7:=aM (Kd.R_elder' (rX HO_7.out) (Kd.R_base ho0) hb);replace BK360:=aM (bbX BK360.out hb);replace HB:=aM (below_step (bX1 HB.out GE360.out) hb);(try clear hb);(try clear hk);(try clear ho0)))
 go_ret2
 exact ⟨_,eX,by(with_reducible repeat(first|apply rA|apply rN|apply rD));exact Kd.R_mono HO376.out (fun _ hk=>trivial),bX1 HB.out GE360.out⟩
 }
 }
 {
 rw [if_neg c6] at H
 exact absurd H (by simp)
 }
 }
 {
 rw [if_neg c5] at H
 exact absurd H (by simp)
 }
 }
 {
 replace c3:=Bool.eq_false_iff.mpr c3
 subst c3
 have H1:(some (([]:List Int),false))=some (r1,r2):=by rw [if_neg (show ¬ (false=true) by decide)] at H;exact H
 clear H
 have H:=H1
 clear H1
 simp only [Option.some.injEq,Prod.mk.injEq] at H
 obtain ⟨rfl,rfl⟩:=H
 go_enter Tryz.func11,Tryz.ntmps11
 go_wp2_with (first|((with_reducible refine gate_dst (N:=1) rfl ?_);refine bEv (cs:=#[.slice A0_0 l0_0.length c0_0,.slice A0_1 l0_1.length c0_1]) (t:=27) ?_;intro gb360 hg w35 hbox hb;have BK360:=aM (hbox);have GW360:=aM ((szX (below_size (bX HB.out)) hg:w.heap.size≤gb360));have GE360:=GW360;replace HB:=aM (below_step (bX HB.out) hb);clear hb hbox hg;obtain ⟨hcz36_0,hcz36_1,hfz36_0,hfz36_1⟩:=f2Z BK360.out)|((with_reducible refine gate_callee (f:=23) rfl ?_);refine goesL_ (some 14) rfl rfl Tryz.func23 (by kernel_rfl) rfl #[.agg #[.slice A0_0 l0_0.length c0_0,.slice A0_1 l0_1.length c0_1]] rfl aX ?_;(with_reducible refine(spec_OrbitOf.calls k _ _ l0_0 _ _ l0_1 t361 false _ ?side1 ?side2 ?side3 ?side4 A2.out).mono ?_);(case side1=>exact cX (Kd.C_below HR0_0.out HB.out));(case side2=>exact HC0_0.out);(case side3=>exact cX (Kd.C_below HR0_1.out HB.out));(case side4=>exact HC0_1.out);rintro e w37 ⟨v362,rfl,ho0,hb⟩;refine ⟨_,rfl,?_⟩;have HO363:=aM (Kd.N_lower (Kd.N_mono (ok':=fun k_=>k_≠gb360) ho0 (fun k_ hk_=>(Kd.freshB (g:=gb360) (o:=.cells #[.slice A0_0 l0_0.length c0_0,.slice A0_1 l0_1.length c0_1] 27 (0,0)) (kX BK360.out) k_ hk_))) (below_size (bX1 HB.out GE360.out)));replace BK360:=aM (bbX BK360.out hb);replace HB:=aM (below_step (bX1 HB.out GE360.out) hb);(try clear hb);(try clear hk);(try clear ho0)))
 go_ret2
 exact ⟨_,eX,by first|exact Kd.R_nil _ _ _ _ _|exact Kd.N_nil _ _ _ _ _|exact Kd.V_nil _ _ _ _ _|exact Kd.Q_nil _ _ _ _ _|exact Kd.S_nil _ _ _ _ _,bX1 HB.out GE360.out⟩
 }

/-! ### spec_FormatInt: function 12 -/
mutual
def spec_FormatInt.l0 : Nat→Int→ByteArray→Option (ByteArray)
 | 0,_,_=>none
 | k+1,x0,x3=>if x0 > 9 then ((some (([(wrap64 (48+(Int.tmod x0 10))) % 256]:List Int):List Int)).bind fun y390=>(if (strOfNums y390).size+x3.size≤9223372036854775807 then (spec_FormatInt.l0 k (wrap64 (Int.tdiv x0 10)) ((strOfNums y390) ++ x3)) else (none))) else ((some (([(wrap64 (48+x0)) % 256]:List Int):List Int)).bind fun y393=>(if (strOfNums y393).size+x3.size≤9223372036854775807 then (some ((strOfNums y393) ++ x3)) else (none)))
def spec_FormatInt.f : Nat→Int→Option (ByteArray)
 | 0,_=>none
 | k+1,a0=>if a0<0 then (if (wrap64 (Int.tdiv a0 10))=0 then ((some (([(wrap64 (48 - a0)) % 256]:List Int):List Int)).bind fun y383=>(if 1+(strOfNums y383).size≤9223372036854775807 then (some ((⟨#[45]⟩:ByteArray) ++ (strOfNums y383))) else (none))) else ((spec_FormatInt.f k (wrap64 (Int.tdiv a0 10))).bind fun t386=>((some (([(wrap64 (48 - (Int.tmod a0 10))) % 256]:List Int):List Int)).bind fun y387=>(if t386.size+(strOfNums y387).size≤9223372036854775807 then (some (t386 ++ (strOfNums y387))) else (none))))) else (spec_FormatInt.l0 k a0 (⟨#[]⟩:ByteArray))
end
def spec_FormatInt.T4 : Bool × List (List Nat × List Nat):=(true,[([],[]),([0],[0]),([1],[1]),([],[]),([3],[3]),([4],[4]),([5],[5]),([6],[6]),([7],[7]),([2,8],[2,8]),([9,2,0,1,2,3,4,5,6,7,8,9],[9])])
def spec_FormatInt.B4 : List Nat:=[0,1,3,0,8,24,56,120,248,511,1023]
theorem spec_FormatInt.tab4 : rtab .any (opsOf Tryz.f12 4)=spec_FormatInt.T4:=by kernel_rfl
theorem spec_FormatInt.bits4 : waitsOk spec_FormatInt.T4.2 spec_FormatInt.B4=true:=by kernel_rfl
theorem spec_FormatInt.calls (k:Nat):∀ (a0:Int) (r:ByteArray) (w:World) (h:spec_FormatInt.f k a0=some r),
  Calls Tryz.prog 12 #[.int .i64 a0] w fun e w'=>e = .returned (.string r)∧Below w.heap.size w w':=by
 induction k using Nat.strongRecOn with
 | _ k ih =>
 intro a0 r w h
 cases k with
 | zero=>exact absurd h (by simp [spec_FormatInt.f])
 | succ k =>
 simp only [spec_FormatInt.f] at h
 have HB:=aM (Below.refl w.heap.size w)
 have H:(if a0<0 then (if (wrap64 (Int.tdiv a0 10))=0 then ((some (([(wrap64 (48 - a0)) % 256]:List Int):List Int)).bind fun y383=>(if 1+(strOfNums y383).size≤9223372036854775807 then (some ((⟨#[45]⟩:ByteArray) ++ (strOfNums y383))) else (none))) else ((spec_FormatInt.f k (wrap64 (Int.tdiv a0 10))).bind fun t386=>((some (([(wrap64 (48 - (Int.tmod a0 10))) % 256]:List Int):List Int)).bind fun y387=>(if t386.size+(strOfNums y387).size≤9223372036854775807 then (some (t386 ++ (strOfNums y387))) else (none))))) else (spec_FormatInt.l0 k a0 (⟨#[]⟩:ByteArray)))=some r:=h
 clear h
 by_cases c2:a0<0
 {
 rw [if_pos c2] at H
 have c2b0:=decide_eq_true c2
 clear c2
 by_cases c3:(wrap64 (Int.tdiv a0 10))=0
 {
 rw [if_pos c3] at H
 have c3b0:((wrap64 (Int.tdiv a0 10)) == 0)=true:=beq_iff_eq.mpr c3
 have c3b1:((wrap64 (Int.tdiv a0 10)) != 0)=false:=bne_eq_false_iff_eq.mpr c3
 clear c3
 obtain ⟨y383,hy383⟩:∃ y_:List Int,y_=(([(wrap64 (48 - a0)) % 256]:List Int)):=⟨_,rfl⟩
 replace H:(if 1+(strOfNums y383).size≤9223372036854775807 then (some ((⟨#[45]⟩:ByteArray) ++ (strOfNums y383))) else (none))=some r:=by first|(rw [hy383];with_reducible exact H)|(have H2_:=(Option.bind_some _ _).symm.trans H;rw [hy383];with_reducible exact H2_)|(have H2_:=(Option.bind_some _ _).symm.trans H;with_reducible exact H2_)|with_reducible exact H|(rw [hy383];exact H)|exact H
 have Ny383:=aM hy383
 clear hy383
 by_cases c4:1+(strOfNums y383).size≤9223372036854775807
 {
 rw [if_pos c4] at H
 have c4b0:=eq_true c4
 have c4b1:=decide_eq_true c4
 try have c4b2:(9223372036854775807<1+(strOfNums y383).size)=False:=eq_false (Nat.not_lt.2 c4)
 obtain rfl:=Option.some.inj H
 go_enter Tryz.func12,Tryz.ntmps12
 go_wp2_with (first|((with_reducible refine gate_dst (N:=12) rfl ?_);refine Kd.R_lit (Kd.int .u8) _ 5 ?hg (N:=12) ?hd (xs:=([(wrap64 (48 - a0)) % 256]:List Int)) (inner:=[.int .u8 ((wrap64 (48 - a0)) % 256)]) (ok:=fun _=>True) (okp:=fun _=>True) ?hr ?hp (fun _ hk=>hk) trivial (Below.refl _ _) (Nat.le_refl _) (by simp) ?_;(case hd=>rfl);(case hg=>rfl);(case hr=>first|(go_simp;done)|(go_simp;rfl));(case hp=>exact(Reps.one (show Kd.M (Kd.int .u8) _ _ _ ((wrap64 (48 - a0)) % 256) [.int .u8 ((wrap64 (48 - a0)) % 256)] from rfl) (Reps.none _ _)));intro v384 w5 ho6 hb hg_ hnew_;clear hg_ hnew_;(first|rw [← Ny383.out] at ho6|(simp only [Int.reduceToNat] at ho6;rw [← Ny383.out] at ho6));have HO385:=aM (Kd.R_lower ho6 (below_size (bX HB.out)));replace HB:=aM (below_step (bX HB.out) hb);clear hb ho6;have hcv7:=own_string (P:=Tryz.prog) Tryz.underlying45 Tryz.underlying5 Tryz.underlying9 (Kd.own_of_R HO385.out)))
 go_ret
 exact ⟨eX,bX HB.out⟩
 }
 {
 rw [if_neg c4] at H
 exact absurd H (by simp)
 }
 }
 {
 rw [if_neg c3] at H
 have c3b0:((wrap64 (Int.tdiv a0 10)) == 0)=false:=beq_eq_false_iff_ne.mpr c3
 have c3b1:((wrap64 (Int.tdiv a0 10)) != 0)=true:=bne_iff_ne.mpr c3
 replace H:=oB H
 obtain ⟨t386,A80,H⟩:=H
 have A8:=aM A80
 clear A80
 obtain ⟨y387,hy387⟩:∃ y_:List Int,y_=(([(wrap64 (48 - (Int.tmod a0 10))) % 256]:List Int)):=⟨_,rfl⟩
 replace H:(if t386.size+(strOfNums y387).size≤9223372036854775807 then (some (t386 ++ (strOfNums y387))) else (none))=some r:=by first|(rw [hy387];with_reducible exact H)|(have H2_:=(Option.bind_some _ _).symm.trans H;rw [hy387];with_reducible exact H2_)|(have H2_:=(Option.bind_some _ _).symm.trans H;with_reducible exact H2_)|with_reducible exact H|(rw [hy387];exact H)|exact H
 have Ny387:=aM hy387
 clear hy387
 by_cases c9:t386.size+(strOfNums y387).size≤9223372036854775807
 {
 rw [if_pos c9] at H
 have c9b0:=eq_true c9
 have c9b1:=decide_eq_true c9
 try have c9b2:(9223372036854775807<t386.size+(strOfNums y387).size)=False:=eq_false (Nat.not_lt.2 c9)
 obtain rfl:=Option.some.inj H
 go_enter Tryz.func12,Tryz.ntmps12
 try go_wp2
 replace HB:=aM (below_drew1 HB.out)
 refine start_ (n:=11) (S:=fun w'=>True) (ds:=[]) #[ff,ff,ff,ff,ff,ff,ff,ff,ff,ff,ff] (by kernel_rfl) rfl rfl trivial (fun hHeld => ?_);refine with_tabW spec_FormatInt.tab4 spec_FormatInt.bits4 (fun HT_ HW_ => ?_)
 generalize w.drew=w10 at HB hHeld ⊢
 refine pX 0 15 (fl 11 1) rfl rfl HT_.out ?_
 refine pX 1 16 (fl 11 3) rfl rfl HT_.out ?_
 refine pX 3 18 (fl 11 11) rfl rfl HT_.out ?_
 refine pX 4 19 (fl 11 27) rfl rfl HT_.out ?_
 refine pX 5 20 (fl 11 59) rfl rfl HT_.out ?_
 refine pX 6 21 (fl 11 123) rfl rfl HT_.out ?_
 refine join_ (σ:=Value) 2 #[tt,tt,tt,tt,tt,tt,tt,tt,tt,ff,ff] (fun s_=>[(17,.string t386),(22,s_),(23,.string (strOfNums y387))]) (fun s_ w'=>(Kd.R (Kd.int .u8) 5 w' w.heap.size (fun _=>True) s_ y387)∧(Below w.heap.size w w')) ?_ ?_
 rotate_left
 {
 intro hCont
 refine two_ (i:=2) (j:=7) (Ni:=some 17) (Nj:=some 22) #[tt,tt,tt,tt,tt,tt,tt,ff,ff,ff,ff] #[tt,tt,ff,tt,tt,tt,tt,tt,ff,ff,ff] rfl rfl rfl rfl (two_of HT_.out (by kernel_rfl)) (by decide) (by decide) (fun K hK => ?_) (fun K hK => ?_)
 {
 skip
 refine goes_ Tryz.func12 (by kernel_rfl) rfl #[.int .i64 (wrap64 (Int.tdiv a0 10))] (by rfl) rfl rfl aX ?_
 with_reducible refine(ih k (by omega) (wrap64 (Int.tdiv a0 10)) t386 _ A8.out).mono ?_
 rintro e w11 ⟨rfl,hb⟩
 refine ⟨_,rfl,?_⟩
 replace HB:=aM (below_step (bX HB.out) hb)
 (try clear hb)
 (try clear hk)
 refine hK.out _ _ trivial (fun hHeld => ?_)
 clear hK K
 refine norm_ (a':=?_) ?_ ?_
 rotate_left
 {
 show Act.put _ (some 17) _=_
 simp only [Act.put,zA,zB,zC,i64_w,i32_w]
 rfl
 }
 refine one_ (i:=7) (N:=some 22) #[tt,tt,tt,tt,tt,tt,tt,tt,ff,ff,ff] rfl rfl (one_of HT_.out (by kernel_rfl)) (by decide) (fun K hK => ?_)
 refine Kd.R_lit_step (Kd.int .u8) _ 5 ?hg (N:=22) ?hd (xs:=([(wrap64 (48 - (Int.tmod a0 10))) % 256]:List Int)) (inner:=[.int .u8 ((wrap64 (48 - (Int.tmod a0 10))) % 256)]) (ok:=fun _=>True) (okp:=fun _=>True) ?hr ?hp (fun _ hk=>hk) trivial (Below.refl _ _) (Nat.le_refl _) (by simp) ?_;(case hd=>rfl);(case hg=>rfl);(case hr=>first|(go_simp;done)|(go_simp;rfl));(case hp=>exact(Reps.one (show Kd.M (Kd.int .u8) _ _ _ ((wrap64 (48 - (Int.tmod a0 10))) % 256) [.int .u8 ((wrap64 (48 - (Int.tmod a0 10))) % 256)] from rfl) (Reps.none _ _)))
 intro v388 w12 ho13 hb hg_ hnew_
 clear hg_ hnew_
 (first|rw [← Ny387.out] at ho13|(simp only [Int.reduceToNat] at ho13;rw [← Ny387.out] at ho13))
 have HO389:=aM (Kd.R_lower ho13 (below_size (bX HB.out)))
 replace HB:=aM (below_step (bX HB.out) hb)
 clear hb ho13
 refine hK.out _ _ trivial (fun hHeld => ?_)
 clear hK K
 refine norm_ (a':=?_) ?_ ?_
 rotate_left
 {
 show Act.put _ (some 22) _=_
 simp only [Act.put,zA,zB,zC,i64_w,i32_w]
 rfl
 }
 refine one_ (i:=8) (N:=some 23) #[tt,tt,tt,tt,tt,tt,tt,tt,tt,ff,ff] rfl rfl (one_of HT_.out (by kernel_rfl)) (by decide) (fun K hK => ?_)
 have hcv14:=own_string (P:=Tryz.prog) Tryz.underlying45 Tryz.underlying5 Tryz.underlying9 (Kd.own_of_R HO389.out)
 refine value_ (w1:=?_) (v:=?_) (by rfl) rfl ?_ ?_
 rotate_left 2
 {
 go_simp
 constructor
 {
 rfl
 }
 {
 rfl
 }
 }
 clear hcv14
 refine hK.out _ _ trivial (fun hHeld => ?_)
 clear hK K
 refine norm_ (a':=?_) ?_ ?_
 rotate_left
 {
 show Act.put _ (some 23) _=_
 simp only [Act.put,zA,zB,zC,i64_w,i32_w]
 rfl
 }
 exact norm_ (by simp only [putAll,Act.put,List.setIfInBounds_toArray,List.set_cons_zero,List.set_cons_succ]) (hCont (v388) _ ⟨(rX HO389.out),(bX HB.out)⟩)
 }
 {
 skip
 refine Kd.R_lit_step (Kd.int .u8) _ 5 ?hg (N:=22) ?hd (xs:=([(wrap64 (48 - (Int.tmod a0 10))) % 256]:List Int)) (inner:=[.int .u8 ((wrap64 (48 - (Int.tmod a0 10))) % 256)]) (ok:=fun _=>True) (okp:=fun _=>True) ?hr ?hp (fun _ hk=>hk) trivial (Below.refl _ _) (Nat.le_refl _) (by simp) ?_;(case hd=>rfl);(case hg=>rfl);(case hr=>first|(go_simp;done)|(go_simp;rfl));(case hp=>exact(Reps.one (show Kd.M (Kd.int .u8) _ _ _ ((wrap64 (48 - (Int.tmod a0 10))) % 256) [.int .u8 ((wrap64 (48 - (Int.tmod a0 10))) % 256)] from rfl) (Reps.none _ _)))
 intro v388 w11 ho12 hb hg_ hnew_
 clear hg_ hnew_
 (first|rw [← Ny387.out] at ho12|(simp only [Int.reduceToNat] at ho12;rw [← Ny387.out] at ho12))
 have HO389:=aM (Kd.R_lower ho12 (below_size (bX HB.out)))
 replace HB:=aM (below_step (bX HB.out) hb)
 clear hb ho12
 refine hK.out _ _ trivial (fun hHeld => ?_)
 clear hK K
 refine norm_ (a':=?_) ?_ ?_
 rotate_left
 {
 show Act.put _ (some 22) _=_
 simp only [Act.put,zA,zB,zC,i64_w,i32_w]
 rfl
 }
 refine two_ (i:=2) (j:=8) (Ni:=some 17) (Nj:=some 23) #[tt,tt,tt,tt,tt,tt,tt,tt,ff,ff,ff] #[tt,tt,ff,tt,tt,tt,tt,tt,tt,ff,ff] rfl rfl rfl rfl (two_of HT_.out (by kernel_rfl)) (by decide) (by decide) (fun K hK => ?_) (fun K hK => ?_)
 {
 skip
 refine goes_ Tryz.func12 (by kernel_rfl) rfl #[.int .i64 (wrap64 (Int.tdiv a0 10))] (by rfl) rfl rfl aX ?_
 with_reducible refine(ih k (by omega) (wrap64 (Int.tdiv a0 10)) t386 _ A8.out).mono ?_
 rintro e w13 ⟨rfl,hb⟩
 refine ⟨_,rfl,?_⟩
 replace HO389:=aM (Kd.R_below (rX HO389.out) hb)
 replace HB:=aM (below_step (bX HB.out) hb)
 (try clear hb)
 (try clear hk)
 refine hK.out _ _ trivial (fun hHeld => ?_)
 clear hK K
 refine norm_ (a':=?_) ?_ ?_
 rotate_left
 {
 show Act.put _ (some 17) _=_
 simp only [Act.put,zA,zB,zC,i64_w,i32_w]
 rfl
 }
 refine one_ (i:=8) (N:=some 23) #[tt,tt,tt,tt,tt,tt,tt,tt,tt,ff,ff] rfl rfl (one_of HT_.out (by kernel_rfl)) (by decide) (fun K hK => ?_)
 have hcv14:=own_string (P:=Tryz.prog) Tryz.underlying45 Tryz.underlying5 Tryz.underlying9 (Kd.own_of_R HO389.out)
 refine value_ (w1:=?_) (v:=?_) (by rfl) rfl ?_ ?_
 rotate_left 2
 {
 go_simp
 constructor
 {
 rfl
 }
 {
 rfl
 }
 }
 clear hcv14
 refine hK.out _ _ trivial (fun hHeld => ?_)
 clear hK K
 refine norm_ (a':=?_) ?_ ?_
 rotate_left
 {
 show Act.put _ (some 23) _=_
 simp only [Act.put,zA,zB,zC,i64_w,i32_w]
 rfl
 }
 exact norm_ (by simp only [putAll,Act.put,List.setIfInBounds_toArray,List.set_cons_zero,List.set_cons_succ]) (hCont (v388) _ ⟨(rX HO389.out),(bX HB.out)⟩)
 }
 {
 skip
 have hcv13:=own_string (P:=Tryz.prog) Tryz.underlying45 Tryz.underlying5 Tryz.underlying9 (Kd.own_of_R HO389.out)
 refine value_ (w1:=?_) (v:=?_) (by rfl) rfl ?_ ?_
 rotate_left 2
 {
 go_simp
 constructor
 {
 rfl
 }
 {
 rfl
 }
 }
 clear hcv13
 refine hK.out _ _ trivial (fun hHeld => ?_)
 clear hK K
 refine norm_ (a':=?_) ?_ ?_
 rotate_left
 {
 show Act.put _ (some 23) _=_
 simp only [Act.put,zA,zB,zC,i64_w,i32_w]
 rfl
 }
 refine one_ (i:=2) (N:=some 17) #[tt,tt,tt,tt,tt,tt,tt,tt,tt,ff,ff] rfl rfl (one_of HT_.out (by kernel_rfl)) (by decide) (fun K hK => ?_)
 refine goes_ Tryz.func12 (by kernel_rfl) rfl #[.int .i64 (wrap64 (Int.tdiv a0 10))] (by rfl) rfl rfl aX ?_
 with_reducible refine(ih k (by omega) (wrap64 (Int.tdiv a0 10)) t386 _ A8.out).mono ?_
 rintro e w14 ⟨rfl,hb⟩
 refine ⟨_,rfl,?_⟩
 replace HO389:=aM (Kd.R_below (rX HO389.out) hb)
 replace HB:=aM (below_step (bX HB.out) hb)
 (try clear hb)
 (try clear hk)
 refine hK.out _ _ trivial (fun hHeld => ?_)
 clear hK K
 refine norm_ (a':=?_) ?_ ?_
 rotate_left
 {
 show Act.put _ (some 17) _=_
 simp only [Act.put,zA,zB,zC,i64_w,i32_w]
 rfl
 }
 exact norm_ (by simp only [putAll,Act.put,List.setIfInBounds_toArray,List.set_cons_zero,List.set_cons_succ]) (hCont (v388) _ ⟨(rX HO389.out),(bX HB.out)⟩)
 }
 }
 }
 rintro v388 w15 ⟨h0_,h1_⟩
 have n0_:Aside0 (Kd.R (Kd.int .u8) 5 w15 w.heap.size (fun _=>True) v388 y387):=⟨h0_⟩
 have n1_:Aside0 (Below w.heap.size w w15):=⟨h1_⟩
 clear HB h0_ h1_
 have HO389:=n0_
 have HB:=n1_
 clear n0_ n1_
 have hHeld:=trivial
 refine norm_ (a':=?_) ?_ ?_
 rotate_left
 {
 simp only [putAll,Act.put,List.setIfInBounds_toArray,List.set_cons_zero,List.set_cons_succ]
 rfl
 }
 refine pX 9 24 (fl 11 1023) rfl rfl HT_.out ?_
 refine pX 10 2 (fl 11 2047) rfl rfl HT_.out ?_
 refine done_ (done_of HT_.out (by kernel_rfl)) ?_
 try go_wp2
 go_ret
 exact ⟨eX,bX HB.out⟩
 }
 {
 rw [if_neg c9] at H
 exact absurd H (by simp)
 }
 }
 }
 {
 rw [if_neg c2] at H
 have c2b0:=decide_eq_false c2
 clear c2
 have H':=aM H
 clear H
 go_enter Tryz.func12,Tryz.ntmps12
 go_wp2
 go_loopg [0,3] k (fun kq v0 v3 w'=>∃ (x0_1:Int) (x3_1:ByteArray),v0 = .int .i64 x0_1∧v3 = .string x3_1∧Aside0 (spec_FormatInt.l0 kq x0_1 x3_1=some r)∧Aside0 (kq≤k)∧Aside0 (Below w.heap.size w w'))
 case atStart=>exact ⟨(a0),((⟨#[]⟩:ByteArray)),vX,vX,H',⟨Nat.le_refl _⟩,⟨bX HB.out⟩⟩
 case round =>
 clear H'
 try clear c2
 try clear c2b0
 try clear c3
 try clear c3b0
 try clear c3b1
 try clear c4
 try clear c4b0
 try clear c4b1
 try clear c4b2
 try clear hcv7
 try clear c9
 try clear c9b0
 try clear c9b1
 try clear c9b2
 try clear hcv13
 try clear hcv14
 obtain ⟨x0_1,x3_1,rfl,rfl,HA,HK1,HB⟩:=hrel
 cases gk with
 | zero=>exact absurd HA.out (by simp [spec_FormatInt.l0])
 | succ k1 =>
 have H:=HA.out
 clear HA
 simp only [spec_FormatInt.l0] at H
 by_cases c16:x0_1 > 9
 {
 rw [if_pos c16] at H
 have c16b0:=decide_eq_true c16
 clear c16
 obtain ⟨y390,hy390⟩:∃ y_:List Int,y_=(([(wrap64 (48+(Int.tmod x0_1 10))) % 256]:List Int)):=⟨_,rfl⟩
 replace H:(if (strOfNums y390).size+x3_1.size≤9223372036854775807 then (spec_FormatInt.l0 k1 (wrap64 (Int.tdiv x0_1 10)) ((strOfNums y390) ++ x3_1)) else (none))=some r:=by first|(rw [hy390];with_reducible exact H)|(have H2_:=(Option.bind_some _ _).symm.trans H;rw [hy390];with_reducible exact H2_)|(have H2_:=(Option.bind_some _ _).symm.trans H;with_reducible exact H2_)|with_reducible exact H|(rw [hy390];exact H)|exact H
 have Ny390:=aM hy390
 clear hy390
 by_cases c17:(strOfNums y390).size+x3_1.size≤9223372036854775807
 {
 rw [if_pos c17] at H
 have c17b0:=eq_true c17
 have c17b1:=decide_eq_true c17
 try have c17b2:(9223372036854775807<(strOfNums y390).size+x3_1.size)=False:=eq_false (Nat.not_lt.2 c17)
 have H':=aM H
 clear H
 go_wp2_with (first|((with_reducible refine gate_dst (N:=31) rfl ?_);refine Kd.R_lit (Kd.int .u8) _ 5 ?hg (N:=31) ?hd (xs:=([(wrap64 (48+(Int.tmod x0_1 10))) % 256]:List Int)) (inner:=[.int .u8 ((wrap64 (48+(Int.tmod x0_1 10))) % 256)]) (ok:=fun _=>True) (okp:=fun _=>True) ?hr ?hp (fun _ hk=>hk) trivial (Below.refl _ _) (Nat.le_refl _) (by simp) ?_;(case hd=>rfl);(case hg=>rfl);(case hr=>first|(go_simp;done)|(go_simp;rfl));(case hp=>exact(Reps.one (show Kd.M (Kd.int .u8) _ _ _ ((wrap64 (48+(Int.tmod x0_1 10))) % 256) [.int .u8 ((wrap64 (48+(Int.tmod x0_1 10))) % 256)] from rfl) (Reps.none _ _)));intro v391 w18 ho19 hb hg_ hnew_;clear hg_ hnew_;(first|rw [← Ny390.out] at ho19|(simp only [Int.reduceToNat] at ho19;rw [← Ny390.out] at ho19));have HO392:=aM (Kd.R_lower ho19 (below_size (bX HB.out)));replace HB:=aM (below_step (bX HB.out) hb);clear hb ho19;have hcv20:=own_string (P:=Tryz.prog) Tryz.underlying45 Tryz.underlying5 Tryz.underlying9 (Kd.own_of_R HO392.out)))
 go_roundg k1
 case measure=>have:=HK1.out;omega
 case rel=>exact ⟨(wrap64 (Int.tdiv x0_1 10)),((strOfNums y390) ++ x3_1),vX,vX,H',⟨by have:=HK1.out;omega⟩,⟨bX HB.out⟩⟩
 }
 {
 rw [if_neg c17] at H
 exact absurd H (by simp)
 }
 }
 {
 rw [if_neg c16] at H
 have c16b0:=decide_eq_false c16
 clear c16
 obtain ⟨y393,hy393⟩:∃ y_:List Int,y_=(([(wrap64 (48+x0_1)) % 256]:List Int)):=⟨_,rfl⟩
 replace H:(if (strOfNums y393).size+x3_1.size≤9223372036854775807 then (some ((strOfNums y393) ++ x3_1)) else (none))=some r:=by first|(rw [hy393];with_reducible exact H)|(have H2_:=(Option.bind_some _ _).symm.trans H;rw [hy393];with_reducible exact H2_)|(have H2_:=(Option.bind_some _ _).symm.trans H;with_reducible exact H2_)|with_reducible exact H|(rw [hy393];exact H)|exact H
 have Ny393:=aM hy393
 clear hy393
 by_cases c21:(strOfNums y393).size+x3_1.size≤9223372036854775807
 {
 rw [if_pos c21] at H
 have c21b0:=eq_true c21
 have c21b1:=decide_eq_true c21
 try have c21b2:(9223372036854775807<(strOfNums y393).size+x3_1.size)=False:=eq_false (Nat.not_lt.2 c21)
 obtain rfl:=Option.some.inj H
 go_wp2_with (first|((with_reducible refine gate_dst (N:=40) rfl ?_);refine Kd.R_lit (Kd.int .u8) _ 5 ?hg (N:=40) ?hd (xs:=([(wrap64 (48+x0_1)) % 256]:List Int)) (inner:=[.int .u8 ((wrap64 (48+x0_1)) % 256)]) (ok:=fun _=>True) (okp:=fun _=>True) ?hr ?hp (fun _ hk=>hk) trivial (Below.refl _ _) (Nat.le_refl _) (by simp) ?_;(case hd=>rfl);(case hg=>rfl);(case hr=>first|(go_simp;done)|(go_simp;rfl));(case hp=>exact(Reps.one (show Kd.M (Kd.int .u8) _ _ _ ((wrap64 (48+x0_1)) % 256) [.int .u8 ((wrap64 (48+x0_1)) % 256)] from rfl) (Reps.none _ _)));intro v394 w22 ho23 hb hg_ hnew_;clear hg_ hnew_;(first|rw [← Ny393.out] at ho23|(simp only [Int.reduceToNat] at ho23;rw [← Ny393.out] at ho23));have HO395:=aM (Kd.R_lower ho23 (below_size (bX HB.out)));replace HB:=aM (below_step (bX HB.out) hb);clear hb ho23;have hcv24:=own_string (P:=Tryz.prog) Tryz.underlying45 Tryz.underlying5 Tryz.underlying9 (Kd.own_of_R HO395.out)))
 go_ret
 exact ⟨eX,bX HB.out⟩
 }
 {
 rw [if_neg c21] at H
 exact absurd H (by simp)
 }
 }
 }

/-! ### spec_IndexOf: function 13 -/
def spec_IndexOf.f (k:Nat) (l0_0:List Int) (l0_1:List Int):Option (Int):=(spec_OrbitOf.f k l0_0 l0_1).bind fun bt397=>(if bt397.2=true then (some (bt397.1.length:Int)) else (some (-1)))
theorem spec_IndexOf.calls (k:Nat) (A0_0:Option Addr) (c0_0:Nat) (l0_0:List Int) (A0_1:Option Addr) (c0_1:Nat) (l0_1:List Int) (r:Int) (w:World) (hr0_0:Kd.C (Kd.int .i64) w A0_0 l0_0.length l0_0) (hc0_0:l0_0.length≤c0_0) (hr0_1:Kd.C (Kd.int .i64) w A0_1 l0_1.length l0_1) (hc0_1:l0_1.length≤c0_1) (h:spec_IndexOf.f k l0_0 l0_1=some r) :
  Calls Tryz.prog 13 #[.agg #[.slice A0_0 l0_0.length c0_0,.slice A0_1 l0_1.length c0_1]] w fun e w'=>e = .returned (.int .i64 r)∧Below w.heap.size w w':=by
 have hu27:=Tryz.underlying27
 have HR0_0:=aM hr0_0
 have HC0_0:=aM hc0_0
 clear hr0_0 hc0_0
 have HR0_1:=aM hr0_1
 have HC0_1:=aM hc0_1
 clear hr0_1 hc0_1
 have HB:=aM (Below.refl w.heap.size w)
 have H:((spec_OrbitOf.f k l0_0 l0_1).bind fun bt397=>(if bt397.2=true then (some (bt397.1.length:Int)) else (some (-1))))=some r:=h
 clear h
 replace H:=oB H
 obtain ⟨⟨t397,t400⟩,A20,H⟩:=H
 replace H:(if t400=true then (some (t397.length:Int)) else (some (-1)))=some r:=H
 have A2:=aM A20
 clear A20
 by_cases c3:t400=true
 {
 subst c3
 have H1:(some (t397.length:Int))=some r:=by rw [if_pos rfl] at H;exact H
 clear H
 have H:=H1
 clear H1
 obtain rfl:=Option.some.inj H
 go_enter Tryz.func13,Tryz.ntmps13
 go_wp2_with (first|((with_reducible refine gate_dst (N:=1) rfl ?_);refine bEv (cs:=#[.slice A0_0 l0_0.length c0_0,.slice A0_1 l0_1.length c0_1]) (t:=27) ?_;intro gb396 hg w4 hbox hb;have BK396:=aM (hbox);have GW396:=aM ((szX (below_size (bX HB.out)) hg:w.heap.size≤gb396));have GE396:=GW396;replace HB:=aM (below_step (bX HB.out) hb);clear hb hbox hg;obtain ⟨hcz5_0,hcz5_1,hfz5_0,hfz5_1⟩:=f2Z BK396.out)|((with_reducible refine gate_callee (f:=23) rfl ?_);refine goesL_ (some 7) rfl rfl Tryz.func23 (by kernel_rfl) rfl #[.agg #[.slice A0_0 l0_0.length c0_0,.slice A0_1 l0_1.length c0_1]] rfl aX ?_;(with_reducible refine(spec_OrbitOf.calls k _ _ l0_0 _ _ l0_1 t397 true _ ?side1 ?side2 ?side3 ?side4 A2.out).mono ?_);(case side1=>exact cX (Kd.C_below HR0_0.out HB.out));(case side2=>exact HC0_0.out);(case side3=>exact cX (Kd.C_below HR0_1.out HB.out));(case side4=>exact HC0_1.out);rintro e w6 ⟨v398,rfl,ho0,hb⟩;refine ⟨_,rfl,?_⟩;have HO399:=aM (Kd.N_lower (Kd.N_mono (ok':=fun k_=>k_≠gb396) ho0 (fun k_ hk_=>(Kd.freshB (g:=gb396) (o:=.cells #[.slice A0_0 l0_0.length c0_0,.slice A0_1 l0_1.length c0_1] 27 (0,0)) (kX BK396.out) k_ hk_))) (below_size (bX1 HB.out GE396.out)));replace BK396:=aM (bbX BK396.out hb);replace HB:=aM (below_step (bX1 HB.out GE396.out) hb);(try clear hb);(try clear ho0);obtain ⟨Ao7,co7,eo7⟩:=Kd.N_slice HO399.out;subst eo7))
 go_ret
 exact ⟨eX,bX1 HB.out GE396.out⟩
 }
 {
 replace c3:=Bool.eq_false_iff.mpr c3
 subst c3
 have H1:(some (-1))=some r:=by rw [if_neg (show ¬ (false=true) by decide)] at H;exact H
 clear H
 have H:=H1
 clear H1
 obtain rfl:=Option.some.inj H
 go_enter Tryz.func13,Tryz.ntmps13
 go_wp2_with (first|((with_reducible refine gate_dst (N:=1) rfl ?_);refine bEv (cs:=#[.slice A0_0 l0_0.length c0_0,.slice A0_1 l0_1.length c0_1]) (t:=27) ?_;intro gb396 hg w8 hbox hb;have BK396:=aM (hbox);have GW396:=aM ((szX (below_size (bX HB.out)) hg:w.heap.size≤gb396));have GE396:=GW396;replace HB:=aM (below_step (bX HB.out) hb);clear hb hbox hg;obtain ⟨hcz9_0,hcz9_1,hfz9_0,hfz9_1⟩:=f2Z BK396.out)|((with_reducible refine gate_callee (f:=23) rfl ?_);refine goesL_ (some 7) rfl rfl Tryz.func23 (by kernel_rfl) rfl #[.agg #[.slice A0_0 l0_0.length c0_0,.slice A0_1 l0_1.length c0_1]] rfl aX ?_;(with_reducible refine(spec_OrbitOf.calls k _ _ l0_0 _ _ l0_1 t397 false _ ?side1 ?side2 ?side3 ?side4 A2.out).mono ?_);(case side1=>exact cX (Kd.C_below HR0_0.out HB.out));(case side2=>exact HC0_0.out);(case side3=>exact cX (Kd.C_below HR0_1.out HB.out));(case side4=>exact HC0_1.out);rintro e w10 ⟨v398,rfl,ho0,hb⟩;refine ⟨_,rfl,?_⟩;have HO399:=aM (Kd.N_lower (Kd.N_mono (ok':=fun k_=>k_≠gb396) ho0 (fun k_ hk_=>(Kd.freshB (g:=gb396) (o:=.cells #[.slice A0_0 l0_0.length c0_0,.slice A0_1 l0_1.length c0_1] 27 (0,0)) (kX BK396.out) k_ hk_))) (below_size (bX1 HB.out GE396.out)));replace BK396:=aM (bbX BK396.out hb);replace HB:=aM (below_step (bX1 HB.out GE396.out) hb);(try clear hb);(try clear ho0)))
 go_ret
 exact ⟨eX,bX1 HB.out GE396.out⟩
 }

/-! ### spec_Join: function 39 -/
def spec_Join.l0 : Nat→ByteArray→ByteArray→List ByteArray→Int→Int→Option (ByteArray)
 | 0,_,_,_,_,_=>none
 | k+1,x1,x5,x8,x9,x10=>if x10<x9 then (if 0≤x10 then (if x10<(x8.length:Int) then (if x10 > 0 then (if x5.size+x1.size≤9223372036854775807 then (if (x5 ++ x1).size+(rdOf ByteArray.empty x8 x10).size≤9223372036854775807 then (spec_Join.l0 k x1 ((x5 ++ x1) ++ (rdOf ByteArray.empty x8 x10)) x8 x9 (wrap64 (x10+1))) else (none)) else (none)) else (if x5.size+(rdOf ByteArray.empty x8 x10).size≤9223372036854775807 then (spec_Join.l0 k x1 (x5 ++ (rdOf ByteArray.empty x8 x10)) x8 x9 (wrap64 (x10+1))) else (none))) else (none)) else (none)) else (some x5)
def spec_Join.f (k:Nat) (l0:List ByteArray) (a1:ByteArray):Option (ByteArray):=spec_Join.l0 k a1 (⟨#[]⟩:ByteArray) l0 (l0.length:Int) 0
theorem spec_Join.calls (k:Nat) (A0:Option Addr) (c0:Nat) (l0:List ByteArray) (a1:ByteArray) (r:ByteArray) (w:World) (hr0:Kd.C Kd.string w A0 l0.length l0) (hc0:l0.length≤c0) (h:spec_Join.f k l0 a1=some r) :
  Calls Tryz.prog 39 #[.slice A0 l0.length c0,.string a1] w fun e w'=>e = .returned (.string r)∧Drawn0 w w':=by
 have HR0:=aM hr0
 have HC0:=aM hc0
 clear hr0 hc0
 have H:(spec_Join.l0 k a1 (⟨#[]⟩:ByteArray) l0 (l0.length:Int) 0)=some r:=h
 clear h
 have H':=aM H
 clear H
 go_enter Tryz.func39,Tryz.ntmps39
 go_wp2
 go_loopg [5,10] k (fun kq v5 v10 w'=>∃ (x5_1:ByteArray) (x10_1:Int),v5 = .string x5_1∧v10 = .int .i64 x10_1∧Aside0 (spec_Join.l0 kq a1 x5_1 l0 (l0.length:Int) x10_1=some r)∧Aside0 (kq≤k)∧Drawn0 w w')
 case atStart=>exact ⟨((⟨#[]⟩:ByteArray)),(0),vX,vX,H',⟨Nat.le_refl _⟩,by repeat(first|exact Drawn0.refl _|apply Drawn0.step)⟩
 case round =>
 clear H'
 obtain ⟨x5_1,x10_1,rfl,rfl,HA,HK1,⟨m1,rfl⟩⟩:=hrel
 cases gk with
 | zero=>exact absurd HA.out (by simp [spec_Join.l0])
 | succ k1 =>
 have H:=HA.out
 clear HA
 simp only [spec_Join.l0] at H
 by_cases c3:x10_1<(l0.length:Int)
 {
 rw [if_pos c3] at H
 have c3b0:=decide_eq_true c3
 clear c3
 by_cases c4:0≤x10_1
 {
 rw [if_pos c4] at H
 have c4b0:=decide_eq_true c4
 clear c4
 by_cases c5:x10_1<(l0.length:Int)
 {
 rw [if_pos c5] at H
 have c5b0:=decide_eq_true c5
 clear c5
 by_cases c6:x10_1 > 0
 {
 rw [if_pos c6] at H
 have c6b0:=decide_eq_true c6
 clear c6
 by_cases c7:x5_1.size+a1.size≤9223372036854775807
 {
 rw [if_pos c7] at H
 have c7b0:=eq_true c7
 have c7b1:=decide_eq_true c7
 try have c7b2:(9223372036854775807<x5_1.size+a1.size)=False:=eq_false (Nat.not_lt.2 c7)
 by_cases c8:(x5_1 ++ a1).size+(rdOf ByteArray.empty l0 x10_1).size≤9223372036854775807
 {
 rw [if_pos c8] at H
 have c8b0:=eq_true c8
 have c8b1:=decide_eq_true c8
 try have c8b2:(9223372036854775807<(x5_1 ++ a1).size+(rdOf ByteArray.empty l0 x10_1).size)=False:=eq_false (Nat.not_lt.2 c8)
 try have c8b3:(9223372036854775807<x5_1.size+a1.size+(rdOf ByteArray.empty l0 x10_1).size)=False:=eq_false (Nat.not_lt.2 (by have hz_:=c8;simp only [ByteArray.size_append] at hz_;first|exact hz_|omega))
 have H':=aM H
 clear H
 have p401:0≤(x10_1:Int):=dX
 have q401:x10_1<(l0.length:Int):=dX
 obtain ⟨ad401,e401,hx401_0⟩:=Kd.at_string HR0.out x10_1 p401 q401
 cases e401
 replace p401:=eq_true p401
 replace q401:=eq_true q401
 go_wp2
 go_roundg k1
 case measure=>have:=HK1.out;omega
 case rel=>exact ⟨((x5_1 ++ a1) ++ (rdOf ByteArray.empty l0 x10_1)),(wrap64 (x10_1+1)),vX,vX,H',⟨by have:=HK1.out;omega⟩,by repeat(first|exact Drawn0.refl _|apply Drawn0.step)⟩
 }
 {
 rw [if_neg c8] at H
 exact absurd H (by simp)
 }
 }
 {
 rw [if_neg c7] at H
 exact absurd H (by simp)
 }
 }
 {
 rw [if_neg c6] at H
 have c6b0:=decide_eq_false c6
 clear c6
 by_cases c9:x5_1.size+(rdOf ByteArray.empty l0 x10_1).size≤9223372036854775807
 {
 rw [if_pos c9] at H
 have c9b0:=eq_true c9
 have c9b1:=decide_eq_true c9
 try have c9b2:(9223372036854775807<x5_1.size+(rdOf ByteArray.empty l0 x10_1).size)=False:=eq_false (Nat.not_lt.2 c9)
 have H':=aM H
 clear H
 have p401:0≤(x10_1:Int):=dX
 have q401:x10_1<(l0.length:Int):=dX
 obtain ⟨ad401,e401,hx401_0⟩:=Kd.at_string HR0.out x10_1 p401 q401
 cases e401
 replace p401:=eq_true p401
 replace q401:=eq_true q401
 go_wp2
 go_roundg k1
 case measure=>have:=HK1.out;omega
 case rel=>exact ⟨(x5_1 ++ (rdOf ByteArray.empty l0 x10_1)),(wrap64 (x10_1+1)),vX,vX,H',⟨by have:=HK1.out;omega⟩,by repeat(first|exact Drawn0.refl _|apply Drawn0.step)⟩
 }
 {
 rw [if_neg c9] at H
 exact absurd H (by simp)
 }
 }
 }
 {
 rw [if_neg c5] at H
 exact absurd H (by simp)
 }
 }
 {
 rw [if_neg c4] at H
 exact absurd H (by simp)
 }
 }
 {
 rw [if_neg c3] at H
 have c3b0:=decide_eq_false c3
 clear c3
 obtain rfl:=Option.some.inj H
 go_wp2
 go_ret
 exact ⟨by first|rfl|(simp;done)|(simp [*];done),by repeat(first|exact Drawn0.refl _|apply Drawn0.step)⟩
 }

/-! ### spec_l17Ints: function 26 -/
def spec_l17Ints.l0 : Nat→ByteArray→List ByteArray→List Int→Int→Int→Option (ByteArray)
 | 0,_,_,_,_,_=>none
 | k+1,x1,x5,x9,x10,x11=>if x11<x10 then (if 0≤x11 then (if x11<(x9.length:Int) then ((spec_FormatInt.f k (rd x9 x11)).bind fun t406=>(if x5.length<8796093022208 then (spec_l17Ints.l0 k x1 (x5 ++ [t406]) x9 x10 (wrap64 (x11+1))) else (none))) else (none)) else (none)) else ((spec_Join.f k x5 x1).bind fun t410=>(some t410))
def spec_l17Ints.f (k:Nat) (l0:List Int) (a1:ByteArray):Option (ByteArray):=spec_l17Ints.l0 k a1 (([]:List ByteArray)) l0 (l0.length:Int) 0
theorem spec_l17Ints.calls (k:Nat) (A0:Option Addr) (c0:Nat) (l0:List Int) (a1:ByteArray) (r:ByteArray) (w:World) (hr0:Kd.C (Kd.int .i64) w A0 l0.length l0) (hc0:l0.length≤c0) (h:spec_l17Ints.f k l0 a1=some r) :
  Calls Tryz.prog 26 #[.slice A0 l0.length c0,.string a1] w fun e w'=>e = .returned (.string r)∧Below w.heap.size w w':=by
 have HR0:=aM hr0
 have HC0:=aM hc0
 clear hr0 hc0
 have HB:=aM (Below.refl w.heap.size w)
 have H:(spec_l17Ints.l0 k a1 (([]:List ByteArray)) l0 (l0.length:Int) 0)=some r:=h
 clear h
 obtain ⟨y402,hy402⟩:∃ y_:List ByteArray,y_=(([]:List ByteArray)):=⟨_,rfl⟩
 replace H:(spec_l17Ints.l0 k a1 y402 l0 (l0.length:Int) 0)=some r:=by first|(rw [hy402];with_reducible exact H)|(have H2_:=(Option.bind_some _ _).symm.trans H;rw [hy402];with_reducible exact H2_)|(have H2_:=(Option.bind_some _ _).symm.trans H;with_reducible exact H2_)|with_reducible exact H|(rw [hy402];exact H)|exact H
 have Ny402:=aM hy402
 clear hy402
 have H':=aM H
 clear H
 go_enter Tryz.func26,Tryz.ntmps26
 go_wp2_with (first|((with_reducible refine gate_dst (N:=8) rfl ?_);refine Kd.R_lit Kd.string _ 9 ?hg (N:=8) ?hd (xs:=([]:List ByteArray)) (inner:=[]) (ok:=fun _=>True) (okp:=fun _=>True) ?hr ?hp (fun _ hk=>hk) trivial (Below.refl _ _) (Nat.le_refl _) (by simp) ?_;(case hd=>rfl);(case hg=>rfl);(case hr=>first|(go_simp;done)|(go_simp;rfl));(case hp=>exact(Reps.none _ _));intro v403 w3 ho4 hb hg_ hnew_;clear hg_ hnew_;(first|rw [← Ny402.out] at ho4|(simp only [Int.reduceToNat] at ho4;rw [← Ny402.out] at ho4));have HO404:=aM (Kd.R_lower ho4 (below_size (bX HB.out)));replace HB:=aM (below_step (bX HB.out) hb);clear hb ho4))
 go_loopg [5,11] k (fun kq v5 v11 w'=>∃ (x5_1:List ByteArray) (x11_1:Int),v11 = .int .i64 x11_1∧Aside0 (spec_l17Ints.l0 kq a1 x5_1 l0 (l0.length:Int) x11_1=some r)∧Aside0 (kq≤k)∧Aside0 (Kd.R Kd.string 9 w' w.heap.size (fun _=>True) v5 x5_1)∧Aside0 (Below w.heap.size w w'))
 case atStart=>exact ⟨(y402),(0),vX,H',⟨Nat.le_refl _⟩,⟨rX HO404.out⟩,⟨bX HB.out⟩⟩
 case round =>
 clear H'
 obtain ⟨x5_1,x11_1,rfl,HA,HK1,HO_5,HB⟩:=hrel
 cases gk with
 | zero=>exact absurd HA.out (by simp [spec_l17Ints.l0])
 | succ k1 =>
 have H:=HA.out
 clear HA
 simp only [spec_l17Ints.l0] at H
 by_cases c5:x11_1<(l0.length:Int)
 {
 rw [if_pos c5] at H
 have c5b0:=decide_eq_true c5
 clear c5
 by_cases c6:0≤x11_1
 {
 rw [if_pos c6] at H
 have c6b0:=decide_eq_true c6
 clear c6
 by_cases c7:x11_1<(l0.length:Int)
 {
 rw [if_pos c7] at H
 have c7b0:=decide_eq_true c7
 clear c7
 replace H:=oB H
 obtain ⟨t406,A80,H⟩:=H
 have A8:=aM A80
 clear A80
 by_cases c9:x5_1.length<8796093022208
 {
 rw [if_pos c9] at H
 have LMc9:=aM c9
 clear c9
 obtain ⟨y407,hy407⟩:∃ y_:List ByteArray,y_=(x5_1 ++ [t406]):=⟨_,rfl⟩
 replace H:(spec_l17Ints.l0 k1 a1 y407 l0 (l0.length:Int) (wrap64 (x11_1+1)))=some r:=by first|(rw [hy407];with_reducible exact H)|(have H2_:=(Option.bind_some _ _).symm.trans H;rw [hy407];with_reducible exact H2_)|(have H2_:=(Option.bind_some _ _).symm.trans H;with_reducible exact H2_)|with_reducible exact H|(rw [hy407];exact H)|exact H
 have Ny407:=aM hy407
 clear hy407
 have H':=aM H
 clear H
 have p405:0≤(x11_1:Int):=dX
 have q405:x11_1<(l0.length:Int):=dX
 obtain ⟨ad405,e405,hx405_0⟩:=Kd.at_int HR0.out x11_1 p405 q405
 cases e405
 replace hx405_0:=(HB.out.cell (World.block_lt_of_cell? w _ hx405_0)).trans hx405_0
 replace p405:=eq_true p405
 replace q405:=eq_true q405
 go_wp2_with (first|((with_reducible refine gate_callee (f:=12) rfl ?_);refine goesL_ (some 17) rfl rfl Tryz.func12 (by kernel_rfl) rfl #[.int .i64 (rd l0 x11_1)] rfl aX ?_;(with_reducible refine(spec_FormatInt.calls k1 (rd l0 x11_1) t406 _ A8.out).mono ?_);rintro e w10 ⟨rfl,hb⟩;refine ⟨_,rfl,?_⟩;replace HO_5:=aM (Kd.R_below (rX HO_5.out) hb);replace HB:=aM (below_step (bX HB.out) hb);(try clear hb);(try clear hk))|((with_reducible refine gate_builtin (b:=.append) (xs:=#[.tmp 15,.tmp 18]) rfl ?_);at_builtin;refine Kd.R_append Kd.string (w0:=w) w.heap.size rfl (.tmp 15) (.tmp 18) 50 9 (.string ⟨#[]⟩) 16 rfl Tryz.underlying50 info9 rfl (by decide) (by omega) u5 x5_1 t406 [.string t406] (fun _=>True) (fun _=>False) rfl rfl ?aP (fun _ hk=>hk.elim) ?aF ?aO ?aB ?aS ?aL ?_;(case aP=>exact rfl);(case aB=>exact(bX HB.out));(case aF=>exact(fun _ _=>trivial));(case aO=>exact(rX HO_5.out));(case aS=>exact(below_size (bX HB.out)));(case aL=>have:=LMc9.out;omega);intro v408 w11 ho hb hg hat;rw [← Ny407.out] at ho;replace HB:=aM (hb);have HO409:=aM (ho);clear HO_5 ho hb hg hat))
 go_roundg k1
 case measure=>have:=HK1.out;omega
 case rel=>exact ⟨(y407),(wrap64 (x11_1+1)),vX,H',⟨by have:=HK1.out;omega⟩,⟨rX HO409.out⟩,⟨bX HB.out⟩⟩
 }
 {
 rw [if_neg c9] at H
 exact absurd H (by simp)
 }
 }
 {
 rw [if_neg c7] at H
 exact absurd H (by simp)
 }
 }
 {
 rw [if_neg c6] at H
 exact absurd H (by simp)
 }
 }
 {
 rw [if_neg c5] at H
 have c5b0:=decide_eq_false c5
 clear c5
 replace H:=oB H
 obtain ⟨t410,A120,H⟩:=H
 have A12:=aM A120
 clear A120
 obtain rfl:=Option.some.inj H
 obtain ⟨Ao13,co13,eo13⟩:=Kd.R_slice HO_5.out
 subst eo13
 go_wp2_with (first|((with_reducible refine gate_callee (f:=39) rfl ?_);refine goesL_ (some 23) rfl rfl Tryz.func39 (by kernel_rfl) rfl #[.slice Ao13 x5_1.length co13,.string a1] rfl aX ?_;(with_reducible refine(spec_Join.calls k1 _ _ x5_1 a1 t410 _ ?side1 ?side2 A12.out).mono ?_);(case side1=>exact cX (Kd.R_reads' HO_5.out).2.2);(case side2=>exact(Kd.R_reads' HO_5.out).2.1);rintro e w' ⟨rfl,⟨nd,rfl⟩⟩;refine ⟨_,rfl,?_⟩))
 go_ret
 exact ⟨eX,bX HB.out⟩
 }

/-! ### spec_FormatList: function 14 -/
def spec_FormatList.f (k:Nat) (l0:List Int):Option (ByteArray):=if (l0.length:Int)=0 then (some (⟨#[45]⟩:ByteArray)) else ((spec_l17Ints.f k l0 (⟨#[44]⟩:ByteArray)).bind fun t411=>(some t411))
theorem spec_FormatList.calls (k:Nat) (A0:Option Addr) (c0:Nat) (l0:List Int) (r:ByteArray) (w:World) (hr0:Kd.C (Kd.int .i64) w A0 l0.length l0) (hc0:l0.length≤c0) (h:spec_FormatList.f k l0=some r) :
  Calls Tryz.prog 14 #[.slice A0 l0.length c0] w fun e w'=>e = .returned (.string r)∧Below w.heap.size w w':=by
 have HR0:=aM hr0
 have HC0:=aM hc0
 clear hr0 hc0
 have HB:=aM (Below.refl w.heap.size w)
 have H:(if (l0.length:Int)=0 then (some (⟨#[45]⟩:ByteArray)) else ((spec_l17Ints.f k l0 (⟨#[44]⟩:ByteArray)).bind fun t411=>(some t411)))=some r:=h
 clear h
 by_cases c2:(l0.length:Int)=0
 {
 rw [if_pos c2] at H
 have c2b0:((l0.length:Int) == 0)=true:=beq_iff_eq.mpr c2
 have c2b1:((l0.length:Int) != 0)=false:=bne_eq_false_iff_eq.mpr c2
 clear c2
 obtain rfl:=Option.some.inj H
 go_enter Tryz.func14,Tryz.ntmps14
 go_wp2
 go_ret
 exact ⟨eX,bX HB.out⟩
 }
 {
 rw [if_neg c2] at H
 have c2b0:((l0.length:Int) == 0)=false:=beq_eq_false_iff_ne.mpr c2
 have c2b1:((l0.length:Int) != 0)=true:=bne_iff_ne.mpr c2
 have c2b2:¬ (l0=[]):=fun h_=>c2 (by rw [h_];rfl)
 replace H:=oB H
 obtain ⟨t411,A30,H⟩:=H
 have A3:=aM A30
 clear A30
 obtain rfl:=Option.some.inj H
 go_enter Tryz.func14,Tryz.ntmps14
 go_wp2_with (first|((with_reducible refine gate_callee (f:=26) rfl ?_);refine goesL_ (some 7) rfl rfl Tryz.func26 (by kernel_rfl) rfl #[.slice A0 l0.length c0,.string (⟨#[44]⟩:ByteArray)] rfl aX ?_;(with_reducible refine(spec_l17Ints.calls k _ _ l0 (⟨#[44]⟩:ByteArray) t411 _ ?side1 ?side2 A3.out).mono ?_);(case side1=>exact cX HR0.out);(case side2=>exact HC0.out);rintro e w4 ⟨rfl,hb⟩;refine ⟨_,rfl,?_⟩;replace HB:=aM (below_step (bX HB.out) hb);(try clear hb)))
 go_ret
 exact ⟨eX,bX HB.out⟩
 }

/-! ### spec_OrbitLine: function 5 -/
def spec_OrbitLine.f (k:Nat) (l0_0:List Int) (l0_1:List Int):Option (ByteArray):=(spec_SurfaceOk.f k l0_0 l0_1).bind fun t413=>(if t413=true then ((spec_CuspsOf.f k l0_0 l0_1).bind fun bt414=>(if bt414.2=true then ((spec_IndexOf.f k l0_0 l0_1).bind fun t418=>((spec_FormatInt.f k t418).bind fun t419=>(if 6+t419.size≤9223372036854775807 then (if ((⟨#[105,110,100,101,120,32]⟩:ByteArray) ++ t419).size+7≤9223372036854775807 then ((spec_FormatList.f k bt414.1).bind fun t420=>(if (((⟨#[105,110,100,101,120,32]⟩:ByteArray) ++ t419) ++ (⟨#[32,99,117,115,112,115,32]⟩:ByteArray)).size+t420.size≤9223372036854775807 then (some ((((⟨#[105,110,100,101,120,32]⟩:ByteArray) ++ t419) ++ (⟨#[32,99,117,115,112,115,32]⟩:ByteArray)) ++ t420)) else (none))) else (none)) else (none)))) else (some (⟨#[116,111,111,32,109,97,110,121]⟩:ByteArray)))) else (some (⟨#[]⟩:ByteArray)))
theorem spec_OrbitLine.calls (k:Nat) (A0_0:Option Addr) (c0_0:Nat) (l0_0:List Int) (A0_1:Option Addr) (c0_1:Nat) (l0_1:List Int) (r:ByteArray) (w:World) (hr0_0:Kd.C (Kd.int .i64) w A0_0 l0_0.length l0_0) (hc0_0:l0_0.length≤c0_0) (hr0_1:Kd.C (Kd.int .i64) w A0_1 l0_1.length l0_1) (hc0_1:l0_1.length≤c0_1) (h:spec_OrbitLine.f k l0_0 l0_1=some r) :
  Calls Tryz.prog 5 #[.agg #[.slice A0_0 l0_0.length c0_0,.slice A0_1 l0_1.length c0_1]] w fun e w'=>e = .returned (.string r)∧Below w.heap.size w w':=by
 have hu27:=Tryz.underlying27
 have HR0_0:=aM hr0_0
 have HC0_0:=aM hc0_0
 clear hr0_0 hc0_0
 have HR0_1:=aM hr0_1
 have HC0_1:=aM hc0_1
 clear hr0_1 hc0_1
 have HB:=aM (Below.refl w.heap.size w)
 have H:((spec_SurfaceOk.f k l0_0 l0_1).bind fun t413=>(if t413=true then ((spec_CuspsOf.f k l0_0 l0_1).bind fun bt414=>(if bt414.2=true then ((spec_IndexOf.f k l0_0 l0_1).bind fun t418=>((spec_FormatInt.f k t418).bind fun t419=>(if 6+t419.size≤9223372036854775807 then (if ((⟨#[105,110,100,101,120,32]⟩:ByteArray) ++ t419).size+7≤9223372036854775807 then ((spec_FormatList.f k bt414.1).bind fun t420=>(if (((⟨#[105,110,100,101,120,32]⟩:ByteArray) ++ t419) ++ (⟨#[32,99,117,115,112,115,32]⟩:ByteArray)).size+t420.size≤9223372036854775807 then (some ((((⟨#[105,110,100,101,120,32]⟩:ByteArray) ++ t419) ++ (⟨#[32,99,117,115,112,115,32]⟩:ByteArray)) ++ t420)) else (none))) else (none)) else (none)))) else (some (⟨#[116,111,111,32,109,97,110,121]⟩:ByteArray)))) else (some (⟨#[]⟩:ByteArray))))=some r:=h
 clear h
 replace H:=oB H
 obtain ⟨t413,A20,H⟩:=H
 have A2:=aM A20
 clear A20
 by_cases c3:t413=true
 {
 subst c3
 have H1:((spec_CuspsOf.f k l0_0 l0_1).bind fun bt414=>(if bt414.2=true then ((spec_IndexOf.f k l0_0 l0_1).bind fun t418=>((spec_FormatInt.f k t418).bind fun t419=>(if 6+t419.size≤9223372036854775807 then (if ((⟨#[105,110,100,101,120,32]⟩:ByteArray) ++ t419).size+7≤9223372036854775807 then ((spec_FormatList.f k bt414.1).bind fun t420=>(if (((⟨#[105,110,100,101,120,32]⟩:ByteArray) ++ t419) ++ (⟨#[32,99,117,115,112,115,32]⟩:ByteArray)).size+t420.size≤9223372036854775807 then (some ((((⟨#[105,110,100,101,120,32]⟩:ByteArray) ++ t419) ++ (⟨#[32,99,117,115,112,115,32]⟩:ByteArray)) ++ t420)) else (none))) else (none)) else (none)))) else (some (⟨#[116,111,111,32,109,97,110,121]⟩:ByteArray))))=some r:=by rw [if_pos rfl] at H;exact H
 clear H
 have H:=H1
 clear H1
 replace H:=oB H
 obtain ⟨⟨t414,t417⟩,A40,H⟩:=H
 replace H:(if t417=true then ((spec_IndexOf.f k l0_0 l0_1).bind fun t418=>((spec_FormatInt.f k t418).bind fun t419=>(if 6+t419.size≤9223372036854775807 then (if ((⟨#[105,110,100,101,120,32]⟩:ByteArray) ++ t419).size+7≤9223372036854775807 then ((spec_FormatList.f k t414).bind fun t420=>(if (((⟨#[105,110,100,101,120,32]⟩:ByteArray) ++ t419) ++ (⟨#[32,99,117,115,112,115,32]⟩:ByteArray)).size+t420.size≤9223372036854775807 then (some ((((⟨#[105,110,100,101,120,32]⟩:ByteArray) ++ t419) ++ (⟨#[32,99,117,115,112,115,32]⟩:ByteArray)) ++ t420)) else (none))) else (none)) else (none)))) else (some (⟨#[116,111,111,32,109,97,110,121]⟩:ByteArray)))=some r:=H
 have A4:=aM A40
 clear A40
 by_cases c5:t417=true
 {
 subst c5
 have H1:((spec_IndexOf.f k l0_0 l0_1).bind fun t418=>((spec_FormatInt.f k t418).bind fun t419=>(if 6+t419.size≤9223372036854775807 then (if ((⟨#[105,110,100,101,120,32]⟩:ByteArray) ++ t419).size+7≤9223372036854775807 then ((spec_FormatList.f k t414).bind fun t420=>(if (((⟨#[105,110,100,101,120,32]⟩:ByteArray) ++ t419) ++ (⟨#[32,99,117,115,112,115,32]⟩:ByteArray)).size+t420.size≤9223372036854775807 then (some ((((⟨#[105,110,100,101,120,32]⟩:ByteArray) ++ t419) ++ (⟨#[32,99,117,115,112,115,32]⟩:ByteArray)) ++ t420)) else (none))) else (none)) else (none))))=some r:=by rw [if_pos rfl] at H;exact H
 clear H
 have H:=H1
 clear H1
 replace H:=oB H
 obtain ⟨t418,A60,H⟩:=H
 have A6:=aM A60
 clear A60
 replace H:=oB H
 obtain ⟨t419,A70,H⟩:=H
 have A7:=aM A70
 clear A70
 by_cases c8:6+t419.size≤9223372036854775807
 {
 rw [if_pos c8] at H
 have c8b0:=eq_true c8
 have c8b1:=decide_eq_true c8
 try have c8b2:(9223372036854775807<6+t419.size)=False:=eq_false (Nat.not_lt.2 c8)
 by_cases c9:((⟨#[105,110,100,101,120,32]⟩:ByteArray) ++ t419).size+7≤9223372036854775807
 {
 rw [if_pos c9] at H
 have c9b0:=eq_true c9
 have c9b1:=decide_eq_true c9
 try have c9b2:(9223372036854775807<((⟨#[105,110,100,101,120,32]⟩:ByteArray) ++ t419).size+7)=False:=eq_false (Nat.not_lt.2 c9)
 try have c9b3:(9223372036854775807<6+t419.size+7)=False:=eq_false (Nat.not_lt.2 (by have hz_:=c9;simp only [ByteArray.size_append] at hz_;first|exact hz_|omega))
 replace H:=oB H
 obtain ⟨t420,A100,H⟩:=H
 have A10:=aM A100
 clear A100
 by_cases c11:(((⟨#[105,110,100,101,120,32]⟩:ByteArray) ++ t419) ++ (⟨#[32,99,117,115,112,115,32]⟩:ByteArray)).size+t420.size≤9223372036854775807
 {
 rw [if_pos c11] at H
 have c11b0:=eq_true c11
 have c11b1:=decide_eq_true c11
 try have c11b2:(9223372036854775807<(((⟨#[105,110,100,101,120,32]⟩:ByteArray) ++ t419) ++ (⟨#[32,99,117,115,112,115,32]⟩:ByteArray)).size+t420.size)=False:=eq_false (Nat.not_lt.2 c11)
 try have c11b3:(9223372036854775807<6+t419.size+7+t420.size)=False:=eq_false (Nat.not_lt.2 (by have hz_:=c11;simp only [ByteArray.size_append] at hz_;first|exact hz_|omega))
 obtain rfl:=Option.some.inj H
 go_enter Tryz.func5,Tryz.ntmps5
 go_wp2_with (first|((with_reducible refine gate_dst (N:=1) rfl ?_);refine bEv (cs:=#[.slice A0_0 l0_0.length c0_0,.slice A0_1 l0_1.length c0_1]) (t:=27) ?_;intro gb412 hg w12 hbox hb;have BK412:=aM (hbox);have GW412:=aM ((szX (below_size (bX HB.out)) hg:w.heap.size≤gb412));have GE412:=GW412;replace HB:=aM (below_step (bX HB.out) hb);clear hb hbox hg;obtain ⟨hcz13_0,hcz13_1,hfz13_0,hfz13_1⟩:=f2Z BK412.out)|((with_reducible refine gate_callee (f:=10) rfl ?_);refine goesL_ (some 6) rfl rfl Tryz.func10 (by kernel_rfl) rfl #[.agg #[.slice A0_0 l0_0.length c0_0,.slice A0_1 l0_1.length c0_1]] rfl aX ?_;(with_reducible refine(spec_SurfaceOk.calls k _ _ l0_0 _ _ l0_1 true _ ?side1 ?side2 ?side3 ?side4 A2.out).mono ?_);(case side1=>exact cX (Kd.C_below HR0_0.out HB.out));(case side2=>exact HC0_0.out);(case side3=>exact cX (Kd.C_below HR0_1.out HB.out));(case side4=>exact HC0_1.out);rintro e w14 ⟨rfl,hb⟩;refine ⟨_,rfl,?_⟩;replace BK412:=aM (bbX BK412.out hb);replace HB:=aM (below_step (bX1 HB.out GE412.out) hb);(try clear hb);obtain ⟨hcz15_0,hcz15_1,hfz15_0,hfz15_1⟩:=f2Z BK412.out)|((with_reducible refine gate_callee (f:=11) rfl ?_);refine goesL_ (some 10) rfl rfl Tryz.func11 (by kernel_rfl) rfl #[.agg #[.slice A0_0 l0_0.length c0_0,.slice A0_1 l0_1.length c0_1]] rfl aX ?_;(with_reducible refine(spec_CuspsOf.calls k _ _ l0_0 _ _ l0_1 t414 true _ ?side1 ?side2 ?side3 ?side4 A4.out).mono ?_);(case side1=>exact cX (Kd.C_below HR0_0.out HB.out));(case side2=>exact HC0_0.out);(case side3=>exact cX (Kd.C_below HR0_1.out HB.out));(case side4=>exact HC0_1.out);rintro e w16 ⟨v415,rfl,ho0,hb⟩;refine ⟨_,rfl,?_⟩;have HO416:=aM (Kd.R_lower ho0 (below_size (bX1 HB.out GE412.out)));replace BK412:=aM (bbX BK412.out hb);replace HB:=aM (below_step (bX1 HB.out GE412.out) hb);(try clear hb);(try clear ho0);obtain ⟨hcz17_0,hcz17_1,hfz17_0,hfz17_1⟩:=f2Z BK412.out)|((with_reducible refine gate_callee (f:=13) rfl ?_);refine goesL_ (some 16) rfl rfl Tryz.func13 (by kernel_rfl) rfl #[.agg #[.slice A0_0 l0_0.length c0_0,.slice A0_1 l0_1.length c0_1]] rfl aX ?_;(with_reducible refine(spec_IndexOf.calls k _ _ l0_0 _ _ l0_1 t418 _ ?side1 ?side2 ?side3 ?side4 A6.out).mono ?_);(case side1=>exact cX (Kd.C_below HR0_0.out HB.out));(case side2=>exact HC0_0.out);(case side3=>exact cX (Kd.C_below HR0_1.out HB.out));(case side4=>exact HC0_1.out);rintro e w18 ⟨rfl,hb⟩;refine ⟨_,rfl,?_⟩;replace HO416:=aM (Kd.R_below (rX HO416.out) hb);replace BK412:=aM (bbX BK412.out hb);replace HB:=aM (below_step (bX1 HB.out GE412.out) hb);(try clear hb))|((with_reducible refine gate_callee (f:=12) rfl ?_);refine goesL_ (some 17) rfl rfl Tryz.func12 (by kernel_rfl) rfl #[.int .i64 t418] rfl aX ?_;(with_reducible refine(spec_FormatInt.calls k t418 t419 _ A7.out).mono ?_);rintro e w19 ⟨rfl,hb⟩;refine ⟨_,rfl,?_⟩;replace HO416:=aM (Kd.R_below (rX HO416.out) hb);replace BK412:=aM (bbX BK412.out hb);replace HB:=aM (below_step (bX1 HB.out GE412.out) hb);(try clear hb);obtain ⟨Ao20,co20,eo20⟩:=Kd.R_slice HO416.out;subst eo20)|((with_reducible refine gate_callee (f:=14) rfl ?_);refine goesL_ (some 21) rfl rfl Tryz.func14 (by kernel_rfl) rfl #[.slice Ao20 t414.length co20] rfl aX ?_;(with_reducible refine(spec_FormatList.calls k _ _ t414 t420 _ ?side1 ?side2 A10.out).mono ?_);(case side1=>exact cX (Kd.R_reads' HO416.out).2.2);(case side2=>exact(Kd.R_reads' HO416.out).2.1);rintro e w21 ⟨rfl,hb⟩;refine ⟨_,rfl,?_⟩;replace HO416:=aM (Kd.R_below (rX HO416.out) hb);replace BK412:=aM (bbX BK412.out hb);replace HB:=aM (below_step (bX1 HB.out GE412.out) hb);(try clear hb)))
 go_ret
 exact ⟨eX,bX1 HB.out GE412.out⟩
 }
 {
 rw [if_neg c11] at H
 exact absurd H (by simp)
 }
 }
 {
 rw [if_neg c9] at H
 exact absurd H (by simp)
 }
 }
 {
 rw [if_neg c8] at H
 exact absurd H (by simp)
 }
 }
 {
 replace c5:=Bool.eq_false_iff.mpr c5
 subst c5
 have H1:(some (⟨#[116,111,111,32,109,97,110,121]⟩:ByteArray))=some r:=by rw [if_neg (show ¬ (false=true) by decide)] at H;exact H
 clear H
 have H:=H1
 clear H1
 obtain rfl:=Option.some.inj H
 go_enter Tryz.func5,Tryz.ntmps5
 go_wp2_with (first|((with_reducible refine gate_dst (N:=1) rfl ?_);refine bEv (cs:=#[.slice A0_0 l0_0.length c0_0,.slice A0_1 l0_1.length c0_1]) (t:=27) ?_;intro gb412 hg w22 hbox hb;have BK412:=aM (hbox);have GW412:=aM ((szX (below_size (bX HB.out)) hg:w.heap.size≤gb412));have GE412:=GW412;replace HB:=aM (below_step (bX HB.out) hb);clear hb hbox hg;obtain ⟨hcz23_0,hcz23_1,hfz23_0,hfz23_1⟩:=f2Z BK412.out)|((with_reducible refine gate_callee (f:=10) rfl ?_);refine goesL_ (some 6) rfl rfl Tryz.func10 (by kernel_rfl) rfl #[.agg #[.slice A0_0 l0_0.length c0_0,.slice A0_1 l0_1.length c0_1]] rfl aX ?_;(with_reducible refine(spec_SurfaceOk.calls k _ _ l0_0 _ _ l0_1 true _ ?side1 ?side2 ?side3 ?side4 A2.out).mono ?_);(case side1=>exact cX (Kd.C_below HR0_0.out HB.out));(case side2=>exact HC0_0.out);(case side3=>exact cX (Kd.C_below HR0_1.out HB.out));(case side4=>exact HC0_1.out);rintro e w24 ⟨rfl,hb⟩;refine ⟨_,rfl,?_⟩;replace BK412:=aM (bbX BK412.out hb);replace HB:=aM (below_step (bX1 HB.out GE412.out) hb);(try clear hb);obtain ⟨hcz25_0,hcz25_1,hfz25_0,hfz25_1⟩:=f2Z BK412.out)|((with_reducible refine gate_callee (f:=11) rfl ?_);refine goesL_ (some 10) rfl rfl Tryz.func11 (by kernel_rfl) rfl #[.agg #[.slice A0_0 l0_0.length c0_0,.slice A0_1 l0_1.length c0_1]] rfl aX ?_;(with_reducible refine(spec_CuspsOf.calls k _ _ l0_0 _ _ l0_1 t414 false _ ?side1 ?side2 ?side3 ?side4 A4.out).mono ?_);(case side1=>exact cX (Kd.C_below HR0_0.out HB.out));(case side2=>exact HC0_0.out);(case side3=>exact cX (Kd.C_below HR0_1.out HB.out));(case side4=>exact HC0_1.out);rintro e w26 ⟨v415,rfl,ho0,hb⟩;refine ⟨_,rfl,?_⟩;have HO416:=aM (Kd.R_lower ho0 (below_size (bX1 HB.out GE412.out)));replace BK412:=aM (bbX BK412.out hb);replace HB:=aM (below_step (bX1 HB.out GE412.out) hb);(try clear hb);(try clear ho0)))
 go_ret
 exact ⟨eX,bX1 HB.out GE412.out⟩
 }
 }
 {
 replace c3:=Bool.eq_false_iff.mpr c3
 subst c3
 have H1:(some (⟨#[]⟩:ByteArray))=some r:=by rw [if_neg (show ¬ (false=true) by decide)] at H;exact H
 clear H
 have H:=H1
 clear H1
 obtain rfl:=Option.some.inj H
 go_enter Tryz.func5,Tryz.ntmps5
 go_wp2_with (first|((with_reducible refine gate_dst (N:=1) rfl ?_);refine bEv (cs:=#[.slice A0_0 l0_0.length c0_0,.slice A0_1 l0_1.length c0_1]) (t:=27) ?_;intro gb412 hg w27 hbox hb;have BK412:=aM (hbox);have GW412:=aM ((szX (below_size (bX HB.out)) hg:w.heap.size≤gb412));have GE412:=GW412;replace HB:=aM (below_step (bX HB.out) hb);clear hb hbox hg;obtain ⟨hcz28_0,hcz28_1,hfz28_0,hfz28_1⟩:=f2Z BK412.out)|((with_reducible refine gate_callee (f:=10) rfl ?_);refine goesL_ (some 6) rfl rfl Tryz.func10 (by kernel_rfl) rfl #[.agg #[.slice A0_0 l0_0.length c0_0,.slice A0_1 l0_1.length c0_1]] rfl aX ?_;(with_reducible refine(spec_SurfaceOk.calls k _ _ l0_0 _ _ l0_1 false _ ?side1 ?side2 ?side3 ?side4 A2.out).mono ?_);(case side1=>exact cX (Kd.C_below HR0_0.out HB.out));(case side2=>exact HC0_0.out);(case side3=>exact cX (Kd.C_below HR0_1.out HB.out));(case side4=>exact HC0_1.out);rintro e w29 ⟨rfl,hb⟩;refine ⟨_,rfl,?_⟩;replace BK412:=aM (bbX BK412.out hb);replace HB:=aM (below_step (bX1 HB.out GE412.out) hb);(try clear hb)))
 go_ret
 exact ⟨eX,bX1 HB.out GE412.out⟩
 }

/-! ### laws_toIntS: function 15 -/
def laws_toIntS.l0 : Nat→List Int→List Int→Int→Option (List Int)
 | 0,_,_,_=>none
 | k+1,x0,x3,x4=>if x4<(x0.length:Int) then (if 0≤x4 then (if x4<(x3.length:Int) then (laws_toIntS.l0 k x0 (x3.set (x4:Int).toNat (rd x0 x4)) (wrap64 (x4+1))) else (none)) else (none)) else (some x3)
def laws_toIntS.f (k:Nat) (l0:List Int):Option (List Int):=if 0≤(l0.length:Int) then (if ((l0.length:Int):Int).toNat≤35184372088832 then (laws_toIntS.l0 k l0 (List.replicate ((l0.length:Int):Int).toNat 0) 0) else (none)) else (none)
theorem laws_toIntS.calls (k:Nat) (A0:Option Addr) (c0:Nat) (l0:List Int) (r:List Int) (w:World) (hr0:Kd.C (Kd.int .i64) w A0 l0.length l0) (hc0:l0.length≤c0) (h:laws_toIntS.f k l0=some r) :
  Calls Tryz.prog 15 #[.slice A0 l0.length c0] w fun e w'=>∃ v0_:Value,e = .returned (v0_)∧Kd.R (Kd.int .i64) 3 w' w.heap.size (fun _=>True) v0_ r∧Below w.heap.size w w':=by
 have HR0:=aM hr0
 have HC0:=aM hc0
 clear hr0 hc0
 have HB:=aM (Below.refl w.heap.size w)
 have H:(if 0≤(l0.length:Int) then (if ((l0.length:Int):Int).toNat≤35184372088832 then (laws_toIntS.l0 k l0 (List.replicate ((l0.length:Int):Int).toNat 0) 0) else (none)) else (none))=some r:=h
 clear h
 by_cases c2:0≤(l0.length:Int)
 {
 rw [if_pos c2] at H
 have c2b0:=eq_true c2
 have c2b1:=decide_eq_true c2
 clear c2
 by_cases c3:((l0.length:Int):Int).toNat≤35184372088832
 {
 rw [if_pos c3] at H
 have c3b0:=eq_true c3
 have c3b1:=decide_eq_true c3
 clear c3
 obtain ⟨y421,hy421⟩:∃ y_:List Int,y_=(List.replicate ((l0.length:Int):Int).toNat 0):=⟨_,rfl⟩
 replace H:(laws_toIntS.l0 k l0 y421 0)=some r:=by first|(rw [hy421];with_reducible exact H)|(have H2_:=(Option.bind_some _ _).symm.trans H;rw [hy421];with_reducible exact H2_)|(have H2_:=(Option.bind_some _ _).symm.trans H;with_reducible exact H2_)|with_reducible exact H|(rw [hy421];exact H)|exact H
 have Ny421:=aM hy421
 clear hy421
 have H':=aM H
 clear H
 go_enter Tryz.func15,Tryz.ntmps15
 go_wp2_with (first|((with_reducible refine gate_dst (N:=7) rfl ?_);refine Kd.R_make (Kd.int .i64) _ 3 rfl (N:=7) rfl 22 _ _ rfl (l0.length:Int) rfl rfl Tryz.underlying22 (.int .i64 0) 8 info3 rfl (by decide) (by omega) 0 (ok:=fun _=>True) (okp:=fun _=>True) rfl (fun _ hk=>hk) trivial (dX) (Nat.le_trans (Nat.mul_le_mul_right _ (dX:(l0.length:Int).toNat≤35184372088832)) (by omega)) (Below.refl _ _) (Nat.le_refl _) ?_;intro v422 w4 ho5 hb hg_ hnew_;clear hg_ hnew_;(first|rw [← Ny421.out] at ho5|(simp only [Int.reduceToNat] at ho5;rw [← Ny421.out] at ho5));have HO423:=aM (Kd.R_lower ho5 (below_size (bX HB.out)));replace HB:=aM (below_step (bX HB.out) hb);clear hb ho5))
 go_loopg [4] k (fun kq v4 w'=>∃ (x3_1:List Int) (x4_1:Int),v4 = .int .i64 x4_1∧Aside0 (laws_toIntS.l0 kq l0 x3_1 x4_1=some r)∧Aside0 (kq≤k)∧Aside0 (Kd.R (Kd.int .i64) 3 w' w.heap.size (fun _=>True) v422 x3_1)∧Aside0 (Below w.heap.size w w'))
 case atStart=>exact ⟨(y421),(0),vX,H',⟨Nat.le_refl _⟩,⟨rX HO423.out⟩,⟨bX HB.out⟩⟩
 case round =>
 clear H'
 try clear c2
 try clear c2b0
 try clear c2b1
 try clear c3
 try clear c3b0
 try clear c3b1
 obtain ⟨x3_1,x4_1,rfl,HA,HK1,HO_3,HB⟩:=hrel
 cases gk with
 | zero=>exact absurd HA.out (by simp [laws_toIntS.l0])
 | succ k1 =>
 have H:=HA.out
 clear HA
 simp only [laws_toIntS.l0] at H
 by_cases c6:x4_1<(l0.length:Int)
 {
 rw [if_pos c6] at H
 have c6b0:=decide_eq_true c6
 clear c6
 by_cases c7:0≤x4_1
 {
 rw [if_pos c7] at H
 have c7b0:=decide_eq_true c7
 clear c7
 by_cases c8:x4_1<(x3_1.length:Int)
 {
 rw [if_pos c8] at H
 have c8b0:=decide_eq_true c8
 clear c8
 obtain ⟨y425,hy425⟩:∃ y_:List Int,y_=(x3_1.set (x4_1:Int).toNat (rd l0 x4_1)):=⟨_,rfl⟩
 replace H:(laws_toIntS.l0 k1 l0 y425 (wrap64 (x4_1+1)))=some r:=by first|(rw [hy425];with_reducible exact H)|(have H2_:=(Option.bind_some _ _).symm.trans H;rw [hy425];with_reducible exact H2_)|(have H2_:=(Option.bind_some _ _).symm.trans H;with_reducible exact H2_)|with_reducible exact H|(rw [hy425];exact H)|exact H
 have Ny425:=aM hy425
 clear hy425
 have H':=aM H
 clear H
 have p424:0≤(x4_1:Int):=dX
 have q424:x4_1<(l0.length:Int):=dX
 obtain ⟨ad424,e424,hx424_0⟩:=Kd.at_int HR0.out x4_1 p424 q424
 cases e424
 replace hx424_0:=(HB.out.cell (World.block_lt_of_cell? w _ hx424_0)).trans hx424_0
 replace p424:=eq_true p424
 replace q424:=eq_true q424
 have p9:0≤(x4_1:Int):=dX
 have q9:(x4_1:Int)<((x3_1.length:Int):Int):=dX
 obtain ⟨go9,co9,eo9,gb9,gl9,cl9,HG9⟩:=Kd.R_form HO_3.out (by omega)
 (first|cases eo9|(injection eo9 with ea_ en_ ec_;(first|subst ea_|(injection ea_ with ea_;subst ea_));subst ec_;clear en_))
 have GB9:=aM gb9
 have GG9:=aM HG9
 clear gb9 gl9 HG9
 obtain ⟨hx9_0,hf9_0⟩:=Kd.R_celln 0 HO_3.out (x4_1:Int) p9 q9
 replace p9:=eq_true p9
 replace q9:=eq_true q9
 have HP10:=Kd.R_putg HO_3.out (x4_1:Int) (rd l0 x4_1)
 go_wp2_with (first|((with_reducible refine gate_store (t:=3) (p:=20) rfl ?_);refine store_event (t:=3) (p:=20) (v:=?vo_w11) (w1:=(wr.setCell ⟨go9,(x4_1:Int).toNat,none⟩ (.int .i64 (rd l0 x4_1)))) ?hg ?ho ?hn ?hr ?_;(case ho=>rfl);(case hg=>rfl);(case hn=>rfl);(case hr=>first|(go_simp;done)|(go_simp;rfl));intro w11 hw;have hg:wr.grownBy w11 (some go9):=(by rw [hw];exact HP10.2);have hp_:Kd.R (Kd.int .i64) 3 w11 w.heap.size (fun _=>True) (.slice (some ⟨go9,0,none⟩) x3_1.length co9) y425:=(by rw [hw,Ny425.out];exact HP10.1);clear HP10;replace HO_3:=aM (hp_);replace HB:=aM ((by rw [hw];exact below_set (HB.out) GB9.out:Below w.heap.size w w11));clear hg hw hp_))
 go_roundg k1
 case measure=>have:=HK1.out;omega
 case rel=>exact ⟨(y425),(wrap64 (x4_1+1)),vX,H',⟨by have:=HK1.out;omega⟩,⟨rX HO_3.out⟩,⟨bX HB.out⟩⟩
 }
 {
 rw [if_neg c8] at H
 exact absurd H (by simp)
 }
 }
 {
 rw [if_neg c7] at H
 exact absurd H (by simp)
 }
 }
 {
 rw [if_neg c6] at H
 have c6b0:=decide_eq_false c6
 clear c6
 obtain rfl:=Option.some.inj H
 go_wp2
 go_ret
 exact ⟨_,eX,by(with_reducible repeat(first|apply rA|apply rN|apply rD));exact HO_3.out,bX HB.out⟩
 }
 }
 {
 rw [if_neg c3] at H
 exact absurd H (by simp)
 }
 }
 {
 rw [if_neg c2] at H
 exact absurd H (by simp)
 }

/-! ### laws_toSurface: function 6 -/
def laws_toSurface.f (k:Nat) (l0_0:List Int) (l0_1:List Int):Option (List Int × List Int):=(laws_toIntS.f k l0_0).bind fun t429=>((laws_toIntS.f k l0_1).bind fun t432=>(some (t429,t432)))
theorem laws_toSurface.calls (k:Nat) (A0_0:Option Addr) (c0_0:Nat) (l0_0:List Int) (A0_1:Option Addr) (c0_1:Nat) (l0_1:List Int) (r1:List Int) (r2:List Int) (w:World) (hr0_0:Kd.C (Kd.int .i64) w A0_0 l0_0.length l0_0) (hc0_0:l0_0.length≤c0_0) (hr0_1:Kd.C (Kd.int .i64) w A0_1 l0_1.length l0_1) (hc0_1:l0_1.length≤c0_1) (h:laws_toSurface.f k l0_0 l0_1=some (r1,r2)) :
  Calls Tryz.prog 6 #[.agg #[.slice A0_0 l0_0.length c0_0,.slice A0_1 l0_1.length c0_1]] w fun e w'=>∃ v0_ v1_:Value,e = .returned (.agg #[v0_,v1_])∧Kd.R (Kd.int .i64) 3 w' w.heap.size (fun k_=>some k_≠(v1_:Value).ownBlock) v0_ r1∧Kd.R (Kd.int .i64) 3 w' w.heap.size (fun k_=>some k_≠(v0_:Value).ownBlock) v1_ r2∧Below w.heap.size w w':=by
 have hu24:=Tryz.underlying24
 have hu27:=Tryz.underlying27
 have HR0_0:=aM hr0_0
 have HC0_0:=aM hc0_0
 clear hr0_0 hc0_0
 have HR0_1:=aM hr0_1
 have HC0_1:=aM hc0_1
 clear hr0_1 hc0_1
 have HB:=aM (Below.refl w.heap.size w)
 have H:((laws_toIntS.f k l0_0).bind fun t429=>((laws_toIntS.f k l0_1).bind fun t432=>(some (t429,t432))))=some (r1,r2):=h
 clear h
 replace H:=oB H
 obtain ⟨t429,A20,H⟩:=H
 have A2:=aM A20
 clear A20
 replace H:=oB H
 obtain ⟨t432,A30,H⟩:=H
 have A3:=aM A30
 clear A30
 simp only [Option.some.injEq,Prod.mk.injEq] at H
 obtain ⟨rfl,rfl⟩:=H
 go_enter Tryz.func6,Tryz.ntmps6
 go_wp2_with (first|((with_reducible refine gate_dst (N:=1) rfl ?_);refine bEv (cs:=#[.slice A0_0 l0_0.length c0_0,.slice A0_1 l0_1.length c0_1]) (t:=24) ?_;intro gb426 hg w4 hbox hb;have BK426:=aM (hbox);have GW426:=aM ((szX (below_size (bX HB.out)) hg:w.heap.size≤gb426));have GE426:=GW426;replace HB:=aM (below_step (bX HB.out) hb);clear hb hbox hg)|((with_reducible refine gate_dst (N:=2) rfl ?_);refine bEv (cs:=#[.slice none 0 0,.slice none 0 0]) (t:=27) ?_;intro gb427 hg w5 hbox hb;have BK427:=aM (hbox);have GW427:=aM ((szX (below_size (bX1 HB.out GE426.out)) hg:w.heap.size≤gb427));have GE427:=GW427;replace HB:=aM (below_step (bX1 HB.out GE426.out) hb);have NB426_427:=aM (neX BK426.out hg);have NB427_426:=aM (nfX BK426.out hg);replace BK426:=aM (bbX BK426.out hb);clear hb hbox hg)|((with_reducible refine gate_dst (N:=3) rfl ?_);refine bEv (cs:=#[.slice none 0 0,.slice none 0 0]) (t:=27) ?_;intro gb428 hg w6 hbox hb;have BK428:=aM (hbox);have GW428:=aM ((szX (below_size (bX2 HB.out GE426.out GE427.out)) hg:w.heap.size≤gb428));have GE428:=GW428;replace HB:=aM (below_step (bX2 HB.out GE426.out GE427.out) hb);have NB426_428:=aM (neX BK426.out hg);have NB428_426:=aM (nfX BK426.out hg);replace BK426:=aM (bbX BK426.out hb);have NB427_428:=aM (neX BK427.out hg);have NB428_427:=aM (nfX BK427.out hg);replace BK427:=aM (bbX BK427.out hb);clear hb hbox hg;have hnb7:=NB426_427.out;have hnc7:=NB427_426.out;have hnb8:=NB426_428.out;have hnc8:=NB428_426.out;obtain ⟨hcz9_0,hcz9_1,hfz9_0,hfz9_1⟩:=f2Z BK426.out)|((with_reducible refine gate_callee (f:=15) rfl ?_);refine goesL_ (some 6) rfl rfl Tryz.func15 (by kernel_rfl) rfl #[.slice A0_0 l0_0.length c0_0] rfl aX ?_;(with_reducible refine(laws_toIntS.calls k _ _ l0_0 t429 _ ?side1 ?side2 A2.out).mono ?_);(case side1=>exact cX (Kd.C_below HR0_0.out HB.out));(case side2=>exact HC0_0.out);rintro e w10 ⟨v430,rfl,ho0,hb⟩;refine ⟨_,rfl,?_⟩;have HO431:=aM (Kd.R_lower ho0 (below_size (bX3 HB.out GE426.out GE427.out GE428.out)));replace BK426:=aM (bbX BK426.out hb);replace BK427:=aM (bbX BK427.out hb);replace BK428:=aM (bbX BK428.out hb);replace HB:=aM (below_step (bX3 HB.out GE426.out GE427.out GE428.out) hb);(try clear hb);(try clear hk);(try clear ho0);obtain ⟨Ao11,co11,eo11⟩:=Kd.R_slice HO431.out;subst eo11;have hnb12:=NB428_427.out;have hnc12:=NB427_428.out;obtain ⟨hcz13_0,hcz13_1,hfz13_0,hfz13_1⟩:=f2Z BK428.out;obtain ⟨hcz14_0,hcz14_1,hfz14_0,hfz14_1⟩:=f2Z BK426.out)|((with_reducible refine gate_callee (f:=15) rfl ?_);refine goesL_ (some 10) rfl rfl Tryz.func15 (by kernel_rfl) rfl #[.slice A0_1 l0_1.length c0_1] rfl aX ?_;(with_reducible refine(laws_toIntS.calls k _ _ l0_1 t432 _ ?side1 ?side2 A3.out).mono ?_);(case side1=>exact Kd.C_below HR0_1.out (bX3 HB.out GE426.out GE427.out GE428.out));(case side2=>exact HC0_1.out);rintro e w15 ⟨v433,rfl,ho0,hb⟩;refine ⟨_,rfl,?_⟩;have HO434:=aM (Kd.R_lower (Kd.R_new' ho0 (Kd.R_lt (rX (fr1 HO431.out BK428.out (.slice Ao11 t429.length co11))))) (below_size (bX3 HB.out GE426.out GE427.out GE428.out)));replace HO431:=aM (Kd.R_elder' (rX (fr1 HO431.out BK428.out (.slice Ao11 t429.length co11))) (Kd.R_base ho0) hb);replace BK426:=aM (blk_below (g:=gb426) (o:=.cells #[.slice A0_0 l0_0.length c0_0,.slice A0_1 l0_1.length c0_1] 24 (0,0)) (by(with_reducible repeat(first|refine kN ?_ _|refine kD ?_|refine kA ?_ _));refine blk_far ?_ NB426_428.out _;(with_reducible repeat(first|refine kN ?_ _|refine kD ?_|refine kA ?_ _));exact BK426.out) hb);replace BK427:=aM (blk_below (g:=gb427) (o:=.cells #[.slice none 0 0,.slice none 0 0] 27 (0,0)) (by(with_reducible repeat(first|refine kN ?_ _|refine kD ?_|refine kA ?_ _));refine blk_far ?_ NB427_428.out _;(with_reducible repeat(first|refine kN ?_ _|refine kD ?_|refine kA ?_ _));exact BK427.out) hb);replace BK428:=aM (blk_below (g:=gb428) (o:=.cells #[.slice Ao11 t429.length co11,.slice none 0 0] 27 (0,0)) (by(with_reducible repeat(first|refine kN ?_ _|refine kD ?_|refine kA ?_ _));refine blk_put (cs:=#[.slice none 0 0,.slice none 0 0]) ?_ 0 _ rfl;(with_reducible repeat(first|refine kN ?_ _|refine kD ?_|refine kA ?_ _));exact BK428.out) hb);replace HB:=aM (below_step (bX3 HB.out GE426.out GE427.out GE428.out) hb);(try clear hb);(try clear hk);(try clear ho0);obtain ⟨Ao16,co16,eo16⟩:=Kd.R_slice HO434.out;subst eo16;obtain ⟨hcz17_0,hcz17_1,hfz17_0,hfz17_1⟩:=f2Z BK428.out;obtain ⟨hcz18_0,hcz18_1,hfz18_0,hfz18_1⟩:=f2Z BK427.out))
 refine bodyPost_ret (results_cell_row rfl _ _ gb427 27 #[.slice Ao11 t429.length co11,.slice Ao16 t432.length co16] (0,0) _ rfl (by(with_reducible repeat(first|refine kN ?_ _|refine kD ?_|refine kA ?_ _));refine blk_put (cs:=#[.slice Ao11 t429.length co11,.slice none 0 0]) ?_ 1 _ rfl;(with_reducible repeat(first|refine kN ?_ _|refine kD ?_|refine kA ?_ _));refine blk_put (cs:=#[.slice none 0 0,.slice none 0 0]) ?_ 0 _ rfl;(with_reducible repeat(first|refine kN ?_ _|refine kD ?_|refine kA ?_ _));refine blk_far ?_ NB427_428.out _;(with_reducible repeat(first|refine kN ?_ _|refine kD ?_|refine kA ?_ _));exact BK427.out) Tryz.underlying27 rfl (by kernel_rfl)) rfl ?_
 exact ⟨_,_,eX,by(with_reducible repeat(first|apply rA|apply rN|apply rD));exact Kd.R_mono (Kd.R_far (p:=⟨gb427,1,none⟩) (Kd.R_far (p:=⟨gb427,0,none⟩) (Kd.R_far (p:=⟨gb428,1,none⟩) (Kd.R_types (Kd.R_types HO431.out BK428.out (by decide)) BK427.out (by decide)) (fun _ hk=>hk.1.2) (.slice Ao16 t432.length co16)) (fun _ hk=>hk.2) (.slice Ao11 t429.length co11)) (fun _ hk=>hk.2) (.slice Ao16 t432.length co16)) (fun _ hk=>hk.1.1.2),by(with_reducible repeat(first|apply rA|apply rN|apply rD));exact Kd.R_mono (Kd.R_far (p:=⟨gb427,1,none⟩) (Kd.R_far (p:=⟨gb427,0,none⟩) (Kd.R_far (p:=⟨gb428,1,none⟩) (Kd.R_types (Kd.R_types HO434.out BK428.out (by decide)) BK427.out (by decide)) (fun _ hk=>hk.1.2) (.slice Ao16 t432.length co16)) (fun _ hk=>hk.2) (.slice Ao11 t429.length co11)) (fun _ hk=>hk.2) (.slice Ao16 t432.length co16)) (fun _ hk=>hk.1.1.2),bX3 HB.out GE426.out GE427.out GE428.out⟩

/-! ### impl_PermOk: function 40 -/
/-! by hand -/
def permGo (n:Int):List Int→List Bool→Bool
  | [],_=>true
  | x :: xs,seen=>if x<0 then false else if n≤x then false else if seen.getD x.toNat false=true then false else permGo n xs (seen.set x.toNat true)
def no24 : List Bool:=List.replicate 24 false
theorem no24_len : no24.length=24:=rfl
def permB (p:List Int):Bool:=if p.length≤24 then permGo p.length p no24 else false
def impl_PermOk.f (l0:List Int):Option Bool:=some (permB l0)
def flags (l:List Bool):Array Value:=(bools l).toArray
theorem flags_size (l:List Bool):(flags l).size=l.length:=by simp [flags,bools]
theorem flags_one (l:List Bool):(flags l).all (·.oneCell')=true:=by
 simp [flags,bools,Value.oneCell']
theorem flags_get (l:List Bool) (i:Int) (h0:0≤i) (h:i<l.length):(flags l)[i.toNat]? = some (.bool (l.getD i.toNat false)):=by
 have:i.toNat<l.length:=by omega
 simp [flags,bools,this]
theorem flags_set (l:List Bool) (i:Nat) (b:Bool):(flags l).setIfInBounds i (.bool b)=flags (l.set i b):=by
 simp [flags,bools]
theorem impl_PermOk.calls_le (A0:Option Addr) (c0:Nat) (l0:List (Int)) (r:Bool) (w:World) (hr0:Kd.C (Kd.int .i64) w A0 l0.length l0) (hc0:l0.length≤c0) (hle:l0.length≤24) (hres:permGo l0.length l0 no24=r) :
    Calls Tryz.prog 40 #[.slice A0 l0.length c0] w fun e w'=>e = .returned (.bool r)∧Below w.heap.size w w':=by
  have HR0:=aM hr0
  clear hr0
  have HRES:=aM hres
  clear hres
  have hu:=Tryz.underlying74
  have hb24:decide (24<(l0.length:Int))=false:=decide_eq_false (by omega)
  have HF:Aside0 (flags no24=#[.bool false,.bool false,.bool false,.bool false,.bool false,.bool false,.bool false,.bool false,.bool false,.bool false,.bool false,.bool false,.bool false,.bool false,.bool false,.bool false,.bool false,.bool false,.bool false,.bool false,.bool false,.bool false,.bool false,.bool false]):=⟨rfl⟩
  go_enter Tryz.func40,Tryz.ntmps40
  go_wp2_with (first
    | ((with_reducible refine gate_dst (N:=6) rfl ?_);refine wpList_build rfl 74 #[] rfl (by kernel_rfl) ?_;rw [show (Value.agg ((Tryz.prog.built 74 ((#[]:Array (Nat × Operand)).map fun (i,x)=>(i,Act.eval _ x)).toList).getD #[])) = .agg (flags no24) from by kernel_rfl])
    | ((with_reducible refine gate_dst (N:=3) rfl ?_);refine box_event ?hg (N:=3) ?hd (cs:=flags no24) (t:=74) ?hr ?_;(case hd=>rfl);(case hg=>rfl);(case hr=>rw [HF.out];first|(go_simp;done)|(go_simp;rfl));intro gb hg w8 hbox hb;have BK:=aM hbox;have HB:=aM hb;have GB:=aM hg;clear hbox hb hg)
    | (refine wpList_store_row rfl 74 (.tmp 3) (.tmp 6) rfl gb (flags no24) rfl rfl 74 (flags no24) BK.out (by kernel_rfl) rfl (flags_one _) ?_))
  have HC:=aM (show (w8.setRow gb (flags no24)).heap[gb]? = some (.cells (flags no24) 74 (0,0)) from setRow_heap w8 gb (flags no24) (flags no24) 74 _ BK.out)
  have HB2:=aM (show Below w.heap.size w (w8.setRow gb (flags no24)) from below_setRow HB.out (by rw [GB.out];exact Nat.le_refl _) _)
  go_loopg [12] (l0.length+1) (fun kq v12 w'=>∃ (i:Int) (seen:List Bool),v12 = .int .i64 i∧Aside0 (0≤i∧i≤l0.length∧(kq:Int)+i=l0.length+1∧seen.length=24∧permGo l0.length (l0.drop i.toNat) seen=r)∧Aside0 (w'.heap[gb]? = some (.cells (flags seen) 74 (0,0)))∧Aside0 (Below w.heap.size w w'))
  case atStart=>exact ⟨0,no24,rfl,⟨by omega,by omega,by simp,no24_len,HRES.out⟩,HC,HB2⟩
  case round =>
    clear HC HB2 BK HB
    obtain ⟨i,seen,rfl,HI,HC,HB⟩:=hrel
    obtain ⟨hi0,hi1,hik,hsl,hgo⟩:=HI.out
    clear HI
    obtain ⟨k1,rfl⟩:∃ m,gk=m+1:=⟨gk - 1,by omega⟩
    have HGO:=aM hgo
    have HK:=aM hik
    clear hgo hik
    by_cases hlt:i<(l0.length:Int)
    · have c1:decide (i<(l0.length:Int))=true:=decide_eq_true hlt
      obtain ⟨ad,ead,hx⟩:=Kd.at_int (Kd.C_below HR0.out HB.out) i hi0 hlt
      cases ead
      have hdrop:l0.drop i.toNat=rd l0 i :: l0.drop (i+1).toNat:=by
        have h1:i.toNat<l0.length:=by omega
        rw [show (i+1).toNat=i.toNat+1 by omega,List.drop_eq_getElem_cons h1]
        simp [rd,List.getD,h1]
      have HD:=aM hdrop
      clear hdrop
      generalize hX:rd l0 i=x at *
      have HX:=aM hX
      clear hX
      have p0:decide (0≤i)=true:=decide_eq_true hi0
      have HW:=aM (show wrap64 (i+1)=i+1 from by unfold wrap64;omega)
      replace hi0:=eq_true hi0
      replace hlt:=eq_true hlt
      by_cases h1:x<0
      · have c2:decide (x<0)=true:=decide_eq_true h1
        have hr:r=false:=by
          have:=HGO.out
          rw [HD.out] at this
          simp only [permGo] at this
          rw [if_pos h1] at this
          exact this.symm
        subst hr
        clear h1
        go_wp2
        go_ret
        exact ⟨rfl,HB.out⟩
      · have c2:decide (x<0)=false:=decide_eq_false h1
        have h1':0≤x:=by omega
        by_cases h2:(l0.length:Int)≤x
        · have c3:decide ((l0.length:Int)≤x)=true:=decide_eq_true h2
          have hr:r=false:=by
            have:=HGO.out
            rw [HD.out] at this
            simp only [permGo] at this
            rw [if_neg h1,if_pos h2] at this
            exact this.symm
          subst hr
          clear h1 h2
          go_wp2
          go_ret
          exact ⟨rfl,HB.out⟩
        · have c3:decide ((l0.length:Int)≤x)=false:=decide_eq_false h2
          have hx24:x<24:=by omega
          have hcell:∀ b,seen.getD x.toNat false=b→wr.cell? ⟨gb,x.toNat,none⟩=some (.bool b):=by
            intro b hb
            rw [Go.Joins.cell_of_block HC.out,flags_get seen x h1' (by omega),hb]
          have hfro:=Go.Joins.unfrozen_of_block HC.out x.toNat
          have hsx:decide (0≤x)=true:=decide_eq_true h1'
          have hsx2:decide (x<24)=true:=decide_eq_true hx24
          by_cases h3:seen.getD x.toNat false=true
          · have hr:r=false:=by
              have:=HGO.out
              rw [HD.out] at this
              simp only [permGo] at this
              rw [if_neg h1,if_neg h2,if_pos h3] at this
              exact this.symm
            subst hr
            have hc2:=hcell true h3
            clear h1 h2 h3 hcell
            go_wp2
            go_ret
            exact ⟨rfl,HB.out⟩
          · have h3':seen.getD x.toNat false=false:=by simpa using h3
            have hg2:permGo l0.length (l0.drop (i+1).toNat) (seen.set x.toNat true)=r:=by
              have:=HGO.out
              rw [HD.out] at this
              simp only [permGo] at this
              rw [if_neg h1,if_neg h2,if_neg h3] at this
              exact this
            have HG2:=aM hg2
            have hc2:=hcell false h3'
            have HC2:Aside0 ((wr.setCell ⟨gb,x.toNat,none⟩ (.bool true)).heap[gb]? = some (.cells (flags (seen.set x.toNat true)) 74 (0,0))):=⟨by rw [Go.Joins.block_setCell HC.out,flags_set]⟩
            have HB2:Aside0 (Below w.heap.size w (wr.setCell ⟨gb,x.toNat,none⟩ (.bool true))):=⟨HB.out.setCell (by rw [GB.out];exact Nat.le_refl _) _⟩
            clear h1 h2 h3 h3' hg2 hcell
            go_wp2
            go_roundg k1
            case measure=>omega
            case rel=>exact ⟨i+1,_,by rw [HW.out],⟨by simp at hi0;omega,by simp at hlt;omega,by have:=HK.out;simp at this ⊢;omega,by simpa using hsl,HG2.out⟩,HC2,HB2⟩
    · have hie:i=l0.length:=by omega
      have hr:r=true:=by
        have:=HGO.out
        rw [show l0.drop i.toNat=[] from by rw [hie];simp] at this
        simp only [permGo] at this
        exact this.symm
      subst hr
      have c1:decide (i<(l0.length:Int))=false:=decide_eq_false hlt
      clear hlt hie
      go_wp2
      go_ret
      exact ⟨rfl,HB.out⟩
theorem impl_PermOk.calls (A0:Option Addr) (c0:Nat) (l0:List Int) (r:Bool) (w:World) (hr0:Kd.C (Kd.int .i64) w A0 l0.length l0) (hc0:l0.length≤c0) (h:impl_PermOk.f l0=some r) :
    Calls Tryz.prog 40 #[.slice A0 l0.length c0] w fun e w'=>e = .returned (.bool r)∧Below w.heap.size w w':=by
  unfold impl_PermOk.f permB at h
  by_cases hle:l0.length≤24
  · rw [if_pos hle] at h
    exact impl_PermOk.calls_le A0 c0 l0 r w hr0 hc0 hle (Option.some.inj h)
  · rw [if_neg hle] at h
    obtain rfl:=Option.some.inj h
    have HR0:=aM hr0
    clear hr0
    have hu:=Tryz.underlying74
    have hb24:decide (24<(l0.length:Int))=true:=decide_eq_true (by omega)
    have HF:Aside0 (flags no24=#[.bool false,.bool false,.bool false,.bool false,.bool false,.bool false,.bool false,.bool false,.bool false,.bool false,.bool false,.bool false,.bool false,.bool false,.bool false,.bool false,.bool false,.bool false,.bool false,.bool false,.bool false,.bool false,.bool false,.bool false]):=⟨rfl⟩
    clear hle
    go_enter Tryz.func40,Tryz.ntmps40
    go_wp2_with (first
      | ((with_reducible refine gate_dst (N:=6) rfl ?_);refine wpList_build rfl 74 #[] rfl (by kernel_rfl) ?_;rw [show (Value.agg ((Tryz.prog.built 74 ((#[]:Array (Nat × Operand)).map fun (i,x)=>(i,Act.eval _ x)).toList).getD #[])) = .agg (flags no24) from by kernel_rfl])
      | ((with_reducible refine gate_dst (N:=3) rfl ?_);refine box_event ?hg (N:=3) ?hd (cs:=flags no24) (t:=74) ?hr ?_;(case hd=>rfl);(case hg=>rfl);(case hr=>rw [HF.out];first|(go_simp;done)|(go_simp;rfl));intro gb hg w8 hbox hb;have BK:=aM hbox;have HB:=aM hb;have GB:=aM hg;clear hbox hb hg)
      | (refine wpList_store_row rfl 74 (.tmp 3) (.tmp 6) rfl gb (flags no24) rfl rfl 74 (flags no24) BK.out (by kernel_rfl) rfl (flags_one _) ?_))
    have HB2:=aM (show Below w.heap.size w (w8.setRow gb (flags no24)) from below_setRow HB.out (by rw [GB.out];exact Nat.le_refl _) _)
    go_ret
    exact ⟨rfl,HB2.out⟩

end Go.Proofs.YtpieaniigkgmoaaGreatDoor.S
