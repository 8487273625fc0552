-- PRINTED by print.py (a twelfth state) out of the translation. Not trusted: Lean checks it.
import Derived.Test.YtmhjcbcjpidegaaS0
import Derived.Test.YtmhjcbcjpidegaaS3
import Derived.Test.YtmhjcbcjpidegaaS4
import Derived.Test.YtmhjcbcjpidegaaS5
import Derived.Test.YtmhjcbcjpidegaaS6
import Derived.Test.YtmhjcbcjpidegaaS7
namespace Go.Proofs.Ytmhjcbcjpidegaa.S
set_option maxHeartbeats 8000000
set_option maxRecDepth 100000
open Go.RowKit Go.Proofs.YtmhjcbcjpidegaaW.PrintWords Go.Proofs.YtmhjcbcjpidegaaW.PrintLast Go.Proofs.YtmhjcbcjpidegaaW.PrintMore
attribute [local go_sem] max2_int min2_int max_two min_two max_three min_three max_four min_four   -- for this text's walks alone
set_option linter.unusedVariables false
set_option linter.unusedSimpArgs false

/-! ### spec_l06Orbit: function 40 -/
mutual
def spec_l06Orbit.l0 : Nat→List (S27)→List ByteArray→Int→Option ((List (S27)) × List ByteArray × Bool)
 | 0,_,_,_=>none
 | k+1,x5,x6,x7=>if x7<(x5.length:Int) then ((some (([84,83]:List Int):List Int)).bind fun y482=>(spec_l06Orbit.l1 k x5 x6 x7 y482 (y482.length:Int) 0)) else (some (x5,x6,true))
def spec_l06Orbit.l1 : Nat→List (S27)→List ByteArray→Int→List Int→Int→Int→Option ((List (S27)) × List ByteArray × Bool)
 | 0,_,_,_,_,_,_=>none
 | k+1,x5,x6,x7,x21,x22,x23=>if x23<x22 then (if 0≤x23 then (if x23<(x21.length:Int) then (if 0≤x7 then (if x7<(x5.length:Int) then ((spec_l05Letter.f k ((rd_T27 x5 x7).f0) ((rd_T27 x5 x7).f1) (rd x21 x23)).bind fun bt487=>((spec_l03Canon.f k bt487.1 bt487.2).bind fun bt493=>((spec_l06Find.f k x5 bt493.1 bt493.2).bind fun t500=>(if t500<0 then (if x5.length<2932031007402 then (if x7<(x6.length:Int) then ((some (([rd x21 x23]:List Int):List Int)).bind fun y505=>(if (rdOf ByteArray.empty x6 x7).size+(strOfNums y505).size≤9223372036854775807 then (if x6.length<8796093022208 then (spec_l06Orbit.l1 k (x5 ++ [(⟨bt493.1,bt493.2⟩:S27)]) (x6 ++ [(rdOf ByteArray.empty x6 x7) ++ (strOfNums y505)]) x7 x21 x22 (wrap64 (x23+1))) else (none)) else (none))) else (none)) else (none)) else (spec_l06Orbit.l1 k x5 x6 x7 x21 x22 (wrap64 (x23+1))))))) else (none)) else (none)) else (none)) else (none)) else (if (x5.length:Int) > 120 then (some (([]:List (S27)),([]:List ByteArray),false)) else (spec_l06Orbit.l0 k x5 x6 (wrap64 (x7+1))))
end
def spec_l06Orbit.f (k:Nat) (l0_0:List Int) (l0_1:List Int):Option ((List (S27)) × List ByteArray × Bool):=(spec_l03Canon.f k l0_0 l0_1).bind fun bt470=>(spec_l06Orbit.l0 k (([(⟨bt470.1,bt470.2⟩:S27)]:List (S27))) (([(⟨#[]⟩:ByteArray)]:List ByteArray)) 0)
def spec_l06Orbit.T12 : Bool × List (List Nat × List Nat):=(true,[([],[]),([],[]),([],[]),([1,2],[1,2]),([3],[3]),([],[]),([5],[5]),([6],[6]),([4,7],[4,7]),([8],[8]),([0,9],[0,9]),([10,10,0,1,2,3,4,5,6,7,8,9,10],[0,1,10])])
def spec_l06Orbit.B12 : List Nat:=[0,0,0,6,14,0,32,96,254,510,1023,2047]
theorem spec_l06Orbit.tab12 : rtab .any (opsOf Try.f40 12)=spec_l06Orbit.T12:=by kernel_rfl
theorem spec_l06Orbit.bits12 : waitsOk spec_l06Orbit.T12.2 spec_l06Orbit.B12=true:=by kernel_rfl
theorem spec_l06Orbit.calls (k:Nat) (A0_0:Option Addr) (c0_0:Nat) (l0_0:List Int) (A0_1:Option Addr) (c0_1:Nat) (l0_1:List Int) (r1:List (S27)) (r2:List ByteArray) (r3:Bool) (w:World) (hr0_0:Kd.C (Kd.int .i64) w A0_0 l0_0.length l0_0) (hc0_0:l0_0.length≤c0_0) (hr0_1:Kd.C (Kd.int .i64) w A0_1 l0_1.length l0_1) (hc0_1:l0_1.length≤c0_1) (h:spec_l06Orbit.f k l0_0 l0_1=some (r1,r2,r3)) :
  Calls Try.prog 40 #[.agg #[.slice A0_0 l0_0.length c0_0,.slice A0_1 l0_1.length c0_1]] w fun e w'=>∃ v0_ v1_:Value,e = .returned (.tuple #[v0_,v1_,.bool r3])∧Kd.N k27 27 w' w.heap.size (fun k_=>(w.heap.size≤k_)∧some k_≠(v1_:Value).ownBlock) v0_ r1∧Kd.R Kd.string 9 w' w.heap.size (fun k_=>(w.heap.size≤k_)) v1_ r2∧Below w.heap.size w w':=by
 have hu27:=Try.underlying27
 have HR0_0:=aM hr0_0
 have HC0_0:=aM hc0_0
 clear hr0_0 hc0_0
 have HR0_1:=aM hr0_1
 have HC0_1:=aM hc0_1
 clear hr0_1 hc0_1
 have HB:=aM (Below.refl w.heap.size w)
 have H:((spec_l03Canon.f k l0_0 l0_1).bind fun bt470=>(spec_l06Orbit.l0 k (([(⟨bt470.1,bt470.2⟩:S27)]:List (S27))) (([(⟨#[]⟩:ByteArray)]:List ByteArray)) 0))=some (r1,r2,r3):=h
 clear h
 replace H:=oB H
 obtain ⟨⟨t470,t473⟩,A20,H⟩:=H
 replace H:(spec_l06Orbit.l0 k (([(⟨t470,t473⟩:S27)]:List (S27))) (([(⟨#[]⟩:ByteArray)]:List ByteArray)) 0)=some (r1,r2,r3):=H
 have A2:=aM A20
 clear A20
 obtain ⟨y476,hy476⟩:∃ y_:List (S27),y_=(([(⟨t470,t473⟩:S27)]:List (S27))):=⟨_,rfl⟩
 replace H:(spec_l06Orbit.l0 k y476 (([(⟨#[]⟩:ByteArray)]:List ByteArray)) 0)=some (r1,r2,r3):=by first|(rw [hy476];with_reducible exact H)|(have H2_:=(Option.bind_some _ _).symm.trans H;rw [hy476];with_reducible exact H2_)|(have H2_:=(Option.bind_some _ _).symm.trans H;with_reducible exact H2_)|with_reducible exact H|(rw [hy476];exact H)|exact H
 have Ny476:=aM hy476
 clear hy476
 obtain ⟨y479,hy479⟩:∃ y_:List ByteArray,y_=(([(⟨#[]⟩:ByteArray)]:List ByteArray)):=⟨_,rfl⟩
 replace H:(spec_l06Orbit.l0 k y476 y479 0)=some (r1,r2,r3):=by first|(rw [hy479];with_reducible exact H)|(have H2_:=(Option.bind_some _ _).symm.trans H;rw [hy479];with_reducible exact H2_)|(have H2_:=(Option.bind_some _ _).symm.trans H;with_reducible exact H2_)|with_reducible exact H|(rw [hy479];exact H)|exact H
 have Ny479:=aM hy479
 clear hy479
 have H':=aM H
 clear H
 go_enter Try.func40,Try.ntmps40
 go_wp2_with (first|((with_reducible refine gate_dst (N:=1) rfl ?_);refine bEv (cs:=#[.slice A0_0 l0_0.length c0_0,.slice A0_1 l0_1.length c0_1]) (t:=27) ?_;intro gb469 hg w3 hbox hb;have BK469:=aM (hbox);have GW469:=aM ((szX (below_size (bX HB.out)) hg:w.heap.size≤gb469));have GE469:=GW469;replace HB:=aM (below_step (bX HB.out) hb);clear hb hbox hg;obtain ⟨hcz4_0,hcz4_1,hfz4_0,hfz4_1⟩:=f2Z BK469.out)|((with_reducible refine gate_callee (f:=42) rfl ?_);refine goesL_ (some 12) rfl rfl Try.func42 (by kernel_rfl) rfl #[.agg #[.slice A0_0 l0_0.length c0_0,.slice A0_1 l0_1.length c0_1]] rfl aX ?_;(with_reducible refine(spec_l03Canon.calls k _ _ l0_0 _ _ l0_1 t470 t473 _ ?side1 ?side2 ?side3 ?side4 A2.out).mono ?_);(case side1=>exact cX (Kd.C_below HR0_0.out HB.out));(case side2=>exact HC0_0.out);(case side3=>exact cX (Kd.C_below HR0_1.out HB.out));(case side4=>exact HC0_1.out);rintro e w5 ⟨v471,v474,rfl,ho0,ho1,hb⟩;refine ⟨_,rfl,?_⟩;have HO472:=aM (Kd.R_lower (Kd.R_newM (M:=fun k_=>(w.heap.size≤k_)) ho0 (below_size (bX1 HB.out GE469.out)) (fun k_ h_=>h_)) (below_size (bX1 HB.out GE469.out)));have HO475:=aM (Kd.R_lower (Kd.R_newM (M:=fun k_=>(w.heap.size≤k_)) ho1 (below_size (bX1 HB.out GE469.out)) (fun k_ h_=>h_)) (below_size (bX1 HB.out GE469.out)));replace BK469:=aM (bbX BK469.out hb);replace HB:=aM (below_step (bX1 HB.out GE469.out) hb);(try clear hb);(try clear hk);(try clear ho0);(try clear ho1);obtain ⟨Ao6,co6,eo6⟩:=Kd.R_slice HO472.out;subst eo6;obtain ⟨Ao7,co7,eo7⟩:=Kd.R_slice HO475.out;subst eo7)|((with_reducible refine gate_dst (N:=13) rfl ?_);refine Kd.N_lit k27 _ 27 ?hg (N':=13) ?hd (xs:=([(⟨t470,t473⟩:S27)]:List (S27))) (inner:=[.slice Ao6 t470.length co6,.slice Ao7 t473.length co7]) (ok:=(fun k_=>(w.heap.size≤k_)∧k_≠gb469)) (okp:=(fun k_=>(w.heap.size≤k_)∧k_≠gb469)) ?hr ?hp (fun _ hk=>hk) ((show ∀ k_,w5.heap.size≤k_→(fun k_=>(w.heap.size≤k_)∧k_≠gb469) k_ from fun k_ hk=>⟨(Nat.le_trans (below_size (bX1 HB.out GE469.out)) hk),Kd.freshB (g:=gb469) (o:=.cells #[.slice A0_0 l0_0.length c0_0,.slice A0_1 l0_1.length c0_1] 27 (0,0)) (kX BK469.out) k_ hk⟩) _ (Nat.le_refl _)) (Below.refl _ _) (Nat.le_refl _) (by simp) ?_;(case hd=>rfl);(case hg=>rfl);(case hr=>first|(go_simp;done)|(go_simp;rfl));(case hp=>exact(Reps.c2 (show Kd.FK k27 _ _ (⟨t470,t473⟩:S27) [.slice Ao6 t470.length co6,.slice Ao7 t473.length co7] from (k27_mkF _ _ (⟨t470,t473⟩:S27) (Kd.R_reads' (Kd.R_mono (ok':=(fun k_=>(w.heap.size≤k_)∧k_≠gb469)) (Kd.R_types (HO472.out) BK469.out (by decide)) (fun k_ hk=>⟨hk.1.1,hk.2⟩))).2.1 (Kd.R_F (Kd.R_mono (ok':=(fun k_=>(w.heap.size≤k_)∧k_≠gb469)) (Kd.R_types (HO472.out) BK469.out (by decide)) (fun k_ hk=>⟨hk.1.1,hk.2⟩))) (Kd.R_reads' (Kd.R_mono (ok':=(fun k_=>(w.heap.size≤k_)∧k_≠gb469)) (Kd.R_types (HO475.out) BK469.out (by decide)) (fun k_ hk=>⟨hk.1.1,hk.2⟩))).2.1 (Kd.R_F (Kd.R_mono (ok':=(fun k_=>(w.heap.size≤k_)∧k_≠gb469)) (Kd.R_types (HO475.out) BK469.out (by decide)) (fun k_ hk=>⟨hk.1.1,hk.2⟩))))) (Reps.none _ _)));intro v477 w8 ho9 hb hg_ hnew_;clear hg_ hnew_;(first|rw [← Ny476.out] at ho9|(simp only [Int.reduceToNat] at ho9;rw [← Ny476.out] at ho9));have HO478:=aM (Kd.N_lower ho9 (below_size (bX1 HB.out GE469.out)));replace BK469:=aM (bbX BK469.out hb);replace HB:=aM (below_step (bX1 HB.out GE469.out) hb);clear HO472 HO475 hb ho9)|((with_reducible refine gate_dst (N:=14) rfl ?_);refine Kd.R_lit Kd.string _ 9 ?hg (N:=14) ?hd (xs:=([(⟨#[]⟩:ByteArray)]:List ByteArray)) (inner:=[.string (⟨#[]⟩:ByteArray)]) (ok:=fun _=>True) (okp:=fun _=>True) ?hr ?hp (fun _ hk=>hk) trivial (Below.refl _ _) (Nat.le_refl _) (by simp) ?_;(case hd=>rfl);(case hg=>rfl);(case hr=>first|(go_simp;done)|(go_simp;rfl));(case hp=>exact(Reps.one (show Kd.M Kd.string _ _ _ (⟨#[]⟩:ByteArray) [.string (⟨#[]⟩:ByteArray)] from rfl) (Reps.none _ _)));intro v480 w10 ho11 hb hg_ hnew_;clear hg_ hnew_;(first|rw [← Ny479.out] at ho11|(simp only [Int.reduceToNat] at ho11;rw [← Ny479.out] at ho11));replace HO478:=aM (Kd.N_elder' (by(with_reducible repeat(first|apply Kd.N_alloc|apply Kd.N_drewN|apply Kd.N_drew));exact HO478.out) (Kd.R_base ho11) hb);have HO481:=aM (Kd.R_lower (Kd.R_newM (M:=fun k_=>(w.heap.size≤k_)) ho11 (below_size (bX1 HB.out GE469.out)) (fun k_ h_=>h_)) (below_size (bX1 HB.out GE469.out)));replace BK469:=aM (bbX BK469.out hb);replace HB:=aM (below_step (bX1 HB.out GE469.out) hb);clear hb ho11))
 go_loopg [5,6,7] k (fun kq v5 v6 v7 w'=>∃ (x5_1:List (S27)) (x6_1:List ByteArray) (x7_1:Int),v7 = .int .i64 x7_1∧Aside0 (spec_l06Orbit.l0 kq x5_1 x6_1 x7_1=some (r1,r2,r3))∧Aside0 (kq≤k)∧Aside0 (Kd.N k27 27 w' w.heap.size (fun k_=>(w.heap.size≤k_)∧some k_≠(v6:Value).ownBlock∧k_≠gb469) v5 x5_1)∧Aside0 (Kd.R Kd.string 9 w' w.heap.size (fun k_=>(w.heap.size≤k_)) v6 x6_1)∧Aside0 (w'.heap[gb469]? = some (.cells #[(.slice A0_0 l0_0.length c0_0),(.slice A0_1 l0_1.length c0_1)] 27 (0,0)))∧Aside0 (Below w.heap.size w w'))
 case atStart=>exact ⟨(y476),(y479),(0),vX,H',⟨Nat.le_refl _⟩,⟨by(with_reducible repeat(first|apply Kd.N_alloc|apply Kd.N_drewN|apply Kd.N_drew));exact Kd.N_mono HO478.out (fun _ hk=>⟨hk.1.1,⟨hk.2,hk.1.2⟩⟩)⟩,⟨rM HO481.out (fun _ hk=>hk.1)⟩,⟨kX BK469.out⟩,⟨bX1 HB.out GE469.out⟩⟩
 case round =>
 clear H'
 try clear c2
 try clear hcz4_0
 try clear hcz4_1
 try clear hfz4_0
 try clear hfz4_1
 obtain ⟨x5_1,x6_1,x7_1,rfl,HA,HK1,HO_5,HO_6,BK469,HB⟩:=hrel
 cases gk with
 | zero=>exact absurd HA.out (by simp [spec_l06Orbit.l0])
 | succ k1 =>
 have H:=HA.out
 clear HA
 simp only [spec_l06Orbit.l0] at H
 by_cases c12:x7_1<(x5_1.length:Int)
 {
 rw [if_pos c12] at H
 have c12b0:=decide_eq_true c12
 clear c12
 obtain ⟨y482,hy482⟩:∃ y_:List Int,y_=(([84,83]:List Int)):=⟨_,rfl⟩
 replace H:(spec_l06Orbit.l1 k1 x5_1 x6_1 x7_1 y482 (y482.length:Int) 0)=some (r1,r2,r3):=by first|(rw [hy482];with_reducible exact H)|(have H2_:=(Option.bind_some _ _).symm.trans H;rw [hy482];with_reducible exact H2_)|(have H2_:=(Option.bind_some _ _).symm.trans H;with_reducible exact H2_)|with_reducible exact H|(rw [hy482];exact H)|exact H
 have Ny482:=aM hy482
 clear hy482
 have H':=aM H
 clear H
 obtain ⟨Ao13,co13,eo13⟩:=Kd.N_slice HO_5.out
 subst eo13
 go_wp2_with (first|((with_reducible refine gate_dst (N:=21) rfl ?_);refine Kd.R_lit (Kd.int .u8) _ 5 ?hg (N:=21) ?hd (xs:=([84,83]:List Int)) (inner:=[.int .u8 84,.int .u8 83]) (ok:=fun _=>True) (okp:=fun _=>True) ?hr ?hp (fun _ hk=>hk) trivial (Below.refl _ _) (Nat.le_refl _) (by simp) ?_;(case hd=>rfl);(case hg=>rfl);(case hr=>first|(go_simp;done)|(go_simp;rfl));(case hp=>exact(Reps.one (show Kd.M (Kd.int .u8) _ _ _ 84 [.int .u8 84] from rfl) (Reps.one (show Kd.M (Kd.int .u8) _ _ _ 83 [.int .u8 83] from rfl) (Reps.none _ _))));intro v483 w14 ho15 hb hg_ hnew_;clear hg_ hnew_;(first|rw [← Ny482.out] at ho15|(simp only [Int.reduceToNat] at ho15;rw [← Ny482.out] at ho15));replace HO_5:=aM (Kd.N_elder' (by(with_reducible repeat(first|apply Kd.N_alloc|apply Kd.N_drewN|apply Kd.N_drew));exact HO_5.out) (Kd.R_base ho15) hb);replace HO_6:=aM (Kd.R_below (rX HO_6.out) hb);have HO484:=aM (Kd.R_lower (Kd.R_newM (M:=fun k_=>(w.heap.size≤k_)) ho15 (below_size (bX1 HB.out GE469.out)) (fun k_ h_=>h_)) (below_size (bX1 HB.out GE469.out)));replace BK469:=aM (bbX BK469.out hb);replace HB:=aM (below_step (bX1 HB.out GE469.out) hb);clear hb ho15;obtain ⟨Ao16,co16,eo16⟩:=Kd.R_slice HO484.out;subst eo16))
 go_loopg [5,6,23] k1 (fun kq v5 v6 v23 w'=>∃ (x5_2:List (S27)) (x6_2:List ByteArray) (x23_2:Int),v23 = .int .i64 x23_2∧Aside0 (spec_l06Orbit.l1 kq x5_2 x6_2 x7_1 y482 (y482.length:Int) x23_2=some (r1,r2,r3))∧Aside0 (kq≤k1)∧Aside0 (Kd.N k27 27 w' w.heap.size (fun k_=>(w.heap.size≤k_)∧some k_≠(v6:Value).ownBlock∧some k_≠((.slice Ao16 y482.length co16):Value).ownBlock∧k_≠gb469) v5 x5_2)∧Aside0 (Kd.R Kd.string 9 w' w.heap.size (fun k_=>(w.heap.size≤k_)) v6 x6_2)∧Aside0 (Kd.R (Kd.int .u8) 5 w' w.heap.size (fun k_=>(w.heap.size≤k_)) (.slice Ao16 y482.length co16) y482)∧Aside0 (w'.heap[gb469]? = some (.cells #[(.slice A0_0 l0_0.length c0_0),(.slice A0_1 l0_1.length c0_1)] 27 (0,0)))∧Aside0 (Below w.heap.size w w'))
 case atStart=>exact ⟨(x5_1),(x6_1),(0),vX,H',⟨Nat.le_refl _⟩,⟨by(with_reducible repeat(first|apply Kd.N_alloc|apply Kd.N_drewN|apply Kd.N_drew));exact Kd.N_mono HO_5.out (fun _ hk=>⟨hk.1.1,⟨hk.1.2.1,⟨hk.2,hk.1.2.2⟩⟩⟩)⟩,⟨rX HO_6.out⟩,⟨rM HO484.out (fun _ hk=>hk.1)⟩,⟨kX BK469.out⟩,⟨bX1 HB.out GE469.out⟩⟩
 case round =>
 clear H'
 try clear c2
 try clear c12
 try clear c12b0
 try clear hcz4_0
 try clear hcz4_1
 try clear hfz4_0
 try clear hfz4_1
 obtain ⟨x5_2,x6_2,x23_2,rfl,HA,HK2,HO_5,HO_6,HO_21,BK469,HB⟩:=hrel
 cases gk with
 | zero=>exact absurd HA.out (by simp [spec_l06Orbit.l1])
 | succ k2 =>
 have H:=HA.out
 clear HA
 simp only [spec_l06Orbit.l1] at H
 by_cases c17:x23_2<(y482.length:Int)
 {
 rw [if_pos c17] at H
 have c17b0:=decide_eq_true c17
 clear c17
 by_cases c18:0≤x23_2
 {
 rw [if_pos c18] at H
 have c18b0:=decide_eq_true c18
 clear c18
 by_cases c19:x23_2<(y482.length:Int)
 {
 rw [if_pos c19] at H
 have c19b0:=decide_eq_true c19
 clear c19
 by_cases c20:0≤x7_1
 {
 rw [if_pos c20] at H
 have c20b0:=decide_eq_true c20
 clear c20
 by_cases c21:x7_1<(x5_2.length:Int)
 {
 rw [if_pos c21] at H
 have c21b0:=decide_eq_true c21
 clear c21
 replace H:=oB H
 obtain ⟨⟨t487,t490⟩,A220,H⟩:=H
 replace H:((spec_l03Canon.f k2 t487 t490).bind fun bt493=>((spec_l06Find.f k2 x5_2 bt493.1 bt493.2).bind fun t500=>(if t500<0 then (if x5_2.length<2932031007402 then (if x7_1<(x6_2.length:Int) then ((some (([rd y482 x23_2]:List Int):List Int)).bind fun y505=>(if (rdOf ByteArray.empty x6_2 x7_1).size+(strOfNums y505).size≤9223372036854775807 then (if x6_2.length<8796093022208 then (spec_l06Orbit.l1 k2 (x5_2 ++ [(⟨bt493.1,bt493.2⟩:S27)]) (x6_2 ++ [(rdOf ByteArray.empty x6_2 x7_1) ++ (strOfNums y505)]) x7_1 y482 (y482.length:Int) (wrap64 (x23_2+1))) else (none)) else (none))) else (none)) else (none)) else (spec_l06Orbit.l1 k2 x5_2 x6_2 x7_1 y482 (y482.length:Int) (wrap64 (x23_2+1))))))=some (r1,r2,r3):=H
 have A22:=aM A220
 clear A220
 replace H:=oB H
 obtain ⟨⟨t493,t496⟩,A230,H⟩:=H
 replace H:((spec_l06Find.f k2 x5_2 t493 t496).bind fun t500=>(if t500<0 then (if x5_2.length<2932031007402 then (if x7_1<(x6_2.length:Int) then ((some (([rd y482 x23_2]:List Int):List Int)).bind fun y505=>(if (rdOf ByteArray.empty x6_2 x7_1).size+(strOfNums y505).size≤9223372036854775807 then (if x6_2.length<8796093022208 then (spec_l06Orbit.l1 k2 (x5_2 ++ [(⟨t493,t496⟩:S27)]) (x6_2 ++ [(rdOf ByteArray.empty x6_2 x7_1) ++ (strOfNums y505)]) x7_1 y482 (y482.length:Int) (wrap64 (x23_2+1))) else (none)) else (none))) else (none)) else (none)) else (spec_l06Orbit.l1 k2 x5_2 x6_2 x7_1 y482 (y482.length:Int) (wrap64 (x23_2+1)))))=some (r1,r2,r3):=H
 have A23:=aM A230
 clear A230
 replace H:=oB H
 obtain ⟨t500,A240,H⟩:=H
 have A24:=aM A240
 clear A240
 by_cases c25:t500<0
 {
 rw [if_pos c25] at H
 have c25b0:=decide_eq_true c25
 clear c25
 by_cases c26:x5_2.length<2932031007402
 {
 rw [if_pos c26] at H
 have LMc26:=aM c26
 clear c26
 obtain ⟨y501,hy501⟩:∃ y_:List (S27),y_=(x5_2 ++ [(⟨t493,t496⟩:S27)]):=⟨_,rfl⟩
 replace H:(if x7_1<(x6_2.length:Int) then ((some (([rd y482 x23_2]:List Int):List Int)).bind fun y505=>(if (rdOf ByteArray.empty x6_2 x7_1).size+(strOfNums y505).size≤9223372036854775807 then (if x6_2.length<8796093022208 then (spec_l06Orbit.l1 k2 y501 (x6_2 ++ [(rdOf ByteArray.empty x6_2 x7_1) ++ (strOfNums y505)]) x7_1 y482 (y482.length:Int) (wrap64 (x23_2+1))) else (none)) else (none))) else (none))=some (r1,r2,r3):=by first|(rw [hy501];with_reducible exact H)|(have H2_:=(Option.bind_some _ _).symm.trans H;rw [hy501];with_reducible exact H2_)|(have H2_:=(Option.bind_some _ _).symm.trans H;with_reducible exact H2_)|with_reducible exact H|(rw [hy501];exact H)|exact H
 have Ny501:=aM hy501
 clear hy501
 by_cases c27:x7_1<(x6_2.length:Int)
 {
 rw [if_pos c27] at H
 have c27b0:=decide_eq_true c27
 clear c27
 obtain ⟨y505,hy505⟩:∃ y_:List Int,y_=(([rd y482 x23_2]:List Int)):=⟨_,rfl⟩
 replace H:(if (rdOf ByteArray.empty x6_2 x7_1).size+(strOfNums y505).size≤9223372036854775807 then (if x6_2.length<8796093022208 then (spec_l06Orbit.l1 k2 y501 (x6_2 ++ [(rdOf ByteArray.empty x6_2 x7_1) ++ (strOfNums y505)]) x7_1 y482 (y482.length:Int) (wrap64 (x23_2+1))) else (none)) else (none))=some (r1,r2,r3):=by first|(rw [hy505];with_reducible exact H)|(have H2_:=(Option.bind_some _ _).symm.trans H;rw [hy505];with_reducible exact H2_)|(have H2_:=(Option.bind_some _ _).symm.trans H;with_reducible exact H2_)|with_reducible exact H|(rw [hy505];exact H)|exact H
 have Ny505:=aM hy505
 clear hy505
 by_cases c28:(rdOf ByteArray.empty x6_2 x7_1).size+(strOfNums y505).size≤9223372036854775807
 {
 rw [if_pos c28] at H
 have c28b0:=eq_true c28
 have c28b1:=decide_eq_true c28
 try have c28b2:(9223372036854775807<(rdOf ByteArray.empty x6_2 x7_1).size+(strOfNums y505).size)=False:=eq_false (Nat.not_lt.2 c28)
 by_cases c29:x6_2.length<8796093022208
 {
 rw [if_pos c29] at H
 have LMc29:=aM c29
 clear c29
 obtain ⟨y508,hy508⟩:∃ y_:List ByteArray,y_=(x6_2 ++ [(rdOf ByteArray.empty x6_2 x7_1) ++ (strOfNums y505)]):=⟨_,rfl⟩
 replace H:(spec_l06Orbit.l1 k2 y501 y508 x7_1 y482 (y482.length:Int) (wrap64 (x23_2+1)))=some (r1,r2,r3):=by first|(rw [hy508];with_reducible exact H)|(have H2_:=(Option.bind_some _ _).symm.trans H;rw [hy508];with_reducible exact H2_)|(have H2_:=(Option.bind_some _ _).symm.trans H;with_reducible exact H2_)|with_reducible exact H|(rw [hy508];exact H)|exact H
 have Ny508:=aM hy508
 clear hy508
 have H':=aM H
 clear H
 have p485:0≤(x23_2:Int):=dX
 have q485:x23_2<(y482.length:Int):=dX
 obtain ⟨ad485,e485,hx485_0⟩:=Kd.at_int (Kd.R_reads' HO_21.out).2.2 x23_2 p485 q485
 cases e485
 replace p485:=eq_true p485
 replace q485:=eq_true q485
 obtain ⟨Ao30,co30,eo30⟩:=Kd.N_slice HO_5.out
 subst eo30
 have p486:0≤(x7_1:Int):=dX
 have q486:x7_1<(x5_2.length:Int):=dX
 obtain ⟨ad486,A486_0,c486_0,A486_1,c486_1,e486,hx486_0,hx486_1,hl486_0,hi486_0,hl486_1,hi486_1⟩:=at_T27 (Kd.N_reads' HO_5.out).2.2 x7_1 p486 q486
 cases e486
 obtain ⟨ce486,hce486,hMe486,hcc486⟩:=Kd.N_get HO_5.out z27 x7_1 p486 (by first|exact q486|exact dX|(have e_:=(Kd.N_reads' HO_5.out).1;omega))
 obtain ⟨ua486_0,uc486_0,ua486_1,uc486_1,rfl,ul486_0,ge486_0,ul486_1,ge486_1⟩:=k27_openF hMe486
 have hv486_0:=hcc486 0 _ rfl
 rw [Nat.add_zero] at hv486_0
 replace hv486_0:=Option.some.inj (hv486_0.symm.trans hx486_0)
 injection hv486_0 with hva_ hvn_ hvc_
 rw [hva_] at ge486_0
 rw [hvc_] at ul486_0
 have HL486_0:=aM (show Kd.V (Kd.int .i64) 3 _ w.heap.size _ _ ((rd_T27 x5_2 x7_1).f0) from Kd.V_mk ul486_0 ge486_0)
 clear hva_ hvn_ hvc_ ge486_0 ul486_0
 have hv486_1:=hcc486 1 _ rfl
 rw [add_field _ _ 1 (by omega)] at hv486_1
 replace hv486_1:=Option.some.inj (hv486_1.symm.trans hx486_1)
 injection hv486_1 with hva_ hvn_ hvc_
 rw [hva_] at ge486_1
 rw [hvc_] at ul486_1
 have HL486_1:=aM (show Kd.V (Kd.int .i64) 3 _ w.heap.size _ _ ((rd_T27 x5_2 x7_1).f1) from Kd.V_mk ul486_1 ge486_1)
 clear hva_ hvn_ hvc_ ge486_1 ul486_1 hcc486 hce486
 have HR486_0:=aM hi486_0
 have HC486_0:=aM hl486_0
 clear hi486_0 hl486_0
 have HR486_1:=aM hi486_1
 have HC486_1:=aM hl486_1
 clear hi486_1 hl486_1
 replace p486:=eq_true p486
 replace q486:=eq_true q486
 try go_wp2_with (first|((with_reducible refine gate_callee (f:=43) rfl ?_);refine goesL_ (some 32) rfl rfl Try.func43 (by kernel_rfl) rfl #[.agg #[.slice A486_0 ((rd_T27 x5_2 x7_1).f0).length c486_0,.slice A486_1 ((rd_T27 x5_2 x7_1).f1).length c486_1],.int .u8 (rd y482 x23_2)] rfl aX ?_;(with_reducible refine(spec_l05Letter.calls k2 _ _ ((rd_T27 x5_2 x7_1).f0) _ _ ((rd_T27 x5_2 x7_1).f1) (rd y482 x23_2) t487 t490 _ ?side1 ?side2 ?side3 ?side4 A22.out).mono ?_);(case side1=>exact cX (cX HR486_0.out));(case side2=>exact HC486_0.out);(case side3=>exact cX (cX HR486_1.out));(case side4=>exact HC486_1.out);rintro e w31 ⟨v488,v491,rfl,ho0,ho1,hb⟩;refine ⟨_,rfl,?_⟩;replace HO_5:=aM (Kd.N_mono (Kd.N_told (Kd.N_told (Kd.N_old (by(with_reducible repeat(first|apply Kd.N_alloc|apply Kd.N_drewN|apply Kd.N_drew));exact HO_5.out) hb) (Kd.R_base ho0)) (Kd.R_base ho1)) (fun _ h_=>h_.1));replace HO_6:=aM (Kd.R_below (rX HO_6.out) hb);replace HO_21:=aM (Kd.R_below (rX HO_21.out) hb);replace HL486_0:=aM (Kd.V_mono (Kd.V_told (Kd.V_told (Kd.V_old (by(with_reducible repeat(first|apply Kd.V_alloc|apply Kd.V_drewN|apply Kd.V_drew));exact HL486_0.out) hb) (Kd.R_base ho0)) (Kd.R_base ho1)) (fun _ h_=>h_.1));replace HL486_1:=aM (Kd.V_mono (Kd.V_told (Kd.V_told (Kd.V_old (by(with_reducible repeat(first|apply Kd.V_alloc|apply Kd.V_drewN|apply Kd.V_drew));exact HL486_1.out) hb) (Kd.R_base ho0)) (Kd.R_base ho1)) (fun _ h_=>h_.1));have HO489:=aM (Kd.R_lower (Kd.R_newM (M:=fun k_=>(w.heap.size≤k_)) ho0 (below_size (bX1 HB.out GE469.out)) (fun k_ h_=>h_)) (below_size (bX1 HB.out GE469.out)));have HO492:=aM (Kd.R_lower (Kd.R_newM (M:=fun k_=>(w.heap.size≤k_)) ho1 (below_size (bX1 HB.out GE469.out)) (fun k_ h_=>h_)) (below_size (bX1 HB.out GE469.out)));replace BK469:=aM (bbX BK469.out hb);replace HR486_0:=aM (Kd.C_below (cX HR486_0.out) hb);replace HR486_1:=aM (Kd.C_below (cX HR486_1.out) hb);replace HB:=aM (below_step (bX1 HB.out GE469.out) hb);(try clear hb);(try clear hk);(try clear ho0);(try clear ho1);obtain ⟨Ao32,co32,eo32⟩:=Kd.R_slice HO489.out;subst eo32;obtain ⟨Ao33,co33,eo33⟩:=Kd.R_slice HO492.out;subst eo33)|((with_reducible refine gate_callee (f:=42) rfl ?_);refine goesL_ (some 33) rfl rfl Try.func42 (by kernel_rfl) rfl #[.agg #[.slice Ao32 t487.length co32,.slice Ao33 t490.length co33]] rfl aX ?_;(with_reducible refine(spec_l03Canon.calls k2 _ _ t487 _ _ t490 t493 t496 _ ?side1 ?side2 ?side3 ?side4 A23.out).mono ?_);(case side1=>exact cX (Kd.R_reads' HO489.out).2.2);(case side2=>exact(Kd.R_reads' HO489.out).2.1);(case side3=>exact cX (Kd.R_reads' HO492.out).2.2);(case side4=>exact(Kd.R_reads' HO492.out).2.1);rintro e w34 ⟨v494,v497,rfl,ho0,ho1,hb⟩;refine ⟨_,rfl,?_⟩;replace HO_5:=aM (Kd.N_mono (Kd.N_told (Kd.N_told (Kd.N_old (by(with_reducible repeat(first|apply Kd.N_alloc|apply Kd.N_drewN|apply Kd.N_drew));exact HO_5.out) hb) (Kd.R_base ho0)) (Kd.R_base ho1)) (fun _ h_=>h_.1));replace HO_6:=aM (Kd.R_below (rX HO_6.out) hb);replace HO_21:=aM (Kd.R_below (rX HO_21.out) hb);replace HL486_0:=aM (Kd.V_mono (Kd.V_told (Kd.V_told (Kd.V_old (by(with_reducible repeat(first|apply Kd.V_alloc|apply Kd.V_drewN|apply Kd.V_drew));exact HL486_0.out) hb) (Kd.R_base ho0)) (Kd.R_base ho1)) (fun _ h_=>h_.1));replace HL486_1:=aM (Kd.V_mono (Kd.V_told (Kd.V_told (Kd.V_old (by(with_reducible repeat(first|apply Kd.V_alloc|apply Kd.V_drewN|apply Kd.V_drew));exact HL486_1.out) hb) (Kd.R_base ho0)) (Kd.R_base ho1)) (fun _ h_=>h_.1));have HO495:=aM (Kd.R_lower (Kd.R_new' (Kd.R_new' (Kd.R_newM (M:=fun k_=>(w.heap.size≤k_)) ho0 (below_size (bX1 HB.out GE469.out)) (fun k_ h_=>h_)) (Kd.R_lt (rX HO489.out))) (Kd.R_lt (rX HO492.out))) (below_size (bX1 HB.out GE469.out)));have HO498:=aM (Kd.R_lower (Kd.R_new' (Kd.R_new' (Kd.R_newM (M:=fun k_=>(w.heap.size≤k_)) ho1 (below_size (bX1 HB.out GE469.out)) (fun k_ h_=>h_)) (Kd.R_lt (rX HO489.out))) (Kd.R_lt (rX HO492.out))) (below_size (bX1 HB.out GE469.out)));replace HO489:=aM (Kd.R_mono (Kd.R_told (Kd.R_told (Kd.R_old (rX HO489.out) hb) (Kd.R_base ho0)) (Kd.R_base ho1)) (fun _ h_=>h_.1));replace HO492:=aM (Kd.R_mono (Kd.R_told (Kd.R_told (Kd.R_old (rX HO492.out) hb) (Kd.R_base ho0)) (Kd.R_base ho1)) (fun _ h_=>h_.1));replace BK469:=aM (bbX BK469.out hb);replace HR486_0:=aM (Kd.C_below (cX HR486_0.out) hb);replace HR486_1:=aM (Kd.C_below (cX HR486_1.out) hb);replace HB:=aM (below_step (bX1 HB.out GE469.out) hb);(try clear hb);(try clear hk);(try clear ho0);(try clear ho1))|((with_reducible refine gate_dst (N:=10) rfl ?_);refine bEv (cs:=#[.slice none 0 0,.slice none 0 0]) (t:=27) ?_;intro gb499 hg w35 hbox hb;replace HO_5:=aM (Kd.N_below (Kd.N_elderB (by(with_reducible repeat(first|apply Kd.N_alloc|apply Kd.N_drewN|apply Kd.N_drew));exact HO_5.out) gb499 (Nat.le_of_eq hg.symm)) hb);replace HO_6:=aM (Kd.R_below (rX HO_6.out) hb);replace HO_21:=aM (Kd.R_below (rX HO_21.out) hb);replace HL486_0:=aM (Kd.V_below (Kd.V_elderB (by(with_reducible repeat(first|apply Kd.V_alloc|apply Kd.V_drewN|apply Kd.V_drew));exact HL486_0.out) gb499 (Nat.le_of_eq hg.symm)) hb);replace HL486_1:=aM (Kd.V_below (Kd.V_elderB (by(with_reducible repeat(first|apply Kd.V_alloc|apply Kd.V_drewN|apply Kd.V_drew));exact HL486_1.out) gb499 (Nat.le_of_eq hg.symm)) hb);replace HO489:=aM (Kd.R_below (rX HO489.out) hb);replace HO492:=aM (Kd.R_below (rX HO492.out) hb);replace HO495:=aM (Kd.R_below (rX HO495.out) hb);replace HO498:=aM (Kd.R_below (rX HO498.out) hb);replace HR486_0:=aM (Kd.C_below (cX HR486_0.out) hb);replace HR486_1:=aM (Kd.C_below (cX HR486_1.out) hb);have BK499:=aM (hbox);have GW499:=aM ((szX (below_size (bX1 HB.out GE469.out)) hg:w.heap.size≤gb499));have GE499:=GW499;replace HB:=aM (below_step (bX1 HB.out GE469.out) hb);have NB469_499:=aM (neX BK469.out hg);have NB499_469:=aM (nfX BK469.out hg);replace BK469:=aM (bbX BK469.out hb);clear hb hbox hg;obtain ⟨Ao36,co36,eo36⟩:=Kd.R_slice HO495.out;subst eo36;have hnb37:=NB499_469.out;have hnc37:=NB469_499.out;obtain ⟨hcz38_0,hcz38_1,hfz38_0,hfz38_1⟩:=f2Z BK499.out;obtain ⟨Ao39,co39,eo39⟩:=Kd.R_slice HO498.out;subst eo39)|((with_reducible refine gate_callee (f:=41) rfl ?_);refine goesL_ (some 36) rfl rfl Try.func41 (by kernel_rfl) rfl #[.slice (some ad486) x5_2.length co30,.agg #[.slice Ao36 t493.length co36,.slice Ao39 t496.length co39]] rfl aX ?_;(with_reducible refine(spec_l06Find.calls k2 _ _ x5_2 _ _ t493 _ _ t496 t500 _ ?side1 ?side2 ?side3 ?side4 ?side5 ?side6 A24.out).mono ?_);(case side1=>refine(Kd.N_reads' (e:=27) (base:=w.heap.size) (ok:=fun k_=>(((((((w.heap.size≤k_)∧(some k_≠(u6:Value).ownBlock∧(some k_≠(.slice (some ad485) y482.length co16:Value).ownBlock∧k_≠gb469)))∧some k_≠(.slice Ao32 t487.length co32:Value).ownBlock)∧some k_≠(.slice Ao33 t490.length co33:Value).ownBlock)∧some k_≠(.slice Ao36 t493.length co36:Value).ownBlock)∧some k_≠(.slice Ao39 t496.length co39:Value).ownBlock)∧k_≠gb499)) (n:=x5_2.length) (c:=co30) ?_).2.2;exact(by(with_reducible repeat(first|apply Kd.N_alloc|apply Kd.N_drewN|apply Kd.N_drew));exact(Kd.N_mono (Kd.N_far (p:=⟨gb499,1,none⟩) (Kd.N_far (p:=⟨gb499,0,none⟩) (Kd.N_mono HO_5.out (fun k_ hk=>(⟨hk,hk.2⟩:_∧k_≠gb499))) (fun _ hk=>hk.2) (.slice Ao36 t493.length co36)) (fun _ hk=>hk.2) (.slice Ao39 t496.length co39)) (fun _ h_=>h_.1))));(case side2=>exact(Kd.N_reads' HO_5.out).2.1);(case side3=>exact rcX (fr2 HO495.out BK499.out (.slice Ao36 t493.length co36) (.slice Ao39 t496.length co39)));(case side4=>exact(Kd.R_reads' HO495.out).2.1);(case side5=>exact rcX (fr2 HO498.out BK499.out (.slice Ao36 t493.length co36) (.slice Ao39 t496.length co39)));(case side6=>exact(Kd.R_reads' HO498.out).2.1);rintro e w40 ⟨rfl,hb⟩;refine ⟨_,rfl,?_⟩;replace HO_5:=aM (Kd.N_below (by(with_reducible repeat(first|apply Kd.N_alloc|apply Kd.N_drewN|apply Kd.N_drew));exact(Kd.N_mono (Kd.N_far (p:=⟨gb499,1,none⟩) (Kd.N_far (p:=⟨gb499,0,none⟩) (Kd.N_mono HO_5.out (fun k_ hk=>(⟨hk,hk.2⟩:_∧k_≠gb499))) (fun _ hk=>hk.2) (.slice Ao36 t493.length co36)) (fun _ hk=>hk.2) (.slice Ao39 t496.length co39)) (fun _ h_=>h_.1))) hb);replace HO_6:=aM (Kd.R_below (rX (fr2 HO_6.out BK499.out (.slice Ao36 t493.length co36) (.slice Ao39 t496.length co39))) hb);replace HO_21:=aM (Kd.R_below (rX (fr2 HO_21.out BK499.out (.slice Ao36 t493.length co36) (.slice Ao39 t496.length co39))) hb);replace HO489:=aM (Kd.R_below (rX (fr2 HO489.out BK499.out (.slice Ao36 t493.length co36) (.slice Ao39 t496.length co39))) hb);replace HO492:=aM (Kd.R_below (rX (fr2 HO492.out BK499.out (.slice Ao36 t493.length co36) (.slice Ao39 t496.length co39))) hb);replace HO495:=aM (Kd.R_below (rX (fr2 HO495.out BK499.out (.slice Ao36 t493.length co36) (.slice Ao39 t496.length co39))) hb);replace HO498:=aM (Kd.R_below (rX (fr2 HO498.out BK499.out (.slice Ao36 t493.length co36) (.slice Ao39 t496.length co39))) hb);replace BK469:=aM (blk_below (g:=gb469) (o:=.cells #[.slice A0_0 l0_0.length c0_0,.slice A0_1 l0_1.length c0_1] 27 (0,0)) (by(with_reducible repeat(first|refine kN ?_ _|refine kD ?_|refine kA ?_ _));refine blk_far ?_ NB469_499.out _;(with_reducible repeat(first|refine kN ?_ _|refine kD ?_|refine kA ?_ _));refine blk_far ?_ NB469_499.out _;(with_reducible repeat(first|refine kN ?_ _|refine kD ?_|refine kA ?_ _));exact BK469.out) hb);replace HR486_0:=aM (Kd.C_below ((Kd.V_reads' (by(with_reducible repeat(first|apply Kd.V_alloc|apply Kd.V_drewN|apply Kd.V_drew));exact(Kd.V_mono (Kd.V_far (p:=⟨gb499,1,none⟩) (Kd.V_far (p:=⟨gb499,0,none⟩) (Kd.V_mono HL486_0.out (fun k_ hk=>(⟨hk,hk.2⟩:_∧k_≠gb499))) (fun _ hk=>hk.2) (.slice Ao36 t493.length co36)) (fun _ hk=>hk.2) (.slice Ao39 t496.length co39)) (fun _ h_=>h_.1)))).2.2) hb);replace HL486_0:=aM (Kd.V_below (by(with_reducible repeat(first|apply Kd.V_alloc|apply Kd.V_drewN|apply Kd.V_drew));exact(Kd.V_mono (Kd.V_far (p:=⟨gb499,1,none⟩) (Kd.V_far (p:=⟨gb499,0,none⟩) (Kd.V_mono HL486_0.out (fun k_ hk=>(⟨hk,hk.2⟩:_∧k_≠gb499))) (fun _ hk=>hk.2) (.slice Ao36 t493.length co36)) (fun _ hk=>hk.2) (.slice Ao39 t496.length co39)) (fun _ h_=>h_.1))) hb);replace HR486_1:=aM (Kd.C_below ((Kd.V_reads' (by(with_reducible repeat(first|apply Kd.V_alloc|apply Kd.V_drewN|apply Kd.V_drew));exact(Kd.V_mono (Kd.V_far (p:=⟨gb499,1,none⟩) (Kd.V_far (p:=⟨gb499,0,none⟩) (Kd.V_mono HL486_1.out (fun k_ hk=>(⟨hk,hk.2⟩:_∧k_≠gb499))) (fun _ hk=>hk.2) (.slice Ao36 t493.length co36)) (fun _ hk=>hk.2) (.slice Ao39 t496.length co39)) (fun _ h_=>h_.1)))).2.2) hb);replace HL486_1:=aM (Kd.V_below (by(with_reducible repeat(first|apply Kd.V_alloc|apply Kd.V_drewN|apply Kd.V_drew));exact(Kd.V_mono (Kd.V_far (p:=⟨gb499,1,none⟩) (Kd.V_far (p:=⟨gb499,0,none⟩) (Kd.V_mono HL486_1.out (fun k_ hk=>(⟨hk,hk.2⟩:_∧k_≠gb499))) (fun _ hk=>hk.2) (.slice Ao36 t493.length co36)) (fun _ hk=>hk.2) (.slice Ao39 t496.length co39)) (fun _ h_=>h_.1))) hb);replace BK499:=aM (blk_below (g:=gb499) (o:=.cells #[.slice Ao36 t493.length co36,.slice Ao39 t496.length co39] 27 (0,0)) (by(with_reducible repeat(first|refine kN ?_ _|refine kD ?_|refine kA ?_ _));refine blk_put (cs:=#[.slice Ao36 t493.length co36,.slice none 0 0]) ?_ 1 _ rfl;(with_reducible repeat(first|refine kN ?_ _|refine kD ?_|refine kA ?_ _));refine blk_put (cs:=#[.slice none 0 0,.slice none 0 0]) ?_ 0 _ rfl;(with_reducible repeat(first|refine kN ?_ _|refine kD ?_|refine kA ?_ _));exact BK499.out) hb);replace HB:=aM (below_step (bX2 HB.out GE469.out GE499.out) hb);(try clear hb);(try clear hk);obtain ⟨hcz41_0,hcz41_1,hfz41_0,hfz41_1⟩:=f2Z BK499.out)|((with_reducible refine gate_builtin (b:=.append) (xs:=#[.tmp 38,.tmp 40]) rfl ?_);at_builtin;refine Kd.N_append k27 (w0:=w) w.heap.size rfl (.tmp 38) (.tmp 40) 54 27 (.agg #[(.slice none 0 0),(.slice none 0 0)]) 48 rfl Try.underlying54 info27 rfl (by decide) (by omega) (.slice (some ad486) x5_2.length co30) x5_2 (⟨t493,t496⟩:S27) [.slice Ao36 t493.length co36,.slice Ao39 t496.length co39] (fun k_=>(w.heap.size≤k_)∧some k_≠(u6:Value).ownBlock∧some k_≠(.slice (some ad485) y482.length co16:Value).ownBlock∧some k_≠(.slice Ao32 t487.length co32:Value).ownBlock∧some k_≠(.slice Ao33 t490.length co33:Value).ownBlock∧k_≠gb469∧k_≠gb499) (fun k_=>((fun k_=>(w.heap.size≤k_)∧some k_≠(u6:Value).ownBlock∧some k_≠(.slice (some ad485) y482.length co16:Value).ownBlock∧some k_≠(.slice Ao32 t487.length co32:Value).ownBlock∧some k_≠(.slice Ao33 t490.length co33:Value).ownBlock∧k_≠gb469∧k_≠gb499)) k_∧some k_≠(.slice (some ad486) x5_2.length co30:Value).ownBlock) rfl rfl ?aP (fun _ hk=>hk) ?aF ?aO ?aB ?aS ?aL ?_;(case aP=>exact(k27_mkF _ _ (⟨t493,t496⟩:S27) (Kd.R_reads' (Kd.R_mono (ok':=(fun k_=>((fun k_=>(w.heap.size≤k_)∧some k_≠(u6:Value).ownBlock∧some k_≠(.slice (some ad485) y482.length co16:Value).ownBlock∧some k_≠(.slice Ao32 t487.length co32:Value).ownBlock∧some k_≠(.slice Ao33 t490.length co33:Value).ownBlock∧k_≠gb469∧k_≠gb499)) k_∧some k_≠(.slice (some ad486) x5_2.length co30:Value).ownBlock)) (Kd.R_types (Kd.R_types (Kd.R_apart' (Kd.R_apart' (Kd.R_apart' (HO495.out) (Kd.R_typed HO_6.out) (by decide)) (Kd.R_typed HO_21.out) (by decide)) (Kd.N_typed HO_5.out) (by decide)) BK469.out (by decide)) BK499.out (by decide)) (fun k_ hk=>⟨⟨hk.1.1.1.1.1.1.1.1,⟨hk.1.1.1.1.2,⟨hk.1.1.1.2,⟨hk.1.1.1.1.1.1.2,⟨hk.1.1.1.1.1.2,⟨hk.1.2,hk.2⟩⟩⟩⟩⟩⟩,hk.1.1.2⟩))).2.1 (Kd.R_F (Kd.R_mono (ok':=(fun k_=>((fun k_=>(w.heap.size≤k_)∧some k_≠(u6:Value).ownBlock∧some k_≠(.slice (some ad485) y482.length co16:Value).ownBlock∧some k_≠(.slice Ao32 t487.length co32:Value).ownBlock∧some k_≠(.slice Ao33 t490.length co33:Value).ownBlock∧k_≠gb469∧k_≠gb499)) k_∧some k_≠(.slice (some ad486) x5_2.length co30:Value).ownBlock)) (Kd.R_types (Kd.R_types (Kd.R_apart' (Kd.R_apart' (Kd.R_apart' (HO495.out) (Kd.R_typed HO_6.out) (by decide)) (Kd.R_typed HO_21.out) (by decide)) (Kd.N_typed HO_5.out) (by decide)) BK469.out (by decide)) BK499.out (by decide)) (fun k_ hk=>⟨⟨hk.1.1.1.1.1.1.1.1,⟨hk.1.1.1.1.2,⟨hk.1.1.1.2,⟨hk.1.1.1.1.1.1.2,⟨hk.1.1.1.1.1.2,⟨hk.1.2,hk.2⟩⟩⟩⟩⟩⟩,hk.1.1.2⟩))) (Kd.R_reads' (Kd.R_mono (ok':=(fun k_=>((fun k_=>(w.heap.size≤k_)∧some k_≠(u6:Value).ownBlock∧some k_≠(.slice (some ad485) y482.length co16:Value).ownBlock∧some k_≠(.slice Ao32 t487.length co32:Value).ownBlock∧some k_≠(.slice Ao33 t490.length co33:Value).ownBlock∧k_≠gb469∧k_≠gb499)) k_∧some k_≠(.slice (some ad486) x5_2.length co30:Value).ownBlock)) (Kd.R_types (Kd.R_types (Kd.R_apart' (Kd.R_apart' (Kd.R_apart' (HO498.out) (Kd.R_typed HO_6.out) (by decide)) (Kd.R_typed HO_21.out) (by decide)) (Kd.N_typed HO_5.out) (by decide)) BK469.out (by decide)) BK499.out (by decide)) (fun k_ hk=>⟨⟨hk.1.1.1.1.1.1.1.1,⟨hk.1.1.1.1.2,⟨hk.1.1.1.2,⟨hk.1.1.1.1.1.1.2,⟨hk.1.1.1.1.1.2,⟨hk.1.2,hk.2⟩⟩⟩⟩⟩⟩,hk.1.1.2⟩))).2.1 (Kd.R_F (Kd.R_mono (ok':=(fun k_=>((fun k_=>(w.heap.size≤k_)∧some k_≠(u6:Value).ownBlock∧some k_≠(.slice (some ad485) y482.length co16:Value).ownBlock∧some k_≠(.slice Ao32 t487.length co32:Value).ownBlock∧some k_≠(.slice Ao33 t490.length co33:Value).ownBlock∧k_≠gb469∧k_≠gb499)) k_∧some k_≠(.slice (some ad486) x5_2.length co30:Value).ownBlock)) (Kd.R_types (Kd.R_types (Kd.R_apart' (Kd.R_apart' (Kd.R_apart' (HO498.out) (Kd.R_typed HO_6.out) (by decide)) (Kd.R_typed HO_21.out) (by decide)) (Kd.N_typed HO_5.out) (by decide)) BK469.out (by decide)) BK499.out (by decide)) (fun k_ hk=>⟨⟨hk.1.1.1.1.1.1.1.1,⟨hk.1.1.1.1.2,⟨hk.1.1.1.2,⟨hk.1.1.1.1.1.1.2,⟨hk.1.1.1.1.1.2,⟨hk.1.2,hk.2⟩⟩⟩⟩⟩⟩,hk.1.1.2⟩)))));(case aB=>exact(bX2 HB.out GE469.out GE499.out));(case aF=>exact(fun k_ hk=>⟨(Nat.le_trans (below_size (bX2 HB.out GE469.out GE499.out)) hk),Kd.fresh' (Kd.R_lt (rX HO_6.out)) k_ hk,Kd.fresh' (Kd.R_lt (rX HO_21.out)) k_ hk,Kd.fresh' (Kd.R_lt (rX HO489.out)) k_ hk,Kd.fresh' (Kd.R_lt (rX HO492.out)) k_ hk,Kd.freshB (g:=gb469) (o:=.cells #[.slice A0_0 l0_0.length c0_0,.slice A0_1 l0_1.length c0_1] 27 (0,0)) (kX BK469.out) k_ hk,Kd.freshB (g:=gb499) (o:=.cells #[.slice Ao36 t493.length co36,.slice Ao39 t496.length co39] 27 (0,0)) (kX BK499.out) k_ hk⟩));(case aO=>exact(by(with_reducible repeat(first|apply Kd.N_alloc|apply Kd.N_drewN|apply Kd.N_drew));exact Kd.N_mono HO_5.out (fun _ hk=>⟨hk.1.1.1.1.1.1,⟨hk.1.1.1.1.1.2.1,⟨hk.1.1.1.1.1.2.2.1,⟨hk.1.1.1.1.2,⟨hk.1.1.1.2,⟨hk.1.1.1.1.1.2.2.2,hk.2⟩⟩⟩⟩⟩⟩)));(case aS=>exact(below_size (bX2 HB.out GE469.out GE499.out)));(case aL=>have:=LMc26.out;omega);intro v502 w42 ho hb hg hat;rw [← Ny501.out] at ho;replace HO_6:=aM (Kd.R_over' (rX HO_6.out) (Kd.N_typed (by(with_reducible repeat(first|apply Kd.N_alloc|apply Kd.N_drewN|apply Kd.N_drew));exact HO_5.out)) (by decide) hg);replace HO_21:=aM (Kd.R_over' (rX HO_21.out) (Kd.N_typed (by(with_reducible repeat(first|apply Kd.N_alloc|apply Kd.N_drewN|apply Kd.N_drew));exact HO_5.out)) (by decide) hg);replace BK469:=aM (bgX BK469.out hg (Kd.N_away HO_5.out (fun _ hk=>hk.1.1.1.1.1.2.2.2)));replace HL486_0:=aM (Kd.V_afterv (ok:=(fun k_=>(w.heap.size≤k_)∧some k_≠(u6:Value).ownBlock∧some k_≠(.slice (some ad485) y482.length co16:Value).ownBlock∧some k_≠(.slice Ao32 t487.length co32:Value).ownBlock∧some k_≠(.slice Ao33 t490.length co33:Value).ownBlock∧some k_≠(.slice Ao36 t493.length co36:Value).ownBlock∧some k_≠(.slice Ao39 t496.length co39:Value).ownBlock∧k_≠gb469∧k_≠gb499)) (by(with_reducible repeat(first|apply Kd.V_alloc|apply Kd.V_drewN|apply Kd.V_drew));exact Kd.V_mono HL486_0.out (fun _ hk=>⟨⟨hk.1.1.1.1.1.1.1,⟨hk.1.1.1.1.1.1.2.1,⟨hk.1.1.1.1.1.1.2.2.1,⟨hk.1.1.1.1.2,⟨hk.1.1.1.2,⟨hk.1.1.2,⟨hk.1.2,⟨hk.1.1.1.1.1.1.2.2.2,hk.2⟩⟩⟩⟩⟩⟩⟩⟩,hk.1.1.1.1.1.2⟩)) hg hat);replace HL486_1:=aM (Kd.V_afterv (ok:=(fun k_=>(w.heap.size≤k_)∧some k_≠(u6:Value).ownBlock∧some k_≠(.slice (some ad485) y482.length co16:Value).ownBlock∧some k_≠(.slice Ao32 t487.length co32:Value).ownBlock∧some k_≠(.slice Ao33 t490.length co33:Value).ownBlock∧some k_≠(.slice Ao36 t493.length co36:Value).ownBlock∧some k_≠(.slice Ao39 t496.length co39:Value).ownBlock∧k_≠gb469∧k_≠gb499)) (by(with_reducible repeat(first|apply Kd.V_alloc|apply Kd.V_drewN|apply Kd.V_drew));exact Kd.V_mono HL486_1.out (fun _ hk=>⟨⟨hk.1.1.1.1.1.1.1,⟨hk.1.1.1.1.1.1.2.1,⟨hk.1.1.1.1.1.1.2.2.1,⟨hk.1.1.1.1.2,⟨hk.1.1.1.2,⟨hk.1.1.2,⟨hk.1.2,⟨hk.1.1.1.1.1.1.2.2.2,hk.2⟩⟩⟩⟩⟩⟩⟩⟩,hk.1.1.1.1.1.2⟩)) hg hat);replace HO489:=aM (Kd.R_over' (rX HO489.out) (Kd.N_typed (by(with_reducible repeat(first|apply Kd.N_alloc|apply Kd.N_drewN|apply Kd.N_drew));exact HO_5.out)) (by decide) hg);replace HO492:=aM (Kd.R_over' (rX HO492.out) (Kd.N_typed (by(with_reducible repeat(first|apply Kd.N_alloc|apply Kd.N_drewN|apply Kd.N_drew));exact HO_5.out)) (by decide) hg);replace BK499:=aM (bgX BK499.out hg (Kd.N_away HO_5.out (fun _ hk=>hk.2)));replace HB:=aM (hb);have HO503:=aM (ho);clear HO_5 HO495 HO498 ho hb hg hat))
 replace HO_6:=aM (Kd.R_drew HO_6.out)
 replace HO_21:=aM (Kd.R_drew HO_21.out)
 replace HL486_0:=aM (Kd.V_drew HL486_0.out)
 replace HL486_1:=aM (Kd.V_drew HL486_1.out)
 replace HO489:=aM (Kd.R_drew HO489.out)
 replace HO492:=aM (Kd.R_drew HO492.out)
 replace HO503:=aM (Kd.N_drew HO503.out)
 replace BK469:=aM (blk_drew BK469.out)
 replace BK499:=aM (blk_drew BK499.out)
 replace HB:=aM (below_drew1 HB.out)
 obtain ⟨Ao44,co44,eo44⟩:=Kd.R_slice HO_6.out
 (first|subst eo44|(injection eo44 with f1_ f2_ f3_;have f4_:=f1_.symm;have f5_:=f3_.symm;clear f1_ f2_ f3_;subst f4_;subst f5_))
 have p504:0≤(x7_1:Int):=dX
 have q504:x7_1<(x6_2.length:Int):=dX
 obtain ⟨ad504,e504,hx504_0⟩:=Kd.at_string (Kd.R_reads' HO_6.out).2.2 x7_1 p504 q504
 cases e504
 replace p504:=eq_true p504
 replace q504:=eq_true q504
 refine start_ (n:=12) (S:=fun w'=>w'.cell? (ad504.add (x7_1).toNat)=some (.string (rdOf ByteArray.empty x6_2 x7_1))) (ds:=[9,10]) #[ff,ff,ff,ff,ff,ff,ff,ff,ff,ff,ff,ff] (by kernel_rfl) rfl rfl (hx504_0) (fun hHeld => ?_);refine with_tabW spec_l06Orbit.tab12 spec_l06Orbit.bits12 (fun HT_ HW_ => ?_)
 generalize w42.drew=w43 at HO_6 HO_21 HL486_0 HL486_1 HO489 HO492 HO503 BK469 BK499 HB hx504_0 hHeld ⊢
 refine pX 0 42 (fl 12 1) rfl rfl HT_.out ?_
 refine pX 1 43 (fl 12 3) rfl rfl HT_.out ?_
 refine pX 2 44 (fl 12 7) rfl rfl HT_.out ?_
 refine pX 3 45 (fl 12 15) rfl rfl HT_.out ?_
 refine pX 5 47 (fl 12 47) rfl rfl HT_.out ?_
 refine take_ (i:=4) (N:=some 46) (v:=?_) (a':=?_) (fl 12 63) rfl rfl (take_ofW HT_.out HW_.out (by kernel_rfl)) (fun _ _ _ h=>h) (Or.inl ⟨by kernel_rfl,?_⟩) hHeld ?_ ?_
 rotate_left
 {
 intro w' s0
 go_simp
 with_reducible rfl
 }
 rotate_left
 {
 simp only [Act.put,zA,zB,zC,i64_w,i32_w]
 rfl
 }
 refine one_ (i:=6) (N:=some 48) #[tt,tt,tt,tt,tt,tt,tt,ff,ff,ff,ff,ff] rfl rfl (one_of HT_.out (by kernel_rfl)) (by decide) (fun K hK => ?_)
 refine Kd.R_lit_step (Kd.int .u8) _ 5 ?hg (N:=48) ?hd (xs:=([rd y482 x23_2]:List Int)) (inner:=[.int .u8 (rd y482 x23_2)]) (ok:=fun _=>True) (okp:=fun _=>True) ?hr ?hp (fun _ hk=>hk) trivial (Below.refl _ _) (Nat.le_refl _) (by simp) ?_;(case hd=>rfl);(case hg=>rfl);(case hr=>first|(go_simp;done)|(go_simp;rfl));(case hp=>exact(Reps.one (show Kd.M (Kd.int .u8) _ _ _ (rd y482 x23_2) [.int .u8 (rd y482 x23_2)] from rfl) (Reps.none _ _)))
 intro v506 w45 ho46 hb hg_ hnew_
 have HS0_:=(hb.cell (World.block_lt_of_cell? _ _ (hHeld))).trans (hHeld)
 clear hg_ hnew_
 (first|rw [← Ny505.out] at ho46|(simp only [Int.reduceToNat] at ho46;rw [← Ny505.out] at ho46))
 replace HO_6:=aM (Kd.R_below (rX HO_6.out) hb)
 replace HL486_0:=aM (Kd.V_elder' (by(with_reducible repeat(first|apply Kd.V_alloc|apply Kd.V_drewN|apply Kd.V_drew));exact HL486_0.out) (Kd.R_base ho46) hb)
 replace HL486_1:=aM (Kd.V_elder' (by(with_reducible repeat(first|apply Kd.V_alloc|apply Kd.V_drewN|apply Kd.V_drew));exact HL486_1.out) (Kd.R_base ho46) hb)
 replace HO489:=aM (Kd.R_below (rX HO489.out) hb)
 replace HO492:=aM (Kd.R_below (rX HO492.out) hb)
 replace HO503:=aM (Kd.N_elder' (by(with_reducible repeat(first|apply Kd.N_alloc|apply Kd.N_drewN|apply Kd.N_drew));exact HO503.out) (Kd.R_base ho46) hb)
 have HO507:=aM (Kd.R_lower (Kd.R_new' (Kd.R_newM (M:=fun k_=>(w.heap.size≤k_)) ho46 (below_size (bX2 HB.out GE469.out GE499.out)) (fun k_ h_=>h_)) (Kd.R_lt (rX HO_21.out))) (below_size (bX2 HB.out GE469.out GE499.out)))
 replace HO_21:=aM (Kd.R_elder' (rX HO_21.out) (Kd.R_base ho46) hb)
 replace BK469:=aM (bbX BK469.out hb)
 replace BK499:=aM (bbX BK499.out hb)
 replace HB:=aM (below_step (bX2 HB.out GE469.out GE499.out) hb)
 clear hb ho46
 refine hK.out _ _ (HS0_) (fun hHeld => ?_)
 clear hK K
 refine norm_ (a':=?_) ?_ ?_
 rotate_left
 {
 show Act.put _ (some 48) _=_
 simp only [Act.put,zA,zB,zC,i64_w,i32_w]
 rfl
 }
 refine one_ (i:=7) (N:=some 49) #[tt,tt,tt,tt,tt,tt,tt,tt,ff,ff,ff,ff] rfl rfl (one_of HT_.out (by kernel_rfl)) (by decide) (fun K hK => ?_)
 have hcv47:=own_string (P:=Try.prog) Try.underlying31 Try.underlying5 Try.underlying9 (Kd.own_of_R HO507.out)
 refine value_ (w1:=?_) (v:=?_) (by rfl) rfl ?_ ?_
 rotate_left 2
 {
 go_simp
 constructor
 {
 rfl
 }
 {
 rfl
 }
 }
 clear hcv47
 refine hK.out _ _ (hHeld) (fun hHeld => ?_)
 clear hK K
 refine norm_ (a':=?_) ?_ ?_
 rotate_left
 {
 show Act.put _ (some 49) _=_
 simp only [Act.put,zA,zB,zC,i64_w,i32_w]
 rfl
 }
 refine pX 8 50 (fl 12 511) rfl rfl HT_.out ?_
 refine last_ (i:=9) (N:=some 51) #[tt,tt,tt,tt,tt,tt,tt,tt,tt,tt,ff,ff] rfl rfl (one_of HT_.out (by kernel_rfl)) (by decide) (fun K hK => ?_)
 refine value_ (w1:=?_) (v:=?_) (by rfl) rfl ?_ ?_
 rotate_left 2
 {
 go_simp
 constructor
 {
 rfl
 }
 {
 rfl
 }
 }
 refine hK.out _ _ ?_
 clear hK K
 refine norm_ (a':=?_) ?_ ?_
 rotate_left
 {
 show Act.put _ (some 51) _=_
 simp only [Act.put,zA,zB,zC,i64_w,i32_w]
 rfl
 }
 refine last_ (i:=10) (N:=some 52) #[tt,tt,tt,tt,tt,tt,tt,tt,tt,tt,tt,ff] rfl rfl (one_of HT_.out (by kernel_rfl)) (by decide) (fun K hK => ?_)
 refine Kd.R_append_step Kd.string (w0:=w) w.heap.size (by rfl) (.tmp 42) (.tmp 51) 33 9 (.string ⟨#[]⟩) 16 rfl Try.underlying33 info9 rfl (by decide) (by omega) (.slice (some ad504) x6_2.length co44) x6_2 ((rdOf ByteArray.empty x6_2 x7_1) ++ (strOfNums y505)) [.string ((rdOf ByteArray.empty x6_2 x7_1) ++ (strOfNums y505))] (fun k_=>(w.heap.size≤k_)) (fun _=>False) rfl rfl ?aP (fun _ hk=>hk.elim) ?aF ?aO ?aB ?aS ?aL ?_
 (case aP=>exact rfl)
 (case aB=>exact(bX2 HB.out GE469.out GE499.out))
 (case aF=>exact(fun k_ hk=>(Nat.le_trans (below_size (bX2 HB.out GE469.out GE499.out)) hk)))
 (case aO=>exact(rX HO_6.out))
 (case aS=>exact(below_size (bX2 HB.out GE469.out GE499.out)))
 (case aL=>have:=LMc29.out;omega)
 intro v509 w48 ho hb hg hat
 rw [← Ny508.out] at ho
 replace HO_21:=aM (Kd.R_over' (rX HO_21.out) (Kd.R_typed (rX HO_6.out)) (by decide) hg)
 replace BK469:=aM (bgX BK469.out hg (Kd.R_ne HO_6.out BK469.out (by decide)))
 replace HL486_0:=aM (Kd.V_afterv (ok:=(fun k_=>(w.heap.size≤k_)∧some k_≠(.slice (some ad485) y482.length co16:Value).ownBlock∧some k_≠(.slice Ao32 t487.length co32:Value).ownBlock∧some k_≠(.slice Ao33 t490.length co33:Value).ownBlock∧some k_≠(v502:Value).ownBlock∧some k_≠(v506:Value).ownBlock∧k_≠gb469∧k_≠gb499)) (by(with_reducible repeat(first|apply Kd.V_alloc|apply Kd.V_drewN|apply Kd.V_drew));exact Kd.V_mono HL486_0.out (fun _ hk=>⟨⟨hk.1.1.1,⟨hk.1.1.2.2.1,⟨hk.1.1.2.2.2.1,⟨hk.1.1.2.2.2.2.1,⟨hk.1.2,⟨hk.2,⟨hk.1.1.2.2.2.2.2.2.2.1,hk.1.1.2.2.2.2.2.2.2.2⟩⟩⟩⟩⟩⟩⟩,hk.1.1.2.1⟩)) hg hat)
 replace HL486_1:=aM (Kd.V_afterv (ok:=(fun k_=>(w.heap.size≤k_)∧some k_≠(.slice (some ad485) y482.length co16:Value).ownBlock∧some k_≠(.slice Ao32 t487.length co32:Value).ownBlock∧some k_≠(.slice Ao33 t490.length co33:Value).ownBlock∧some k_≠(v502:Value).ownBlock∧some k_≠(v506:Value).ownBlock∧k_≠gb469∧k_≠gb499)) (by(with_reducible repeat(first|apply Kd.V_alloc|apply Kd.V_drewN|apply Kd.V_drew));exact Kd.V_mono HL486_1.out (fun _ hk=>⟨⟨hk.1.1.1,⟨hk.1.1.2.2.1,⟨hk.1.1.2.2.2.1,⟨hk.1.1.2.2.2.2.1,⟨hk.1.2,⟨hk.2,⟨hk.1.1.2.2.2.2.2.2.2.1,hk.1.1.2.2.2.2.2.2.2.2⟩⟩⟩⟩⟩⟩⟩,hk.1.1.2.1⟩)) hg hat)
 replace HO489:=aM (Kd.R_over' (rX HO489.out) (Kd.R_typed (rX HO_6.out)) (by decide) hg)
 replace HO492:=aM (Kd.R_over' (rX HO492.out) (Kd.R_typed (rX HO_6.out)) (by decide) hg)
 replace BK499:=aM (bgX BK499.out hg (Kd.R_ne HO_6.out BK499.out (by decide)))
 replace HO503:=aM (Kd.N_afterv (ok:=(fun k_=>(w.heap.size≤k_)∧some k_≠(.slice (some ad485) y482.length co16:Value).ownBlock∧some k_≠(.slice Ao32 t487.length co32:Value).ownBlock∧some k_≠(.slice Ao33 t490.length co33:Value).ownBlock∧some k_≠(v506:Value).ownBlock∧k_≠gb469∧k_≠gb499)) (by(with_reducible repeat(first|apply Kd.N_alloc|apply Kd.N_drewN|apply Kd.N_drew));exact Kd.N_mono HO503.out (fun _ hk=>⟨⟨hk.1.1,⟨hk.1.2.2.1,⟨hk.1.2.2.2.1,⟨hk.1.2.2.2.2.1,⟨hk.2,⟨hk.1.2.2.2.2.2.1,hk.1.2.2.2.2.2.2⟩⟩⟩⟩⟩⟩,hk.1.2.1⟩)) hg hat)
 replace HO507:=aM (Kd.R_over' (rX HO507.out) (Kd.R_typed (rX HO_6.out)) (by decide) hg)
 replace HB:=aM (hb)
 have HO510:=aM (ho)
 clear HO_6 ho hb hg hat
 refine hK.out _ _ ?_
 clear hK K
 refine norm_ (a':=?_) ?_ ?_
 rotate_left
 {
 show Act.put _ (some 52) _=_
 simp only [Act.put,zA,zB,zC,i64_w,i32_w]
 rfl
 }
 refine pX 11 6 (fl 12 4095) rfl rfl HT_.out ?_
 refine done_ (done_of HT_.out (by kernel_rfl)) ?_
 try go_wp2
 go_roundg k2
 case measure=>have:=HK1.out;have:=HK2.out;omega
 case rel=>exact ⟨(y501),(y508),(wrap64 (x23_2+1)),vX,H',⟨by have:=HK1.out;have:=HK2.out;omega⟩,⟨by(with_reducible repeat(first|apply Kd.N_alloc|apply Kd.N_drewN|apply Kd.N_drew));exact Kd.N_mono HO503.out (fun _ hk=>⟨hk.1.1,⟨hk.2,⟨hk.1.2.1,hk.1.2.2.2.2.2.1⟩⟩⟩)⟩,⟨rX HO510.out⟩,⟨rM HO_21.out (fun _ hk=>hk.1)⟩,⟨kX BK469.out⟩,⟨bX2 HB.out GE469.out GE499.out⟩⟩
 }
 {
 rw [if_neg c29] at H
 exact absurd H (by simp)
 }
 }
 {
 rw [if_neg c28] at H
 exact absurd H (by simp)
 }
 }
 {
 rw [if_neg c27] at H
 exact absurd H (by simp)
 }
 }
 {
 rw [if_neg c26] at H
 exact absurd H (by simp)
 }
 }
 {
 rw [if_neg c25] at H
 have c25b0:=decide_eq_false c25
 clear c25
 have H':=aM H
 clear H
 have p485:0≤(x23_2:Int):=dX
 have q485:x23_2<(y482.length:Int):=dX
 obtain ⟨ad485,e485,hx485_0⟩:=Kd.at_int (Kd.R_reads' HO_21.out).2.2 x23_2 p485 q485
 cases e485
 replace p485:=eq_true p485
 replace q485:=eq_true q485
 obtain ⟨Ao49,co49,eo49⟩:=Kd.N_slice HO_5.out
 subst eo49
 have p486:0≤(x7_1:Int):=dX
 have q486:x7_1<(x5_2.length:Int):=dX
 obtain ⟨ad486,A486_0,c486_0,A486_1,c486_1,e486,hx486_0,hx486_1,hl486_0,hi486_0,hl486_1,hi486_1⟩:=at_T27 (Kd.N_reads' HO_5.out).2.2 x7_1 p486 q486
 cases e486
 obtain ⟨ce486,hce486,hMe486,hcc486⟩:=Kd.N_get HO_5.out z27 x7_1 p486 (by first|exact q486|exact dX|(have e_:=(Kd.N_reads' HO_5.out).1;omega))
 obtain ⟨ua486_0,uc486_0,ua486_1,uc486_1,rfl,ul486_0,ge486_0,ul486_1,ge486_1⟩:=k27_openF hMe486
 have hv486_0:=hcc486 0 _ rfl
 rw [Nat.add_zero] at hv486_0
 replace hv486_0:=Option.some.inj (hv486_0.symm.trans hx486_0)
 injection hv486_0 with hva_ hvn_ hvc_
 rw [hva_] at ge486_0
 rw [hvc_] at ul486_0
 have HL486_0:=aM (show Kd.V (Kd.int .i64) 3 _ w.heap.size _ _ ((rd_T27 x5_2 x7_1).f0) from Kd.V_mk ul486_0 ge486_0)
 clear hva_ hvn_ hvc_ ge486_0 ul486_0
 have hv486_1:=hcc486 1 _ rfl
 rw [add_field _ _ 1 (by omega)] at hv486_1
 replace hv486_1:=Option.some.inj (hv486_1.symm.trans hx486_1)
 injection hv486_1 with hva_ hvn_ hvc_
 rw [hva_] at ge486_1
 rw [hvc_] at ul486_1
 have HL486_1:=aM (show Kd.V (Kd.int .i64) 3 _ w.heap.size _ _ ((rd_T27 x5_2 x7_1).f1) from Kd.V_mk ul486_1 ge486_1)
 clear hva_ hvn_ hvc_ ge486_1 ul486_1 hcc486 hce486
 have HR486_0:=aM hi486_0
 have HC486_0:=aM hl486_0
 clear hi486_0 hl486_0
 have HR486_1:=aM hi486_1
 have HC486_1:=aM hl486_1
 clear hi486_1 hl486_1
 replace p486:=eq_true p486
 replace q486:=eq_true q486
 go_wp2_with (first|((with_reducible refine gate_callee (f:=43) rfl ?_);refine goesL_ (some 32) rfl rfl Try.func43 (by kernel_rfl) rfl #[.agg #[.slice A486_0 ((rd_T27 x5_2 x7_1).f0).length c486_0,.slice A486_1 ((rd_T27 x5_2 x7_1).f1).length c486_1],.int .u8 (rd y482 x23_2)] rfl aX ?_;(with_reducible refine(spec_l05Letter.calls k2 _ _ ((rd_T27 x5_2 x7_1).f0) _ _ ((rd_T27 x5_2 x7_1).f1) (rd y482 x23_2) t487 t490 _ ?side1 ?side2 ?side3 ?side4 A22.out).mono ?_);(case side1=>exact cX (cX HR486_0.out));(case side2=>exact HC486_0.out);(case side3=>exact cX (cX HR486_1.out));(case side4=>exact HC486_1.out);rintro e w50 ⟨v488,v491,rfl,ho0,ho1,hb⟩;refine ⟨_,rfl,?_⟩;replace HO_5:=aM (Kd.N_mono (Kd.N_told (Kd.N_told (Kd.N_old (by(with_reducible repeat(first|apply Kd.N_alloc|apply Kd.N_drewN|apply Kd.N_drew));exact HO_5.out) hb) (Kd.R_base ho0)) (Kd.R_base ho1)) (fun _ h_=>h_.1));replace HO_6:=aM (Kd.R_below (rX HO_6.out) hb);replace HO_21:=aM (Kd.R_below (rX HO_21.out) hb);replace HL486_0:=aM (Kd.V_mono (Kd.V_told (Kd.V_told (Kd.V_old (by(with_reducible repeat(first|apply Kd.V_alloc|apply Kd.V_drewN|apply Kd.V_drew));exact HL486_0.out) hb) (Kd.R_base ho0)) (Kd.R_base ho1)) (fun _ h_=>h_.1));replace HL486_1:=aM (Kd.V_mono (Kd.V_told (Kd.V_told (Kd.V_old (by(with_reducible repeat(first|apply Kd.V_alloc|apply Kd.V_drewN|apply Kd.V_drew));exact HL486_1.out) hb) (Kd.R_base ho0)) (Kd.R_base ho1)) (fun _ h_=>h_.1));have HO489:=aM (Kd.R_lower (Kd.R_newM (M:=fun k_=>(w.heap.size≤k_)) ho0 (below_size (bX1 HB.out GE469.out)) (fun k_ h_=>h_)) (below_size (bX1 HB.out GE469.out)));have HO492:=aM (Kd.R_lower (Kd.R_newM (M:=fun k_=>(w.heap.size≤k_)) ho1 (below_size (bX1 HB.out GE469.out)) (fun k_ h_=>h_)) (below_size (bX1 HB.out GE469.out)));replace BK469:=aM (bbX BK469.out hb);replace HR486_0:=aM (Kd.C_below (cX HR486_0.out) hb);replace HR486_1:=aM (Kd.C_below (cX HR486_1.out) hb);replace HB:=aM (below_step (bX1 HB.out GE469.out) hb);(try clear hb);(try clear hk);(try clear ho0);(try clear ho1);obtain ⟨Ao51,co51,eo51⟩:=Kd.R_slice HO489.out;subst eo51;obtain ⟨Ao52,co52,eo52⟩:=Kd.R_slice HO492.out;subst eo52)|((with_reducible refine gate_callee (f:=42) rfl ?_);refine goesL_ (some 33) rfl rfl Try.func42 (by kernel_rfl) rfl #[.agg #[.slice Ao51 t487.length co51,.slice Ao52 t490.length co52]] rfl aX ?_;(with_reducible refine(spec_l03Canon.calls k2 _ _ t487 _ _ t490 t493 t496 _ ?side1 ?side2 ?side3 ?side4 A23.out).mono ?_);(case side1=>exact cX (Kd.R_reads' HO489.out).2.2);(case side2=>exact(Kd.R_reads' HO489.out).2.1);(case side3=>exact cX (Kd.R_reads' HO492.out).2.2);(case side4=>exact(Kd.R_reads' HO492.out).2.1);rintro e w53 ⟨v494,v497,rfl,ho0,ho1,hb⟩;refine ⟨_,rfl,?_⟩;replace HO_5:=aM (Kd.N_mono (Kd.N_told (Kd.N_told (Kd.N_old (by(with_reducible repeat(first|apply Kd.N_alloc|apply Kd.N_drewN|apply Kd.N_drew));exact HO_5.out) hb) (Kd.R_base ho0)) (Kd.R_base ho1)) (fun _ h_=>h_.1));replace HO_6:=aM (Kd.R_below (rX HO_6.out) hb);replace HO_21:=aM (Kd.R_below (rX HO_21.out) hb);replace HL486_0:=aM (Kd.V_mono (Kd.V_told (Kd.V_told (Kd.V_old (by(with_reducible repeat(first|apply Kd.V_alloc|apply Kd.V_drewN|apply Kd.V_drew));exact HL486_0.out) hb) (Kd.R_base ho0)) (Kd.R_base ho1)) (fun _ h_=>h_.1));replace HL486_1:=aM (Kd.V_mono (Kd.V_told (Kd.V_told (Kd.V_old (by(with_reducible repeat(first|apply Kd.V_alloc|apply Kd.V_drewN|apply Kd.V_drew));exact HL486_1.out) hb) (Kd.R_base ho0)) (Kd.R_base ho1)) (fun _ h_=>h_.1));have HO495:=aM (Kd.R_lower (Kd.R_new' (Kd.R_new' (Kd.R_newM (M:=fun k_=>(w.heap.size≤k_)) ho0 (below_size (bX1 HB.out GE469.out)) (fun k_ h_=>h_)) (Kd.R_lt (rX HO489.out))) (Kd.R_lt (rX HO492.out))) (below_size (bX1 HB.out GE469.out)));have HO498:=aM (Kd.R_lower (Kd.R_new' (Kd.R_new' (Kd.R_newM (M:=fun k_=>(w.heap.size≤k_)) ho1 (below_size (bX1 HB.out GE469.out)) (fun k_ h_=>h_)) (Kd.R_lt (rX HO489.out))) (Kd.R_lt (rX HO492.out))) (below_size (bX1 HB.out GE469.out)));replace HO489:=aM (Kd.R_mono (Kd.R_told (Kd.R_told (Kd.R_old (rX HO489.out) hb) (Kd.R_base ho0)) (Kd.R_base ho1)) (fun _ h_=>h_.1));replace HO492:=aM (Kd.R_mono (Kd.R_told (Kd.R_told (Kd.R_old (rX HO492.out) hb) (Kd.R_base ho0)) (Kd.R_base ho1)) (fun _ h_=>h_.1));replace BK469:=aM (bbX BK469.out hb);replace HR486_0:=aM (Kd.C_below (cX HR486_0.out) hb);replace HR486_1:=aM (Kd.C_below (cX HR486_1.out) hb);replace HB:=aM (below_step (bX1 HB.out GE469.out) hb);(try clear hb);(try clear hk);(try clear ho0);(try clear ho1))|((with_reducible refine gate_dst (N:=10) rfl ?_);refine bEv (cs:=#[.slice none 0 0,.slice none 0 0]) (t:=27) ?_;intro gb499 hg w54 hbox hb;replace HO_5:=aM (Kd.N_below (Kd.N_elderB (by(with_reducible repeat(first|apply Kd.N_alloc|apply Kd.N_drewN|apply Kd.N_drew));exact HO_5.out) gb499 (Nat.le_of_eq hg.symm)) hb);replace HO_6:=aM (Kd.R_below (rX HO_6.out) hb);replace HO_21:=aM (Kd.R_below (rX HO_21.out) hb);replace HL486_0:=aM (Kd.V_below (Kd.V_elderB (by(with_reducible repeat(first|apply Kd.V_alloc|apply Kd.V_drewN|apply Kd.V_drew));exact HL486_0.out) gb499 (Nat.le_of_eq hg.symm)) hb);replace HL486_1:=aM (Kd.V_below (Kd.V_elderB (by(with_reducible repeat(first|apply Kd.V_alloc|apply Kd.V_drewN|apply Kd.V_drew));exact HL486_1.out) gb499 (Nat.le_of_eq hg.symm)) hb);replace HO489:=aM (Kd.R_below (rX HO489.out) hb);replace HO492:=aM (Kd.R_below (rX HO492.out) hb);replace HO495:=aM (Kd.R_below (rX HO495.out) hb);replace HO498:=aM (Kd.R_below (rX HO498.out) hb);replace HR486_0:=aM (Kd.C_below (cX HR486_0.out) hb);replace HR486_1:=aM (Kd.C_below (cX HR486_1.out) hb);have BK499:=aM (hbox);have GW499:=aM ((szX (below_size (bX1 HB.out GE469.out)) hg:w.heap.size≤gb499));have GE499:=GW499;replace HB:=aM (below_step (bX1 HB.out GE469.out) hb);have NB469_499:=aM (neX BK469.out hg);have NB499_469:=aM (nfX BK469.out hg);replace BK469:=aM (bbX BK469.out hb);clear hb hbox hg;obtain ⟨Ao55,co55,eo55⟩:=Kd.R_slice HO495.out;subst eo55;have hnb56:=NB499_469.out;have hnc56:=NB469_499.out;obtain ⟨hcz57_0,hcz57_1,hfz57_0,hfz57_1⟩:=f2Z BK499.out;obtain ⟨Ao58,co58,eo58⟩:=Kd.R_slice HO498.out;subst eo58)|((with_reducible refine gate_callee (f:=41) rfl ?_);refine goesL_ (some 36) rfl rfl Try.func41 (by kernel_rfl) rfl #[.slice (some ad486) x5_2.length co49,.agg #[.slice Ao55 t493.length co55,.slice Ao58 t496.length co58]] rfl aX ?_;(with_reducible refine(spec_l06Find.calls k2 _ _ x5_2 _ _ t493 _ _ t496 t500 _ ?side1 ?side2 ?side3 ?side4 ?side5 ?side6 A24.out).mono ?_);(case side1=>refine(Kd.N_reads' (e:=27) (base:=w.heap.size) (ok:=fun k_=>(((((((w.heap.size≤k_)∧(some k_≠(u6:Value).ownBlock∧(some k_≠(.slice (some ad485) y482.length co16:Value).ownBlock∧k_≠gb469)))∧some k_≠(.slice Ao51 t487.length co51:Value).ownBlock)∧some k_≠(.slice Ao52 t490.length co52:Value).ownBlock)∧some k_≠(.slice Ao55 t493.length co55:Value).ownBlock)∧some k_≠(.slice Ao58 t496.length co58:Value).ownBlock)∧k_≠gb499)) (n:=x5_2.length) (c:=co49) ?_).2.2;exact(by(with_reducible repeat(first|apply Kd.N_alloc|apply Kd.N_drewN|apply Kd.N_drew));exact(Kd.N_mono (Kd.N_far (p:=⟨gb499,1,none⟩) (Kd.N_far (p:=⟨gb499,0,none⟩) (Kd.N_mono HO_5.out (fun k_ hk=>(⟨hk,hk.2⟩:_∧k_≠gb499))) (fun _ hk=>hk.2) (.slice Ao55 t493.length co55)) (fun _ hk=>hk.2) (.slice Ao58 t496.length co58)) (fun _ h_=>h_.1))));(case side2=>exact(Kd.N_reads' HO_5.out).2.1);(case side3=>exact rcX (fr2 HO495.out BK499.out (.slice Ao55 t493.length co55) (.slice Ao58 t496.length co58)));(case side4=>exact(Kd.R_reads' HO495.out).2.1);(case side5=>exact rcX (fr2 HO498.out BK499.out (.slice Ao55 t493.length co55) (.slice Ao58 t496.length co58)));(case side6=>exact(Kd.R_reads' HO498.out).2.1);rintro e w59 ⟨rfl,hb⟩;refine ⟨_,rfl,?_⟩;replace HO_5:=aM (Kd.N_below (by(with_reducible repeat(first|apply Kd.N_alloc|apply Kd.N_drewN|apply Kd.N_drew));exact(Kd.N_mono (Kd.N_far (p:=⟨gb499,1,none⟩) (Kd.N_far (p:=⟨gb499,0,none⟩) (Kd.N_mono HO_5.out (fun k_ hk=>(⟨hk,hk.2⟩:_∧k_≠gb499))) (fun _ hk=>hk.2) (.slice Ao55 t493.length co55)) (fun _ hk=>hk.2) (.slice Ao58 t496.length co58)) (fun _ h_=>h_.1))) hb);replace HO_6:=aM (Kd.R_below (rX (fr2 HO_6.out BK499.out (.slice Ao55 t493.length co55) (.slice Ao58 t496.length co58))) hb);replace HO_21:=aM (Kd.R_below (rX (fr2 HO_21.out BK499.out (.slice Ao55 t493.length co55) (.slice Ao58 t496.length co58))) hb);replace HO489:=aM (Kd.R_below (rX (fr2 HO489.out BK499.out (.slice Ao55 t493.length co55) (.slice Ao58 t496.length co58))) hb);replace HO492:=aM (Kd.R_below (rX (fr2 HO492.out BK499.out (.slice Ao55 t493.length co55) (.slice Ao58 t496.length co58))) hb);replace HO495:=aM (Kd.R_below (rX (fr2 HO495.out BK499.out (.slice Ao55 t493.length co55) (.slice Ao58 t496.length co58))) hb);replace HO498:=aM (Kd.R_below (rX (fr2 HO498.out BK499.out (.slice Ao55 t493.length co55) (.slice Ao58 t496.length co58))) hb);replace BK469:=aM (blk_below (g:=gb469) (o:=.cells #[.slice A0_0 l0_0.length c0_0,.slice A0_1 l0_1.length c0_1] 27 (0,0)) (by(with_reducible repeat(first|refine kN ?_ _|refine kD ?_|refine kA ?_ _));refine blk_far ?_ NB469_499.out _;(with_reducible repeat(first|refine kN ?_ _|refine kD ?_|refine kA ?_ _));refine blk_far ?_ NB469_499.out _;(with_reducible repeat(first|refine kN ?_ _|refine kD ?_|refine kA ?_ _));exact BK469.out) hb);replace HR486_0:=aM (Kd.C_below ((Kd.V_reads' (by(with_reducible repeat(first|apply Kd.V_alloc|apply Kd.V_drewN|apply Kd.V_drew));exact(Kd.V_mono (Kd.V_far (p:=⟨gb499,1,none⟩) (Kd.V_far (p:=⟨gb499,0,none⟩) (Kd.V_mono HL486_0.out (fun k_ hk=>(⟨hk,hk.2⟩:_∧k_≠gb499))) (fun _ hk=>hk.2) (.slice Ao55 t493.length co55)) (fun _ hk=>hk.2) (.slice Ao58 t496.length co58)) (fun _ h_=>h_.1)))).2.2) hb);replace HL486_0:=aM (Kd.V_below (by(with_reducible repeat(first|apply Kd.V_alloc|apply Kd.V_drewN|apply Kd.V_drew));exact(Kd.V_mono (Kd.V_far (p:=⟨gb499,1,none⟩) (Kd.V_far (p:=⟨gb499,0,none⟩) (Kd.V_mono HL486_0.out (fun k_ hk=>(⟨hk,hk.2⟩:_∧k_≠gb499))) (fun _ hk=>hk.2) (.slice Ao55 t493.length co55)) (fun _ hk=>hk.2) (.slice Ao58 t496.length co58)) (fun _ h_=>h_.1))) hb);replace HR486_1:=aM (Kd.C_below ((Kd.V_reads' (by(with_reducible repeat(first|apply Kd.V_alloc|apply Kd.V_drewN|apply Kd.V_drew));exact(Kd.V_mono (Kd.V_far (p:=⟨gb499,1,none⟩) (Kd.V_far (p:=⟨gb499,0,none⟩) (Kd.V_mono HL486_1.out (fun k_ hk=>(⟨hk,hk.2⟩:_∧k_≠gb499))) (fun _ hk=>hk.2) (.slice Ao55 t493.length co55)) (fun _ hk=>hk.2) (.slice Ao58 t496.length co58)) (fun _ h_=>h_.1)))).2.2) hb);replace HL486_1:=aM (Kd.V_below (by(with_reducible repeat(first|apply Kd.V_alloc|apply Kd.V_drewN|apply Kd.V_drew));exact(Kd.V_mono (Kd.V_far (p:=⟨gb499,1,none⟩) (Kd.V_far (p:=⟨gb499,0,none⟩) (Kd.V_mono HL486_1.out (fun k_ hk=>(⟨hk,hk.2⟩:_∧k_≠gb499))) (fun _ hk=>hk.2) (.slice Ao55 t493.length co55)) (fun _ hk=>hk.2) (.slice Ao58 t496.length co58)) (fun _ h_=>h_.1))) hb);replace BK499:=aM (blk_below (g:=gb499) (o:=.cells #[.slice Ao55 t493.length co55,.slice Ao58 t496.length co58] 27 (0,0)) (by(with_reducible repeat(first|refine kN ?_ _|refine kD ?_|refine kA ?_ _));refine blk_put (cs:=#[.slice Ao55 t493.length co55,.slice none 0 0]) ?_ 1 _ rfl;(with_reducible repeat(first|refine kN ?_ _|refine kD ?_|refine kA ?_ _));refine blk_put (cs:=#[.slice none 0 0,.slice none 0 0]) ?_ 0 _ rfl;(with_reducible repeat(first|refine kN ?_ _|refine kD ?_|refine kA ?_ _));exact BK499.out) hb);replace HB:=aM (below_step (bX2 HB.out GE469.out GE499.out) hb);(try clear hb);(try clear hk)))
 go_roundg k2
 case measure=>have:=HK1.out;have:=HK2.out;omega
 case rel=>exact ⟨(x5_2),(x6_2),(wrap64 (x23_2+1)),vX,H',⟨by have:=HK1.out;have:=HK2.out;omega⟩,⟨by(with_reducible repeat(first|apply Kd.N_alloc|apply Kd.N_drewN|apply Kd.N_drew));exact Kd.N_mono HO_5.out (fun _ hk=>⟨hk.1.1.1.1.1.1,⟨hk.1.1.1.1.1.2.1,⟨hk.1.1.1.1.1.2.2.1,hk.1.1.1.1.1.2.2.2⟩⟩⟩)⟩,⟨rX HO_6.out⟩,⟨rX HO_21.out⟩,⟨kX BK469.out⟩,⟨bX2 HB.out GE469.out GE499.out⟩⟩
 }
 }
 {
 rw [if_neg c21] at H
 exact absurd H (by simp)
 }
 }
 {
 rw [if_neg c20] at H
 exact absurd H (by simp)
 }
 }
 {
 rw [if_neg c19] at H
 exact absurd H (by simp)
 }
 }
 {
 rw [if_neg c18] at H
 exact absurd H (by simp)
 }
 }
 {
 rw [if_neg c17] at H
 have c17b0:=decide_eq_false c17
 clear c17
 by_cases c60:(x5_2.length:Int) > 120
 {
 rw [if_pos c60] at H
 have c60b0:=decide_eq_true c60
 have c60b1:decide (120<x5_2.length)=true:=decide_eq_true (by omega)
 clear c60
 simp only [Option.some.injEq,Prod.mk.injEq] at H
 obtain ⟨rfl,rfl,rfl⟩:=H
 obtain ⟨Ao61,co61,eo61⟩:=Kd.N_slice HO_5.out
 subst eo61
 go_wp2
 go_ret3
 exact ⟨_,_,eX,by first|exact Kd.S_nil _ _ _ _ _|exact Kd.N_nil _ _ _ _ _|exact Kd.V_nil _ _ _ _ _|exact Kd.Q_nil _ _ _ _ _|exact Kd.R_nil _ _ _ _ _,by first|exact Kd.R_nil _ _ _ _ _|exact Kd.N_nil _ _ _ _ _|exact Kd.V_nil _ _ _ _ _|exact Kd.Q_nil _ _ _ _ _|exact Kd.S_nil _ _ _ _ _,bX1 HB.out GE469.out⟩
 }
 {
 rw [if_neg c60] at H
 have c60b0:=decide_eq_false c60
 have c60b1:decide (120<x5_2.length)=false:=decide_eq_false (by omega)
 clear c60
 have H':=aM H
 clear H
 obtain ⟨Ao62,co62,eo62⟩:=Kd.N_slice HO_5.out
 subst eo62
 go_wp2
 go_roundg k2
 case measure=>have:=HK1.out;have:=HK2.out;omega
 case rel=>exact ⟨(x5_2),(x6_2),(wrap64 (x7_1+1)),vX,H',⟨by have:=HK1.out;have:=HK2.out;omega⟩,⟨by(with_reducible repeat(first|apply Kd.N_alloc|apply Kd.N_drewN|apply Kd.N_drew));exact Kd.N_mono HO_5.out (fun _ hk=>⟨hk.1,⟨hk.2.1,hk.2.2.2⟩⟩)⟩,⟨rX HO_6.out⟩,⟨kX BK469.out⟩,⟨bX1 HB.out GE469.out⟩⟩
 }
 }
 }
 {
 rw [if_neg c12] at H
 have c12b0:=decide_eq_false c12
 clear c12
 simp only [Option.some.injEq,Prod.mk.injEq] at H
 obtain ⟨rfl,rfl,rfl⟩:=H
 obtain ⟨Ao63,co63,eo63⟩:=Kd.N_slice HO_5.out
 subst eo63
 go_wp2
 go_ret3
 exact ⟨_,_,eX,by(with_reducible repeat(first|apply Kd.N_alloc|apply Kd.N_drewN|apply Kd.N_drew));exact Kd.N_mono HO_5.out (fun _ hk=>⟨hk.1,hk.2.1⟩),by(with_reducible repeat(first|apply rA|apply rN|apply rD));exact HO_6.out,bX1 HB.out GE469.out⟩
 }

/-! ### spec_WordOk: function 45 -/
def spec_WordOk.l0 : Nat→ByteArray→Int→Option (Bool)
 | 0,_,_=>none
 | k+1,x0,x3=>if x3<(x0.size:Int) then (if 0≤x3 then (if (bt x0 x3)=84 then (spec_WordOk.l0 k x0 (wrap64 (x3+1))) else (if (bt x0 x3)=116 then (spec_WordOk.l0 k x0 (wrap64 (x3+1))) else (if (bt x0 x3)=83 then (spec_WordOk.l0 k x0 (wrap64 (x3+1))) else (if (bt x0 x3)=115 then (spec_WordOk.l0 k x0 (wrap64 (x3+1))) else (some false))))) else (none)) else (some true)
def spec_WordOk.f (k:Nat) (a0:ByteArray):Option (Bool):=if (a0.size:Int) > 40 then (some false) else (spec_WordOk.l0 k a0 0)
theorem spec_WordOk.calls (k:Nat) (a0:ByteArray) (r:Bool) (w:World) (h:spec_WordOk.f k a0=some r) :
  Calls Try.prog 45 #[.string a0] w fun e w'=>e = .returned (.bool r)∧Drawn0 w w':=by
 have H:(if (a0.size:Int) > 40 then (some false) else (spec_WordOk.l0 k a0 0))=some r:=h
 clear h
 by_cases c2:(a0.size:Int) > 40
 {
 rw [if_pos c2] at H
 have c2b0:=decide_eq_true c2
 have c2b1:decide (40<a0.size)=true:=decide_eq_true (by omega)
 clear c2
 obtain rfl:=Option.some.inj H
 go_enter Try.func45,Try.ntmps45
 go_wp2
 go_ret
 exact ⟨by first|rfl|(simp;done)|(simp [*];done),by repeat(first|exact Drawn0.refl _|apply Drawn0.step)⟩
 }
 {
 rw [if_neg c2] at H
 have c2b0:=decide_eq_false c2
 have c2b1:decide (40<a0.size)=false:=decide_eq_false (by omega)
 clear c2
 have H':=aM H
 clear H
 go_enter Try.func45,Try.ntmps45
 go_wp2
 go_loopg [3] k (fun kq v3 w'=>∃ (x3_1:Int),v3 = .int .i64 x3_1∧Aside0 (spec_WordOk.l0 kq a0 x3_1=some r)∧Aside0 (kq≤k)∧Drawn0 w w')
 case atStart=>exact ⟨(0),vX,H',⟨Nat.le_refl _⟩,by repeat(first|exact Drawn0.refl _|apply Drawn0.step)⟩
 case round =>
 clear H'
 try clear c2
 try clear c2b0
 try clear c2b1
 obtain ⟨x3_1,rfl,HA,HK1,⟨m1,rfl⟩⟩:=hrel
 cases gk with
 | zero=>exact absurd HA.out (by simp [spec_WordOk.l0])
 | succ k1 =>
 have H:=HA.out
 clear HA
 simp only [spec_WordOk.l0] at H
 by_cases c3:x3_1<(a0.size:Int)
 {
 rw [if_pos c3] at H
 have c3b0:=decide_eq_true c3
 clear c3
 by_cases c4:0≤x3_1
 {
 rw [if_pos c4] at H
 have c4b0:=decide_eq_true c4
 clear c4
 by_cases c6:(bt a0 x3_1)=84
 {
 rw [if_pos c6] at H
 have c6b0:((bt a0 x3_1) == 84)=true:=beq_iff_eq.mpr c6
 have c6b1:((bt a0 x3_1) != 84)=false:=bne_eq_false_iff_eq.mpr c6
 clear c6
 have H':=aM H
 clear H
 have p5:0≤(x3_1:Int):=dX
 have q5:x3_1<(a0.size:Int):=dX
 have hx5:=bt_at a0 x3_1
 replace p5:=eq_true p5
 replace q5:=eq_true q5
 go_wp2
 go_roundg k1
 case measure=>have:=HK1.out;omega
 case rel=>exact ⟨(wrap64 (x3_1+1)),vX,H',⟨by have:=HK1.out;omega⟩,by repeat(first|exact Drawn0.refl _|apply Drawn0.step)⟩
 }
 {
 rw [if_neg c6] at H
 have c6b0:((bt a0 x3_1) == 84)=false:=beq_eq_false_iff_ne.mpr c6
 have c6b1:((bt a0 x3_1) != 84)=true:=bne_iff_ne.mpr c6
 by_cases c7:(bt a0 x3_1)=116
 {
 rw [if_pos c7] at H
 have c7b0:((bt a0 x3_1) == 116)=true:=beq_iff_eq.mpr c7
 have c7b1:((bt a0 x3_1) != 116)=false:=bne_eq_false_iff_eq.mpr c7
 clear c7
 have H':=aM H
 clear H
 have p5:0≤(x3_1:Int):=dX
 have q5:x3_1<(a0.size:Int):=dX
 have hx5:=bt_at a0 x3_1
 replace p5:=eq_true p5
 replace q5:=eq_true q5
 go_wp2
 go_roundg k1
 case measure=>have:=HK1.out;omega
 case rel=>exact ⟨(wrap64 (x3_1+1)),vX,H',⟨by have:=HK1.out;omega⟩,by repeat(first|exact Drawn0.refl _|apply Drawn0.step)⟩
 }
 {
 rw [if_neg c7] at H
 have c7b0:((bt a0 x3_1) == 116)=false:=beq_eq_false_iff_ne.mpr c7
 have c7b1:((bt a0 x3_1) != 116)=true:=bne_iff_ne.mpr c7
 by_cases c8:(bt a0 x3_1)=83
 {
 rw [if_pos c8] at H
 have c8b0:((bt a0 x3_1) == 83)=true:=beq_iff_eq.mpr c8
 have c8b1:((bt a0 x3_1) != 83)=false:=bne_eq_false_iff_eq.mpr c8
 clear c8
 have H':=aM H
 clear H
 have p5:0≤(x3_1:Int):=dX
 have q5:x3_1<(a0.size:Int):=dX
 have hx5:=bt_at a0 x3_1
 replace p5:=eq_true p5
 replace q5:=eq_true q5
 go_wp2
 go_roundg k1
 case measure=>have:=HK1.out;omega
 case rel=>exact ⟨(wrap64 (x3_1+1)),vX,H',⟨by have:=HK1.out;omega⟩,by repeat(first|exact Drawn0.refl _|apply Drawn0.step)⟩
 }
 {
 rw [if_neg c8] at H
 have c8b0:((bt a0 x3_1) == 83)=false:=beq_eq_false_iff_ne.mpr c8
 have c8b1:((bt a0 x3_1) != 83)=true:=bne_iff_ne.mpr c8
 by_cases c9:(bt a0 x3_1)=115
 {
 rw [if_pos c9] at H
 have c9b0:((bt a0 x3_1) == 115)=true:=beq_iff_eq.mpr c9
 have c9b1:((bt a0 x3_1) != 115)=false:=bne_eq_false_iff_eq.mpr c9
 clear c9
 have H':=aM H
 clear H
 have p5:0≤(x3_1:Int):=dX
 have q5:x3_1<(a0.size:Int):=dX
 have hx5:=bt_at a0 x3_1
 replace p5:=eq_true p5
 replace q5:=eq_true q5
 go_wp2
 go_roundg k1
 case measure=>have:=HK1.out;omega
 case rel=>exact ⟨(wrap64 (x3_1+1)),vX,H',⟨by have:=HK1.out;omega⟩,by repeat(first|exact Drawn0.refl _|apply Drawn0.step)⟩
 }
 {
 rw [if_neg c9] at H
 have c9b0:((bt a0 x3_1) == 115)=false:=beq_eq_false_iff_ne.mpr c9
 have c9b1:((bt a0 x3_1) != 115)=true:=bne_iff_ne.mpr c9
 obtain rfl:=Option.some.inj H
 have p5:0≤(x3_1:Int):=dX
 have q5:x3_1<(a0.size:Int):=dX
 have hx5:=bt_at a0 x3_1
 replace p5:=eq_true p5
 replace q5:=eq_true q5
 go_wp2
 go_ret
 exact ⟨by first|rfl|(simp;done)|(simp [*];done),by repeat(first|exact Drawn0.refl _|apply Drawn0.step)⟩
 }
 }
 }
 }
 }
 {
 rw [if_neg c4] at H
 exact absurd H (by simp)
 }
 }
 {
 rw [if_neg c3] at H
 have c3b0:=decide_eq_false c3
 clear c3
 obtain rfl:=Option.some.inj H
 go_wp2
 go_ret
 exact ⟨by first|rfl|(simp;done)|(simp [*];done),by repeat(first|exact Drawn0.refl _|apply Drawn0.step)⟩
 }
 }

/-! ### spec_InverseWord: function 44 -/
def spec_InverseWord.l0 : Nat→ByteArray→ByteArray→Int→Option (ByteArray)
 | 0,_,_,_=>none
 | k+1,x0,x3,x4=>if x4≥0 then (if 0≤x4 then (if x4<(x0.size:Int) then (if (bt x0 x4)=84 then (if x3.size+1≤9223372036854775807 then (spec_InverseWord.l0 k x0 (x3 ++ (⟨#[116]⟩:ByteArray)) (wrap64 (x4 - 1))) else (none)) else (if (bt x0 x4)=116 then (if x3.size+1≤9223372036854775807 then (spec_InverseWord.l0 k x0 (x3 ++ (⟨#[84]⟩:ByteArray)) (wrap64 (x4 - 1))) else (none)) else (if (bt x0 x4)=83 then (if x3.size+1≤9223372036854775807 then (spec_InverseWord.l0 k x0 (x3 ++ (⟨#[115]⟩:ByteArray)) (wrap64 (x4 - 1))) else (none)) else (if (bt x0 x4)=115 then (if x3.size+1≤9223372036854775807 then (spec_InverseWord.l0 k x0 (x3 ++ (⟨#[83]⟩:ByteArray)) (wrap64 (x4 - 1))) else (none)) else (spec_InverseWord.l0 k x0 x3 (wrap64 (x4 - 1))))))) else (none)) else (none)) else (some x3)
def spec_InverseWord.f (k:Nat) (a0:ByteArray):Option (ByteArray):=(spec_WordOk.f k a0).bind fun t511=>(if t511=true then (spec_InverseWord.l0 k a0 (⟨#[]⟩:ByteArray) (wrap64 ((a0.size:Int) - 1))) else (some (⟨#[]⟩:ByteArray)))
theorem spec_InverseWord.calls (k:Nat) (a0:ByteArray) (r:ByteArray) (w:World) (h:spec_InverseWord.f k a0=some r) :
  Calls Try.prog 44 #[.string a0] w fun e w'=>e = .returned (.string r)∧Drawn0 w w':=by
 have H:((spec_WordOk.f k a0).bind fun t511=>(if t511=true then (spec_InverseWord.l0 k a0 (⟨#[]⟩:ByteArray) (wrap64 ((a0.size:Int) - 1))) else (some (⟨#[]⟩:ByteArray))))=some r:=h
 clear h
 replace H:=oB H
 obtain ⟨t511,A20,H⟩:=H
 have A2:=aM A20
 clear A20
 by_cases c3:t511=true
 {
 subst c3
 have H1:(spec_InverseWord.l0 k a0 (⟨#[]⟩:ByteArray) (wrap64 ((a0.size:Int) - 1)))=some r:=by rw [if_pos rfl] at H;exact H
 clear H
 have H:=H1
 clear H1
 have H':=aM H
 clear H
 go_enter Try.func44,Try.ntmps44
 go_wp2_with (first|((with_reducible refine gate_callee (f:=45) rfl ?_);refine goesL_ (some 6) rfl rfl Try.func45 (by kernel_rfl) rfl #[.string a0] rfl aX ?_;(with_reducible refine(spec_WordOk.calls k a0 true _ A2.out).mono ?_);rintro e w' ⟨rfl,⟨nd,rfl⟩⟩;refine ⟨_,rfl,?_⟩))
 go_loopg [3,4] k (fun kq v3 v4 w'=>∃ (x3_1:ByteArray) (x4_1:Int),v3 = .string x3_1∧v4 = .int .i64 x4_1∧Aside0 (spec_InverseWord.l0 kq a0 x3_1 x4_1=some r)∧Aside0 (kq≤k)∧Drawn0 w w')
 case atStart=>exact ⟨((⟨#[]⟩:ByteArray)),(wrap64 ((a0.size:Int) - 1)),vX,vX,H',⟨Nat.le_refl _⟩,by repeat(first|exact Drawn0.refl _|apply Drawn0.step)⟩
 case round =>
 clear H'
 try clear c3
 obtain ⟨x3_1,x4_1,rfl,rfl,HA,HK1,⟨m1,rfl⟩⟩:=hrel
 cases gk with
 | zero=>exact absurd HA.out (by simp [spec_InverseWord.l0])
 | succ k1 =>
 have H:=HA.out
 clear HA
 simp only [spec_InverseWord.l0] at H
 by_cases c4:x4_1≥0
 {
 rw [if_pos c4] at H
 have c4b0:=decide_eq_true c4
 clear c4
 by_cases c5:0≤x4_1
 {
 rw [if_pos c5] at H
 have c5b0:=decide_eq_true c5
 clear c5
 by_cases c6:x4_1<(a0.size:Int)
 {
 rw [if_pos c6] at H
 have c6b0:=decide_eq_true c6
 clear c6
 by_cases c8:(bt a0 x4_1)=84
 {
 rw [if_pos c8] at H
 have c8b0:((bt a0 x4_1) == 84)=true:=beq_iff_eq.mpr c8
 have c8b1:((bt a0 x4_1) != 84)=false:=bne_eq_false_iff_eq.mpr c8
 clear c8
 by_cases c9:x3_1.size+1≤9223372036854775807
 {
 rw [if_pos c9] at H
 have c9b0:=eq_true c9
 have c9b1:=decide_eq_true c9
 try have c9b2:(9223372036854775807<x3_1.size+1)=False:=eq_false (Nat.not_lt.2 c9)
 have H':=aM H
 clear H
 have p7:0≤(x4_1:Int):=dX
 have q7:x4_1<(a0.size:Int):=dX
 have hx7:=bt_at a0 x4_1
 replace p7:=eq_true p7
 replace q7:=eq_true q7
 go_wp2
 go_roundg k1
 case measure=>have:=HK1.out;omega
 case rel=>exact ⟨(x3_1 ++ (⟨#[116]⟩:ByteArray)),(wrap64 (x4_1 - 1)),vX,vX,H',⟨by have:=HK1.out;omega⟩,by repeat(first|exact Drawn0.refl _|apply Drawn0.step)⟩
 }
 {
 rw [if_neg c9] at H
 exact absurd H (by simp)
 }
 }
 {
 rw [if_neg c8] at H
 have c8b0:((bt a0 x4_1) == 84)=false:=beq_eq_false_iff_ne.mpr c8
 have c8b1:((bt a0 x4_1) != 84)=true:=bne_iff_ne.mpr c8
 by_cases c10:(bt a0 x4_1)=116
 {
 rw [if_pos c10] at H
 have c10b0:((bt a0 x4_1) == 116)=true:=beq_iff_eq.mpr c10
 have c10b1:((bt a0 x4_1) != 116)=false:=bne_eq_false_iff_eq.mpr c10
 clear c10
 by_cases c11:x3_1.size+1≤9223372036854775807
 {
 rw [if_pos c11] at H
 have c11b0:=eq_true c11
 have c11b1:=decide_eq_true c11
 try have c11b2:(9223372036854775807<x3_1.size+1)=False:=eq_false (Nat.not_lt.2 c11)
 have H':=aM H
 clear H
 have p7:0≤(x4_1:Int):=dX
 have q7:x4_1<(a0.size:Int):=dX
 have hx7:=bt_at a0 x4_1
 replace p7:=eq_true p7
 replace q7:=eq_true q7
 go_wp2
 go_roundg k1
 case measure=>have:=HK1.out;omega
 case rel=>exact ⟨(x3_1 ++ (⟨#[84]⟩:ByteArray)),(wrap64 (x4_1 - 1)),vX,vX,H',⟨by have:=HK1.out;omega⟩,by repeat(first|exact Drawn0.refl _|apply Drawn0.step)⟩
 }
 {
 rw [if_neg c11] at H
 exact absurd H (by simp)
 }
 }
 {
 rw [if_neg c10] at H
 have c10b0:((bt a0 x4_1) == 116)=false:=beq_eq_false_iff_ne.mpr c10
 have c10b1:((bt a0 x4_1) != 116)=true:=bne_iff_ne.mpr c10
 by_cases c12:(bt a0 x4_1)=83
 {
 rw [if_pos c12] at H
 have c12b0:((bt a0 x4_1) == 83)=true:=beq_iff_eq.mpr c12
 have c12b1:((bt a0 x4_1) != 83)=false:=bne_eq_false_iff_eq.mpr c12
 clear c12
 by_cases c13:x3_1.size+1≤9223372036854775807
 {
 rw [if_pos c13] at H
 have c13b0:=eq_true c13
 have c13b1:=decide_eq_true c13
 try have c13b2:(9223372036854775807<x3_1.size+1)=False:=eq_false (Nat.not_lt.2 c13)
 have H':=aM H
 clear H
 have p7:0≤(x4_1:Int):=dX
 have q7:x4_1<(a0.size:Int):=dX
 have hx7:=bt_at a0 x4_1
 replace p7:=eq_true p7
 replace q7:=eq_true q7
 go_wp2
 go_roundg k1
 case measure=>have:=HK1.out;omega
 case rel=>exact ⟨(x3_1 ++ (⟨#[115]⟩:ByteArray)),(wrap64 (x4_1 - 1)),vX,vX,H',⟨by have:=HK1.out;omega⟩,by repeat(first|exact Drawn0.refl _|apply Drawn0.step)⟩
 }
 {
 rw [if_neg c13] at H
 exact absurd H (by simp)
 }
 }
 {
 rw [if_neg c12] at H
 have c12b0:((bt a0 x4_1) == 83)=false:=beq_eq_false_iff_ne.mpr c12
 have c12b1:((bt a0 x4_1) != 83)=true:=bne_iff_ne.mpr c12
 by_cases c14:(bt a0 x4_1)=115
 {
 rw [if_pos c14] at H
 have c14b0:((bt a0 x4_1) == 115)=true:=beq_iff_eq.mpr c14
 have c14b1:((bt a0 x4_1) != 115)=false:=bne_eq_false_iff_eq.mpr c14
 clear c14
 by_cases c15:x3_1.size+1≤9223372036854775807
 {
 rw [if_pos c15] at H
 have c15b0:=eq_true c15
 have c15b1:=decide_eq_true c15
 try have c15b2:(9223372036854775807<x3_1.size+1)=False:=eq_false (Nat.not_lt.2 c15)
 have H':=aM H
 clear H
 have p7:0≤(x4_1:Int):=dX
 have q7:x4_1<(a0.size:Int):=dX
 have hx7:=bt_at a0 x4_1
 replace p7:=eq_true p7
 replace q7:=eq_true q7
 go_wp2
 go_roundg k1
 case measure=>have:=HK1.out;omega
 case rel=>exact ⟨(x3_1 ++ (⟨#[83]⟩:ByteArray)),(wrap64 (x4_1 - 1)),vX,vX,H',⟨by have:=HK1.out;omega⟩,by repeat(first|exact Drawn0.refl _|apply Drawn0.step)⟩
 }
 {
 rw [if_neg c15] at H
 exact absurd H (by simp)
 }
 }
 {
 rw [if_neg c14] at H
 have c14b0:((bt a0 x4_1) == 115)=false:=beq_eq_false_iff_ne.mpr c14
 have c14b1:((bt a0 x4_1) != 115)=true:=bne_iff_ne.mpr c14
 have H':=aM H
 clear H
 have p7:0≤(x4_1:Int):=dX
 have q7:x4_1<(a0.size:Int):=dX
 have hx7:=bt_at a0 x4_1
 replace p7:=eq_true p7
 replace q7:=eq_true q7
 go_wp2
 go_roundg k1
 case measure=>have:=HK1.out;omega
 case rel=>exact ⟨(x3_1),(wrap64 (x4_1 - 1)),vX,vX,H',⟨by have:=HK1.out;omega⟩,by repeat(first|exact Drawn0.refl _|apply Drawn0.step)⟩
 }
 }
 }
 }
 }
 {
 rw [if_neg c6] at H
 exact absurd H (by simp)
 }
 }
 {
 rw [if_neg c5] at H
 exact absurd H (by simp)
 }
 }
 {
 rw [if_neg c4] at H
 have c4b0:=decide_eq_false c4
 clear c4
 obtain rfl:=Option.some.inj H
 go_wp2
 go_ret
 exact ⟨by first|rfl|(simp;done)|(simp [*];done),by repeat(first|exact Drawn0.refl _|apply Drawn0.step)⟩
 }
 }
 {
 replace c3:=Bool.eq_false_iff.mpr c3
 subst c3
 have H1:(some (⟨#[]⟩:ByteArray))=some r:=by rw [if_neg (show ¬ (false=true) by decide)] at H;exact H
 clear H
 have H:=H1
 clear H1
 obtain rfl:=Option.some.inj H
 go_enter Try.func44,Try.ntmps44
 go_wp2_with (first|((with_reducible refine gate_callee (f:=45) rfl ?_);refine goesL_ (some 6) rfl rfl Try.func45 (by kernel_rfl) rfl #[.string a0] rfl aX ?_;(with_reducible refine(spec_WordOk.calls k a0 false _ A2.out).mono ?_);rintro e w' ⟨rfl,⟨nd,rfl⟩⟩;refine ⟨_,rfl,?_⟩))
 go_ret
 exact ⟨by first|rfl|(simp;done)|(simp [*];done),by repeat(first|exact Drawn0.refl _|apply Drawn0.step)⟩
 }

/-! ### spec_GeneratorWords: function 23 -/
/-! by hand -/
mutual
def spec_GeneratorWords.l0 : Nat→List (S27)→List ByteArray→List ByteArray→List (S27)→Int→Int→Option (List ByteArray × Bool)
 | 0,_,_,_,_,_,_=>none
 | k+1,x4,x5,x7,x26,x27,x28=>if x28<x27 then (if 0≤x28 then (if x28<(x26.length:Int) then ((some (([84,83]:List Int):List Int)).bind fun y333=>(spec_GeneratorWords.l1 k x4 x5 x7 x28 x26 x27 x28 y333 (y333.length:Int) 0 ((rd_T27 x26 x28).f0) ((rd_T27 x26 x28).f1))) else (none)) else (none)) else (some (x7,true))
def spec_GeneratorWords.l1 : Nat→List (S27)→List ByteArray→List ByteArray→Int→List (S27)→Int→Int→List Int→Int→Int→List Int→List Int→Option (List ByteArray × Bool)
 | 0,_,_,_,_,_,_,_,_,_,_,_,_=>none
 | k+1,x4,x5,x7,x8,x26,x27,x28,x33,x34,x35,x333000,x333001=>if x35<x34 then (if 0≤x35 then (if x35<(x33.length:Int) then ((spec_l05Letter.f k x333000 x333001 (rd x33 x35)).bind fun bt337=>((spec_l03Canon.f k bt337.1 bt337.2).bind fun bt343=>((spec_l06Find.f k x4 bt343.1 bt343.2).bind fun t349=>(if 0≤x8 then (if x8<(x5.length:Int) then ((some (([rd x33 x35]:List Int):List Int)).bind fun y351=>(if (rdOf ByteArray.empty x5 x8).size+(strOfNums y351).size≤9223372036854775807 then (if 0≤t349 then (if t349<(x5.length:Int) then (if ((rdOf ByteArray.empty x5 x8) ++ (strOfNums y351)).toList=(rdOf ByteArray.empty x5 t349).toList then (spec_GeneratorWords.l1 k x4 x5 x7 x8 x26 x27 x28 x33 x34 (wrap64 (x35+1)) x333000 x333001) else ((spec_InverseWord.f k (rdOf ByteArray.empty x5 t349)).bind fun t356=>(if ((rdOf ByteArray.empty x5 x8) ++ (strOfNums y351)).size+t356.size≤9223372036854775807 then ((spec_WordOk.f k (((rdOf ByteArray.empty x5 x8) ++ (strOfNums y351)) ++ t356)).bind fun t357=>(if t357=true then (if x7.length<8796093022208 then (spec_GeneratorWords.l1 k x4 x5 (x7 ++ [((rdOf ByteArray.empty x5 x8) ++ (strOfNums y351)) ++ t356]) x8 x26 x27 x28 x33 x34 (wrap64 (x35+1)) x333000 x333001) else (none)) else (some (([]:List ByteArray),false)))) else (none)))) else (none)) else (none)) else (none))) else (none)) else (none))))) else (none)) else (none)) else (spec_GeneratorWords.l0 k x4 x5 x7 x26 x27 (wrap64 (x28+1)))
end
def spec_GeneratorWords.f (k:Nat) (l0_0:List Int) (l0_1:List Int):Option (List ByteArray × Bool):=(spec_SurfaceOk.f k l0_0 l0_1).bind fun t320=>(if t320=true then ((spec_l06Orbit.f k l0_0 l0_1).bind fun bt321=>(if bt321.2.2=true then (spec_GeneratorWords.l0 k bt321.1 bt321.2.1 (([]:List ByteArray)) bt321.1 (bt321.1.length:Int) 0) else (some (([]:List ByteArray),false)))) else (some (([]:List ByteArray),false)))
theorem ifN {p:Prop} [Decidable p] {α:Type} {a:Option α} {r:α} (h:(if p then a else none)=some r):p∧a=some r:=by by_cases c:p <;> simp_all
theorem spec_GeneratorWords.calls (k:Nat) (A0_0:Option Addr) (c0_0:Nat) (l0_0:List Int) (A0_1:Option Addr) (c0_1:Nat) (l0_1:List Int) (r1:List ByteArray) (r2:Bool) (w:World) (hr0_0:Kd.C (Kd.int .i64) w A0_0 l0_0.length l0_0) (hc0_0:l0_0.length≤c0_0) (hr0_1:Kd.C (Kd.int .i64) w A0_1 l0_1.length l0_1) (hc0_1:l0_1.length≤c0_1) (h:spec_GeneratorWords.f k l0_0 l0_1=some (r1,r2)) :
    Calls Try.prog 23 #[.agg #[.slice A0_0 l0_0.length c0_0,.slice A0_1 l0_1.length c0_1]] w fun e w'=>∃ v0_:Value,e = .returned (.tuple #[v0_,.bool r2])∧Kd.R Kd.string 9 w' w.heap.size (fun _=>True) v0_ r1∧Below w.heap.size w w':=by
  have hu:=Try.underlying27
  have HS:=aM (show SurfC w A0_0 A0_1 c0_0 c0_1 l0_0 l0_1 from ⟨hc0_0,hr0_0,hc0_1,hr0_1⟩)
  clear hr0_0 hc0_0 hr0_1 hc0_1
  unfold spec_GeneratorWords.f at h
  obtain ⟨ok0,hok,h⟩:=oB h
  have HOK:=aM hok
  clear hok
  cases ok0 with
  | false =>
    have hq:(([]:List ByteArray),false)=(r1,r2):=Option.some.inj h
    cases hq
    go_enter Try.func23,Try.ntmps23
    go_wp2_with (first
      | ((with_reducible refine gate_dst (N:=1) rfl ?_);refine bEv (cs:=#[.slice A0_0 l0_0.length c0_0,.slice A0_1 l0_1.length c0_1]) (t:=27) ?_;intro gb1 hg1 w1 hbox1 hb1;have BK1:=aM hbox1;have HB1:=aM hb1;have hc10:w1.cell? ⟨gb1,0,none⟩=some (.slice A0_0 l0_0.length c0_0):=(blk_cell BK1.out 0).trans rfl;have hc11:w1.cell? ⟨gb1,1,none⟩=some (.slice A0_1 l0_1.length c0_1):=(blk_cell BK1.out 1).trans rfl;clear hbox1 hb1 hg1)
      | ((with_reducible refine gate_callee (f:=39) rfl ?_);refine goesL_ (some 15) rfl rfl Try.func39 (by kernel_rfl) rfl #[.agg #[.slice A0_0 l0_0.length c0_0,.slice A0_1 l0_1.length c0_1]] rfl (by(try simp only [zE,zF,zG]);first|done|rfl|(simp only [zH,zI];rfl)) ?_;refine(spec_SurfaceOk.calls k _ _ l0_0 _ _ l0_1 false w1 (HS.out.below HB1.out).g0 HS.out.l0 (HS.out.below HB1.out).g1 HS.out.l1 HOK.out).mono ?_;rintro e w2 ⟨rfl,hb⟩;refine ⟨_,rfl,?_⟩;have HB2:=aM (below_step HB1.out hb);have hc20:w2.cell? ⟨gb1,0,none⟩=some (.slice A0_0 l0_0.length c0_0):=(hb.cell (World.block_lt_of_cell? _ _ hc10)).trans hc10;have hc21:w2.cell? ⟨gb1,1,none⟩=some (.slice A0_1 l0_1.length c0_1):=(hb.cell (World.block_lt_of_cell? _ _ hc11)).trans hc11;clear hb hc10 hc11))
    go_ret2
    exact ⟨.slice none 0 0,rfl,Kd.R_nil _ _ _ _ _,HB2.out⟩
  | true =>
    rw [if_pos rfl] at h
    obtain ⟨⟨l,ws,ok1⟩,hor,h⟩:=oB h
    have HOR:=aM hor
    clear hor
    cases ok1 with
    | false =>
      have hq:(([]:List ByteArray),false)=(r1,r2):=Option.some.inj h
      cases hq
      go_enter Try.func23,Try.ntmps23
      go_wp2_with (first
        | ((with_reducible refine gate_dst (N:=1) rfl ?_);refine bEv (cs:=#[.slice A0_0 l0_0.length c0_0,.slice A0_1 l0_1.length c0_1]) (t:=27) ?_;intro gb1 hg1 w1 hbox1 hb1;have BK1:=aM hbox1;have HB1:=aM hb1;have hc10:w1.cell? ⟨gb1,0,none⟩=some (.slice A0_0 l0_0.length c0_0):=(blk_cell BK1.out 0).trans rfl;have hc11:w1.cell? ⟨gb1,1,none⟩=some (.slice A0_1 l0_1.length c0_1):=(blk_cell BK1.out 1).trans rfl;clear hbox1 hb1 hg1)
        | ((with_reducible refine gate_callee (f:=39) rfl ?_);refine goesL_ (some 15) rfl rfl Try.func39 (by kernel_rfl) rfl #[.agg #[.slice A0_0 l0_0.length c0_0,.slice A0_1 l0_1.length c0_1]] rfl (by(try simp only [zE,zF,zG]);first|done|rfl|(simp only [zH,zI];rfl)) ?_;refine(spec_SurfaceOk.calls k _ _ l0_0 _ _ l0_1 true w1 (HS.out.below HB1.out).g0 HS.out.l0 (HS.out.below HB1.out).g1 HS.out.l1 HOK.out).mono ?_;rintro e w2 ⟨rfl,hb⟩;refine ⟨_,rfl,?_⟩;have HB2:=aM (below_step HB1.out hb);have hc20:w2.cell? ⟨gb1,0,none⟩=some (.slice A0_0 l0_0.length c0_0):=(hb.cell (World.block_lt_of_cell? _ _ hc10)).trans hc10;have hc21:w2.cell? ⟨gb1,1,none⟩=some (.slice A0_1 l0_1.length c0_1):=(hb.cell (World.block_lt_of_cell? _ _ hc11)).trans hc11;clear hb hc10 hc11)
        | ((with_reducible refine gate_callee (f:=40) rfl ?_);refine goesL_ (some 19) rfl rfl Try.func40 (by kernel_rfl) rfl #[.agg #[.slice A0_0 l0_0.length c0_0,.slice A0_1 l0_1.length c0_1]] rfl (by(try simp only [zE,zF,zG]);first|done|rfl|(simp only [zH,zI];rfl)) ?_;refine(spec_l06Orbit.calls k _ _ l0_0 _ _ l0_1 l ws false w2 (HS.out.below HB2.out).g0 HS.out.l0 (HS.out.below HB2.out).g1 HS.out.l1 HOR.out).mono ?_;rintro e w3 ⟨v0,v1,rfl,hn,hr,hb⟩;refine ⟨_,rfl,?_⟩;have HN:=aM hn;have HW:=aM hr;obtain ⟨A0,c0,e0⟩:=Kd.N_slice HN.out;subst e0;obtain ⟨Aw,cw,e0⟩:=Kd.R_slice HW.out;subst e0;have HB3:=aM (below_step HB2.out hb);clear hn hr hb hc20 hc21))
      go_ret2
      exact ⟨.slice none 0 0,rfl,Kd.R_nil _ _ _ _ _,HB3.out⟩
    | true =>
      have HG0:=aM (show spec_GeneratorWords.l0 k l ws [] l (l.length:Int) 0=some (r1,r2) from h)
      clear h
      go_enter Try.func23,Try.ntmps23
      go_wp2_with (first
        | ((with_reducible refine gate_dst (N:=1) rfl ?_);refine bEv (cs:=#[.slice A0_0 l0_0.length c0_0,.slice A0_1 l0_1.length c0_1]) (t:=27) ?_;intro gb1 hg1 w1 hbox1 hb1;have BK1:=aM hbox1;have HB1:=aM hb1;have hc10:w1.cell? ⟨gb1,0,none⟩=some (.slice A0_0 l0_0.length c0_0):=(blk_cell BK1.out 0).trans rfl;have hc11:w1.cell? ⟨gb1,1,none⟩=some (.slice A0_1 l0_1.length c0_1):=(blk_cell BK1.out 1).trans rfl;clear hbox1 hb1 hg1)
        | ((with_reducible refine gate_callee (f:=39) rfl ?_);refine goesL_ (some 15) rfl rfl Try.func39 (by kernel_rfl) rfl #[.agg #[.slice A0_0 l0_0.length c0_0,.slice A0_1 l0_1.length c0_1]] rfl (by(try simp only [zE,zF,zG]);first|done|rfl|(simp only [zH,zI];rfl)) ?_;refine(spec_SurfaceOk.calls k _ _ l0_0 _ _ l0_1 true w1 (HS.out.below HB1.out).g0 HS.out.l0 (HS.out.below HB1.out).g1 HS.out.l1 HOK.out).mono ?_;rintro e w2 ⟨rfl,hb⟩;refine ⟨_,rfl,?_⟩;have HB2:=aM (below_step HB1.out hb);have hc20:w2.cell? ⟨gb1,0,none⟩=some (.slice A0_0 l0_0.length c0_0):=(hb.cell (World.block_lt_of_cell? _ _ hc10)).trans hc10;have hc21:w2.cell? ⟨gb1,1,none⟩=some (.slice A0_1 l0_1.length c0_1):=(hb.cell (World.block_lt_of_cell? _ _ hc11)).trans hc11;clear hb hc10 hc11)
        | ((with_reducible refine gate_callee (f:=40) rfl ?_);refine goesL_ (some 19) rfl rfl Try.func40 (by kernel_rfl) rfl #[.agg #[.slice A0_0 l0_0.length c0_0,.slice A0_1 l0_1.length c0_1]] rfl (by(try simp only [zE,zF,zG]);first|done|rfl|(simp only [zH,zI];rfl)) ?_;refine(spec_l06Orbit.calls k _ _ l0_0 _ _ l0_1 l ws true w2 (HS.out.below HB2.out).g0 HS.out.l0 (HS.out.below HB2.out).g1 HS.out.l1 HOR.out).mono ?_;rintro e w3 ⟨v0,v1,rfl,hn,hr,hb⟩;refine ⟨_,rfl,?_⟩;have HN:=aM hn;have HW:=aM hr;obtain ⟨A0,c0,e0⟩:=Kd.N_slice HN.out;subst e0;obtain ⟨Aw,cw,e0⟩:=Kd.R_slice HW.out;subst e0;have HB3:=aM (below_step HB2.out hb);clear hn hr hb hc20 hc21)
        | ((with_reducible refine gate_dst (N:=25) rfl ?_);refine Kd.R_lit Kd.string _ 9 ?hg (N:=25) ?hd (xs:=([]:List ByteArray)) (inner:=[]) (ok:=fun _=>True) (okp:=fun _=>True) ?hr ?hp (fun _ hk=>hk) trivial (Below.refl _ _) (Nat.le_refl _) (by simp) ?_;(case hd=>rfl);(case hg=>rfl);(case hr=>first|(go_simp;done)|(go_simp;rfl));(case hp=>exact(Reps.none _ _));intro v7 w4 hl hb hg_ hnew_;obtain ⟨Ao,co,e0⟩:=Kd.R_slice hl;subst e0;have HR4:=aM hl;have HB4:=aM hb;clear hl hb hg_ hnew_))
      go_loopg [7,28] k (fun kq v7_ v28 w'=>∃ (i:Int) (out:List ByteArray) (Ao:Option Addr) (co:Nat),v7_ = .slice Ao out.length co∧v28 = .int .i64 i∧Aside0 (spec_GeneratorWords.l0 kq l ws out l (l.length:Int) i=some (r1,r2))∧Aside0 (Kd.R Kd.string 9 w' w3.heap.size (fun _=>True) (.slice Ao out.length co) out)∧Aside0 (Below w3.heap.size w3 w'))
      case atStart=>exact ⟨0,[],_,_,rfl,rfl,HG0,HR4,HB4⟩
      case round =>
        clear HG0 HR4 HB4
        obtain ⟨i,out,Ao,co,rfl,rfl,HG,HR,HBL⟩:=hrel
        obtain ⟨k1,rfl⟩:∃ q,gk=q+1:=by
          cases gk with
          | zero=>exact absurd HG.out (by simp [spec_GeneratorWords.l0])
          | succ q=>exact ⟨q,rfl⟩
        have hg:=HG.out
        rw [spec_GeneratorWords.l0] at hg
        by_cases hlt:i<(l.length:Int)
        · rw [if_pos hlt] at hg
          obtain ⟨i0,hg⟩:=ifN hg
          obtain ⟨i1,hg⟩:=ifN hg
          rw [Option.bind_some] at hg
          have hadr:∀ a,A0=some a→(fun k_=>(w2.heap.size≤k_)∧some k_≠(.slice Aw ws.length cw:Value).ownBlock) a.block∧a.block<w3.heap.size:=fun a ha=>by
            subst ha
            exact ⟨HN.out.1 _ rfl,Kd.N_lt HN.out _ rfl⟩
          obtain ⟨ad2,C0,d0,C1,d1,e2,hy0,hy1,gy⟩:=surf_elem (Kd.N_F HN.out) hadr i i0 hlt
          cases e2
          have GY:=aM gy
          clear gy hadr
          replace hy0:=(HBL.out.cell (World.block_lt_of_cell? _ _ hy0)).trans hy0
          replace hy1:=(HBL.out.cell (World.block_lt_of_cell? _ _ hy1)).trans hy1
          generalize rd_T27 l i=z at *
          have HG1:=aM hg
          have c1:decide (i<(l.length:Int))=true:=decide_eq_true hlt
          have p0:decide (0≤i)=true:=decide_eq_true i0
          replace i0:=eq_true i0
          replace hlt:=eq_true hlt
          clear hg HG i1
          go_wp2_with (first
            | ((with_reducible refine gate_dst (N:=9) rfl ?_);refine bEv (cs:=#[.slice none 0 0,.slice none 0 0]) (t:=27) ?_;intro gx hgx w5 hbox hb;have BX5:=aM hbox;have HB5:=aM hb;have HGX:=aM (show wr.heap.size≤gx by rw [hgx];exact Nat.le_refl _);clear hbox hb hgx)
            | (refine wpList_store_row rfl 27 (.tmp 9) (.tmp 32) rfl gx #[.slice C0 z.f0.length d0,.slice C1 z.f1.length d1] rfl rfl 27 #[.slice none 0 0,.slice none 0 0] BX5.out (by kernel_rfl) rfl (by simp [Value.oneCell']) ?_;have BX:=aM (setRow_heap w5 gx _ #[.slice C0 z.f0.length d0,.slice C1 z.f1.length d1] _ _ BX5.out);have HB6:=aM (below_setRow HB5.out HGX.out #[.slice C0 z.f0.length d0,.slice C1 z.f1.length d1]);clear BX5 HB5;generalize w5.setRow gx #[.slice C0 z.f0.length d0,.slice C1 z.f1.length d1]=w6 at BX HB6 ⊢))
          have hgl:=aM (heap_new w6 (.cells #[.int .u8 84,.int .u8 83] 5 (0,0)))
          have hba:Below w6.heap.size w6 (w6.alloc (.cells #[.int .u8 84,.int .u8 83] 5 (0,0))):=below_alloc (Below.refl _ _) _
          have HBg:=aM (below_step (below_step HBL.out HB6.out) hba)
          have HRg:=aM (Kd.R_below (Kd.R_below HR.out HB6.out) hba)
          have BXg:=aM (blk_below BX.out hba)
          clear hba BX HB6
          generalize w6.heap.size=gl at hgl ⊢
          go_loopg [7,35] k1 (fun kq v7_ v35 w'=>∃ (j:Int) (out:List ByteArray) (Ao:Option Addr) (co:Nat),v7_ = .slice Ao out.length co∧v35 = .int .i64 j∧Aside0 (kq≤k1)∧Aside0 (spec_GeneratorWords.l1 kq l ws out i l (l.length:Int) i [84,83] (([84,83]:List Int).length:Int) j z.f0 z.f1=some (r1,r2))∧Aside0 (Kd.R Kd.string 9 w' w3.heap.size (fun _=>True) (.slice Ao out.length co) out)∧Aside0 (w'.heap[gl]? = some (.cells #[.int .u8 84,.int .u8 83] 5 (0,0)))∧Aside0 (w'.heap[gx]? = some (.cells #[.slice C0 z.f0.length d0,.slice C1 z.f1.length d1] 27 (0,0)))∧Aside0 (Below w3.heap.size w3 w'))
          case atStart=>exact ⟨0,out,_,_,rfl,rfl,⟨Nat.le_refl _⟩,HG1,HRg,hgl,BXg,HBg⟩
          case round =>
            clear HG1 HRg hgl HBg BXg HR HBL c1 hy0 hy1
            obtain ⟨j,out,Ao,co,rfl,rfl,HK,HG,HR,HL,BX,HBL⟩:=hrel
            obtain ⟨q1,rfl⟩:∃ q,gk=q+1:=by
              cases gk with
              | zero=>exact absurd HG.out (by simp [spec_GeneratorWords.l1])
              | succ q=>exact ⟨q,rfl⟩
            have hg:=HG.out
            rw [spec_GeneratorWords.l1] at hg
            by_cases hj:j<(2:Int)
            · rw [if_pos (show j<(([84,83]:List Int).length:Int) from hj)] at hg
              by_cases j0:0≤j
              · rw [if_pos j0,if_pos (show j<(([84,83]:List Int).length:Int) from hj)] at hg
                have hcl:wr.cell? ⟨gl,j.toNat,none⟩=some (.int .u8 (rd [84,83] j)):=by
                  rw [blk_cell HL.out]
                  have:j=0∨j=1:=by omega
                  rcases this with rfl|rfl <;> rfl
                generalize hce:rd [84,83] j=c at hg hcl
                clear hce
                obtain ⟨⟨y0,y1⟩,hy,hg⟩:=oB hg
                obtain ⟨⟨x0,x1⟩,hx,hg⟩:=oB hg
                obtain ⟨t,ht,hg⟩:=oB hg
                obtain ⟨i0,hg⟩:=ifN hg
                obtain ⟨i1,hg⟩:=ifN hg
                rw [Option.bind_some] at hg
                obtain ⟨z1,hg⟩:=ifN hg
                obtain ⟨t0,hg⟩:=ifN hg
                obtain ⟨t1,hg⟩:=ifN hg
                have HLE:=aM hy
                have HCN:=aM hx
                have HF:=aM ht
                have HH:=aM hg
                clear hy hx ht hg HG
                obtain ⟨adw,e1,hwi⟩:=Kd.at_string (Kd.R_reads' HW.out).2.2 i i0 i1
                cases e1
                obtain ⟨adw2,e1,hwt⟩:=Kd.at_string (Kd.R_reads' HW.out).2.2 t t0 t1
                cases e1
                replace hwi:=(HBL.out.cell (World.block_lt_of_cell? _ _ hwi)).trans hwi
                replace hwt:=(HBL.out.cell (World.block_lt_of_cell? _ _ hwt)).trans hwt
                have hcx0:wr.cell? ⟨gx,0,none⟩=some (.slice C0 z.f0.length d0):=(blk_cell BX.out 0).trans rfl
                have hcx1:wr.cell? ⟨gx,1,none⟩=some (.slice C1 z.f1.length d1):=(blk_cell BX.out 1).trans rfl
                have c2:decide (j<2)=true:=decide_eq_true hj
                have p0:decide (0≤j)=true:=decide_eq_true j0
                have p5:=eq_true hj
                have p6:=eq_true j0
                have p1:=eq_true i0
                have p2:=eq_true i1
                have p3:=eq_true t0
                have p4:=eq_true t1
                have d1_:decide (0≤i)=true:=decide_eq_true i0
                have d2_:=decide_eq_true i1
                have d3_:decide (0≤t)=true:=decide_eq_true t0
                have d4_:=decide_eq_true t1
                have s1:=eq_false (show ¬ 9223372036854775807<(rdOf ByteArray.empty ws i).size+(strOfNums [c]).size by omega)
                clear hj j0 i0 i1 t0 t1 z1
                go_wp2_with (first
                  | ((with_reducible refine gate_callee (f:=43) rfl ?_);refine goesL_ (some 42) rfl rfl Try.func43 (by kernel_rfl) rfl #[.agg #[.slice C0 z.f0.length d0,.slice C1 z.f1.length d1],.int .u8 c] rfl (by(try simp only [zE,zF,zG]);first|done|rfl|(simp only [zH,zI];rfl)) ?_;refine(spec_l05Letter.calls q1 C0 d0 z.f0 C1 d1 z.f1 c y0 y1 wr (GY.out.below HBL.out).g0 GY.out.l0 (GY.out.below HBL.out).g1 GY.out.l1 HLE.out).mono ?_;rintro e w7 ⟨v0_,v1_,rfl,hr0,hr1,hb⟩;refine ⟨_,rfl,?_⟩;obtain ⟨E0,f0,rfl⟩:=Kd.R_slice hr0;obtain ⟨E1,f1,rfl⟩:=Kd.R_slice hr1;have HY:=aM (show SurfC w7 E0 E1 f0 f1 y0 y1 from ⟨(Kd.R_reads' hr0).2.1,(Kd.R_reads' hr0).2.2,(Kd.R_reads' hr1).2.1,(Kd.R_reads' hr1).2.2⟩);have HB7:=aM hb;clear hr0 hr1 hb)
                  | ((with_reducible refine gate_callee (f:=42) rfl ?_);refine goesL_ (some 43) rfl rfl Try.func42 (by kernel_rfl) rfl #[.agg #[.slice E0 y0.length f0,.slice E1 y1.length f1]] rfl (by(try simp only [zE,zF,zG]);first|done|rfl|(simp only [zH,zI];rfl)) ?_;refine(spec_l03Canon.calls q1 _ _ y0 _ _ y1 x0 x1 w7 HY.out.g0 HY.out.l0 HY.out.g1 HY.out.l1 HCN.out).mono ?_;rintro e w8 ⟨v0_,v1_,rfl,hr0,hr1,hb⟩;refine ⟨_,rfl,?_⟩;obtain ⟨E2,f2,rfl⟩:=Kd.R_slice hr0;obtain ⟨E3,f3,rfl⟩:=Kd.R_slice hr1;have HX:=aM (show SurfC w8 E2 E3 f2 f3 x0 x1 from ⟨(Kd.R_reads' hr0).2.1,(Kd.R_reads' hr0).2.2,(Kd.R_reads' hr1).2.1,(Kd.R_reads' hr1).2.2⟩);have HB8:=aM (below_step HB7.out hb);clear hr0 hr1 hb HY HB7)
                  | ((with_reducible refine gate_callee (f:=41) rfl ?_);refine goesL_ (some 44) rfl rfl Try.func41 (by kernel_rfl) rfl #[.slice (some ad2) l.length c0,.agg #[.slice E2 x0.length f2,.slice E3 x1.length f3]] rfl (by(try simp only [zE,zF,zG]);first|done|rfl|(simp only [zH,zI];rfl)) ?_;refine(spec_l06Find.calls q1 (some ad2) c0 l _ _ x0 _ _ x1 t w8 (Kd.N_reads' (Kd.N_below HN.out (below_step HBL.out HB8.out))).2.2 (Kd.N_reads' HN.out).2.1 HX.out.g0 HX.out.l0 HX.out.g1 HX.out.l1 HF.out).mono ?_;rintro e w9 ⟨rfl,hb⟩;refine ⟨_,rfl,?_⟩;have HB9:=aM (below_step HB8.out hb);clear hb HX HB8))
                clear hcx0 hcx1 hcl
                refine start_ (n:=9) (S:=fun w'=>w'.cell? (adw.add i.toNat)=some (.string (rdOf ByteArray.empty ws i))) (ds:=([]:List Nat)) #[ff,ff,ff,ff,ff,ff,ff,ff,ff] (by kernel_rfl) rfl rfl (((bD HB9.out).cell (World.block_lt_of_cell? _ _ hwi)).trans hwi) (fun hHeld => ?_)
                have HBd:=aM (bD HB9.out)
                generalize w9.drew=wd at HBd hHeld ⊢
                refine pH 0 45 (fl 9 1) rfl rfl ?_
                refine pH 1 46 (fl 9 3) rfl rfl ?_
                refine pH 4 49 (fl 9 19) rfl rfl ?_
                refine pH 2 47 (fl 9 23) rfl rfl ?_
                refine tH1 3 48 (fl 9 31) rfl rfl hHeld ?_
                refine one_ (i:=5) (N:=some 50) #[tt,tt,tt,tt,tt,tt,ff,ff,ff] rfl rfl (by kernel_rfl) (by decide) (fun K hK => ?_)
                refine Kd.R_lit_step (Kd.int .u8) _ 5 ?hg (N:=50) ?hd (xs:=([c]:List Int)) (inner:=[.int .u8 c]) (ok:=fun _=>True) (okp:=fun _=>True) ?hr ?hp (fun _ hk=>hk) trivial (Below.refl _ _) (Nat.le_refl _) (by simp) ?_;(case hd=>rfl);(case hg=>rfl);(case hr=>first|(go_simp;done)|(go_simp;rfl));(case hp=>exact(Reps.one (show Kd.M (Kd.int .u8) _ _ _ c [.int .u8 c] from rfl) (Reps.none _ _)))
                intro vb wb hbo hbb hbg hbn
                have hh:=(hbb.cell (World.block_lt_of_cell? _ _ hHeld)).trans hHeld
                have HBb:=aM (below_step HBd.out hbb)
                have HVb:=aM hbo
                clear HBd hbo hbb hbg hbn
                refine hK.out _ _ hh (fun hHeld => ?_)
                clear hK K
                refine nH 50 ?_
                refine one_ (i:=6) (N:=some 51) #[tt,tt,tt,tt,tt,tt,tt,ff,ff] rfl rfl (by kernel_rfl) (by decide) (fun K hK => ?_)
                have hcv:=own_string (P:=Try.prog) Try.underlying31 Try.underlying5 Try.underlying9 (Kd.own_of_R HVb.out)
                refine value_ (w1:=?_) (v:=?_) (by rfl) rfl ?_ ?_
                rotate_left 2
                · go_simp
                  constructor
                  · rfl
                  · rfl
                refine hK.out _ _ hHeld (fun hHeld => ?_)
                clear hK K
                refine nH 51 ?_
                refine pH 7 52 (fl 9 255) rfl rfl ?_
                refine pH 8 13 (fl 9 511) rfl rfl ?_
                refine done_ (by kernel_rfl) ?_
                have hbt:wb.cell? (adw.add t.toNat)=some (.string (rdOf ByteArray.empty ws t)):=(HBb.out.cell (World.block_lt_of_cell? _ _ hwt)).trans hwt
                clear hHeld HVb hwi hwt HB9
                by_cases he:((rdOf ByteArray.empty ws i) ++ strOfNums [c]).toList=(rdOf ByteArray.empty ws t).toList
                · have q1_:(((rdOf ByteArray.empty ws i) ++ strOfNums [c]).toList == (rdOf ByteArray.empty ws t).toList)=true:=beq_iff_eq.2 he
                  have hq:=HH.out
                  rw [if_pos he] at hq
                  have HQ:=aM hq
                  clear hq HH he
                  go_wp2
                  go_roundg q1
                  case measure=>omega
                  case rel=>exact ⟨wrap64 (j+1),out,_,_,rfl,rfl,⟨by have:=HK.out;omega⟩,HQ,⟨Kd.R_below HR.out HBb.out⟩,⟨blk_below HL.out HBb.out⟩,⟨blk_below BX.out HBb.out⟩,⟨below_step HBL.out HBb.out⟩⟩
                · have q1_:(((rdOf ByteArray.empty ws i) ++ strOfNums [c]).toList == (rdOf ByteArray.empty ws t).toList)=false:=beq_eq_false_iff_ne.2 he
                  have hq:=HH.out
                  rw [if_neg he] at hq
                  obtain ⟨v,hv,hq⟩:=oB hq
                  obtain ⟨z2,hq⟩:=ifN hq
                  obtain ⟨b,hb,hq⟩:=oB hq
                  have HV:=aM hv
                  have HWO:=aM hb
                  have s2:=eq_false (show ¬ 9223372036854775807<((rdOf ByteArray.empty ws i) ++ strOfNums [c]).size+v.size by omega)
                  have s3:=eq_false (show ¬ 9223372036854775807<(rdOf ByteArray.empty ws i).size+(strOfNums [c]).size+v.size by have:=z2;rw [ByteArray.size_append] at this;omega)
                  clear hv hb HH he z2
                  cases b with
                  | false =>
                    have hq:(([]:List ByteArray),false)=(r1,r2):=Option.some.inj hq
                    cases hq
                    go_wp2_with (first
                      | ((with_reducible refine gate_callee (f:=44) rfl ?_);refine goesL_ (some 64) rfl rfl Try.func44 (by kernel_rfl) rfl #[.string (rdOf ByteArray.empty ws t)] rfl (by(try simp only [zE,zF,zG]);first|done|rfl|(simp only [zH,zI];rfl)) ?_;refine(spec_InverseWord.calls q1 _ v _ HV.out).mono ?_;rintro e w10 ⟨rfl,hd⟩;refine ⟨_,rfl,?_⟩;have HB10:=aM (below_step HBb.out hd.below);clear hd)
                      | ((with_reducible refine gate_callee (f:=45) rfl ?_);refine goesL_ (some 67) rfl rfl Try.func45 (by kernel_rfl) rfl #[.string ((rdOf ByteArray.empty ws i) ++ strOfNums [c] ++ v)] rfl (by(try simp only [zE,zF,zG]);first|done|rfl|(simp only [zH,zI];rfl)) ?_;refine(spec_WordOk.calls q1 _ false _ HWO.out).mono ?_;rintro e w11 ⟨rfl,hd⟩;refine ⟨_,rfl,?_⟩;have HB11:=aM (below_step HB10.out hd.below);clear hd))
                    go_ret2
                    exact ⟨.slice none 0 0,rfl,Kd.R_nil _ _ _ _ _,below_step HB3.out (below_step HBL.out HB11.out)⟩
                  | true =>
                    rw [if_pos rfl] at hq
                    obtain ⟨ol,hq⟩:=ifN hq
                    have HOL:=aM ol
                    have HQ:=aM hq
                    clear hq ol
                    go_wp2_with (first
                      | ((with_reducible refine gate_callee (f:=44) rfl ?_);refine goesL_ (some 64) rfl rfl Try.func44 (by kernel_rfl) rfl #[.string (rdOf ByteArray.empty ws t)] rfl (by(try simp only [zE,zF,zG]);first|done|rfl|(simp only [zH,zI];rfl)) ?_;refine(spec_InverseWord.calls q1 _ v _ HV.out).mono ?_;rintro e w10 ⟨rfl,hd⟩;refine ⟨_,rfl,?_⟩;have HB10:=aM (below_step HBb.out hd.below);clear hd)
                      | ((with_reducible refine gate_callee (f:=45) rfl ?_);refine goesL_ (some 67) rfl rfl Try.func45 (by kernel_rfl) rfl #[.string ((rdOf ByteArray.empty ws i) ++ strOfNums [c] ++ v)] rfl (by(try simp only [zE,zF,zG]);first|done|rfl|(simp only [zH,zI];rfl)) ?_;refine(spec_WordOk.calls q1 _ true _ HWO.out).mono ?_;rintro e w11 ⟨rfl,hd⟩;refine ⟨_,rfl,?_⟩;have HB11:=aM (below_step HB10.out hd.below);clear hd)
                      | ((with_reducible refine gate_builtin (b:=.append) (xs:=#[.tmp 69,.tmp 71]) rfl ?_);at_builtin;refine Kd.R_append Kd.string (w0:=w3) w3.heap.size rfl (.tmp 69) (.tmp 71) 33 9 (.string ⟨#[]⟩) 16 rfl Try.underlying33 info9 rfl (by decide) (by omega) (.slice Ao out.length co) out ((rdOf ByteArray.empty ws i) ++ strOfNums [c] ++ v) [.string ((rdOf ByteArray.empty ws i) ++ strOfNums [c] ++ v)] (fun _=>True) (fun _=>False) rfl rfl rfl (fun _ hk=>hk.elim) (fun _ _=>trivial) (Kd.R_below HR.out HB11.out) (below_step HBL.out HB11.out) (below_size (below_step HBL.out HB11.out)) (by have:=HOL.out;omega) ?_;intro v61 w12 hl hb hg hat;obtain ⟨An,cn,e0⟩:=Kd.R_slice hl;subst e0;have HR12:=aM hl;have HB12:=aM hb;have HL12:=aM (blk_grown (blk_below HL.out HB11.out) hg (Kd.R_ne (Kd.R_below HR.out HB11.out) (blk_below HL.out HB11.out) (by decide)));have BX12:=aM (blk_grown (blk_below BX.out HB11.out) hg (Kd.R_ne (Kd.R_below HR.out HB11.out) (blk_below BX.out HB11.out) (by decide)));clear hl hb hg hat))
                    go_roundg q1
                    case measure=>omega
                    case rel=>exact ⟨wrap64 (j+1),out ++ [((rdOf ByteArray.empty ws i) ++ strOfNums [c] ++ v)],An,cn,(by rw [List.length_append];rfl),rfl,⟨by have:=HK.out;omega⟩,HQ,HR12,HL12,BX12,HB12⟩
              · rw [if_neg j0] at hg
                cases hg
            · rw [if_neg (show ¬ j<(([84,83]:List Int).length:Int) from hj)] at hg
              have HG2:=aM hg
              have c2:decide (j<2)=false:=decide_eq_false hj
              clear hg HG hj
              go_wp2
              go_roundg q1
              case measure=>have:=HK.out;omega
              case rel=>exact ⟨wrap64 (i+1),out,_,_,rfl,rfl,HG2,HR,HBL⟩
        · rw [if_neg hlt] at hg
          have hr:(out,true)=(r1,r2):=Option.some.inj hg
          cases hr
          have c1:decide (i<(l.length:Int))=false:=decide_eq_false hlt
          clear hg HG hlt
          go_wp2
          go_ret2
          exact ⟨_,rfl,Kd.R_lower HR.out (below_size HB3.out),below_step HB3.out HBL.out⟩

/-! ### spec_Join: function 24 -/
def spec_Join.l0 : Nat→ByteArray→ByteArray→List ByteArray→Int→Int→Option (ByteArray)
 | 0,_,_,_,_,_=>none
 | k+1,x1,x5,x8,x9,x10=>if x10<x9 then (if 0≤x10 then (if x10<(x8.length:Int) then (if x10 > 0 then (if x5.size+x1.size≤9223372036854775807 then (if (x5 ++ x1).size+(rdOf ByteArray.empty x8 x10).size≤9223372036854775807 then (spec_Join.l0 k x1 ((x5 ++ x1) ++ (rdOf ByteArray.empty x8 x10)) x8 x9 (wrap64 (x10+1))) else (none)) else (none)) else (if x5.size+(rdOf ByteArray.empty x8 x10).size≤9223372036854775807 then (spec_Join.l0 k x1 (x5 ++ (rdOf ByteArray.empty x8 x10)) x8 x9 (wrap64 (x10+1))) else (none))) else (none)) else (none)) else (some x5)
def spec_Join.f (k:Nat) (l0:List ByteArray) (a1:ByteArray):Option (ByteArray):=spec_Join.l0 k a1 (⟨#[]⟩:ByteArray) l0 (l0.length:Int) 0
theorem spec_Join.calls (k:Nat) (A0:Option Addr) (c0:Nat) (l0:List ByteArray) (a1:ByteArray) (r:ByteArray) (w:World) (hr0:Kd.C Kd.string w A0 l0.length l0) (hc0:l0.length≤c0) (h:spec_Join.f k l0 a1=some r) :
  Calls Try.prog 24 #[.slice A0 l0.length c0,.string a1] w fun e w'=>e = .returned (.string r)∧Drawn0 w w':=by
 have HR0:=aM hr0
 have HC0:=aM hc0
 clear hr0 hc0
 have H:(spec_Join.l0 k a1 (⟨#[]⟩:ByteArray) l0 (l0.length:Int) 0)=some r:=h
 clear h
 have H':=aM H
 clear H
 go_enter Try.func24,Try.ntmps24
 go_wp2
 go_loopg [5,10] k (fun kq v5 v10 w'=>∃ (x5_1:ByteArray) (x10_1:Int),v5 = .string x5_1∧v10 = .int .i64 x10_1∧Aside0 (spec_Join.l0 kq a1 x5_1 l0 (l0.length:Int) x10_1=some r)∧Aside0 (kq≤k)∧Drawn0 w w')
 case atStart=>exact ⟨((⟨#[]⟩:ByteArray)),(0),vX,vX,H',⟨Nat.le_refl _⟩,by repeat(first|exact Drawn0.refl _|apply Drawn0.step)⟩
 case round =>
 clear H'
 obtain ⟨x5_1,x10_1,rfl,rfl,HA,HK1,⟨m1,rfl⟩⟩:=hrel
 cases gk with
 | zero=>exact absurd HA.out (by simp [spec_Join.l0])
 | succ k1 =>
 have H:=HA.out
 clear HA
 simp only [spec_Join.l0] at H
 by_cases c3:x10_1<(l0.length:Int)
 {
 rw [if_pos c3] at H
 have c3b0:=decide_eq_true c3
 clear c3
 by_cases c4:0≤x10_1
 {
 rw [if_pos c4] at H
 have c4b0:=decide_eq_true c4
 clear c4
 by_cases c5:x10_1<(l0.length:Int)
 {
 rw [if_pos c5] at H
 have c5b0:=decide_eq_true c5
 clear c5
 by_cases c6:x10_1 > 0
 {
 rw [if_pos c6] at H
 have c6b0:=decide_eq_true c6
 clear c6
 by_cases c7:x5_1.size+a1.size≤9223372036854775807
 {
 rw [if_pos c7] at H
 have c7b0:=eq_true c7
 have c7b1:=decide_eq_true c7
 try have c7b2:(9223372036854775807<x5_1.size+a1.size)=False:=eq_false (Nat.not_lt.2 c7)
 by_cases c8:(x5_1 ++ a1).size+(rdOf ByteArray.empty l0 x10_1).size≤9223372036854775807
 {
 rw [if_pos c8] at H
 have c8b0:=eq_true c8
 have c8b1:=decide_eq_true c8
 try have c8b2:(9223372036854775807<(x5_1 ++ a1).size+(rdOf ByteArray.empty l0 x10_1).size)=False:=eq_false (Nat.not_lt.2 c8)
 try have c8b3:(9223372036854775807<x5_1.size+a1.size+(rdOf ByteArray.empty l0 x10_1).size)=False:=eq_false (Nat.not_lt.2 (by have hz_:=c8;simp only [ByteArray.size_append] at hz_;first|exact hz_|omega))
 have H':=aM H
 clear H
 have p512:0≤(x10_1:Int):=dX
 have q512:x10_1<(l0.length:Int):=dX
 obtain ⟨ad512,e512,hx512_0⟩:=Kd.at_string HR0.out x10_1 p512 q512
 cases e512
 replace p512:=eq_true p512
 replace q512:=eq_true q512
 go_wp2
 go_roundg k1
 case measure=>have:=HK1.out;omega
 case rel=>exact ⟨((x5_1 ++ a1) ++ (rdOf ByteArray.empty l0 x10_1)),(wrap64 (x10_1+1)),vX,vX,H',⟨by have:=HK1.out;omega⟩,by repeat(first|exact Drawn0.refl _|apply Drawn0.step)⟩
 }
 {
 rw [if_neg c8] at H
 exact absurd H (by simp)
 }
 }
 {
 rw [if_neg c7] at H
 exact absurd H (by simp)
 }
 }
 {
 rw [if_neg c6] at H
 have c6b0:=decide_eq_false c6
 clear c6
 by_cases c9:x5_1.size+(rdOf ByteArray.empty l0 x10_1).size≤9223372036854775807
 {
 rw [if_pos c9] at H
 have c9b0:=eq_true c9
 have c9b1:=decide_eq_true c9
 try have c9b2:(9223372036854775807<x5_1.size+(rdOf ByteArray.empty l0 x10_1).size)=False:=eq_false (Nat.not_lt.2 c9)
 have H':=aM H
 clear H
 have p512:0≤(x10_1:Int):=dX
 have q512:x10_1<(l0.length:Int):=dX
 obtain ⟨ad512,e512,hx512_0⟩:=Kd.at_string HR0.out x10_1 p512 q512
 cases e512
 replace p512:=eq_true p512
 replace q512:=eq_true q512
 go_wp2
 go_roundg k1
 case measure=>have:=HK1.out;omega
 case rel=>exact ⟨(x5_1 ++ (rdOf ByteArray.empty l0 x10_1)),(wrap64 (x10_1+1)),vX,vX,H',⟨by have:=HK1.out;omega⟩,by repeat(first|exact Drawn0.refl _|apply Drawn0.step)⟩
 }
 {
 rw [if_neg c9] at H
 exact absurd H (by simp)
 }
 }
 }
 {
 rw [if_neg c5] at H
 exact absurd H (by simp)
 }
 }
 {
 rw [if_neg c4] at H
 exact absurd H (by simp)
 }
 }
 {
 rw [if_neg c3] at H
 have c3b0:=decide_eq_false c3
 clear c3
 obtain rfl:=Option.some.inj H
 go_wp2
 go_ret
 exact ⟨by first|rfl|(simp;done)|(simp [*];done),by repeat(first|exact Drawn0.refl _|apply Drawn0.step)⟩
 }

/-! ### spec_GroupLine: function 6 -/
def spec_GroupLine.f (k:Nat) (l0_0:List Int) (l0_1:List Int):Option (ByteArray):=(spec_GeneratorWords.f k l0_0 l0_1).bind fun bt514=>(if bt514.2=true then ((spec_Join.f k bt514.1 (⟨#[32]⟩:ByteArray)).bind fun t518=>(some t518)) else (some (⟨#[110,111,110,101]⟩:ByteArray)))
theorem spec_GroupLine.calls (k:Nat) (A0_0:Option Addr) (c0_0:Nat) (l0_0:List Int) (A0_1:Option Addr) (c0_1:Nat) (l0_1:List Int) (r:ByteArray) (w:World) (hr0_0:Kd.C (Kd.int .i64) w A0_0 l0_0.length l0_0) (hc0_0:l0_0.length≤c0_0) (hr0_1:Kd.C (Kd.int .i64) w A0_1 l0_1.length l0_1) (hc0_1:l0_1.length≤c0_1) (h:spec_GroupLine.f k l0_0 l0_1=some r) :
  Calls Try.prog 6 #[.agg #[.slice A0_0 l0_0.length c0_0,.slice A0_1 l0_1.length c0_1]] w fun e w'=>e = .returned (.string r)∧Below w.heap.size w w':=by
 have hu27:=Try.underlying27
 have HR0_0:=aM hr0_0
 have HC0_0:=aM hc0_0
 clear hr0_0 hc0_0
 have HR0_1:=aM hr0_1
 have HC0_1:=aM hc0_1
 clear hr0_1 hc0_1
 have HB:=aM (Below.refl w.heap.size w)
 have H:((spec_GeneratorWords.f k l0_0 l0_1).bind fun bt514=>(if bt514.2=true then ((spec_Join.f k bt514.1 (⟨#[32]⟩:ByteArray)).bind fun t518=>(some t518)) else (some (⟨#[110,111,110,101]⟩:ByteArray))))=some r:=h
 clear h
 replace H:=oB H
 obtain ⟨⟨t514,t517⟩,A20,H⟩:=H
 replace H:(if t517=true then ((spec_Join.f k t514 (⟨#[32]⟩:ByteArray)).bind fun t518=>(some t518)) else (some (⟨#[110,111,110,101]⟩:ByteArray)))=some r:=H
 have A2:=aM A20
 clear A20
 by_cases c3:t517=true
 {
 subst c3
 have H1:((spec_Join.f k t514 (⟨#[32]⟩:ByteArray)).bind fun t518=>(some t518))=some r:=by rw [if_pos rfl] at H;exact H
 clear H
 have H:=H1
 clear H1
 replace H:=oB H
 obtain ⟨t518,A40,H⟩:=H
 have A4:=aM A40
 clear A40
 obtain rfl:=Option.some.inj H
 go_enter Try.func6,Try.ntmps6
 go_wp2_with (first|((with_reducible refine gate_dst (N:=1) rfl ?_);refine bEv (cs:=#[.slice A0_0 l0_0.length c0_0,.slice A0_1 l0_1.length c0_1]) (t:=27) ?_;intro gb513 hg w5 hbox hb;have BK513:=aM (hbox);have GW513:=aM ((szX (below_size (bX HB.out)) hg:w.heap.size≤gb513));have GE513:=GW513;replace HB:=aM (below_step (bX HB.out) hb);clear hb hbox hg;obtain ⟨hcz6_0,hcz6_1,hfz6_0,hfz6_1⟩:=f2Z BK513.out)|((with_reducible refine gate_callee (f:=23) rfl ?_);refine goesL_ (some 7) rfl rfl Try.func23 (by kernel_rfl) rfl #[.agg #[.slice A0_0 l0_0.length c0_0,.slice A0_1 l0_1.length c0_1]] rfl aX ?_;(with_reducible refine(spec_GeneratorWords.calls k _ _ l0_0 _ _ l0_1 t514 true _ ?side1 ?side2 ?side3 ?side4 A2.out).mono ?_);(case side1=>exact cX (Kd.C_below HR0_0.out HB.out));(case side2=>exact HC0_0.out);(case side3=>exact cX (Kd.C_below HR0_1.out HB.out));(case side4=>exact HC0_1.out);rintro e w7 ⟨v515,rfl,ho0,hb⟩;refine ⟨_,rfl,?_⟩;have HO516:=aM (Kd.R_lower ho0 (below_size (bX1 HB.out GE513.out)));replace BK513:=aM (bbX BK513.out hb);replace HB:=aM (below_step (bX1 HB.out GE513.out) hb);(try clear hb);(try clear ho0);obtain ⟨Ao8,co8,eo8⟩:=Kd.R_slice HO516.out;subst eo8)|((with_reducible refine gate_callee (f:=24) rfl ?_);refine goesL_ (some 13) rfl rfl Try.func24 (by kernel_rfl) rfl #[.slice Ao8 t514.length co8,.string (⟨#[32]⟩:ByteArray)] rfl aX ?_;(with_reducible refine(spec_Join.calls k _ _ t514 (⟨#[32]⟩:ByteArray) t518 _ ?side1 ?side2 A4.out).mono ?_);(case side1=>exact cX (Kd.R_reads' HO516.out).2.2);(case side2=>exact(Kd.R_reads' HO516.out).2.1);rintro e w' ⟨rfl,⟨nd,rfl⟩⟩;refine ⟨_,rfl,?_⟩))
 go_ret
 exact ⟨eX,bX1 HB.out GE513.out⟩
 }
 {
 replace c3:=Bool.eq_false_iff.mpr c3
 subst c3
 have H1:(some (⟨#[110,111,110,101]⟩:ByteArray))=some r:=by rw [if_neg (show ¬ (false=true) by decide)] at H;exact H
 clear H
 have H:=H1
 clear H1
 obtain rfl:=Option.some.inj H
 go_enter Try.func6,Try.ntmps6
 go_wp2_with (first|((with_reducible refine gate_dst (N:=1) rfl ?_);refine bEv (cs:=#[.slice A0_0 l0_0.length c0_0,.slice A0_1 l0_1.length c0_1]) (t:=27) ?_;intro gb513 hg w9 hbox hb;have BK513:=aM (hbox);have GW513:=aM ((szX (below_size (bX HB.out)) hg:w.heap.size≤gb513));have GE513:=GW513;replace HB:=aM (below_step (bX HB.out) hb);clear hb hbox hg;obtain ⟨hcz10_0,hcz10_1,hfz10_0,hfz10_1⟩:=f2Z BK513.out)|((with_reducible refine gate_callee (f:=23) rfl ?_);refine goesL_ (some 7) rfl rfl Try.func23 (by kernel_rfl) rfl #[.agg #[.slice A0_0 l0_0.length c0_0,.slice A0_1 l0_1.length c0_1]] rfl aX ?_;(with_reducible refine(spec_GeneratorWords.calls k _ _ l0_0 _ _ l0_1 t514 false _ ?side1 ?side2 ?side3 ?side4 A2.out).mono ?_);(case side1=>exact cX (Kd.C_below HR0_0.out HB.out));(case side2=>exact HC0_0.out);(case side3=>exact cX (Kd.C_below HR0_1.out HB.out));(case side4=>exact HC0_1.out);rintro e w11 ⟨v515,rfl,ho0,hb⟩;refine ⟨_,rfl,?_⟩;have HO516:=aM (Kd.R_lower ho0 (below_size (bX1 HB.out GE513.out)));replace BK513:=aM (bbX BK513.out hb);replace HB:=aM (below_step (bX1 HB.out GE513.out) hb);(try clear hb);(try clear ho0)))
 go_ret
 exact ⟨eX,bX1 HB.out GE513.out⟩
 }

/-! ### laws_toIntS: function 25 -/
def laws_toIntS.l0 : Nat→List Int→List Int→Int→Option (List Int)
 | 0,_,_,_=>none
 | k+1,x0,x3,x4=>if x4<(x0.length:Int) then (if 0≤x4 then (if x4<(x3.length:Int) then (laws_toIntS.l0 k x0 (x3.set (x4:Int).toNat (rd x0 x4)) (wrap64 (x4+1))) else (none)) else (none)) else (some x3)
def laws_toIntS.f (k:Nat) (l0:List Int):Option (List Int):=if 0≤(l0.length:Int) then (if ((l0.length:Int):Int).toNat≤35184372088832 then (laws_toIntS.l0 k l0 (List.replicate ((l0.length:Int):Int).toNat 0) 0) else (none)) else (none)
theorem laws_toIntS.calls (k:Nat) (A0:Option Addr) (c0:Nat) (l0:List Int) (r:List Int) (w:World) (hr0:Kd.C (Kd.int .i64) w A0 l0.length l0) (hc0:l0.length≤c0) (h:laws_toIntS.f k l0=some r) :
  Calls Try.prog 25 #[.slice A0 l0.length c0] w fun e w'=>∃ v0_:Value,e = .returned (v0_)∧Kd.R (Kd.int .i64) 3 w' w.heap.size (fun _=>True) v0_ r∧Below w.heap.size w w':=by
 have HR0:=aM hr0
 have HC0:=aM hc0
 clear hr0 hc0
 have HB:=aM (Below.refl w.heap.size w)
 have H:(if 0≤(l0.length:Int) then (if ((l0.length:Int):Int).toNat≤35184372088832 then (laws_toIntS.l0 k l0 (List.replicate ((l0.length:Int):Int).toNat 0) 0) else (none)) else (none))=some r:=h
 clear h
 by_cases c2:0≤(l0.length:Int)
 {
 rw [if_pos c2] at H
 have c2b0:=eq_true c2
 have c2b1:=decide_eq_true c2
 clear c2
 by_cases c3:((l0.length:Int):Int).toNat≤35184372088832
 {
 rw [if_pos c3] at H
 have c3b0:=eq_true c3
 have c3b1:=decide_eq_true c3
 clear c3
 obtain ⟨y519,hy519⟩:∃ y_:List Int,y_=(List.replicate ((l0.length:Int):Int).toNat 0):=⟨_,rfl⟩
 replace H:(laws_toIntS.l0 k l0 y519 0)=some r:=by first|(rw [hy519];with_reducible exact H)|(have H2_:=(Option.bind_some _ _).symm.trans H;rw [hy519];with_reducible exact H2_)|(have H2_:=(Option.bind_some _ _).symm.trans H;with_reducible exact H2_)|with_reducible exact H|(rw [hy519];exact H)|exact H
 have Ny519:=aM hy519
 clear hy519
 have H':=aM H
 clear H
 go_enter Try.func25,Try.ntmps25
 go_wp2_with (first|((with_reducible refine gate_dst (N:=7) rfl ?_);refine Kd.R_make (Kd.int .i64) _ 3 rfl (N:=7) rfl 22 _ _ rfl (l0.length:Int) rfl rfl Try.underlying22 (.int .i64 0) 8 info3 rfl (by decide) (by omega) 0 (ok:=fun _=>True) (okp:=fun _=>True) rfl (fun _ hk=>hk) trivial (dX) (Nat.le_trans (Nat.mul_le_mul_right _ (dX:(l0.length:Int).toNat≤35184372088832)) (by omega)) (Below.refl _ _) (Nat.le_refl _) ?_;intro v520 w4 ho5 hb hg_ hnew_;clear hg_ hnew_;(first|rw [← Ny519.out] at ho5|(simp only [Int.reduceToNat] at ho5;rw [← Ny519.out] at ho5));have HO521:=aM (Kd.R_lower ho5 (below_size (bX HB.out)));replace HB:=aM (below_step (bX HB.out) hb);clear hb ho5))
 go_loopg [4] k (fun kq v4 w'=>∃ (x3_1:List Int) (x4_1:Int),v4 = .int .i64 x4_1∧Aside0 (laws_toIntS.l0 kq l0 x3_1 x4_1=some r)∧Aside0 (kq≤k)∧Aside0 (Kd.R (Kd.int .i64) 3 w' w.heap.size (fun _=>True) v520 x3_1)∧Aside0 (Below w.heap.size w w'))
 case atStart=>exact ⟨(y519),(0),vX,H',⟨Nat.le_refl _⟩,⟨rX HO521.out⟩,⟨bX HB.out⟩⟩
 case round =>
 clear H'
 try clear c2
 try clear c2b0
 try clear c2b1
 try clear c3
 try clear c3b0
 try clear c3b1
 obtain ⟨x3_1,x4_1,rfl,HA,HK1,HO_3,HB⟩:=hrel
 cases gk with
 | zero=>exact absurd HA.out (by simp [laws_toIntS.l0])
 | succ k1 =>
 have H:=HA.out
 clear HA
 simp only [laws_toIntS.l0] at H
 by_cases c6:x4_1<(l0.length:Int)
 {
 rw [if_pos c6] at H
 have c6b0:=decide_eq_true c6
 clear c6
 by_cases c7:0≤x4_1
 {
 rw [if_pos c7] at H
 have c7b0:=decide_eq_true c7
 clear c7
 by_cases c8:x4_1<(x3_1.length:Int)
 {
 rw [if_pos c8] at H
 have c8b0:=decide_eq_true c8
 clear c8
 obtain ⟨y523,hy523⟩:∃ y_:List Int,y_=(x3_1.set (x4_1:Int).toNat (rd l0 x4_1)):=⟨_,rfl⟩
 replace H:(laws_toIntS.l0 k1 l0 y523 (wrap64 (x4_1+1)))=some r:=by first|(rw [hy523];with_reducible exact H)|(have H2_:=(Option.bind_some _ _).symm.trans H;rw [hy523];with_reducible exact H2_)|(have H2_:=(Option.bind_some _ _).symm.trans H;with_reducible exact H2_)|with_reducible exact H|(rw [hy523];exact H)|exact H
 have Ny523:=aM hy523
 clear hy523
 have H':=aM H
 clear H
 have p522:0≤(x4_1:Int):=dX
 have q522:x4_1<(l0.length:Int):=dX
 obtain ⟨ad522,e522,hx522_0⟩:=Kd.at_int HR0.out x4_1 p522 q522
 cases e522
 replace hx522_0:=(HB.out.cell (World.block_lt_of_cell? w _ hx522_0)).trans hx522_0
 replace p522:=eq_true p522
 replace q522:=eq_true q522
 have p9:0≤(x4_1:Int):=dX
 have q9:(x4_1:Int)<((x3_1.length:Int):Int):=dX
 obtain ⟨go9,co9,eo9,gb9,gl9,cl9,HG9⟩:=Kd.R_form HO_3.out (by omega)
 (first|cases eo9|(injection eo9 with ea_ en_ ec_;(first|subst ea_|(injection ea_ with ea_;subst ea_));subst ec_;clear en_))
 have GB9:=aM gb9
 have GG9:=aM HG9
 clear gb9 gl9 HG9
 obtain ⟨hx9_0,hf9_0⟩:=Kd.R_celln 0 HO_3.out (x4_1:Int) p9 q9
 replace p9:=eq_true p9
 replace q9:=eq_true q9
 have HP10:=Kd.R_putg HO_3.out (x4_1:Int) (rd l0 x4_1)
 go_wp2_with (first|((with_reducible refine gate_store (t:=3) (p:=20) rfl ?_);refine store_event (t:=3) (p:=20) (v:=?vo_w11) (w1:=(wr.setCell ⟨go9,(x4_1:Int).toNat,none⟩ (.int .i64 (rd l0 x4_1)))) ?hg ?ho ?hn ?hr ?_;(case ho=>rfl);(case hg=>rfl);(case hn=>rfl);(case hr=>first|(go_simp;done)|(go_simp;rfl));intro w11 hw;have hg:wr.grownBy w11 (some go9):=(by rw [hw];exact HP10.2);have hp_:Kd.R (Kd.int .i64) 3 w11 w.heap.size (fun _=>True) (.slice (some ⟨go9,0,none⟩) x3_1.length co9) y523:=(by rw [hw,Ny523.out];exact HP10.1);clear HP10;replace HO_3:=aM (hp_);replace HB:=aM ((by rw [hw];exact below_set (HB.out) GB9.out:Below w.heap.size w w11));clear hg hw hp_))
 go_roundg k1
 case measure=>have:=HK1.out;omega
 case rel=>exact ⟨(y523),(wrap64 (x4_1+1)),vX,H',⟨by have:=HK1.out;omega⟩,⟨rX HO_3.out⟩,⟨bX HB.out⟩⟩
 }
 {
 rw [if_neg c8] at H
 exact absurd H (by simp)
 }
 }
 {
 rw [if_neg c7] at H
 exact absurd H (by simp)
 }
 }
 {
 rw [if_neg c6] at H
 have c6b0:=decide_eq_false c6
 clear c6
 obtain rfl:=Option.some.inj H
 go_wp2
 go_ret
 exact ⟨_,eX,by(with_reducible repeat(first|apply rA|apply rN|apply rD));exact HO_3.out,bX HB.out⟩
 }
 }
 {
 rw [if_neg c3] at H
 exact absurd H (by simp)
 }
 }
 {
 rw [if_neg c2] at H
 exact absurd H (by simp)
 }

end Go.Proofs.Ytmhjcbcjpidegaa.S
