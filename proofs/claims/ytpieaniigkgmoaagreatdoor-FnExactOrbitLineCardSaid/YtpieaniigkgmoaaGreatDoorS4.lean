-- PRINTED by print.py (a twelfth state) out of the translation. Not trusted: Lean checks it.
import Derived.Test.YtpieaniigkgmoaaGreatDoorS0
import Derived.Test.YtpieaniigkgmoaaGreatDoorS1
import Derived.Test.YtpieaniigkgmoaaGreatDoorS2
import Derived.Test.YtpieaniigkgmoaaGreatDoorS3
namespace Go.Proofs.YtpieaniigkgmoaaGreatDoor.S
set_option maxHeartbeats 8000000
set_option maxRecDepth 100000
open Go.RowKit Go.Proofs.YtpieaniigkgmoaaGreatDoorW.PrintWords Go.Proofs.YtpieaniigkgmoaaGreatDoorW.PrintLast Go.Proofs.YtpieaniigkgmoaaGreatDoorW.PrintMore
attribute [local go_sem] max2_int min2_int max_two min_two max_three min_three max_four min_four   -- for this text's walks alone
set_option linter.unusedVariables false
set_option linter.unusedSimpArgs false

/-! ### spec_l06Orbit: function 35 -/
mutual
def spec_l06Orbit.l0 : Nat→List (S27)→List ByteArray→Int→Option ((List (S27)) × List ByteArray × Bool)
 | 0,_,_,_=>none
 | k+1,x5,x6,x7=>if x7<(x5.length:Int) then ((some (([84,83]:List Int):List Int)).bind fun y289=>(spec_l06Orbit.l1 k x5 x6 x7 y289 (y289.length:Int) 0)) else (some (x5,x6,true))
def spec_l06Orbit.l1 : Nat→List (S27)→List ByteArray→Int→List Int→Int→Int→Option ((List (S27)) × List ByteArray × Bool)
 | 0,_,_,_,_,_,_=>none
 | k+1,x5,x6,x7,x21,x22,x23=>if x23<x22 then (if 0≤x23 then (if x23<(x21.length:Int) then (if 0≤x7 then (if x7<(x5.length:Int) then ((spec_l05Letter.f k ((rd_T27 x5 x7).f0) ((rd_T27 x5 x7).f1) (rd x21 x23)).bind fun bt294=>((spec_l03Canon.f k bt294.1 bt294.2).bind fun bt300=>((spec_l06Find.f k x5 bt300.1 bt300.2).bind fun t307=>(if t307<0 then (if x5.length<2932031007402 then (if x7<(x6.length:Int) then ((some (([rd x21 x23]:List Int):List Int)).bind fun y312=>(if (rdOf ByteArray.empty x6 x7).size+(strOfNums y312).size≤9223372036854775807 then (if x6.length<8796093022208 then (spec_l06Orbit.l1 k (x5 ++ [(⟨bt300.1,bt300.2⟩:S27)]) (x6 ++ [(rdOf ByteArray.empty x6 x7) ++ (strOfNums y312)]) x7 x21 x22 (wrap64 (x23+1))) else (none)) else (none))) else (none)) else (none)) else (spec_l06Orbit.l1 k x5 x6 x7 x21 x22 (wrap64 (x23+1))))))) else (none)) else (none)) else (none)) else (none)) else (if (x5.length:Int) > 120 then (some (([]:List (S27)),([]:List ByteArray),false)) else (spec_l06Orbit.l0 k x5 x6 (wrap64 (x7+1))))
end
def spec_l06Orbit.f (k:Nat) (l0_0:List Int) (l0_1:List Int):Option ((List (S27)) × List ByteArray × Bool):=(spec_l03Canon.f k l0_0 l0_1).bind fun bt277=>(spec_l06Orbit.l0 k (([(⟨bt277.1,bt277.2⟩:S27)]:List (S27))) (([(⟨#[]⟩:ByteArray)]:List ByteArray)) 0)
def spec_l06Orbit.T12 : Bool × List (List Nat × List Nat):=(true,[([],[]),([],[]),([],[]),([1,2],[1,2]),([3],[3]),([],[]),([5],[5]),([6],[6]),([4,7],[4,7]),([8],[8]),([0,9],[0,9]),([10,10,0,1,2,3,4,5,6,7,8,9,10],[0,1,10])])
def spec_l06Orbit.B12 : List Nat:=[0,0,0,6,14,0,32,96,254,510,1023,2047]
theorem spec_l06Orbit.tab12 : rtab .any (opsOf Tryz.f35 12)=spec_l06Orbit.T12:=by kernel_rfl
theorem spec_l06Orbit.bits12 : waitsOk spec_l06Orbit.T12.2 spec_l06Orbit.B12=true:=by kernel_rfl
theorem spec_l06Orbit.calls (k:Nat) (A0_0:Option Addr) (c0_0:Nat) (l0_0:List Int) (A0_1:Option Addr) (c0_1:Nat) (l0_1:List Int) (r1:List (S27)) (r2:List ByteArray) (r3:Bool) (w:World) (hr0_0:Kd.C (Kd.int .i64) w A0_0 l0_0.length l0_0) (hc0_0:l0_0.length≤c0_0) (hr0_1:Kd.C (Kd.int .i64) w A0_1 l0_1.length l0_1) (hc0_1:l0_1.length≤c0_1) (h:spec_l06Orbit.f k l0_0 l0_1=some (r1,r2,r3)) :
  Calls Tryz.prog 35 #[.agg #[.slice A0_0 l0_0.length c0_0,.slice A0_1 l0_1.length c0_1]] w fun e w'=>∃ v0_ v1_:Value,e = .returned (.tuple #[v0_,v1_,.bool r3])∧Kd.N k27 27 w' w.heap.size (fun k_=>(w.heap.size≤k_)∧some k_≠(v1_:Value).ownBlock) v0_ r1∧Kd.R Kd.string 9 w' w.heap.size (fun k_=>(w.heap.size≤k_)) v1_ r2∧Below w.heap.size w w':=by
 have hu27:=Tryz.underlying27
 have HR0_0:=aM hr0_0
 have HC0_0:=aM hc0_0
 clear hr0_0 hc0_0
 have HR0_1:=aM hr0_1
 have HC0_1:=aM hc0_1
 clear hr0_1 hc0_1
 have HB:=aM (Below.refl w.heap.size w)
 have H:((spec_l03Canon.f k l0_0 l0_1).bind fun bt277=>(spec_l06Orbit.l0 k (([(⟨bt277.1,bt277.2⟩:S27)]:List (S27))) (([(⟨#[]⟩:ByteArray)]:List ByteArray)) 0))=some (r1,r2,r3):=h
 clear h
 replace H:=oB H
 obtain ⟨⟨t277,t280⟩,A20,H⟩:=H
 replace H:(spec_l06Orbit.l0 k (([(⟨t277,t280⟩:S27)]:List (S27))) (([(⟨#[]⟩:ByteArray)]:List ByteArray)) 0)=some (r1,r2,r3):=H
 have A2:=aM A20
 clear A20
 obtain ⟨y283,hy283⟩:∃ y_:List (S27),y_=(([(⟨t277,t280⟩:S27)]:List (S27))):=⟨_,rfl⟩
 replace H:(spec_l06Orbit.l0 k y283 (([(⟨#[]⟩:ByteArray)]:List ByteArray)) 0)=some (r1,r2,r3):=by first|(rw [hy283];with_reducible exact H)|(have H2_:=(Option.bind_some _ _).symm.trans H;rw [hy283];with_reducible exact H2_)|(have H2_:=(Option.bind_some _ _).symm.trans H;with_reducible exact H2_)|with_reducible exact H|(rw [hy283];exact H)|exact H
 have Ny283:=aM hy283
 clear hy283
 obtain ⟨y286,hy286⟩:∃ y_:List ByteArray,y_=(([(⟨#[]⟩:ByteArray)]:List ByteArray)):=⟨_,rfl⟩
 replace H:(spec_l06Orbit.l0 k y283 y286 0)=some (r1,r2,r3):=by first|(rw [hy286];with_reducible exact H)|(have H2_:=(Option.bind_some _ _).symm.trans H;rw [hy286];with_reducible exact H2_)|(have H2_:=(Option.bind_some _ _).symm.trans H;with_reducible exact H2_)|with_reducible exact H|(rw [hy286];exact H)|exact H
 have Ny286:=aM hy286
 clear hy286
 have H':=aM H
 clear H
 go_enter Tryz.func35,Tryz.ntmps35
 go_wp2_with (first|((with_reducible refine gate_dst (N:=1) rfl ?_);refine bEv (cs:=#[.slice A0_0 l0_0.length c0_0,.slice A0_1 l0_1.length c0_1]) (t:=27) ?_;intro gb276 hg w3 hbox hb;have BK276:=aM (hbox);have GW276:=aM ((szX (below_size (bX HB.out)) hg:w.heap.size≤gb276));have GE276:=GW276;replace HB:=aM (below_step (bX HB.out) hb);clear hb hbox hg;obtain ⟨hcz4_0,hcz4_1,hfz4_0,hfz4_1⟩:=f2Z BK276.out)|((with_reducible refine gate_callee (f:=37) rfl ?_);refine goesL_ (some 12) rfl rfl Tryz.func37 (by kernel_rfl) rfl #[.agg #[.slice A0_0 l0_0.length c0_0,.slice A0_1 l0_1.length c0_1]] rfl aX ?_;(with_reducible refine(spec_l03Canon.calls k _ _ l0_0 _ _ l0_1 t277 t280 _ ?side1 ?side2 ?side3 ?side4 A2.out).mono ?_);(case side1=>exact cX (Kd.C_below HR0_0.out HB.out));(case side2=>exact HC0_0.out);(case side3=>exact cX (Kd.C_below HR0_1.out HB.out));(case side4=>exact HC0_1.out);rintro e w5 ⟨v278,v281,rfl,ho0,ho1,hb⟩;refine ⟨_,rfl,?_⟩;have HO279:=aM (Kd.R_lower (Kd.R_newM (M:=fun k_=>(w.heap.size≤k_)) ho0 (below_size (bX1 HB.out GE276.out)) (fun k_ h_=>h_)) (below_size (bX1 HB.out GE276.out)));have HO282:=aM (Kd.R_lower (Kd.R_newM (M:=fun k_=>(w.heap.size≤k_)) ho1 (below_size (bX1 HB.out GE276.out)) (fun k_ h_=>h_)) (below_size (bX1 HB.out GE276.out)));replace BK276:=aM (bbX BK276.out hb);replace HB:=aM (below_step (bX1 HB.out GE276.out) hb);(try clear hb);(try clear hk);(try clear ho0);(try clear ho1);obtain ⟨Ao6,co6,eo6⟩:=Kd.R_slice HO279.out;subst eo6;obtain ⟨Ao7,co7,eo7⟩:=Kd.R_slice HO282.out;subst eo7)|((with_reducible refine gate_dst (N:=13) rfl ?_);refine Kd.N_lit k27 _ 27 ?hg (N':=13) ?hd (xs:=([(⟨t277,t280⟩:S27)]:List (S27))) (inner:=[.slice Ao6 t277.length co6,.slice Ao7 t280.length co7]) (ok:=(fun k_=>(w.heap.size≤k_)∧k_≠gb276)) (okp:=(fun k_=>(w.heap.size≤k_)∧k_≠gb276)) ?hr ?hp (fun _ hk=>hk) ((show ∀ k_,w5.heap.size≤k_→(fun k_=>(w.heap.size≤k_)∧k_≠gb276) k_ from fun k_ hk=>⟨(Nat.le_trans (below_size (bX1 HB.out GE276.out)) hk),Kd.freshB (g:=gb276) (o:=.cells #[.slice A0_0 l0_0.length c0_0,.slice A0_1 l0_1.length c0_1] 27 (0,0)) (kX BK276.out) k_ hk⟩) _ (Nat.le_refl _)) (Below.refl _ _) (Nat.le_refl _) (by simp) ?_;(case hd=>rfl);(case hg=>rfl);(case hr=>first|(go_simp;done)|(go_simp;rfl));(case hp=>exact(Reps.c2 (show Kd.FK k27 _ _ (⟨t277,t280⟩:S27) [.slice Ao6 t277.length co6,.slice Ao7 t280.length co7] from (k27_mkF _ _ (⟨t277,t280⟩:S27) (Kd.R_reads' (Kd.R_mono (ok':=(fun k_=>(w.heap.size≤k_)∧k_≠gb276)) (Kd.R_types (HO279.out) BK276.out (by decide)) (fun k_ hk=>⟨hk.1.1,hk.2⟩))).2.1 (Kd.R_F (Kd.R_mono (ok':=(fun k_=>(w.heap.size≤k_)∧k_≠gb276)) (Kd.R_types (HO279.out) BK276.out (by decide)) (fun k_ hk=>⟨hk.1.1,hk.2⟩))) (Kd.R_reads' (Kd.R_mono (ok':=(fun k_=>(w.heap.size≤k_)∧k_≠gb276)) (Kd.R_types (HO282.out) BK276.out (by decide)) (fun k_ hk=>⟨hk.1.1,hk.2⟩))).2.1 (Kd.R_F (Kd.R_mono (ok':=(fun k_=>(w.heap.size≤k_)∧k_≠gb276)) (Kd.R_types (HO282.out) BK276.out (by decide)) (fun k_ hk=>⟨hk.1.1,hk.2⟩))))) (Reps.none _ _)));intro v284 w8 ho9 hb hg_ hnew_;clear hg_ hnew_;(first|rw [← Ny283.out] at ho9|(simp only [Int.reduceToNat] at ho9;rw [← Ny283.out] at ho9));have HO285:=aM (Kd.N_lower ho9 (below_size (bX1 HB.out GE276.out)));replace BK276:=aM (bbX BK276.out hb);replace HB:=aM (below_step (bX1 HB.out GE276.out) hb);clear HO279 HO282 hb ho9)|((with_reducible refine gate_dst (N:=14) rfl ?_);refine Kd.R_lit Kd.string _ 9 ?hg (N:=14) ?hd (xs:=([(⟨#[]⟩:ByteArray)]:List ByteArray)) (inner:=[.string (⟨#[]⟩:ByteArray)]) (ok:=fun _=>True) (okp:=fun _=>True) ?hr ?hp (fun _ hk=>hk) trivial (Below.refl _ _) (Nat.le_refl _) (by simp) ?_;(case hd=>rfl);(case hg=>rfl);(case hr=>first|(go_simp;done)|(go_simp;rfl));(case hp=>exact(Reps.one (show Kd.M Kd.string _ _ _ (⟨#[]⟩:ByteArray) [.string (⟨#[]⟩:ByteArray)] from rfl) (Reps.none _ _)));intro v287 w10 ho11 hb hg_ hnew_;clear hg_ hnew_;(first|rw [← Ny286.out] at ho11|(simp only [Int.reduceToNat] at ho11;rw [← Ny286.out] at ho11));replace HO285:=aM (Kd.N_elder' (by(with_reducible repeat(first|apply Kd.N_alloc|apply Kd.N_drewN|apply Kd.N_drew));exact HO285.out) (Kd.R_base ho11) hb);have HO288:=aM (Kd.R_lower (Kd.R_newM (M:=fun k_=>(w.heap.size≤k_)) ho11 (below_size (bX1 HB.out GE276.out)) (fun k_ h_=>h_)) (below_size (bX1 HB.out GE276.out)));replace BK276:=aM (bbX BK276.out hb);replace HB:=aM (below_step (bX1 HB.out GE276.out) hb);clear hb ho11))
 go_loopg [5,6,7] k (fun kq v5 v6 v7 w'=>∃ (x5_1:List (S27)) (x6_1:List ByteArray) (x7_1:Int),v7 = .int .i64 x7_1∧Aside0 (spec_l06Orbit.l0 kq x5_1 x6_1 x7_1=some (r1,r2,r3))∧Aside0 (kq≤k)∧Aside0 (Kd.N k27 27 w' w.heap.size (fun k_=>(w.heap.size≤k_)∧some k_≠(v6:Value).ownBlock∧k_≠gb276) v5 x5_1)∧Aside0 (Kd.R Kd.string 9 w' w.heap.size (fun k_=>(w.heap.size≤k_)) v6 x6_1)∧Aside0 (w'.heap[gb276]? = some (.cells #[(.slice A0_0 l0_0.length c0_0),(.slice A0_1 l0_1.length c0_1)] 27 (0,0)))∧Aside0 (Below w.heap.size w w'))
 case atStart=>exact ⟨(y283),(y286),(0),vX,H',⟨Nat.le_refl _⟩,⟨by(with_reducible repeat(first|apply Kd.N_alloc|apply Kd.N_drewN|apply Kd.N_drew));exact Kd.N_mono HO285.out (fun _ hk=>⟨hk.1.1,⟨hk.2,hk.1.2⟩⟩)⟩,⟨rM HO288.out (fun _ hk=>hk.1)⟩,⟨kX BK276.out⟩,⟨bX1 HB.out GE276.out⟩⟩
 case round =>
 clear H'
 try clear c2
 try clear hcz4_0
 try clear hcz4_1
 try clear hfz4_0
 try clear hfz4_1
 obtain ⟨x5_1,x6_1,x7_1,rfl,HA,HK1,HO_5,HO_6,BK276,HB⟩:=hrel
 cases gk with
 | zero=>exact absurd HA.out (by simp [spec_l06Orbit.l0])
 | succ k1 =>
 have H:=HA.out
 clear HA
 simp only [spec_l06Orbit.l0] at H
 by_cases c12:x7_1<(x5_1.length:Int)
 {
 rw [if_pos c12] at H
 have c12b0:=decide_eq_true c12
 clear c12
 obtain ⟨y289,hy289⟩:∃ y_:List Int,y_=(([84,83]:List Int)):=⟨_,rfl⟩
 replace H:(spec_l06Orbit.l1 k1 x5_1 x6_1 x7_1 y289 (y289.length:Int) 0)=some (r1,r2,r3):=by first|(rw [hy289];with_reducible exact H)|(have H2_:=(Option.bind_some _ _).symm.trans H;rw [hy289];with_reducible exact H2_)|(have H2_:=(Option.bind_some _ _).symm.trans H;with_reducible exact H2_)|with_reducible exact H|(rw [hy289];exact H)|exact H
 have Ny289:=aM hy289
 clear hy289
 have H':=aM H
 clear H
 obtain ⟨Ao13,co13,eo13⟩:=Kd.N_slice HO_5.out
 subst eo13
 go_wp2_with (first|((with_reducible refine gate_dst (N:=21) rfl ?_);refine Kd.R_lit (Kd.int .u8) _ 5 ?hg (N:=21) ?hd (xs:=([84,83]:List Int)) (inner:=[.int .u8 84,.int .u8 83]) (ok:=fun _=>True) (okp:=fun _=>True) ?hr ?hp (fun _ hk=>hk) trivial (Below.refl _ _) (Nat.le_refl _) (by simp) ?_;(case hd=>rfl);(case hg=>rfl);(case hr=>first|(go_simp;done)|(go_simp;rfl));(case hp=>exact(Reps.one (show Kd.M (Kd.int .u8) _ _ _ 84 [.int .u8 84] from rfl) (Reps.one (show Kd.M (Kd.int .u8) _ _ _ 83 [.int .u8 83] from rfl) (Reps.none _ _))));intro v290 w14 ho15 hb hg_ hnew_;clear hg_ hnew_;(first|rw [← Ny289.out] at ho15|(simp only [Int.reduceToNat] at ho15;rw [← Ny289.out] at ho15));replace HO_5:=aM (Kd.N_elder' (by(with_reducible repeat(first|apply Kd.N_alloc|apply Kd.N_drewN|apply Kd.N_drew));exact HO_5.out) (Kd.R_base ho15) hb);replace HO_6:=aM (Kd.R_below (rX HO_6.out) hb);have HO291:=aM (Kd.R_lower (Kd.R_newM (M:=fun k_=>(w.heap.size≤k_)) ho15 (below_size (bX1 HB.out GE276.out)) (fun k_ h_=>h_)) (below_size (bX1 HB.out GE276.out)));replace BK276:=aM (bbX BK276.out hb);replace HB:=aM (below_step (bX1 HB.out GE276.out) hb);clear hb ho15;obtain ⟨Ao16,co16,eo16⟩:=Kd.R_slice HO291.out;subst eo16))
 go_loopg [5,6,23] k1 (fun kq v5 v6 v23 w'=>∃ (x5_2:List (S27)) (x6_2:List ByteArray) (x23_2:Int),v23 = .int .i64 x23_2∧Aside0 (spec_l06Orbit.l1 kq x5_2 x6_2 x7_1 y289 (y289.length:Int) x23_2=some (r1,r2,r3))∧Aside0 (kq≤k1)∧Aside0 (Kd.N k27 27 w' w.heap.size (fun k_=>(w.heap.size≤k_)∧some k_≠(v6:Value).ownBlock∧some k_≠((.slice Ao16 y289.length co16):Value).ownBlock∧k_≠gb276) v5 x5_2)∧Aside0 (Kd.R Kd.string 9 w' w.heap.size (fun k_=>(w.heap.size≤k_)) v6 x6_2)∧Aside0 (Kd.R (Kd.int .u8) 5 w' w.heap.size (fun k_=>(w.heap.size≤k_)) (.slice Ao16 y289.length co16) y289)∧Aside0 (w'.heap[gb276]? = some (.cells #[(.slice A0_0 l0_0.length c0_0),(.slice A0_1 l0_1.length c0_1)] 27 (0,0)))∧Aside0 (Below w.heap.size w w'))
 case atStart=>exact ⟨(x5_1),(x6_1),(0),vX,H',⟨Nat.le_refl _⟩,⟨by(with_reducible repeat(first|apply Kd.N_alloc|apply Kd.N_drewN|apply Kd.N_drew));exact Kd.N_mono HO_5.out (fun _ hk=>⟨hk.1.1,⟨hk.1.2.1,⟨hk.2,hk.1.2.2⟩⟩⟩)⟩,⟨rX HO_6.out⟩,⟨rM HO291.out (fun _ hk=>hk.1)⟩,⟨kX BK276.out⟩,⟨bX1 HB.out GE276.out⟩⟩
 case round =>
 clear H'
 try clear c2
 try clear c12
 try clear c12b0
 try clear hcz4_0
 try clear hcz4_1
 try clear hfz4_0
 try clear hfz4_1
 obtain ⟨x5_2,x6_2,x23_2,rfl,HA,HK2,HO_5,HO_6,HO_21,BK276,HB⟩:=hrel
 cases gk with
 | zero=>exact absurd HA.out (by simp [spec_l06Orbit.l1])
 | succ k2 =>
 have H:=HA.out
 clear HA
 simp only [spec_l06Orbit.l1] at H
 by_cases c17:x23_2<(y289.length:Int)
 {
 rw [if_pos c17] at H
 have c17b0:=decide_eq_true c17
 clear c17
 by_cases c18:0≤x23_2
 {
 rw [if_pos c18] at H
 have c18b0:=decide_eq_true c18
 clear c18
 by_cases c19:x23_2<(y289.length:Int)
 {
 rw [if_pos c19] at H
 have c19b0:=decide_eq_true c19
 clear c19
 by_cases c20:0≤x7_1
 {
 rw [if_pos c20] at H
 have c20b0:=decide_eq_true c20
 clear c20
 by_cases c21:x7_1<(x5_2.length:Int)
 {
 rw [if_pos c21] at H
 have c21b0:=decide_eq_true c21
 clear c21
 replace H:=oB H
 obtain ⟨⟨t294,t297⟩,A220,H⟩:=H
 replace H:((spec_l03Canon.f k2 t294 t297).bind fun bt300=>((spec_l06Find.f k2 x5_2 bt300.1 bt300.2).bind fun t307=>(if t307<0 then (if x5_2.length<2932031007402 then (if x7_1<(x6_2.length:Int) then ((some (([rd y289 x23_2]:List Int):List Int)).bind fun y312=>(if (rdOf ByteArray.empty x6_2 x7_1).size+(strOfNums y312).size≤9223372036854775807 then (if x6_2.length<8796093022208 then (spec_l06Orbit.l1 k2 (x5_2 ++ [(⟨bt300.1,bt300.2⟩:S27)]) (x6_2 ++ [(rdOf ByteArray.empty x6_2 x7_1) ++ (strOfNums y312)]) x7_1 y289 (y289.length:Int) (wrap64 (x23_2+1))) else (none)) else (none))) else (none)) else (none)) else (spec_l06Orbit.l1 k2 x5_2 x6_2 x7_1 y289 (y289.length:Int) (wrap64 (x23_2+1))))))=some (r1,r2,r3):=H
 have A22:=aM A220
 clear A220
 replace H:=oB H
 obtain ⟨⟨t300,t303⟩,A230,H⟩:=H
 replace H:((spec_l06Find.f k2 x5_2 t300 t303).bind fun t307=>(if t307<0 then (if x5_2.length<2932031007402 then (if x7_1<(x6_2.length:Int) then ((some (([rd y289 x23_2]:List Int):List Int)).bind fun y312=>(if (rdOf ByteArray.empty x6_2 x7_1).size+(strOfNums y312).size≤9223372036854775807 then (if x6_2.length<8796093022208 then (spec_l06Orbit.l1 k2 (x5_2 ++ [(⟨t300,t303⟩:S27)]) (x6_2 ++ [(rdOf ByteArray.empty x6_2 x7_1) ++ (strOfNums y312)]) x7_1 y289 (y289.length:Int) (wrap64 (x23_2+1))) else (none)) else (none))) else (none)) else (none)) else (spec_l06Orbit.l1 k2 x5_2 x6_2 x7_1 y289 (y289.length:Int) (wrap64 (x23_2+1)))))=some (r1,r2,r3):=H
 have A23:=aM A230
 clear A230
 replace H:=oB H
 obtain ⟨t307,A240,H⟩:=H
 have A24:=aM A240
 clear A240
 by_cases c25:t307<0
 {
 rw [if_pos c25] at H
 have c25b0:=decide_eq_true c25
 clear c25
 by_cases c26:x5_2.length<2932031007402
 {
 rw [if_pos c26] at H
 have LMc26:=aM c26
 clear c26
 obtain ⟨y308,hy308⟩:∃ y_:List (S27),y_=(x5_2 ++ [(⟨t300,t303⟩:S27)]):=⟨_,rfl⟩
 replace H:(if x7_1<(x6_2.length:Int) then ((some (([rd y289 x23_2]:List Int):List Int)).bind fun y312=>(if (rdOf ByteArray.empty x6_2 x7_1).size+(strOfNums y312).size≤9223372036854775807 then (if x6_2.length<8796093022208 then (spec_l06Orbit.l1 k2 y308 (x6_2 ++ [(rdOf ByteArray.empty x6_2 x7_1) ++ (strOfNums y312)]) x7_1 y289 (y289.length:Int) (wrap64 (x23_2+1))) else (none)) else (none))) else (none))=some (r1,r2,r3):=by first|(rw [hy308];with_reducible exact H)|(have H2_:=(Option.bind_some _ _).symm.trans H;rw [hy308];with_reducible exact H2_)|(have H2_:=(Option.bind_some _ _).symm.trans H;with_reducible exact H2_)|with_reducible exact H|(rw [hy308];exact H)|exact H
 have Ny308:=aM hy308
 clear hy308
 by_cases c27:x7_1<(x6_2.length:Int)
 {
 rw [if_pos c27] at H
 have c27b0:=decide_eq_true c27
 clear c27
 obtain ⟨y312,hy312⟩:∃ y_:List Int,y_=(([rd y289 x23_2]:List Int)):=⟨_,rfl⟩
 replace H:(if (rdOf ByteArray.empty x6_2 x7_1).size+(strOfNums y312).size≤9223372036854775807 then (if x6_2.length<8796093022208 then (spec_l06Orbit.l1 k2 y308 (x6_2 ++ [(rdOf ByteArray.empty x6_2 x7_1) ++ (strOfNums y312)]) x7_1 y289 (y289.length:Int) (wrap64 (x23_2+1))) else (none)) else (none))=some (r1,r2,r3):=by first|(rw [hy312];with_reducible exact H)|(have H2_:=(Option.bind_some _ _).symm.trans H;rw [hy312];with_reducible exact H2_)|(have H2_:=(Option.bind_some _ _).symm.trans H;with_reducible exact H2_)|with_reducible exact H|(rw [hy312];exact H)|exact H
 have Ny312:=aM hy312
 clear hy312
 by_cases c28:(rdOf ByteArray.empty x6_2 x7_1).size+(strOfNums y312).size≤9223372036854775807
 {
 rw [if_pos c28] at H
 have c28b0:=eq_true c28
 have c28b1:=decide_eq_true c28
 try have c28b2:(9223372036854775807<(rdOf ByteArray.empty x6_2 x7_1).size+(strOfNums y312).size)=False:=eq_false (Nat.not_lt.2 c28)
 by_cases c29:x6_2.length<8796093022208
 {
 rw [if_pos c29] at H
 have LMc29:=aM c29
 clear c29
 obtain ⟨y315,hy315⟩:∃ y_:List ByteArray,y_=(x6_2 ++ [(rdOf ByteArray.empty x6_2 x7_1) ++ (strOfNums y312)]):=⟨_,rfl⟩
 replace H:(spec_l06Orbit.l1 k2 y308 y315 x7_1 y289 (y289.length:Int) (wrap64 (x23_2+1)))=some (r1,r2,r3):=by first|(rw [hy315];with_reducible exact H)|(have H2_:=(Option.bind_some _ _).symm.trans H;rw [hy315];with_reducible exact H2_)|(have H2_:=(Option.bind_some _ _).symm.trans H;with_reducible exact H2_)|with_reducible exact H|(rw [hy315];exact H)|exact H
 have Ny315:=aM hy315
 clear hy315
 have H':=aM H
 clear H
 have p292:0≤(x23_2:Int):=dX
 have q292:x23_2<(y289.length:Int):=dX
 obtain ⟨ad292,e292,hx292_0⟩:=Kd.at_int (Kd.R_reads' HO_21.out).2.2 x23_2 p292 q292
 cases e292
 replace p292:=eq_true p292
 replace q292:=eq_true q292
 obtain ⟨Ao30,co30,eo30⟩:=Kd.N_slice HO_5.out
 subst eo30
 have p293:0≤(x7_1:Int):=dX
 have q293:x7_1<(x5_2.length:Int):=dX
 obtain ⟨ad293,A293_0,c293_0,A293_1,c293_1,e293,hx293_0,hx293_1,hl293_0,hi293_0,hl293_1,hi293_1⟩:=at_T27 (Kd.N_reads' HO_5.out).2.2 x7_1 p293 q293
 cases e293
 obtain ⟨ce293,hce293,hMe293,hcc293⟩:=Kd.N_get HO_5.out z27 x7_1 p293 (by first|exact q293|exact dX|(have e_:=(Kd.N_reads' HO_5.out).1;omega))
 obtain ⟨ua293_0,uc293_0,ua293_1,uc293_1,rfl,ul293_0,ge293_0,ul293_1,ge293_1⟩:=k27_openF hMe293
 have hv293_0:=hcc293 0 _ rfl
 rw [Nat.add_zero] at hv293_0
 replace hv293_0:=Option.some.inj (hv293_0.symm.trans hx293_0)
 injection hv293_0 with hva_ hvn_ hvc_
 rw [hva_] at ge293_0
 rw [hvc_] at ul293_0
 have HL293_0:=aM (show Kd.V (Kd.int .i64) 3 _ w.heap.size _ _ ((rd_T27 x5_2 x7_1).f0) from Kd.V_mk ul293_0 ge293_0)
 clear hva_ hvn_ hvc_ ge293_0 ul293_0
 have hv293_1:=hcc293 1 _ rfl
 rw [add_field _ _ 1 (by omega)] at hv293_1
 replace hv293_1:=Option.some.inj (hv293_1.symm.trans hx293_1)
 injection hv293_1 with hva_ hvn_ hvc_
 rw [hva_] at ge293_1
 rw [hvc_] at ul293_1
 have HL293_1:=aM (show Kd.V (Kd.int .i64) 3 _ w.heap.size _ _ ((rd_T27 x5_2 x7_1).f1) from Kd.V_mk ul293_1 ge293_1)
 clear hva_ hvn_ hvc_ ge293_1 ul293_1 hcc293 hce293
 have HR293_0:=aM hi293_0
 have HC293_0:=aM hl293_0
 clear hi293_0 hl293_0
 have HR293_1:=aM hi293_1
 have HC293_1:=aM hl293_1
 clear hi293_1 hl293_1
 replace p293:=eq_true p293
 replace q293:=eq_true q293
 try go_wp2_with (first|((with_reducible refine gate_callee (f:=50) rfl ?_);refine goesL_ (some 32) rfl rfl Tryz.func50 (by kernel_rfl) rfl #[.agg #[.slice A293_0 ((rd_T27 x5_2 x7_1).f0).length c293_0,.slice A293_1 ((rd_T27 x5_2 x7_1).f1).length c293_1],.int .u8 (rd y289 x23_2)] rfl aX ?_;(with_reducible refine(spec_l05Letter.calls k2 _ _ ((rd_T27 x5_2 x7_1).f0) _ _ ((rd_T27 x5_2 x7_1).f1) (rd y289 x23_2) t294 t297 _ ?side1 ?side2 ?side3 ?side4 A22.out).mono ?_);(case side1=>exact cX (cX HR293_0.out));(case side2=>exact HC293_0.out);(case side3=>exact cX (cX HR293_1.out));(case side4=>exact HC293_1.out);rintro e w31 ⟨v295,v298,rfl,ho0,ho1,hb⟩;refine ⟨_,rfl,?_⟩;replace HO_5:=aM (Kd.N_mono (Kd.N_told (Kd.N_told (Kd.N_old (by(with_reducible repeat(first|apply Kd.N_alloc|apply Kd.N_drewN|apply Kd.N_drew));exact HO_5.out) hb) (Kd.R_base ho0)) (Kd.R_base ho1)) (fun _ h_=>h_.1));replace HO_6:=aM (Kd.R_below (rX HO_6.out) hb);replace HO_21:=aM (Kd.R_below (rX HO_21.out) hb);replace HL293_0:=aM (Kd.V_mono (Kd.V_told (Kd.V_told (Kd.V_old (by(with_reducible repeat(first|apply Kd.V_alloc|apply Kd.V_drewN|apply Kd.V_drew));exact HL293_0.out) hb) (Kd.R_base ho0)) (Kd.R_base ho1)) (fun _ h_=>h_.1));replace HL293_1:=aM (Kd.V_mono (Kd.V_told (Kd.V_told (Kd.V_old (by(with_reducible repeat(first|apply Kd.V_alloc|apply Kd.V_drewN|apply Kd.V_drew));exact HL293_1.out) hb) (Kd.R_base ho0)) (Kd.R_base ho1)) (fun _ h_=>h_.1));have HO296:=aM (Kd.R_lower (Kd.R_newM (M:=fun k_=>(w.heap.size≤k_)) ho0 (below_size (bX1 HB.out GE276.out)) (fun k_ h_=>h_)) (below_size (bX1 HB.out GE276.out)));have HO299:=aM (Kd.R_lower (Kd.R_newM (M:=fun k_=>(w.heap.size≤k_)) ho1 (below_size (bX1 HB.out GE276.out)) (fun k_ h_=>h_)) (below_size (bX1 HB.out GE276.out)));replace BK276:=aM (bbX BK276.out hb);replace HR293_0:=aM (Kd.C_below (cX HR293_0.out) hb);replace HR293_1:=aM (Kd.C_below (cX HR293_1.out) hb);replace HB:=aM (below_step (bX1 HB.out GE276.out) hb);(try clear hb);(try clear hk);(try clear ho0);(try clear ho1);obtain ⟨Ao32,co32,eo32⟩:=Kd.R_slice HO296.out;subst eo32;obtain ⟨Ao33,co33,eo33⟩:=Kd.R_slice HO299.out;subst eo33)|((with_reducible refine gate_callee (f:=37) rfl ?_);refine goesL_ (some 33) rfl rfl Tryz.func37 (by kernel_rfl) rfl #[.agg #[.slice Ao32 t294.length co32,.slice Ao33 t297.length co33]] rfl aX ?_;(with_reducible refine(spec_l03Canon.calls k2 _ _ t294 _ _ t297 t300 t303 _ ?side1 ?side2 ?side3 ?side4 A23.out).mono ?_);(case side1=>exact cX (Kd.R_reads' HO296.out).2.2);(case side2=>exact(Kd.R_reads' HO296.out).2.1);(case side3=>exact cX (Kd.R_reads' HO299.out).2.2);(case side4=>exact(Kd.R_reads' HO299.out).2.1);rintro e w34 ⟨v301,v304,rfl,ho0,ho1,hb⟩;refine ⟨_,rfl,?_⟩;replace HO_5:=aM (Kd.N_mono (Kd.N_told (Kd.N_told (Kd.N_old (by(with_reducible repeat(first|apply Kd.N_alloc|apply Kd.N_drewN|apply Kd.N_drew));exact HO_5.out) hb) (Kd.R_base ho0)) (Kd.R_base ho1)) (fun _ h_=>h_.1));replace HO_6:=aM (Kd.R_below (rX HO_6.out) hb);replace HO_21:=aM (Kd.R_below (rX HO_21.out) hb);replace HL293_0:=aM (Kd.V_mono (Kd.V_told (Kd.V_told (Kd.V_old (by(with_reducible repeat(first|apply Kd.V_alloc|apply Kd.V_drewN|apply Kd.V_drew));exact HL293_0.out) hb) (Kd.R_base ho0)) (Kd.R_base ho1)) (fun _ h_=>h_.1));replace HL293_1:=aM (Kd.V_mono (Kd.V_told (Kd.V_told (Kd.V_old (by(with_reducible repeat(first|apply Kd.V_alloc|apply Kd.V_drewN|apply Kd.V_drew));exact HL293_1.out) hb) (Kd.R_base ho0)) (Kd.R_base ho1)) (fun _ h_=>h_.1));have HO302:=aM (Kd.R_lower (Kd.R_new' (Kd.R_new' (Kd.R_newM (M:=fun k_=>(w.heap.size≤k_)) ho0 (below_size (bX1 HB.out GE276.out)) (fun k_ h_=>h_)) (Kd.R_lt (rX HO296.out))) (Kd.R_lt (rX HO299.out))) (below_size (bX1 HB.out GE276.out)));have HO305:=aM (Kd.R_lower (Kd.R_new' (Kd.R_new' (Kd.R_newM (M:=fun k_=>(w.heap.size≤k_)) ho1 (below_size (bX1 HB.out GE276.out)) (fun k_ h_=>h_)) (Kd.R_lt (rX HO296.out))) (Kd.R_lt (rX HO299.out))) (below_size (bX1 HB.out GE276.out)));replace HO296:=aM (Kd.R_mono (Kd.R_told (Kd.R_told (Kd.R_old (rX HO296.out) hb) (Kd.R_base ho0)) (Kd.R_base ho1)) (fun _ h_=>h_.1));replace HO299:=aM (Kd.R_mono (Kd.R_told (Kd.R_told (Kd.R_old (rX HO299.out) hb) (Kd.R_base ho0)) (Kd.R_base ho1)) (fun _ h_=>h_.1));replace BK276:=aM (bbX BK276.out hb);replace HR293_0:=aM (Kd.C_below (cX HR293_0.out) hb);replace HR293_1:=aM (Kd.C_below (cX HR293_1.out) hb);replace HB:=aM (below_step (bX1 HB.out GE276.out) hb);(try clear hb);(try clear hk);(try clear ho0);(try clear ho1))|((with_reducible refine gate_dst (N:=10) rfl ?_);refine bEv (cs:=#[.slice none 0 0,.slice none 0 0]) (t:=27) ?_;intro gb306 hg w35 hbox hb;replace HO_5:=aM (Kd.N_below (Kd.N_elderB (by(with_reducible repeat(first|apply Kd.N_alloc|apply Kd.N_drewN|apply Kd.N_drew));exact HO_5.out) gb306 (Nat.le_of_eq hg.symm)) hb);replace HO_6:=aM (Kd.R_below (rX HO_6.out) hb);replace HO_21:=aM (Kd.R_below (rX HO_21.out) hb);replace HL293_0:=aM (Kd.V_below (Kd.V_elderB (by(with_reducible repeat(first|apply Kd.V_alloc|apply Kd.V_drewN|apply Kd.V_drew));exact HL293_0.out) gb306 (Nat.le_of_eq hg.symm)) hb);replace HL293_1:=aM (Kd.V_below (Kd.V_elderB (by(with_reducible repeat(first|apply Kd.V_alloc|apply Kd.V_drewN|apply Kd.V_drew));exact HL293_1.out) gb306 (Nat.le_of_eq hg.symm)) hb);replace HO296:=aM (Kd.R_below (rX HO296.out) hb);replace HO299:=aM (Kd.R_below (rX HO299.out) hb);replace HO302:=aM (Kd.R_below (rX HO302.out) hb);replace HO305:=aM (Kd.R_below (rX HO305.out) hb);replace HR293_0:=aM (Kd.C_below (cX HR293_0.out) hb);replace HR293_1:=aM (Kd.C_below (cX HR293_1.out) hb);have BK306:=aM (hbox);have GW306:=aM ((szX (below_size (bX1 HB.out GE276.out)) hg:w.heap.size≤gb306));have GE306:=GW306;replace HB:=aM (below_step (bX1 HB.out GE276.out) hb);have NB276_306:=aM (neX BK276.out hg);have NB306_276:=aM (nfX BK276.out hg);replace BK276:=aM (bbX BK276.out hb);clear hb hbox hg;obtain ⟨Ao36,co36,eo36⟩:=Kd.R_slice HO302.out;subst eo36;have hnb37:=NB306_276.out;have hnc37:=NB276_306.out;obtain ⟨hcz38_0,hcz38_1,hfz38_0,hfz38_1⟩:=f2Z BK306.out;obtain ⟨Ao39,co39,eo39⟩:=Kd.R_slice HO305.out;subst eo39)|((with_reducible refine gate_callee (f:=36) rfl ?_);refine goesL_ (some 36) rfl rfl Tryz.func36 (by kernel_rfl) rfl #[.slice (some ad293) x5_2.length co30,.agg #[.slice Ao36 t300.length co36,.slice Ao39 t303.length co39]] rfl aX ?_;(with_reducible refine(spec_l06Find.calls k2 _ _ x5_2 _ _ t300 _ _ t303 t307 _ ?side1 ?side2 ?side3 ?side4 ?side5 ?side6 A24.out).mono ?_);(case side1=>refine(Kd.N_reads' (e:=27) (base:=w.heap.size) (ok:=fun k_=>(((((((w.heap.size≤k_)∧(some k_≠(u6:Value).ownBlock∧(some k_≠(.slice (some ad292) y289.length co16:Value).ownBlock∧k_≠gb276)))∧some k_≠(.slice Ao32 t294.length co32:Value).ownBlock)∧some k_≠(.slice Ao33 t297.length co33:Value).ownBlock)∧some k_≠(.slice Ao36 t300.length co36:Value).ownBlock)∧some k_≠(.slice Ao39 t303.length co39:Value).ownBlock)∧k_≠gb306)) (n:=x5_2.length) (c:=co30) ?_).2.2;exact(by(with_reducible repeat(first|apply Kd.N_alloc|apply Kd.N_drewN|apply Kd.N_drew));exact(Kd.N_mono (Kd.N_far (p:=⟨gb306,1,none⟩) (Kd.N_far (p:=⟨gb306,0,none⟩) (Kd.N_mono HO_5.out (fun k_ hk=>(⟨hk,hk.2⟩:_∧k_≠gb306))) (fun _ hk=>hk.2) (.slice Ao36 t300.length co36)) (fun _ hk=>hk.2) (.slice Ao39 t303.length co39)) (fun _ h_=>h_.1))));(case side2=>exact(Kd.N_reads' HO_5.out).2.1);(case side3=>exact rcX (fr2 HO302.out BK306.out (.slice Ao36 t300.length co36) (.slice Ao39 t303.length co39)));(case side4=>exact(Kd.R_reads' HO302.out).2.1);(case side5=>exact rcX (fr2 HO305.out BK306.out (.slice Ao36 t300.length co36) (.slice Ao39 t303.length co39)));(case side6=>exact(Kd.R_reads' HO305.out).2.1);rintro e w40 ⟨rfl,hb⟩;refine ⟨_,rfl,?_⟩;replace HO_5:=aM (Kd.N_below (by(with_reducible repeat(first|apply Kd.N_alloc|apply Kd.N_drewN|apply Kd.N_drew));exact(Kd.N_mono (Kd.N_far (p:=⟨gb306,1,none⟩) (Kd.N_far (p:=⟨gb306,0,none⟩) (Kd.N_mono HO_5.out (fun k_ hk=>(⟨hk,hk.2⟩:_∧k_≠gb306))) (fun _ hk=>hk.2) (.slice Ao36 t300.length co36)) (fun _ hk=>hk.2) (.slice Ao39 t303.length co39)) (fun _ h_=>h_.1))) hb);replace HO_6:=aM (Kd.R_below (rX (fr2 HO_6.out BK306.out (.slice Ao36 t300.length co36) (.slice Ao39 t303.length co39))) hb);replace HO_21:=aM (Kd.R_below (rX (fr2 HO_21.out BK306.out (.slice Ao36 t300.length co36) (.slice Ao39 t303.length co39))) hb);replace HO296:=aM (Kd.R_below (rX (fr2 HO296.out BK306.out (.slice Ao36 t300.length co36) (.slice Ao39 t303.length co39))) hb);replace HO299:=aM (Kd.R_below (rX (fr2 HO299.out BK306.out (.slice Ao36 t300.length co36) (.slice Ao39 t303.length co39))) hb);replace HO302:=aM (Kd.R_below (rX (fr2 HO302.out BK306.out (.slice Ao36 t300.length co36) (.slice Ao39 t303.length co39))) hb);replace HO305:=aM (Kd.R_below (rX (fr2 HO305.out BK306.out (.slice Ao36 t300.length co36) (.slice Ao39 t303.length co39))) hb);replace BK276:=aM (blk_below (g:=gb276) (o:=.cells #[.slice A0_0 l0_0.length c0_0,.slice A0_1 l0_1.length c0_1] 27 (0,0)) (by(with_reducible repeat(first|refine kN ?_ _|refine kD ?_|refine kA ?_ _));refine blk_far ?_ NB276_306.out _;(with_reducible repeat(first|refine kN ?_ _|refine kD ?_|refine kA ?_ _));refine blk_far ?_ NB276_306.out _;(with_reducible repeat(first|refine kN ?_ _|refine kD ?_|refine kA ?_ _));exact BK276.out) hb);replace HR293_0:=aM (Kd.C_below ((Kd.V_reads' (by(with_reducible repeat(first|apply Kd.V_alloc|apply Kd.V_drewN|apply Kd.V_drew));exact(Kd.V_mono (Kd.V_far (p:=⟨gb306,1,none⟩) (Kd.V_far (p:=⟨gb306,0,none⟩) (Kd.V_mono HL293_0.out (fun k_ hk=>(⟨hk,hk.2⟩:_∧k_≠gb306))) (fun _ hk=>hk.2) (.slice Ao36 t300.length co36)) (fun _ hk=>hk.2) (.slice Ao39 t303.length co39)) (fun _ h_=>h_.1)))).2.2) hb);replace HL293_0:=aM (Kd.V_below (by(with_reducible repeat(first|apply Kd.V_alloc|apply Kd.V_drewN|apply Kd.V_drew));exact(Kd.V_mono (Kd.V_far (p:=⟨gb306,1,none⟩) (Kd.V_far (p:=⟨gb306,0,none⟩) (Kd.V_mono HL293_0.out (fun k_ hk=>(⟨hk,hk.2⟩:_∧k_≠gb306))) (fun _ hk=>hk.2) (.slice Ao36 t300.length co36)) (fun _ hk=>hk.2) (.slice Ao39 t303.length co39)) (fun _ h_=>h_.1))) hb);replace HR293_1:=aM (Kd.C_below ((Kd.V_reads' (by(with_reducible repeat(first|apply Kd.V_alloc|apply Kd.V_drewN|apply Kd.V_drew));exact(Kd.V_mono (Kd.V_far (p:=⟨gb306,1,none⟩) (Kd.V_far (p:=⟨gb306,0,none⟩) (Kd.V_mono HL293_1.out (fun k_ hk=>(⟨hk,hk.2⟩:_∧k_≠gb306))) (fun _ hk=>hk.2) (.slice Ao36 t300.length co36)) (fun _ hk=>hk.2) (.slice Ao39 t303.length co39)) (fun _ h_=>h_.1)))).2.2) hb);replace HL293_1:=aM (Kd.V_below (by(with_reducible repeat(first|apply Kd.V_alloc|apply Kd.V_drewN|apply Kd.V_drew));exact(Kd.V_mono (Kd.V_far (p:=⟨gb306,1,none⟩) (Kd.V_far (p:=⟨gb306,0,none⟩) (Kd.V_mono HL293_1.out (fun k_ hk=>(⟨hk,hk.2⟩:_∧k_≠gb306))) (fun _ hk=>hk.2) (.slice Ao36 t300.length co36)) (fun _ hk=>hk.2) (.slice Ao39 t303.length co39)) (fun _ h_=>h_.1))) hb);replace BK306:=aM (blk_below (g:=gb306) (o:=.cells #[.slice Ao36 t300.length co36,.slice Ao39 t303.length co39] 27 (0,0)) (by(with_reducible repeat(first|refine kN ?_ _|refine kD ?_|refine kA ?_ _));refine blk_put (cs:=#[.slice Ao36 t300.length co36,.slice none 0 0]) ?_ 1 _ rfl;(with_reducible repeat(first|refine kN ?_ _|refine kD ?_|refine kA ?_ _));refine blk_put (cs:=#[.slice none 0 0,.slice none 0 0]) ?_ 0 _ rfl;(with_reducible repeat(first|refine kN ?_ _|refine kD ?_|refine kA ?_ _));exact BK306.out) hb);replace HB:=aM (below_step (bX2 HB.out GE276.out GE306.out) hb);(try clear hb);(try clear hk);obtain ⟨hcz41_0,hcz41_1,hfz41_0,hfz41_1⟩:=f2Z BK306.out)|((with_reducible refine gate_builtin (b:=.append) (xs:=#[.tmp 38,.tmp 40]) rfl ?_);at_builtin;refine Kd.N_append k27 (w0:=w) w.heap.size rfl (.tmp 38) (.tmp 40) 40 27 (.agg #[(.slice none 0 0),(.slice none 0 0)]) 48 rfl Tryz.underlying40 info27 rfl (by decide) (by omega) (.slice (some ad293) x5_2.length co30) x5_2 (⟨t300,t303⟩:S27) [.slice Ao36 t300.length co36,.slice Ao39 t303.length co39] (fun k_=>(w.heap.size≤k_)∧some k_≠(u6:Value).ownBlock∧some k_≠(.slice (some ad292) y289.length co16:Value).ownBlock∧some k_≠(.slice Ao32 t294.length co32:Value).ownBlock∧some k_≠(.slice Ao33 t297.length co33:Value).ownBlock∧k_≠gb276∧k_≠gb306) (fun k_=>((fun k_=>(w.heap.size≤k_)∧some k_≠(u6:Value).ownBlock∧some k_≠(.slice (some ad292) y289.length co16:Value).ownBlock∧some k_≠(.slice Ao32 t294.length co32:Value).ownBlock∧some k_≠(.slice Ao33 t297.length co33:Value).ownBlock∧k_≠gb276∧k_≠gb306)) k_∧some k_≠(.slice (some ad293) x5_2.length co30:Value).ownBlock) rfl rfl ?aP (fun _ hk=>hk) ?aF ?aO ?aB ?aS ?aL ?_;(case aP=>exact(k27_mkF _ _ (⟨t300,t303⟩:S27) (Kd.R_reads' (Kd.R_mono (ok':=(fun k_=>((fun k_=>(w.heap.size≤k_)∧some k_≠(u6:Value).ownBlock∧some k_≠(.slice (some ad292) y289.length co16:Value).ownBlock∧some k_≠(.slice Ao32 t294.length co32:Value).ownBlock∧some k_≠(.slice Ao33 t297.length co33:Value).ownBlock∧k_≠gb276∧k_≠gb306)) k_∧some k_≠(.slice (some ad293) x5_2.length co30:Value).ownBlock)) (Kd.R_types (Kd.R_types (Kd.R_apart' (Kd.R_apart' (Kd.R_apart' (HO302.out) (Kd.R_typed HO_6.out) (by decide)) (Kd.R_typed HO_21.out) (by decide)) (Kd.N_typed HO_5.out) (by decide)) BK276.out (by decide)) BK306.out (by decide)) (fun k_ hk=>⟨⟨hk.1.1.1.1.1.1.1.1,⟨hk.1.1.1.1.2,⟨hk.1.1.1.2,⟨hk.1.1.1.1.1.1.2,⟨hk.1.1.1.1.1.2,⟨hk.1.2,hk.2⟩⟩⟩⟩⟩⟩,hk.1.1.2⟩))).2.1 (Kd.R_F (Kd.R_mono (ok':=(fun k_=>((fun k_=>(w.heap.size≤k_)∧some k_≠(u6:Value).ownBlock∧some k_≠(.slice (some ad292) y289.length co16:Value).ownBlock∧some k_≠(.slice Ao32 t294.length co32:Value).ownBlock∧some k_≠(.slice Ao33 t297.length co33:Value).ownBlock∧k_≠gb276∧k_≠gb306)) k_∧some k_≠(.slice (some ad293) x5_2.length co30:Value).ownBlock)) (Kd.R_types (Kd.R_types (Kd.R_apart' (Kd.R_apart' (Kd.R_apart' (HO302.out) (Kd.R_typed HO_6.out) (by decide)) (Kd.R_typed HO_21.out) (by decide)) (Kd.N_typed HO_5.out) (by decide)) BK276.out (by decide)) BK306.out (by decide)) (fun k_ hk=>⟨⟨hk.1.1.1.1.1.1.1.1,⟨hk.1.1.1.1.2,⟨hk.1.1.1.2,⟨hk.1.1.1.1.1.1.2,⟨hk.1.1.1.1.1.2,⟨hk.1.2,hk.2⟩⟩⟩⟩⟩⟩,hk.1.1.2⟩))) (Kd.R_reads' (Kd.R_mono (ok':=(fun k_=>((fun k_=>(w.heap.size≤k_)∧some k_≠(u6:Value).ownBlock∧some k_≠(.slice (some ad292) y289.length co16:Value).ownBlock∧some k_≠(.slice Ao32 t294.length co32:Value).ownBlock∧some k_≠(.slice Ao33 t297.length co33:Value).ownBlock∧k_≠gb276∧k_≠gb306)) k_∧some k_≠(.slice (some ad293) x5_2.length co30:Value).ownBlock)) (Kd.R_types (Kd.R_types (Kd.R_apart' (Kd.R_apart' (Kd.R_apart' (HO305.out) (Kd.R_typed HO_6.out) (by decide)) (Kd.R_typed HO_21.out) (by decide)) (Kd.N_typed HO_5.out) (by decide)) BK276.out (by decide)) BK306.out (by decide)) (fun k_ hk=>⟨⟨hk.1.1.1.1.1.1.1.1,⟨hk.1.1.1.1.2,⟨hk.1.1.1.2,⟨hk.1.1.1.1.1.1.2,⟨hk.1.1.1.1.1.2,⟨hk.1.2,hk.2⟩⟩⟩⟩⟩⟩,hk.1.1.2⟩))).2.1 (Kd.R_F (Kd.R_mono (ok':=(fun k_=>((fun k_=>(w.heap.size≤k_)∧some k_≠(u6:Value).ownBlock∧some k_≠(.slice (some ad292) y289.length co16:Value).ownBlock∧some k_≠(.slice Ao32 t294.length co32:Value).ownBlock∧some k_≠(.slice Ao33 t297.length co33:Value).ownBlock∧k_≠gb276∧k_≠gb306)) k_∧some k_≠(.slice (some ad293) x5_2.length co30:Value).ownBlock)) (Kd.R_types (Kd.R_types (Kd.R_apart' (Kd.R_apart' (Kd.R_apart' (HO305.out) (Kd.R_typed HO_6.out) (by decide)) (Kd.R_typed HO_21.out) (by decide)) (Kd.N_typed HO_5.out) (by decide)) BK276.out (by decide)) BK306.out (by decide)) (fun k_ hk=>⟨⟨hk.1.1.1.1.1.1.1.1,⟨hk.1.1.1.1.2,⟨hk.1.1.1.2,⟨hk.1.1.1.1.1.1.2,⟨hk.1.1.1.1.1.2,⟨hk.1.2,hk.2⟩⟩⟩⟩⟩⟩,hk.1.1.2⟩)))));(case aB=>exact(bX2 HB.out GE276.out GE306.out));(case aF=>exact(fun k_ hk=>⟨(Nat.le_trans (below_size (bX2 HB.out GE276.out GE306.out)) hk),Kd.fresh' (Kd.R_lt (rX HO_6.out)) k_ hk,Kd.fresh' (Kd.R_lt (rX HO_21.out)) k_ hk,Kd.fresh' (Kd.R_lt (rX HO296.out)) k_ hk,Kd.fresh' (Kd.R_lt (rX HO299.out)) k_ hk,Kd.freshB (g:=gb276) (o:=.cells #[.slice A0_0 l0_0.length c0_0,.slice A0_1 l0_1.length c0_1] 27 (0,0)) (kX BK276.out) k_ hk,Kd.freshB (g:=gb306) (o:=.cells #[.slice Ao36 t300.length co36,.slice Ao39 t303.length co39] 27 (0,0)) (kX BK306.out) k_ hk⟩));(case aO=>exact(by(with_reducible repeat(first|apply Kd.N_alloc|apply Kd.N_drewN|apply Kd.N_drew));exact Kd.N_mono HO_5.out (fun _ hk=>⟨hk.1.1.1.1.1.1,⟨hk.1.1.1.1.1.2.1,⟨hk.1.1.1.1.1.2.2.1,⟨hk.1.1.1.1.2,⟨hk.1.1.1.2,⟨hk.1.1.1.1.1.2.2.2,hk.2⟩⟩⟩⟩⟩⟩)));(case aS=>exact(below_size (bX2 HB.out GE276.out GE306.out)));(case aL=>have:=LMc26.out;omega);intro v309 w42 ho hb hg hat;rw [← Ny308.out] at ho;replace HO_6:=aM (Kd.R_over' (rX HO_6.out) (Kd.N_typed (by(with_reducible repeat(first|apply Kd.N_alloc|apply Kd.N_drewN|apply Kd.N_drew));exact HO_5.out)) (by decide) hg);replace HO_21:=aM (Kd.R_over' (rX HO_21.out) (Kd.N_typed (by(with_reducible repeat(first|apply Kd.N_alloc|apply Kd.N_drewN|apply Kd.N_drew));exact HO_5.out)) (by decide) hg);replace BK276:=aM (bgX BK276.out hg (Kd.N_away HO_5.out (fun _ hk=>hk.1.1.1.1.1.2.2.2)));replace HL293_0:=aM (Kd.V_afterv (ok:=(fun k_=>(w.heap.size≤k_)∧some k_≠(u6:Value).ownBlock∧some k_≠(.slice (some ad292) y289.length co16:Value).ownBlock∧some k_≠(.slice Ao32 t294.length co32:Value).ownBlock∧some k_≠(.slice Ao33 t297.length co33:Value).ownBlock∧some k_≠(.slice Ao36 t300.length co36:Value).ownBlock∧some k_≠(.slice Ao39 t303.length co39:Value).ownBlock∧k_≠gb276∧k_≠gb306)) (by(with_reducible repeat(first|apply Kd.V_alloc|apply Kd.V_drewN|apply Kd.V_drew));exact Kd.V_mono HL293_0.out (fun _ hk=>⟨⟨hk.1.1.1.1.1.1.1,⟨hk.1.1.1.1.1.1.2.1,⟨hk.1.1.1.1.1.1.2.2.1,⟨hk.1.1.1.1.2,⟨hk.1.1.1.2,⟨hk.1.1.2,⟨hk.1.2,⟨hk.1.1.1.1.1.1.2.2.2,hk.2⟩⟩⟩⟩⟩⟩⟩⟩,hk.1.1.1.1.1.2⟩)) hg hat);replace HL293_1:=aM (Kd.V_afterv (ok:=(fun k_=>(w.heap.size≤k_)∧some k_≠(u6:Value).ownBlock∧some k_≠(.slice (some ad292) y289.length co16:Value).ownBlock∧some k_≠(.slice Ao32 t294.length co32:Value).ownBlock∧some k_≠(.slice Ao33 t297.length co33:Value).ownBlock∧some k_≠(.slice Ao36 t300.length co36:Value).ownBlock∧some k_≠(.slice Ao39 t303.length co39:Value).ownBlock∧k_≠gb276∧k_≠gb306)) (by(with_reducible repeat(first|apply Kd.V_alloc|apply Kd.V_drewN|apply Kd.V_drew));exact Kd.V_mono HL293_1.out (fun _ hk=>⟨⟨hk.1.1.1.1.1.1.1,⟨hk.1.1.1.1.1.1.2.1,⟨hk.1.1.1.1.1.1.2.2.1,⟨hk.1.1.1.1.2,⟨hk.1.1.1.2,⟨hk.1.1.2,⟨hk.1.2,⟨hk.1.1.1.1.1.1.2.2.2,hk.2⟩⟩⟩⟩⟩⟩⟩⟩,hk.1.1.1.1.1.2⟩)) hg hat);replace HO296:=aM (Kd.R_over' (rX HO296.out) (Kd.N_typed (by(with_reducible repeat(first|apply Kd.N_alloc|apply Kd.N_drewN|apply Kd.N_drew));exact HO_5.out)) (by decide) hg);replace HO299:=aM (Kd.R_over' (rX HO299.out) (Kd.N_typed (by(with_reducible repeat(first|apply Kd.N_alloc|apply Kd.N_drewN|apply Kd.N_drew));exact HO_5.out)) (by decide) hg);replace BK306:=aM (bgX BK306.out hg (Kd.N_away HO_5.out (fun _ hk=>hk.2)));replace HB:=aM (hb);have HO310:=aM (ho);clear HO_5 HO302 HO305 ho hb hg hat))
 replace HO_6:=aM (Kd.R_drew HO_6.out)
 replace HO_21:=aM (Kd.R_drew HO_21.out)
 replace HL293_0:=aM (Kd.V_drew HL293_0.out)
 replace HL293_1:=aM (Kd.V_drew HL293_1.out)
 replace HO296:=aM (Kd.R_drew HO296.out)
 replace HO299:=aM (Kd.R_drew HO299.out)
 replace HO310:=aM (Kd.N_drew HO310.out)
 replace BK276:=aM (blk_drew BK276.out)
 replace BK306:=aM (blk_drew BK306.out)
 replace HB:=aM (below_drew1 HB.out)
 obtain ⟨Ao44,co44,eo44⟩:=Kd.R_slice HO_6.out
 (first|subst eo44|(injection eo44 with f1_ f2_ f3_;have f4_:=f1_.symm;have f5_:=f3_.symm;clear f1_ f2_ f3_;subst f4_;subst f5_))
 have p311:0≤(x7_1:Int):=dX
 have q311:x7_1<(x6_2.length:Int):=dX
 obtain ⟨ad311,e311,hx311_0⟩:=Kd.at_string (Kd.R_reads' HO_6.out).2.2 x7_1 p311 q311
 cases e311
 replace p311:=eq_true p311
 replace q311:=eq_true q311
 refine start_ (n:=12) (S:=fun w'=>w'.cell? (ad311.add (x7_1).toNat)=some (.string (rdOf ByteArray.empty x6_2 x7_1))) (ds:=[9,10]) #[ff,ff,ff,ff,ff,ff,ff,ff,ff,ff,ff,ff] (by kernel_rfl) rfl rfl (hx311_0) (fun hHeld => ?_);refine with_tabW spec_l06Orbit.tab12 spec_l06Orbit.bits12 (fun HT_ HW_ => ?_)
 generalize w42.drew=w43 at HO_6 HO_21 HL293_0 HL293_1 HO296 HO299 HO310 BK276 BK306 HB hx311_0 hHeld ⊢
 refine pX 0 42 (fl 12 1) rfl rfl HT_.out ?_
 refine pX 1 43 (fl 12 3) rfl rfl HT_.out ?_
 refine pX 2 44 (fl 12 7) rfl rfl HT_.out ?_
 refine pX 3 45 (fl 12 15) rfl rfl HT_.out ?_
 refine pX 5 47 (fl 12 47) rfl rfl HT_.out ?_
 refine take_ (i:=4) (N:=some 46) (v:=?_) (a':=?_) (fl 12 63) rfl rfl (take_ofW HT_.out HW_.out (by kernel_rfl)) (fun _ _ _ h=>h) (Or.inl ⟨by kernel_rfl,?_⟩) hHeld ?_ ?_
 rotate_left
 {
 intro w' s0
 go_simp
 with_reducible rfl
 }
 rotate_left
 {
 simp only [Act.put,zA,zB,zC,i64_w,i32_w]
 rfl
 }
 refine one_ (i:=6) (N:=some 48) #[tt,tt,tt,tt,tt,tt,tt,ff,ff,ff,ff,ff] rfl rfl (one_of HT_.out (by kernel_rfl)) (by decide) (fun K hK => ?_)
 refine Kd.R_lit_step (Kd.int .u8) _ 5 ?hg (N:=48) ?hd (xs:=([rd y289 x23_2]:List Int)) (inner:=[.int .u8 (rd y289 x23_2)]) (ok:=fun _=>True) (okp:=fun _=>True) ?hr ?hp (fun _ hk=>hk) trivial (Below.refl _ _) (Nat.le_refl _) (by simp) ?_;(case hd=>rfl);(case hg=>rfl);(case hr=>first|(go_simp;done)|(go_simp;rfl));(case hp=>exact(Reps.one (show Kd.M (Kd.int .u8) _ _ _ (rd y289 x23_2) [.int .u8 (rd y289 x23_2)] from rfl) (Reps.none _ _)))
 intro v313 w45 ho46 hb hg_ hnew_
 have HS0_:=(hb.cell (World.block_lt_of_cell? _ _ (hHeld))).trans (hHeld)
 clear hg_ hnew_
 (first|rw [← Ny312.out] at ho46|(simp only [Int.reduceToNat] at ho46;rw [← Ny312.out] at ho46))
 replace HO_6:=aM (Kd.R_below (rX HO_6.out) hb)
 replace HL293_0:=aM (Kd.V_elder' (by(with_reducible repeat(first|apply Kd.V_alloc|apply Kd.V_drewN|apply Kd.V_drew));exact HL293_0.out) (Kd.R_base ho46) hb)
 replace HL293_1:=aM (Kd.V_elder' (by(with_reducible repeat(first|apply Kd.V_alloc|apply Kd.V_drewN|apply Kd.V_drew));exact HL293_1.out) (Kd.R_base ho46) hb)
 replace HO296:=aM (Kd.R_below (rX HO296.out) hb)
 replace HO299:=aM (Kd.R_below (rX HO299.out) hb)
 replace HO310:=aM (Kd.N_elder' (by(with_reducible repeat(first|apply Kd.N_alloc|apply Kd.N_drewN|apply Kd.N_drew));exact HO310.out) (Kd.R_base ho46) hb)
 have HO314:=aM (Kd.R_lower (Kd.R_new' (Kd.R_newM (M:=fun k_=>(w.heap.size≤k_)) ho46 (below_size (bX2 HB.out GE276.out GE306.out)) (fun k_ h_=>h_)) (Kd.R_lt (rX HO_21.out))) (below_size (bX2 HB.out GE276.out GE306.out)))
 replace HO_21:=aM (Kd.R_elder' (rX HO_21.out) (Kd.R_base ho46) hb)
 replace BK276:=aM (bbX BK276.out hb)
 replace BK306:=aM (bbX BK306.out hb)
 replace HB:=aM (below_step (bX2 HB.out GE276.out GE306.out) hb)
 clear hb ho46
 refine hK.out _ _ (HS0_) (fun hHeld => ?_)
 clear hK K
 refine norm_ (a':=?_) ?_ ?_
 rotate_left
 {
 show Act.put _ (some 48) _=_
 simp only [Act.put,zA,zB,zC,i64_w,i32_w]
 rfl
 }
 refine one_ (i:=7) (N:=some 49) #[tt,tt,tt,tt,tt,tt,tt,tt,ff,ff,ff,ff] rfl rfl (one_of HT_.out (by kernel_rfl)) (by decide) (fun K hK => ?_)
 have hcv47:=own_string (P:=Tryz.prog) Tryz.underlying45 Tryz.underlying5 Tryz.underlying9 (Kd.own_of_R HO314.out)
 refine value_ (w1:=?_) (v:=?_) (by rfl) rfl ?_ ?_
 rotate_left 2
 {
 go_simp
 constructor
 {
 rfl
 }
 {
 rfl
 }
 }
 clear hcv47
 refine hK.out _ _ (hHeld) (fun hHeld => ?_)
 clear hK K
 refine norm_ (a':=?_) ?_ ?_
 rotate_left
 {
 show Act.put _ (some 49) _=_
 simp only [Act.put,zA,zB,zC,i64_w,i32_w]
 rfl
 }
 refine pX 8 50 (fl 12 511) rfl rfl HT_.out ?_
 refine last_ (i:=9) (N:=some 51) #[tt,tt,tt,tt,tt,tt,tt,tt,tt,tt,ff,ff] rfl rfl (one_of HT_.out (by kernel_rfl)) (by decide) (fun K hK => ?_)
 refine value_ (w1:=?_) (v:=?_) (by rfl) rfl ?_ ?_
 rotate_left 2
 {
 go_simp
 constructor
 {
 rfl
 }
 {
 rfl
 }
 }
 refine hK.out _ _ ?_
 clear hK K
 refine norm_ (a':=?_) ?_ ?_
 rotate_left
 {
 show Act.put _ (some 51) _=_
 simp only [Act.put,zA,zB,zC,i64_w,i32_w]
 rfl
 }
 refine last_ (i:=10) (N:=some 52) #[tt,tt,tt,tt,tt,tt,tt,tt,tt,tt,tt,ff] rfl rfl (one_of HT_.out (by kernel_rfl)) (by decide) (fun K hK => ?_)
 refine Kd.R_append_step Kd.string (w0:=w) w.heap.size (by rfl) (.tmp 42) (.tmp 51) 50 9 (.string ⟨#[]⟩) 16 rfl Tryz.underlying50 info9 rfl (by decide) (by omega) (.slice (some ad311) x6_2.length co44) x6_2 ((rdOf ByteArray.empty x6_2 x7_1) ++ (strOfNums y312)) [.string ((rdOf ByteArray.empty x6_2 x7_1) ++ (strOfNums y312))] (fun k_=>(w.heap.size≤k_)) (fun _=>False) rfl rfl ?aP (fun _ hk=>hk.elim) ?aF ?aO ?aB ?aS ?aL ?_
 (case aP=>exact rfl)
 (case aB=>exact(bX2 HB.out GE276.out GE306.out))
 (case aF=>exact(fun k_ hk=>(Nat.le_trans (below_size (bX2 HB.out GE276.out GE306.out)) hk)))
 (case aO=>exact(rX HO_6.out))
 (case aS=>exact(below_size (bX2 HB.out GE276.out GE306.out)))
 (case aL=>have:=LMc29.out;omega)
 intro v316 w48 ho hb hg hat
 rw [← Ny315.out] at ho
 replace HO_21:=aM (Kd.R_over' (rX HO_21.out) (Kd.R_typed (rX HO_6.out)) (by decide) hg)
 replace BK276:=aM (bgX BK276.out hg (Kd.R_ne HO_6.out BK276.out (by decide)))
 replace HL293_0:=aM (Kd.V_afterv (ok:=(fun k_=>(w.heap.size≤k_)∧some k_≠(.slice (some ad292) y289.length co16:Value).ownBlock∧some k_≠(.slice Ao32 t294.length co32:Value).ownBlock∧some k_≠(.slice Ao33 t297.length co33:Value).ownBlock∧some k_≠(v309:Value).ownBlock∧some k_≠(v313:Value).ownBlock∧k_≠gb276∧k_≠gb306)) (by(with_reducible repeat(first|apply Kd.V_alloc|apply Kd.V_drewN|apply Kd.V_drew));exact Kd.V_mono HL293_0.out (fun _ hk=>⟨⟨hk.1.1.1,⟨hk.1.1.2.2.1,⟨hk.1.1.2.2.2.1,⟨hk.1.1.2.2.2.2.1,⟨hk.1.2,⟨hk.2,⟨hk.1.1.2.2.2.2.2.2.2.1,hk.1.1.2.2.2.2.2.2.2.2⟩⟩⟩⟩⟩⟩⟩,hk.1.1.2.1⟩)) hg hat)
 replace HL293_1:=aM (Kd.V_afterv (ok:=(fun k_=>(w.heap.size≤k_)∧some k_≠(.slice (some ad292) y289.length co16:Value).ownBlock∧some k_≠(.slice Ao32 t294.length co32:Value).ownBlock∧some k_≠(.slice Ao33 t297.length co33:Value).ownBlock∧some k_≠(v309:Value).ownBlock∧some k_≠(v313:Value).ownBlock∧k_≠gb276∧k_≠gb306)) (by(with_reducible repeat(first|apply Kd.V_alloc|apply Kd.V_drewN|apply Kd.V_drew));exact Kd.V_mono HL293_1.out (fun _ hk=>⟨⟨hk.1.1.1,⟨hk.1.1.2.2.1,⟨hk.1.1.2.2.2.1,⟨hk.1.1.2.2.2.2.1,⟨hk.1.2,⟨hk.2,⟨hk.1.1.2.2.2.2.2.2.2.1,hk.1.1.2.2.2.2.2.2.2.2⟩⟩⟩⟩⟩⟩⟩,hk.1.1.2.1⟩)) hg hat)
 replace HO296:=aM (Kd.R_over' (rX HO296.out) (Kd.R_typed (rX HO_6.out)) (by decide) hg)
 replace HO299:=aM (Kd.R_over' (rX HO299.out) (Kd.R_typed (rX HO_6.out)) (by decide) hg)
 replace BK306:=aM (bgX BK306.out hg (Kd.R_ne HO_6.out BK306.out (by decide)))
 replace HO310:=aM (Kd.N_afterv (ok:=(fun k_=>(w.heap.size≤k_)∧some k_≠(.slice (some ad292) y289.length co16:Value).ownBlock∧some k_≠(.slice Ao32 t294.length co32:Value).ownBlock∧some k_≠(.slice Ao33 t297.length co33:Value).ownBlock∧some k_≠(v313:Value).ownBlock∧k_≠gb276∧k_≠gb306)) (by(with_reducible repeat(first|apply Kd.N_alloc|apply Kd.N_drewN|apply Kd.N_drew));exact Kd.N_mono HO310.out (fun _ hk=>⟨⟨hk.1.1,⟨hk.1.2.2.1,⟨hk.1.2.2.2.1,⟨hk.1.2.2.2.2.1,⟨hk.2,⟨hk.1.2.2.2.2.2.1,hk.1.2.2.2.2.2.2⟩⟩⟩⟩⟩⟩,hk.1.2.1⟩)) hg hat)
 replace HO314:=aM (Kd.R_over' (rX HO314.out) (Kd.R_typed (rX HO_6.out)) (by decide) hg)
 replace HB:=aM (hb)
 have HO317:=aM (ho)
 clear HO_6 ho hb hg hat
 refine hK.out _ _ ?_
 clear hK K
 refine norm_ (a':=?_) ?_ ?_
 rotate_left
 {
 show Act.put _ (some 52) _=_
 simp only [Act.put,zA,zB,zC,i64_w,i32_w]
 rfl
 }
 refine pX 11 6 (fl 12 4095) rfl rfl HT_.out ?_
 refine done_ (done_of HT_.out (by kernel_rfl)) ?_
 try go_wp2
 go_roundg k2
 case measure=>have:=HK1.out;have:=HK2.out;omega
 case rel=>exact ⟨(y308),(y315),(wrap64 (x23_2+1)),vX,H',⟨by have:=HK1.out;have:=HK2.out;omega⟩,⟨by(with_reducible repeat(first|apply Kd.N_alloc|apply Kd.N_drewN|apply Kd.N_drew));exact Kd.N_mono HO310.out (fun _ hk=>⟨hk.1.1,⟨hk.2,⟨hk.1.2.1,hk.1.2.2.2.2.2.1⟩⟩⟩)⟩,⟨rX HO317.out⟩,⟨rM HO_21.out (fun _ hk=>hk.1)⟩,⟨kX BK276.out⟩,⟨bX2 HB.out GE276.out GE306.out⟩⟩
 }
 {
 rw [if_neg c29] at H
 exact absurd H (by simp)
 }
 }
 {
 rw [if_neg c28] at H
 exact absurd H (by simp)
 }
 }
 {
 rw [if_neg c27] at H
 exact absurd H (by simp)
 }
 }
 {
 rw [if_neg c26] at H
 exact absurd H (by simp)
 }
 }
 {
 rw [if_neg c25] at H
 have c25b0:=decide_eq_false c25
 clear c25
 have H':=aM H
 clear H
 have p292:0≤(x23_2:Int):=dX
 have q292:x23_2<(y289.length:Int):=dX
 obtain ⟨ad292,e292,hx292_0⟩:=Kd.at_int (Kd.R_reads' HO_21.out).2.2 x23_2 p292 q292
 cases e292
 replace p292:=eq_true p292
 replace q292:=eq_true q292
 obtain ⟨Ao49,co49,eo49⟩:=Kd.N_slice HO_5.out
 subst eo49
 have p293:0≤(x7_1:Int):=dX
 have q293:x7_1<(x5_2.length:Int):=dX
 obtain ⟨ad293,A293_0,c293_0,A293_1,c293_1,e293,hx293_0,hx293_1,hl293_0,hi293_0,hl293_1,hi293_1⟩:=at_T27 (Kd.N_reads' HO_5.out).2.2 x7_1 p293 q293
 cases e293
 obtain ⟨ce293,hce293,hMe293,hcc293⟩:=Kd.N_get HO_5.out z27 x7_1 p293 (by first|exact q293|exact dX|(have e_:=(Kd.N_reads' HO_5.out).1;omega))
 obtain ⟨ua293_0,uc293_0,ua293_1,uc293_1,rfl,ul293_0,ge293_0,ul293_1,ge293_1⟩:=k27_openF hMe293
 have hv293_0:=hcc293 0 _ rfl
 rw [Nat.add_zero] at hv293_0
 replace hv293_0:=Option.some.inj (hv293_0.symm.trans hx293_0)
 injection hv293_0 with hva_ hvn_ hvc_
 rw [hva_] at ge293_0
 rw [hvc_] at ul293_0
 have HL293_0:=aM (show Kd.V (Kd.int .i64) 3 _ w.heap.size _ _ ((rd_T27 x5_2 x7_1).f0) from Kd.V_mk ul293_0 ge293_0)
 clear hva_ hvn_ hvc_ ge293_0 ul293_0
 have hv293_1:=hcc293 1 _ rfl
 rw [add_field _ _ 1 (by omega)] at hv293_1
 replace hv293_1:=Option.some.inj (hv293_1.symm.trans hx293_1)
 injection hv293_1 with hva_ hvn_ hvc_
 rw [hva_] at ge293_1
 rw [hvc_] at ul293_1
 have HL293_1:=aM (show Kd.V (Kd.int .i64) 3 _ w.heap.size _ _ ((rd_T27 x5_2 x7_1).f1) from Kd.V_mk ul293_1 ge293_1)
 clear hva_ hvn_ hvc_ ge293_1 ul293_1 hcc293 hce293
 have HR293_0:=aM hi293_0
 have HC293_0:=aM hl293_0
 clear hi293_0 hl293_0
 have HR293_1:=aM hi293_1
 have HC293_1:=aM hl293_1
 clear hi293_1 hl293_1
 replace p293:=eq_true p293
 replace q293:=eq_true q293
 go_wp2_with (first|((with_reducible refine gate_callee (f:=50) rfl ?_);refine goesL_ (some 32) rfl rfl Tryz.func50 (by kernel_rfl) rfl #[.agg #[.slice A293_0 ((rd_T27 x5_2 x7_1).f0).length c293_0,.slice A293_1 ((rd_T27 x5_2 x7_1).f1).length c293_1],.int .u8 (rd y289 x23_2)] rfl aX ?_;(with_reducible refine(spec_l05Letter.calls k2 _ _ ((rd_T27 x5_2 x7_1).f0) _ _ ((rd_T27 x5_2 x7_1).f1) (rd y289 x23_2) t294 t297 _ ?side1 ?side2 ?side3 ?side4 A22.out).mono ?_);(case side1=>exact cX (cX HR293_0.out));(case side2=>exact HC293_0.out);(case side3=>exact cX (cX HR293_1.out));(case side4=>exact HC293_1.out);rintro e w50 ⟨v295,v298,rfl,ho0,ho1,hb⟩;refine ⟨_,rfl,?_⟩;replace HO_5:=aM (Kd.N_mono (Kd.N_told (Kd.N_told (Kd.N_old (by(with_reducible repeat(first|apply Kd.N_alloc|apply Kd.N_drewN|apply Kd.N_drew));exact HO_5.out) hb) (Kd.R_base ho0)) (Kd.R_base ho1)) (fun _ h_=>h_.1));replace HO_6:=aM (Kd.R_below (rX HO_6.out) hb);replace HO_21:=aM (Kd.R_below (rX HO_21.out) hb);replace HL293_0:=aM (Kd.V_mono (Kd.V_told (Kd.V_told (Kd.V_old (by(with_reducible repeat(first|apply Kd.V_alloc|apply Kd.V_drewN|apply Kd.V_drew));exact HL293_0.out) hb) (Kd.R_base ho0)) (Kd.R_base ho1)) (fun _ h_=>h_.1));replace HL293_1:=aM (Kd.V_mono (Kd.V_told (Kd.V_told (Kd.V_old (by(with_reducible repeat(first|apply Kd.V_alloc|apply Kd.V_drewN|apply Kd.V_drew));exact HL293_1.out) hb) (Kd.R_base ho0)) (Kd.R_base ho1)) (fun _ h_=>h_.1));have HO296:=aM (Kd.R_lower (Kd.R_newM (M:=fun k_=>(w.heap.size≤k_)) ho0 (below_size (bX1 HB.out GE276.out)) (fun k_ h_=>h_)) (below_size (bX1 HB.out GE276.out)));have HO299:=aM (Kd.R_lower (Kd.R_newM (M:=fun k_=>(w.heap.size≤k_)) ho1 (below_size (bX1 HB.out GE276.out)) (fun k_ h_=>h_)) (below_size (bX1 HB.out GE276.out)));replace BK276:=aM (bbX BK276.out hb);replace HR293_0:=aM (Kd.C_below (cX HR293_0.out) hb);replace HR293_1:=aM (Kd.C_below (cX HR293_1.out) hb);replace HB:=aM (below_step (bX1 HB.out GE276.out) hb);(try clear hb);(try clear hk);(try clear ho0);(try clear ho1);obtain ⟨Ao51,co51,eo51⟩:=Kd.R_slice HO296.out;subst eo51;obtain ⟨Ao52,co52,eo52⟩:=Kd.R_slice HO299.out;subst eo52)|((with_reducible refine gate_callee (f:=37) rfl ?_);refine goesL_ (some 33) rfl rfl Tryz.func37 (by kernel_rfl) rfl #[.agg #[.slice Ao51 t294.length co51,.slice Ao52 t297.length co52]] rfl aX ?_;(with_reducible refine(spec_l03Canon.calls k2 _ _ t294 _ _ t297 t300 t303 _ ?side1 ?side2 ?side3 ?side4 A23.out).mono ?_);(case side1=>exact cX (Kd.R_reads' HO296.out).2.2);(case side2=>exact(Kd.R_reads' HO296.out).2.1);(case side3=>exact cX (Kd.R_reads' HO299.out).2.2);(case side4=>exact(Kd.R_reads' HO299.out).2.1);rintro e w53 ⟨v301,v304,rfl,ho0,ho1,hb⟩;refine ⟨_,rfl,?_⟩;replace HO_5:=aM (Kd.N_mono (Kd.N_told (Kd.N_told (Kd.N_old (by(with_reducible repeat(first|apply Kd.N_alloc|apply Kd.N_drewN|apply Kd.N_drew));exact HO_5.out) hb) (Kd.R_base ho0)) (Kd.R_base ho1)) (fun _ h_=>h_.1));replace HO_6:=aM (Kd.R_below (rX HO_6.out) hb);replace HO_21:=aM (Kd.R_below (rX HO_21.out) hb);replace HL293_0:=aM (Kd.V_mono (Kd.V_told (Kd.V_told (Kd.V_old (by(with_reducible repeat(first|apply Kd.V_alloc|apply Kd.V_drewN|apply Kd.V_drew));exact HL293_0.out) hb) (Kd.R_base ho0)) (Kd.R_base ho1)) (fun _ h_=>h_.1));replace HL293_1:=aM (Kd.V_mono (Kd.V_told (Kd.V_told (Kd.V_old (by(with_reducible repeat(first|apply Kd.V_alloc|apply Kd.V_drewN|apply Kd.V_drew));exact HL293_1.out) hb) (Kd.R_base ho0)) (Kd.R_base ho1)) (fun _ h_=>h_.1));have HO302:=aM (Kd.R_lower (Kd.R_new' (Kd.R_new' (Kd.R_newM (M:=fun k_=>(w.heap.size≤k_)) ho0 (below_size (bX1 HB.out GE276.out)) (fun k_ h_=>h_)) (Kd.R_lt (rX HO296.out))) (Kd.R_lt (rX HO299.out))) (below_size (bX1 HB.out GE276.out)));have HO305:=aM (Kd.R_lower (Kd.R_new' (Kd.R_new' (Kd.R_newM (M:=fun k_=>(w.heap.size≤k_)) ho1 (below_size (bX1 HB.out GE276.out)) (fun k_ h_=>h_)) (Kd.R_lt (rX HO296.out))) (Kd.R_lt (rX HO299.out))) (below_size (bX1 HB.out GE276.out)));replace HO296:=aM (Kd.R_mono (Kd.R_told (Kd.R_told (Kd.R_old (rX HO296.out) hb) (Kd.R_base ho0)) (Kd.R_base ho1)) (fun _ h_=>h_.1));replace HO299:=aM (Kd.R_mono (Kd.R_told (Kd.R_told (Kd.R_old (rX HO299.out) hb) (Kd.R_base ho0)) (Kd.R_base ho1)) (fun _ h_=>h_.1));replace BK276:=aM (bbX BK276.out hb);replace HR293_0:=aM (Kd.C_below (cX HR293_0.out) hb);replace HR293_1:=aM (Kd.C_below (cX HR293_1.out) hb);replace HB:=aM (below_step (bX1 HB.out GE276.out) hb);(try clear hb);(try clear hk);(try clear ho0);(try clear ho1))|((with_reducible refine gate_dst (N:=10) rfl ?_);refine bEv (cs:=#[.slice none 0 0,.slice none 0 0]) (t:=27) ?_;intro gb306 hg w54 hbox hb;replace HO_5:=aM (Kd.N_below (Kd.N_elderB (by(with_reducible repeat(first|apply Kd.N_alloc|apply Kd.N_drewN|apply Kd.N_drew));exact HO_5.out) gb306 (Nat.le_of_eq hg.symm)) hb);replace HO_6:=aM (Kd.R_below (rX HO_6.out) hb);replace HO_21:=aM (Kd.R_below (rX HO_21.out) hb);replace HL293_0:=aM (Kd.V_below (Kd.V_elderB (by(with_reducible repeat(first|apply Kd.V_alloc|apply Kd.V_drewN|apply Kd.V_drew));exact HL293_0.out) gb306 (Nat.le_of_eq hg.symm)) hb);replace HL293_1:=aM (Kd.V_below (Kd.V_elderB (by(with_reducible repeat(first|apply Kd.V_alloc|apply Kd.V_drewN|apply Kd.V_drew));exact HL293_1.out) gb306 (Nat.le_of_eq hg.symm)) hb);replace HO296:=aM (Kd.R_below (rX HO296.out) hb);replace HO299:=aM (Kd.R_below (rX HO299.out) hb);replace HO302:=aM (Kd.R_below (rX HO302.out) hb);replace HO305:=aM (Kd.R_below (rX HO305.out) hb);replace HR293_0:=aM (Kd.C_below (cX HR293_0.out) hb);replace HR293_1:=aM (Kd.C_below (cX HR293_1.out) hb);have BK306:=aM (hbox);have GW306:=aM ((szX (below_size (bX1 HB.out GE276.out)) hg:w.heap.size≤gb306));have GE306:=GW306;replace HB:=aM (below_step (bX1 HB.out GE276.out) hb);have NB276_306:=aM (neX BK276.out hg);have NB306_276:=aM (nfX BK276.out hg);replace BK276:=aM (bbX BK276.out hb);clear hb hbox hg;obtain ⟨Ao55,co55,eo55⟩:=Kd.R_slice HO302.out;subst eo55;have hnb56:=NB306_276.out;have hnc56:=NB276_306.out;obtain ⟨hcz57_0,hcz57_1,hfz57_0,hfz57_1⟩:=f2Z BK306.out;obtain ⟨Ao58,co58,eo58⟩:=Kd.R_slice HO305.out;subst eo58)|((with_reducible refine gate_callee (f:=36) rfl ?_);refine goesL_ (some 36) rfl rfl Tryz.func36 (by kernel_rfl) rfl #[.slice (some ad293) x5_2.length co49,.agg #[.slice Ao55 t300.length co55,.slice Ao58 t303.length co58]] rfl aX ?_;(with_reducible refine(spec_l06Find.calls k2 _ _ x5_2 _ _ t300 _ _ t303 t307 _ ?side1 ?side2 ?side3 ?side4 ?side5 ?side6 A24.out).mono ?_);(case side1=>refine(Kd.N_reads' (e:=27) (base:=w.heap.size) (ok:=fun k_=>(((((((w.heap.size≤k_)∧(some k_≠(u6:Value).ownBlock∧(some k_≠(.slice (some ad292) y289.length co16:Value).ownBlock∧k_≠gb276)))∧some k_≠(.slice Ao51 t294.length co51:Value).ownBlock)∧some k_≠(.slice Ao52 t297.length co52:Value).ownBlock)∧some k_≠(.slice Ao55 t300.length co55:Value).ownBlock)∧some k_≠(.slice Ao58 t303.length co58:Value).ownBlock)∧k_≠gb306)) (n:=x5_2.length) (c:=co49) ?_).2.2;exact(by(with_reducible repeat(first|apply Kd.N_alloc|apply Kd.N_drewN|apply Kd.N_drew));exact(Kd.N_mono (Kd.N_far (p:=⟨gb306,1,none⟩) (Kd.N_far (p:=⟨gb306,0,none⟩) (Kd.N_mono HO_5.out (fun k_ hk=>(⟨hk,hk.2⟩:_∧k_≠gb306))) (fun _ hk=>hk.2) (.slice Ao55 t300.length co55)) (fun _ hk=>hk.2) (.slice Ao58 t303.length co58)) (fun _ h_=>h_.1))));(case side2=>exact(Kd.N_reads' HO_5.out).2.1);(case side3=>exact rcX (fr2 HO302.out BK306.out (.slice Ao55 t300.length co55) (.slice Ao58 t303.length co58)));(case side4=>exact(Kd.R_reads' HO302.out).2.1);(case side5=>exact rcX (fr2 HO305.out BK306.out (.slice Ao55 t300.length co55) (.slice Ao58 t303.length co58)));(case side6=>exact(Kd.R_reads' HO305.out).2.1);rintro e w59 ⟨rfl,hb⟩;refine ⟨_,rfl,?_⟩;replace HO_5:=aM (Kd.N_below (by(with_reducible repeat(first|apply Kd.N_alloc|apply Kd.N_drewN|apply Kd.N_drew));exact(Kd.N_mono (Kd.N_far (p:=⟨gb306,1,none⟩) (Kd.N_far (p:=⟨gb306,0,none⟩) (Kd.N_mono HO_5.out (fun k_ hk=>(⟨hk,hk.2⟩:_∧k_≠gb306))) (fun _ hk=>hk.2) (.slice Ao55 t300.length co55)) (fun _ hk=>hk.2) (.slice Ao58 t303.length co58)) (fun _ h_=>h_.1))) hb);replace HO_6:=aM (Kd.R_below (rX (fr2 HO_6.out BK306.out (.slice Ao55 t300.length co55) (.slice Ao58 t303.length co58))) hb);replace HO_21:=aM (Kd.R_below (rX (fr2 HO_21.out BK306.out (.slice Ao55 t300.length co55) (.slice Ao58 t303.length co58))) hb);replace HO296:=aM (Kd.R_below (rX (fr2 HO296.out BK306.out (.slice Ao55 t300.length co55) (.slice Ao58 t303.length co58))) hb);replace HO299:=aM (Kd.R_below (rX (fr2 HO299.out BK306.out (.slice Ao55 t300.length co55) (.slice Ao58 t303.length co58))) hb);replace HO302:=aM (Kd.R_below (rX (fr2 HO302.out BK306.out (.slice Ao55 t300.length co55) (.slice Ao58 t303.length co58))) hb);replace HO305:=aM (Kd.R_below (rX (fr2 HO305.out BK306.out (.slice Ao55 t300.length co55) (.slice Ao58 t303.length co58))) hb);replace BK276:=aM (blk_below (g:=gb276) (o:=.cells #[.slice A0_0 l0_0.length c0_0,.slice A0_1 l0_1.length c0_1] 27 (0,0)) (by(with_reducible repeat(first|refine kN ?_ _|refine kD ?_|refine kA ?_ _));refine blk_far ?_ NB276_306.out _;(with_reducible repeat(first|refine kN ?_ _|refine kD ?_|refine kA ?_ _));refine blk_far ?_ NB276_306.out _;(with_reducible repeat(first|refine kN ?_ _|refine kD ?_|refine kA ?_ _));exact BK276.out) hb);replace HR293_0:=aM (Kd.C_below ((Kd.V_reads' (by(with_reducible repeat(first|apply Kd.V_alloc|apply Kd.V_drewN|apply Kd.V_drew));exact(Kd.V_mono (Kd.V_far (p:=⟨gb306,1,none⟩) (Kd.V_far (p:=⟨gb306,0,none⟩) (Kd.V_mono HL293_0.out (fun k_ hk=>(⟨hk,hk.2⟩:_∧k_≠gb306))) (fun _ hk=>hk.2) (.slice Ao55 t300.length co55)) (fun _ hk=>hk.2) (.slice Ao58 t303.length co58)) (fun _ h_=>h_.1)))).2.2) hb);replace HL293_0:=aM (Kd.V_below (by(with_reducible repeat(first|apply Kd.V_alloc|apply Kd.V_drewN|apply Kd.V_drew));exact(Kd.V_mono (Kd.V_far (p:=⟨gb306,1,none⟩) (Kd.V_far (p:=⟨gb306,0,none⟩) (Kd.V_mono HL293_0.out (fun k_ hk=>(⟨hk,hk.2⟩:_∧k_≠gb306))) (fun _ hk=>hk.2) (.slice Ao55 t300.length co55)) (fun _ hk=>hk.2) (.slice Ao58 t303.length co58)) (fun _ h_=>h_.1))) hb);replace HR293_1:=aM (Kd.C_below ((Kd.V_reads' (by(with_reducible repeat(first|apply Kd.V_alloc|apply Kd.V_drewN|apply Kd.V_drew));exact(Kd.V_mono (Kd.V_far (p:=⟨gb306,1,none⟩) (Kd.V_far (p:=⟨gb306,0,none⟩) (Kd.V_mono HL293_1.out (fun k_ hk=>(⟨hk,hk.2⟩:_∧k_≠gb306))) (fun _ hk=>hk.2) (.slice Ao55 t300.length co55)) (fun _ hk=>hk.2) (.slice Ao58 t303.length co58)) (fun _ h_=>h_.1)))).2.2) hb);replace HL293_1:=aM (Kd.V_below (by(with_reducible repeat(first|apply Kd.V_alloc|apply Kd.V_drewN|apply Kd.V_drew));exact(Kd.V_mono (Kd.V_far (p:=⟨gb306,1,none⟩) (Kd.V_far (p:=⟨gb306,0,none⟩) (Kd.V_mono HL293_1.out (fun k_ hk=>(⟨hk,hk.2⟩:_∧k_≠gb306))) (fun _ hk=>hk.2) (.slice Ao55 t300.length co55)) (fun _ hk=>hk.2) (.slice Ao58 t303.length co58)) (fun _ h_=>h_.1))) hb);replace BK306:=aM (blk_below (g:=gb306) (o:=.cells #[.slice Ao55 t300.length co55,.slice Ao58 t303.length co58] 27 (0,0)) (by(with_reducible repeat(first|refine kN ?_ _|refine kD ?_|refine kA ?_ _));refine blk_put (cs:=#[.slice Ao55 t300.length co55,.slice none 0 0]) ?_ 1 _ rfl;(with_reducible repeat(first|refine kN ?_ _|refine kD ?_|refine kA ?_ _));refine blk_put (cs:=#[.slice none 0 0,.slice none 0 0]) ?_ 0 _ rfl;(with_reducible repeat(first|refine kN ?_ _|refine kD ?_|refine kA ?_ _));exact BK306.out) hb);replace HB:=aM (below_step (bX2 HB.out GE276.out GE306.out) hb);(try clear hb);(try clear hk)))
 go_roundg k2
 case measure=>have:=HK1.out;have:=HK2.out;omega
 case rel=>exact ⟨(x5_2),(x6_2),(wrap64 (x23_2+1)),vX,H',⟨by have:=HK1.out;have:=HK2.out;omega⟩,⟨by(with_reducible repeat(first|apply Kd.N_alloc|apply Kd.N_drewN|apply Kd.N_drew));exact Kd.N_mono HO_5.out (fun _ hk=>⟨hk.1.1.1.1.1.1,⟨hk.1.1.1.1.1.2.1,⟨hk.1.1.1.1.1.2.2.1,hk.1.1.1.1.1.2.2.2⟩⟩⟩)⟩,⟨rX HO_6.out⟩,⟨rX HO_21.out⟩,⟨kX BK276.out⟩,⟨bX2 HB.out GE276.out GE306.out⟩⟩
 }
 }
 {
 rw [if_neg c21] at H
 exact absurd H (by simp)
 }
 }
 {
 rw [if_neg c20] at H
 exact absurd H (by simp)
 }
 }
 {
 rw [if_neg c19] at H
 exact absurd H (by simp)
 }
 }
 {
 rw [if_neg c18] at H
 exact absurd H (by simp)
 }
 }
 {
 rw [if_neg c17] at H
 have c17b0:=decide_eq_false c17
 clear c17
 by_cases c60:(x5_2.length:Int) > 120
 {
 rw [if_pos c60] at H
 have c60b0:=decide_eq_true c60
 have c60b1:decide (120<x5_2.length)=true:=decide_eq_true (by omega)
 clear c60
 simp only [Option.some.injEq,Prod.mk.injEq] at H
 obtain ⟨rfl,rfl,rfl⟩:=H
 obtain ⟨Ao61,co61,eo61⟩:=Kd.N_slice HO_5.out
 subst eo61
 go_wp2
 go_ret3
 exact ⟨_,_,eX,by first|exact Kd.S_nil _ _ _ _ _|exact Kd.N_nil _ _ _ _ _|exact Kd.V_nil _ _ _ _ _|exact Kd.Q_nil _ _ _ _ _|exact Kd.R_nil _ _ _ _ _,by first|exact Kd.R_nil _ _ _ _ _|exact Kd.N_nil _ _ _ _ _|exact Kd.V_nil _ _ _ _ _|exact Kd.Q_nil _ _ _ _ _|exact Kd.S_nil _ _ _ _ _,bX1 HB.out GE276.out⟩
 }
 {
 rw [if_neg c60] at H
 have c60b0:=decide_eq_false c60
 have c60b1:decide (120<x5_2.length)=false:=decide_eq_false (by omega)
 clear c60
 have H':=aM H
 clear H
 obtain ⟨Ao62,co62,eo62⟩:=Kd.N_slice HO_5.out
 subst eo62
 go_wp2
 go_roundg k2
 case measure=>have:=HK1.out;have:=HK2.out;omega
 case rel=>exact ⟨(x5_2),(x6_2),(wrap64 (x7_1+1)),vX,H',⟨by have:=HK1.out;have:=HK2.out;omega⟩,⟨by(with_reducible repeat(first|apply Kd.N_alloc|apply Kd.N_drewN|apply Kd.N_drew));exact Kd.N_mono HO_5.out (fun _ hk=>⟨hk.1,⟨hk.2.1,hk.2.2.2⟩⟩)⟩,⟨rX HO_6.out⟩,⟨kX BK276.out⟩,⟨bX1 HB.out GE276.out⟩⟩
 }
 }
 }
 {
 rw [if_neg c12] at H
 have c12b0:=decide_eq_false c12
 clear c12
 simp only [Option.some.injEq,Prod.mk.injEq] at H
 obtain ⟨rfl,rfl,rfl⟩:=H
 obtain ⟨Ao63,co63,eo63⟩:=Kd.N_slice HO_5.out
 subst eo63
 go_wp2
 go_ret3
 exact ⟨_,_,eX,by(with_reducible repeat(first|apply Kd.N_alloc|apply Kd.N_drewN|apply Kd.N_drew));exact Kd.N_mono HO_5.out (fun _ hk=>⟨hk.1,hk.2.1⟩),by(with_reducible repeat(first|apply rA|apply rN|apply rD));exact HO_6.out,bX1 HB.out GE276.out⟩
 }

/-! ### spec_OrbitOf: function 23 -/
def spec_OrbitOf.f (k:Nat) (l0_0:List Int) (l0_1:List Int):Option ((List (S27)) × Bool):=(spec_SurfaceOk.f k l0_0 l0_1).bind fun t319=>(if t319=true then ((spec_l06Orbit.f k l0_0 l0_1).bind fun bt320=>(some (bt320.1,bt320.2.2))) else (some (([]:List (S27)),false)))
theorem spec_OrbitOf.calls (k:Nat) (A0_0:Option Addr) (c0_0:Nat) (l0_0:List Int) (A0_1:Option Addr) (c0_1:Nat) (l0_1:List Int) (r1:List (S27)) (r2:Bool) (w:World) (hr0_0:Kd.C (Kd.int .i64) w A0_0 l0_0.length l0_0) (hc0_0:l0_0.length≤c0_0) (hr0_1:Kd.C (Kd.int .i64) w A0_1 l0_1.length l0_1) (hc0_1:l0_1.length≤c0_1) (h:spec_OrbitOf.f k l0_0 l0_1=some (r1,r2)) :
  Calls Tryz.prog 23 #[.agg #[.slice A0_0 l0_0.length c0_0,.slice A0_1 l0_1.length c0_1]] w fun e w'=>∃ v0_:Value,e = .returned (.tuple #[v0_,.bool r2])∧Kd.N k27 27 w' w.heap.size (fun k_=>(w.heap.size≤k_)) v0_ r1∧Below w.heap.size w w':=by
 have hu27:=Tryz.underlying27
 have HR0_0:=aM hr0_0
 have HC0_0:=aM hc0_0
 clear hr0_0 hc0_0
 have HR0_1:=aM hr0_1
 have HC0_1:=aM hc0_1
 clear hr0_1 hc0_1
 have HB:=aM (Below.refl w.heap.size w)
 have H:((spec_SurfaceOk.f k l0_0 l0_1).bind fun t319=>(if t319=true then ((spec_l06Orbit.f k l0_0 l0_1).bind fun bt320=>(some (bt320.1,bt320.2.2))) else (some (([]:List (S27)),false))))=some (r1,r2):=h
 clear h
 replace H:=oB H
 obtain ⟨t319,A20,H⟩:=H
 have A2:=aM A20
 clear A20
 by_cases c3:t319=true
 {
 subst c3
 have H1:((spec_l06Orbit.f k l0_0 l0_1).bind fun bt320=>(some (bt320.1,bt320.2.2)))=some (r1,r2):=by rw [if_pos rfl] at H;exact H
 clear H
 have H:=H1
 clear H1
 replace H:=oB H
 obtain ⟨⟨t320,t323,t326⟩,A40,H⟩:=H
 replace H:(some (t320,t326))=some (r1,r2):=H
 have A4:=aM A40
 clear A40
 simp only [Option.some.injEq,Prod.mk.injEq] at H
 obtain ⟨rfl,rfl⟩:=H
 go_enter Tryz.func23,Tryz.ntmps23
 go_wp2_with (first|((with_reducible refine gate_dst (N:=1) rfl ?_);refine bEv (cs:=#[.slice A0_0 l0_0.length c0_0,.slice A0_1 l0_1.length c0_1]) (t:=27) ?_;intro gb318 hg w5 hbox hb;have BK318:=aM (hbox);have GW318:=aM ((szX (below_size (bX HB.out)) hg:w.heap.size≤gb318));have GE318:=GW318;replace HB:=aM (below_step (bX HB.out) hb);clear hb hbox hg;obtain ⟨hcz6_0,hcz6_1,hfz6_0,hfz6_1⟩:=f2Z BK318.out)|((with_reducible refine gate_callee (f:=10) rfl ?_);refine goesL_ (some 8) rfl rfl Tryz.func10 (by kernel_rfl) rfl #[.agg #[.slice A0_0 l0_0.length c0_0,.slice A0_1 l0_1.length c0_1]] rfl aX ?_;(with_reducible refine(spec_SurfaceOk.calls k _ _ l0_0 _ _ l0_1 true _ ?side1 ?side2 ?side3 ?side4 A2.out).mono ?_);(case side1=>exact cX (Kd.C_below HR0_0.out HB.out));(case side2=>exact HC0_0.out);(case side3=>exact cX (Kd.C_below HR0_1.out HB.out));(case side4=>exact HC0_1.out);rintro e w7 ⟨rfl,hb⟩;refine ⟨_,rfl,?_⟩;replace BK318:=aM (bbX BK318.out hb);replace HB:=aM (below_step (bX1 HB.out GE318.out) hb);(try clear hb);(try clear hk);obtain ⟨hcz8_0,hcz8_1,hfz8_0,hfz8_1⟩:=f2Z BK318.out)|((with_reducible refine gate_callee (f:=35) rfl ?_);refine goesL_ (some 12) rfl rfl Tryz.func35 (by kernel_rfl) rfl #[.agg #[.slice A0_0 l0_0.length c0_0,.slice A0_1 l0_1.length c0_1]] rfl aX ?_;(with_reducible refine(spec_l06Orbit.calls k _ _ l0_0 _ _ l0_1 t320 t323 t326 _ ?side1 ?side2 ?side3 ?side4 A4.out).mono ?_);(case side1=>exact cX (Kd.C_below HR0_0.out HB.out));(case side2=>exact HC0_0.out);(case side3=>exact cX (Kd.C_below HR0_1.out HB.out));(case side4=>exact HC0_1.out);rintro e w9 ⟨v321,v324,rfl,ho0,ho1,hb⟩;refine ⟨_,rfl,?_⟩;have HO322:=aM (Kd.N_lower (Kd.N_mono (ok':=fun k_=>(w.heap.size≤k_)∧some k_≠(v324:Value).ownBlock∧k_≠gb318) ho0 (fun k_ hk_=>⟨(Nat.le_trans (below_size (bX1 HB.out GE318.out)) hk_.1),hk_.2,(Kd.freshB (g:=gb318) (o:=.cells #[.slice A0_0 l0_0.length c0_0,.slice A0_1 l0_1.length c0_1] 27 (0,0)) (kX BK318.out) k_ hk_.1)⟩)) (below_size (bX1 HB.out GE318.out)));have HO325:=aM (Kd.R_lower (Kd.R_newM (M:=fun k_=>(w.heap.size≤k_)) (Kd.R_mono (ok':=fun k_=>True) ho1 (fun _ hk_=>trivial)) (below_size (bX1 HB.out GE318.out)) (fun k_ h_=>h_)) (below_size (bX1 HB.out GE318.out)));replace BK318:=aM (bbX BK318.out hb);replace HB:=aM (below_step (bX1 HB.out GE318.out) hb);(try clear hb);(try clear hk);(try clear ho0);(try clear ho1)))
 go_ret2
 exact ⟨_,eX,by(with_reducible repeat(first|apply Kd.N_alloc|apply Kd.N_drewN|apply Kd.N_drew));exact Kd.N_mono HO322.out (fun _ hk=>hk.1),bX1 HB.out GE318.out⟩
 }
 {
 replace c3:=Bool.eq_false_iff.mpr c3
 subst c3
 have H1:(some (([]:List (S27)),false))=some (r1,r2):=by rw [if_neg (show ¬ (false=true) by decide)] at H;exact H
 clear H
 have H:=H1
 clear H1
 simp only [Option.some.injEq,Prod.mk.injEq] at H
 obtain ⟨rfl,rfl⟩:=H
 go_enter Tryz.func23,Tryz.ntmps23
 go_wp2_with (first|((with_reducible refine gate_dst (N:=1) rfl ?_);refine bEv (cs:=#[.slice A0_0 l0_0.length c0_0,.slice A0_1 l0_1.length c0_1]) (t:=27) ?_;intro gb318 hg w10 hbox hb;have BK318:=aM (hbox);have GW318:=aM ((szX (below_size (bX HB.out)) hg:w.heap.size≤gb318));have GE318:=GW318;replace HB:=aM (below_step (bX HB.out) hb);clear hb hbox hg;obtain ⟨hcz11_0,hcz11_1,hfz11_0,hfz11_1⟩:=f2Z BK318.out)|((with_reducible refine gate_callee (f:=10) rfl ?_);refine goesL_ (some 8) rfl rfl Tryz.func10 (by kernel_rfl) rfl #[.agg #[.slice A0_0 l0_0.length c0_0,.slice A0_1 l0_1.length c0_1]] rfl aX ?_;(with_reducible refine(spec_SurfaceOk.calls k _ _ l0_0 _ _ l0_1 false _ ?side1 ?side2 ?side3 ?side4 A2.out).mono ?_);(case side1=>exact cX (Kd.C_below HR0_0.out HB.out));(case side2=>exact HC0_0.out);(case side3=>exact cX (Kd.C_below HR0_1.out HB.out));(case side4=>exact HC0_1.out);rintro e w12 ⟨rfl,hb⟩;refine ⟨_,rfl,?_⟩;replace BK318:=aM (bbX BK318.out hb);replace HB:=aM (below_step (bX1 HB.out GE318.out) hb);(try clear hb);(try clear hk)))
 go_ret2
 exact ⟨_,eX,by first|exact Kd.S_nil _ _ _ _ _|exact Kd.N_nil _ _ _ _ _|exact Kd.V_nil _ _ _ _ _|exact Kd.Q_nil _ _ _ _ _|exact Kd.R_nil _ _ _ _ _,bX1 HB.out GE318.out⟩
 }

/-! ### spec_l06Shears: function 24 -/
def spec_l06Shears.l0 : Nat→List (S27)→List Int→List (S27)→Int→Int→Option (List Int)
 | 0,_,_,_,_,_=>none
 | k+1,x0,x3,x7,x8,x9=>if x9<x8 then (if 0≤x9 then (if x9<(x7.length:Int) then ((spec_l05Shear.f k ((rd_T27 x7 x9).f0) ((rd_T27 x7 x9).f1)).bind fun bt332=>((spec_l03Canon.f k bt332.1 bt332.2).bind fun bt338=>((spec_l06Find.f k x0 bt338.1 bt338.2).bind fun t344=>(if x3.length<17592186044416 then (spec_l06Shears.l0 k x0 (x3 ++ [t344]) x7 x8 (wrap64 (x9+1))) else (none))))) else (none)) else (none)) else (some x3)
def spec_l06Shears.f (k:Nat) (l0:List (S27)):Option (List Int):=spec_l06Shears.l0 k l0 (([]:List Int)) l0 (l0.length:Int) 0
theorem spec_l06Shears.calls (k:Nat) (A0:Option Addr) (c0:Nat) (l0:List (S27)) (r:List Int) (w:World) (hr0:Kd.C k27 w A0 l0.length l0) (hc0:l0.length≤c0) (h:spec_l06Shears.f k l0=some r) :
  Calls Tryz.prog 24 #[.slice A0 l0.length c0] w fun e w'=>∃ v0_:Value,e = .returned (v0_)∧Kd.R (Kd.int .i64) 3 w' w.heap.size (fun _=>True) v0_ r∧Below w.heap.size w w':=by
 have hu27:=Tryz.underlying27
 have HR0:=aM hr0
 have HC0:=aM hc0
 clear hr0 hc0
 have HB:=aM (Below.refl w.heap.size w)
 have H:(spec_l06Shears.l0 k l0 (([]:List Int)) l0 (l0.length:Int) 0)=some r:=h
 clear h
 obtain ⟨y327,hy327⟩:∃ y_:List Int,y_=(([]:List Int)):=⟨_,rfl⟩
 replace H:(spec_l06Shears.l0 k l0 y327 l0 (l0.length:Int) 0)=some r:=by first|(rw [hy327];with_reducible exact H)|(have H2_:=(Option.bind_some _ _).symm.trans H;rw [hy327];with_reducible exact H2_)|(have H2_:=(Option.bind_some _ _).symm.trans H;with_reducible exact H2_)|with_reducible exact H|(rw [hy327];exact H)|exact H
 have Ny327:=aM hy327
 clear hy327
 have H':=aM H
 clear H
 go_enter Tryz.func24,Tryz.ntmps24
 go_wp2_with (first|((with_reducible refine gate_dst (N:=6) rfl ?_);refine Kd.R_lit (Kd.int .i64) _ 3 ?hg (N:=6) ?hd (xs:=([]:List Int)) (inner:=[]) (ok:=fun _=>True) (okp:=fun _=>True) ?hr ?hp (fun _ hk=>hk) trivial (Below.refl _ _) (Nat.le_refl _) (by simp) ?_;(case hd=>rfl);(case hg=>rfl);(case hr=>first|(go_simp;done)|(go_simp;rfl));(case hp=>exact(Reps.none _ _));intro v328 w2 ho3 hb hg_ hnew_;clear hg_ hnew_;(first|rw [← Ny327.out] at ho3|(simp only [Int.reduceToNat] at ho3;rw [← Ny327.out] at ho3));have HO329:=aM (Kd.R_lower ho3 (below_size (bX HB.out)));replace HB:=aM (below_step (bX HB.out) hb);clear hb ho3))
 go_loopg [3,9] k (fun kq v3 v9 w'=>∃ (x3_1:List Int) (x9_1:Int),v9 = .int .i64 x9_1∧Aside0 (spec_l06Shears.l0 kq l0 x3_1 l0 (l0.length:Int) x9_1=some r)∧Aside0 (kq≤k)∧Aside0 (Kd.R (Kd.int .i64) 3 w' w.heap.size (fun _=>True) v3 x3_1)∧Aside0 (Below w.heap.size w w'))
 case atStart=>exact ⟨(y327),(0),vX,H',⟨Nat.le_refl _⟩,⟨rX HO329.out⟩,⟨bX HB.out⟩⟩
 case round =>
 clear H'
 obtain ⟨x3_1,x9_1,rfl,HA,HK1,HO_3,HB⟩:=hrel
 cases gk with
 | zero=>exact absurd HA.out (by simp [spec_l06Shears.l0])
 | succ k1 =>
 have H:=HA.out
 clear HA
 simp only [spec_l06Shears.l0] at H
 by_cases c4:x9_1<(l0.length:Int)
 {
 rw [if_pos c4] at H
 have c4b0:=decide_eq_true c4
 clear c4
 by_cases c5:0≤x9_1
 {
 rw [if_pos c5] at H
 have c5b0:=decide_eq_true c5
 clear c5
 by_cases c6:x9_1<(l0.length:Int)
 {
 rw [if_pos c6] at H
 have c6b0:=decide_eq_true c6
 clear c6
 replace H:=oB H
 obtain ⟨⟨t332,t335⟩,A70,H⟩:=H
 replace H:((spec_l03Canon.f k1 t332 t335).bind fun bt338=>((spec_l06Find.f k1 l0 bt338.1 bt338.2).bind fun t344=>(if x3_1.length<17592186044416 then (spec_l06Shears.l0 k1 l0 (x3_1 ++ [t344]) l0 (l0.length:Int) (wrap64 (x9_1+1))) else (none))))=some r:=H
 have A7:=aM A70
 clear A70
 replace H:=oB H
 obtain ⟨⟨t338,t341⟩,A80,H⟩:=H
 replace H:((spec_l06Find.f k1 l0 t338 t341).bind fun t344=>(if x3_1.length<17592186044416 then (spec_l06Shears.l0 k1 l0 (x3_1 ++ [t344]) l0 (l0.length:Int) (wrap64 (x9_1+1))) else (none)))=some r:=H
 have A8:=aM A80
 clear A80
 replace H:=oB H
 obtain ⟨t344,A90,H⟩:=H
 have A9:=aM A90
 clear A90
 by_cases c10:x3_1.length<17592186044416
 {
 rw [if_pos c10] at H
 have LMc10:=aM c10
 clear c10
 obtain ⟨y345,hy345⟩:∃ y_:List Int,y_=(x3_1 ++ [t344]):=⟨_,rfl⟩
 replace H:(spec_l06Shears.l0 k1 l0 y345 l0 (l0.length:Int) (wrap64 (x9_1+1)))=some r:=by first|(rw [hy345];with_reducible exact H)|(have H2_:=(Option.bind_some _ _).symm.trans H;rw [hy345];with_reducible exact H2_)|(have H2_:=(Option.bind_some _ _).symm.trans H;with_reducible exact H2_)|with_reducible exact H|(rw [hy345];exact H)|exact H
 have Ny345:=aM hy345
 clear hy345
 have H':=aM H
 clear H
 have p330:0≤(x9_1:Int):=dX
 have q330:x9_1<(l0.length:Int):=dX
 obtain ⟨ad330,A330_0,c330_0,A330_1,c330_1,e330,hx330_0,hx330_1,hl330_0,hi330_0,hl330_1,hi330_1⟩:=at_T27 HR0.out x9_1 p330 q330
 cases e330
 replace hx330_0:=(HB.out.cell (World.block_lt_of_cell? w _ hx330_0)).trans hx330_0
 replace hx330_1:=(HB.out.cell (World.block_lt_of_cell? w _ hx330_1)).trans hx330_1
 have HR330_0:=aM hi330_0
 have HC330_0:=aM hl330_0
 clear hi330_0 hl330_0
 have HR330_1:=aM hi330_1
 have HC330_1:=aM hl330_1
 clear hi330_1 hl330_1
 replace p330:=eq_true p330
 replace q330:=eq_true q330
 go_wp2_with (first|((with_reducible refine gate_dst (N:=5) rfl ?_);refine bEv (cs:=#[.slice none 0 0,.slice none 0 0]) (t:=27) ?_;intro gb331 hg w11 hbox hb;replace HO_3:=aM (Kd.R_below (rX HO_3.out) hb);have BK331:=aM (hbox);have GW331:=aM ((szX (below_size (bX HB.out)) hg:w.heap.size≤gb331));have GE331:=GW331;replace HB:=aM (below_step (bX HB.out) hb);clear hb hbox hg;obtain ⟨hcz12_0,hcz12_1,hfz12_0,hfz12_1⟩:=f2Z BK331.out)|((with_reducible refine gate_callee (f:=38) rfl ?_);refine goesL_ (some 16) rfl rfl Tryz.func38 (by kernel_rfl) rfl #[.agg #[.slice A330_0 ((rd_T27 l0 x9_1).f0).length c330_0,.slice A330_1 ((rd_T27 l0 x9_1).f1).length c330_1]] rfl aX ?_;(with_reducible refine(spec_l05Shear.calls k1 _ _ ((rd_T27 l0 x9_1).f0) _ _ ((rd_T27 l0 x9_1).f1) t332 t335 _ ?side1 ?side2 ?side3 ?side4 A7.out).mono ?_);(case side1=>exact Kd.C_below HR330_0.out (bX1 HB.out GE331.out));(case side2=>exact HC330_0.out);(case side3=>exact Kd.C_below HR330_1.out (bX1 HB.out GE331.out));(case side4=>exact HC330_1.out);rintro e w13 ⟨v333,v336,rfl,ho0,ho1,hb⟩;refine ⟨_,rfl,?_⟩;have HO334:=aM (Kd.R_lower (Kd.R_new' ho0 (Kd.R_lt (by(with_reducible repeat(first|apply rA|apply rN|apply rD));exact(Kd.R_mono (Kd.R_far (p:=⟨gb331,1,none⟩) (Kd.R_far (p:=⟨gb331,0,none⟩) (Kd.R_types HO_3.out BK331.out (by decide)) (fun _ hk=>hk.2) (.slice A330_0 ((rd_T27 l0 x9_1).f0).length c330_0)) (fun _ hk=>hk.2) (.slice A330_1 ((rd_T27 l0 x9_1).f1).length c330_1)) (fun _ h_=>h_.1))))) (below_size (bX1 HB.out GE331.out)));have HO337:=aM (Kd.R_lower (Kd.R_new' ho1 (Kd.R_lt (by(with_reducible repeat(first|apply rA|apply rN|apply rD));exact(Kd.R_mono (Kd.R_far (p:=⟨gb331,1,none⟩) (Kd.R_far (p:=⟨gb331,0,none⟩) (Kd.R_types HO_3.out BK331.out (by decide)) (fun _ hk=>hk.2) (.slice A330_0 ((rd_T27 l0 x9_1).f0).length c330_0)) (fun _ hk=>hk.2) (.slice A330_1 ((rd_T27 l0 x9_1).f1).length c330_1)) (fun _ h_=>h_.1))))) (below_size (bX1 HB.out GE331.out)));replace HO_3:=aM (Kd.R_mono (Kd.R_told (Kd.R_told (Kd.R_old (by(with_reducible repeat(first|apply rA|apply rN|apply rD));exact(Kd.R_mono (Kd.R_far (p:=⟨gb331,1,none⟩) (Kd.R_far (p:=⟨gb331,0,none⟩) (Kd.R_types HO_3.out BK331.out (by decide)) (fun _ hk=>hk.2) (.slice A330_0 ((rd_T27 l0 x9_1).f0).length c330_0)) (fun _ hk=>hk.2) (.slice A330_1 ((rd_T27 l0 x9_1).f1).length c330_1)) (fun _ h_=>h_.1))) hb) (Kd.R_base ho0)) (Kd.R_base ho1)) (fun _ h_=>h_.1));replace BK331:=aM (blk_below (g:=gb331) (o:=.cells #[.slice A330_0 ((rd_T27 l0 x9_1).f0).length c330_0,.slice A330_1 ((rd_T27 l0 x9_1).f1).length c330_1] 27 (0,0)) (by(with_reducible repeat(first|refine kN ?_ _|refine kD ?_|refine kA ?_ _));refine blk_put (cs:=#[.slice A330_0 ((rd_T27 l0 x9_1).f0).length c330_0,.slice none 0 0]) ?_ 1 _ rfl;(with_reducible repeat(first|refine kN ?_ _|refine kD ?_|refine kA ?_ _));refine blk_put (cs:=#[.slice none 0 0,.slice none 0 0]) ?_ 0 _ rfl;(with_reducible repeat(first|refine kN ?_ _|refine kD ?_|refine kA ?_ _));exact BK331.out) hb);replace HB:=aM (below_step (bX1 HB.out GE331.out) hb);(try clear hb);(try clear hk);(try clear ho0);(try clear ho1);obtain ⟨Ao14,co14,eo14⟩:=Kd.R_slice HO334.out;subst eo14;obtain ⟨Ao15,co15,eo15⟩:=Kd.R_slice HO337.out;subst eo15)|((with_reducible refine gate_callee (f:=37) rfl ?_);refine goesL_ (some 17) rfl rfl Tryz.func37 (by kernel_rfl) rfl #[.agg #[.slice Ao14 t332.length co14,.slice Ao15 t335.length co15]] rfl aX ?_;(with_reducible refine(spec_l03Canon.calls k1 _ _ t332 _ _ t335 t338 t341 _ ?side1 ?side2 ?side3 ?side4 A8.out).mono ?_);(case side1=>exact cX (Kd.R_reads' HO334.out).2.2);(case side2=>exact(Kd.R_reads' HO334.out).2.1);(case side3=>exact cX (Kd.R_reads' HO337.out).2.2);(case side4=>exact(Kd.R_reads' HO337.out).2.1);rintro e w16 ⟨v339,v342,rfl,ho0,ho1,hb⟩;refine ⟨_,rfl,?_⟩;have HO340:=aM (Kd.R_lower (Kd.R_new' (Kd.R_new' (Kd.R_new' ho0 (Kd.R_lt (rX HO_3.out))) (Kd.R_lt (rX HO334.out))) (Kd.R_lt (rX HO337.out))) (below_size (bX1 HB.out GE331.out)));have HO343:=aM (Kd.R_lower (Kd.R_new' (Kd.R_new' (Kd.R_new' ho1 (Kd.R_lt (rX HO_3.out))) (Kd.R_lt (rX HO334.out))) (Kd.R_lt (rX HO337.out))) (below_size (bX1 HB.out GE331.out)));replace HO_3:=aM (Kd.R_mono (Kd.R_told (Kd.R_told (Kd.R_old (rX HO_3.out) hb) (Kd.R_base ho0)) (Kd.R_base ho1)) (fun _ h_=>h_.1));replace HO334:=aM (Kd.R_mono (Kd.R_told (Kd.R_told (Kd.R_old (rX HO334.out) hb) (Kd.R_base ho0)) (Kd.R_base ho1)) (fun _ h_=>h_.1));replace HO337:=aM (Kd.R_mono (Kd.R_told (Kd.R_told (Kd.R_old (rX HO337.out) hb) (Kd.R_base ho0)) (Kd.R_base ho1)) (fun _ h_=>h_.1));replace BK331:=aM (bbX BK331.out hb);replace HB:=aM (below_step (bX1 HB.out GE331.out) hb);(try clear hb);(try clear hk);(try clear ho0);(try clear ho1);obtain ⟨Ao17,co17,eo17⟩:=Kd.R_slice HO340.out;subst eo17;obtain ⟨Ao18,co18,eo18⟩:=Kd.R_slice HO343.out;subst eo18)|((with_reducible refine gate_callee (f:=36) rfl ?_);refine goesL_ (some 18) rfl rfl Tryz.func36 (by kernel_rfl) rfl #[.slice (some ad330) l0.length c0,.agg #[.slice Ao17 t338.length co17,.slice Ao18 t341.length co18]] rfl aX ?_;(with_reducible refine(spec_l06Find.calls k1 _ _ l0 _ _ t338 _ _ t341 t344 _ ?side1 ?side2 ?side3 ?side4 ?side5 ?side6 A9.out).mono ?_);(case side1=>exact cX (Kd.C_below HR0.out HB.out));(case side2=>exact HC0.out);(case side3=>exact cX (Kd.R_reads' HO340.out).2.2);(case side4=>exact(Kd.R_reads' HO340.out).2.1);(case side5=>exact cX (Kd.R_reads' HO343.out).2.2);(case side6=>exact(Kd.R_reads' HO343.out).2.1);rintro e w19 ⟨rfl,hb⟩;refine ⟨_,rfl,?_⟩;replace HO_3:=aM (Kd.R_below (rX HO_3.out) hb);replace HO334:=aM (Kd.R_below (rX HO334.out) hb);replace HO337:=aM (Kd.R_below (rX HO337.out) hb);replace HO340:=aM (Kd.R_below (rX HO340.out) hb);replace HO343:=aM (Kd.R_below (rX HO343.out) hb);replace BK331:=aM (bbX BK331.out hb);replace HB:=aM (below_step (bX1 HB.out GE331.out) hb);(try clear hb);(try clear hk))|((with_reducible refine gate_builtin (b:=.append) (xs:=#[.tmp 13,.tmp 19]) rfl ?_);at_builtin;refine Kd.R_append (Kd.int .i64) (w0:=w) w.heap.size rfl (.tmp 13) (.tmp 19) 22 3 (.int .i64 0) 8 rfl Tryz.underlying22 info3 rfl (by decide) (by omega) u3 x3_1 t344 [.int .i64 t344] (fun k_=>some k_≠(.slice Ao14 t332.length co14:Value).ownBlock∧some k_≠(.slice Ao15 t335.length co15:Value).ownBlock∧some k_≠(.slice Ao17 t338.length co17:Value).ownBlock∧some k_≠(.slice Ao18 t341.length co18:Value).ownBlock) (fun _=>False) rfl rfl ?aP (fun _ hk=>hk.elim) ?aF ?aO ?aB ?aS ?aL ?_;(case aP=>exact rfl);(case aB=>exact(bX1 HB.out GE331.out));(case aF=>exact(fun k_ hk=>⟨Kd.fresh' (Kd.R_lt (rX HO334.out)) k_ hk,Kd.fresh' (Kd.R_lt (rX HO337.out)) k_ hk,Kd.fresh' (Kd.R_lt (rX HO340.out)) k_ hk,Kd.fresh' (Kd.R_lt (rX HO343.out)) k_ hk⟩));(case aO=>exact(rM HO_3.out (fun _ hk=>⟨hk.1.1.1.2,⟨hk.1.1.2,⟨hk.1.2,hk.2⟩⟩⟩)));(case aS=>exact(below_size (bX1 HB.out GE331.out)));(case aL=>have:=LMc10.out;omega);intro v346 w20 ho hb hg hat;rw [← Ny345.out] at ho;replace BK331:=aM (bgX BK331.out hg (Kd.R_ne HO_3.out BK331.out (by decide)));replace HO334:=aM (Kd.R_after (ok:=(fun k_=>some k_≠(.slice Ao15 t335.length co15:Value).ownBlock∧some k_≠(.slice Ao17 t338.length co17:Value).ownBlock∧some k_≠(.slice Ao18 t341.length co18:Value).ownBlock)) (rM HO334.out (fun _ hk=>⟨⟨hk.1.1.1,⟨hk.1.2,hk.2⟩⟩,hk.1.1.2⟩)) hg hat);replace HO337:=aM (Kd.R_after (ok:=(fun k_=>some k_≠(.slice Ao14 t332.length co14:Value).ownBlock∧some k_≠(.slice Ao17 t338.length co17:Value).ownBlock∧some k_≠(.slice Ao18 t341.length co18:Value).ownBlock)) (rM HO337.out (fun _ hk=>⟨⟨hk.1.1.1,⟨hk.1.2,hk.2⟩⟩,hk.1.1.2⟩)) hg hat);replace HO340:=aM (Kd.R_after (ok:=(fun k_=>some k_≠(.slice Ao14 t332.length co14:Value).ownBlock∧some k_≠(.slice Ao15 t335.length co15:Value).ownBlock∧some k_≠(.slice Ao18 t341.length co18:Value).ownBlock)) (rM HO340.out (fun _ hk=>⟨⟨hk.1.2,⟨hk.2,hk.1.1.1⟩⟩,hk.1.1.2⟩)) hg hat);replace HO343:=aM (Kd.R_after (ok:=(fun k_=>some k_≠(.slice Ao14 t332.length co14:Value).ownBlock∧some k_≠(.slice Ao15 t335.length co15:Value).ownBlock∧some k_≠(.slice Ao17 t338.length co17:Value).ownBlock)) (rM HO343.out (fun _ hk=>⟨⟨hk.1.2,⟨hk.2,hk.1.1.1⟩⟩,hk.1.1.2⟩)) hg hat);replace HB:=aM (hb);have HO347:=aM (ho);clear HO_3 ho hb hg hat))
 go_roundg k1
 case measure=>have:=HK1.out;omega
 case rel=>exact ⟨(y345),(wrap64 (x9_1+1)),vX,H',⟨by have:=HK1.out;omega⟩,⟨rM HO347.out (fun _ hk=>trivial)⟩,⟨bX1 HB.out GE331.out⟩⟩
 }
 {
 rw [if_neg c10] at H
 exact absurd H (by simp)
 }
 }
 {
 rw [if_neg c6] at H
 exact absurd H (by simp)
 }
 }
 {
 rw [if_neg c5] at H
 exact absurd H (by simp)
 }
 }
 {
 rw [if_neg c4] at H
 have c4b0:=decide_eq_false c4
 clear c4
 obtain rfl:=Option.some.inj H
 go_wp2
 go_ret
 exact ⟨_,eX,by(with_reducible repeat(first|apply rA|apply rN|apply rD));exact HO_3.out,bX HB.out⟩
 }

/-! ### spec_l04Down: function 25 -/
mutual
def spec_l04Down.l0 : Nat→List Int→List Int→Int→Int→Option (List Int)
 | 0,_,_,_,_=>none
 | k+1,x3,x8,x9,x10=>if x10<x9 then (if 0≤x10 then (if x10<(x8.length:Int) then (if x3.length<17592186044416 then ((some (x3 ++ [0]:List Int)).bind fun y352=>(spec_l04Down.l1 k y352 (rd x8 x10) (wrap64 ((y352.length:Int) - 1)) x8 x9 x10)) else (none)) else (none)) else (none)) else (some x3)
def spec_l04Down.l1 : Nat→List Int→Int→Int→List Int→Int→Int→Option (List Int)
 | 0,_,_,_,_,_,_=>none
 | k+1,x3,x5,x6,x8,x9,x10=>if x6 > 0 then (if 0≤(wrap64 (x6 - 1)) then (if (wrap64 (x6 - 1))<(x3.length:Int) then (if (rd x3 (wrap64 (x6 - 1)))<x5 then (if 0≤x6 then (if x6<(x3.length:Int) then (spec_l04Down.l1 k (x3.set (x6:Int).toNat (rd x3 (wrap64 (x6 - 1)))) x5 (wrap64 (x6 - 1)) x8 x9 x10) else (none)) else (none)) else (if 0≤x6 then (if x6<(x3.length:Int) then (spec_l04Down.l0 k (x3.set (x6:Int).toNat x5) x8 x9 (wrap64 (x10+1))) else (none)) else (none))) else (none)) else (none)) else (if 0≤x6 then (if x6<(x3.length:Int) then (spec_l04Down.l0 k (x3.set (x6:Int).toNat x5) x8 x9 (wrap64 (x10+1))) else (none)) else (none))
end
def spec_l04Down.f (k:Nat) (l0:List Int):Option (List Int):=spec_l04Down.l0 k (([]:List Int)) l0 (l0.length:Int) 0
theorem spec_l04Down.calls (k:Nat) (A0:Option Addr) (c0:Nat) (l0:List Int) (r:List Int) (w:World) (hr0:Kd.C (Kd.int .i64) w A0 l0.length l0) (hc0:l0.length≤c0) (h:spec_l04Down.f k l0=some r) :
  Calls Tryz.prog 25 #[.slice A0 l0.length c0] w fun e w'=>∃ v0_:Value,e = .returned (v0_)∧Kd.R (Kd.int .i64) 3 w' w.heap.size (fun _=>True) v0_ r∧Below w.heap.size w w':=by
 have HR0:=aM hr0
 have HC0:=aM hc0
 clear hr0 hc0
 have HB:=aM (Below.refl w.heap.size w)
 have H:(spec_l04Down.l0 k (([]:List Int)) l0 (l0.length:Int) 0)=some r:=h
 clear h
 obtain ⟨y348,hy348⟩:∃ y_:List Int,y_=(([]:List Int)):=⟨_,rfl⟩
 replace H:(spec_l04Down.l0 k y348 l0 (l0.length:Int) 0)=some r:=by first|(rw [hy348];with_reducible exact H)|(have H2_:=(Option.bind_some _ _).symm.trans H;rw [hy348];with_reducible exact H2_)|(have H2_:=(Option.bind_some _ _).symm.trans H;with_reducible exact H2_)|with_reducible exact H|(rw [hy348];exact H)|exact H
 have Ny348:=aM hy348
 clear hy348
 have H':=aM H
 clear H
 go_enter Tryz.func25,Tryz.ntmps25
 go_wp2_with (first|((with_reducible refine gate_dst (N:=7) rfl ?_);refine Kd.R_lit (Kd.int .i64) _ 3 ?hg (N:=7) ?hd (xs:=([]:List Int)) (inner:=[]) (ok:=fun _=>True) (okp:=fun _=>True) ?hr ?hp (fun _ hk=>hk) trivial (Below.refl _ _) (Nat.le_refl _) (by simp) ?_;(case hd=>rfl);(case hg=>rfl);(case hr=>first|(go_simp;done)|(go_simp;rfl));(case hp=>exact(Reps.none _ _));intro v349 w2 ho3 hb hg_ hnew_;clear hg_ hnew_;(first|rw [← Ny348.out] at ho3|(simp only [Int.reduceToNat] at ho3;rw [← Ny348.out] at ho3));have HO350:=aM (Kd.R_lower ho3 (below_size (bX HB.out)));replace HB:=aM (below_step (bX HB.out) hb);clear hb ho3))
 go_loopg [3,10] k (fun kq v3 v10 w'=>∃ (x3_1:List Int) (x10_1:Int),v10 = .int .i64 x10_1∧Aside0 (spec_l04Down.l0 kq x3_1 l0 (l0.length:Int) x10_1=some r)∧Aside0 (kq≤k)∧Aside0 (Kd.R (Kd.int .i64) 3 w' w.heap.size (fun _=>True) v3 x3_1)∧Aside0 (Below w.heap.size w w'))
 case atStart=>exact ⟨(y348),(0),vX,H',⟨Nat.le_refl _⟩,⟨rX HO350.out⟩,⟨bX HB.out⟩⟩
 case round =>
 clear H'
 obtain ⟨x3_1,x10_1,rfl,HA,HK1,HO_3,HB⟩:=hrel
 cases gk with
 | zero=>exact absurd HA.out (by simp [spec_l04Down.l0])
 | succ k1 =>
 have H:=HA.out
 clear HA
 simp only [spec_l04Down.l0] at H
 by_cases c4:x10_1<(l0.length:Int)
 {
 rw [if_pos c4] at H
 have c4b0:=decide_eq_true c4
 clear c4
 by_cases c5:0≤x10_1
 {
 rw [if_pos c5] at H
 have c5b0:=decide_eq_true c5
 clear c5
 by_cases c6:x10_1<(l0.length:Int)
 {
 rw [if_pos c6] at H
 have c6b0:=decide_eq_true c6
 clear c6
 by_cases c7:x3_1.length<17592186044416
 {
 rw [if_pos c7] at H
 have LMc7:=aM c7
 clear c7
 obtain ⟨y352,hy352⟩:∃ y_:List Int,y_=(x3_1 ++ [0]):=⟨_,rfl⟩
 replace H:(spec_l04Down.l1 k1 y352 (rd l0 x10_1) (wrap64 ((y352.length:Int) - 1)) l0 (l0.length:Int) x10_1)=some r:=by first|(rw [hy352];with_reducible exact H)|(have H2_:=(Option.bind_some _ _).symm.trans H;rw [hy352];with_reducible exact H2_)|(have H2_:=(Option.bind_some _ _).symm.trans H;with_reducible exact H2_)|with_reducible exact H|(rw [hy352];exact H)|exact H
 have Ny352:=aM hy352
 clear hy352
 have H':=aM H
 clear H
 have p351:0≤(x10_1:Int):=dX
 have q351:x10_1<(l0.length:Int):=dX
 obtain ⟨ad351,e351,hx351_0⟩:=Kd.at_int HR0.out x10_1 p351 q351
 cases e351
 replace hx351_0:=(HB.out.cell (World.block_lt_of_cell? w _ hx351_0)).trans hx351_0
 replace p351:=eq_true p351
 replace q351:=eq_true q351
 go_wp2_with (first|((with_reducible refine gate_builtin (b:=.append) (xs:=#[.tmp 14,.tmp 15]) rfl ?_);at_builtin;refine Kd.R_append (Kd.int .i64) (w0:=w) w.heap.size rfl (.tmp 14) (.tmp 15) 22 3 (.int .i64 0) 8 rfl Tryz.underlying22 info3 rfl (by decide) (by omega) u3 x3_1 0 [.int .i64 0] (fun _=>True) (fun _=>False) rfl rfl ?aP (fun _ hk=>hk.elim) ?aF ?aO ?aB ?aS ?aL ?_;(case aP=>exact rfl);(case aB=>exact(bX HB.out));(case aF=>exact(fun _ _=>trivial));(case aO=>exact(rX HO_3.out));(case aS=>exact(below_size (bX HB.out)));(case aL=>have:=LMc7.out;omega);intro v353 w8 ho hb hg hat;rw [← Ny352.out] at ho;replace HB:=aM (hb);have HO354:=aM (ho);clear HO_3 ho hb hg hat;obtain ⟨Ao9,co9,eo9⟩:=Kd.R_slice HO354.out;subst eo9))
 go_loopg [6] k1 (fun kq v6 w'=>∃ (x3_2:List Int) (x6_2:Int),v6 = .int .i64 x6_2∧Aside0 (spec_l04Down.l1 kq x3_2 (rd l0 x10_1) x6_2 l0 (l0.length:Int) x10_1=some r)∧Aside0 (kq≤k1)∧Aside0 (Kd.R (Kd.int .i64) 3 w' w.heap.size (fun _=>True) (.slice Ao9 y352.length co9) x3_2)∧Aside0 (Below w.heap.size w w'))
 case atStart=>exact ⟨(y352),(wrap64 ((y352.length:Int) - 1)),vX,H',⟨Nat.le_refl _⟩,⟨rX HO354.out⟩,⟨bX HB.out⟩⟩
 case round =>
 clear H'
 try clear c4
 try clear c4b0
 try clear c5
 try clear c5b0
 try clear c6
 try clear c6b0
 try clear c7
 try clear hx351_0
 try clear p351
 try clear q351
 obtain ⟨x3_2,x6_2,rfl,HA,HK2,HO_3,HB⟩:=hrel
 have hl3_2:=(Kd.R_reads' HO_3.out).1
 rw [hl3_2] at HO_3
 (try simp only [hl3_2])
 cases gk with
 | zero=>exact absurd HA.out (by simp [spec_l04Down.l1])
 | succ k2 =>
 have H:=HA.out
 clear HA
 simp only [spec_l04Down.l1] at H
 by_cases c10:x6_2 > 0
 {
 rw [if_pos c10] at H
 have c10b0:=decide_eq_true c10
 clear c10
 obtain ⟨ji11,hji11⟩:∃ j_:Int,(wrap64 (x6_2 - 1))=j_:=⟨_,rfl⟩
 replace H:(if 0≤(ji11) then (if (ji11)<(x3_2.length:Int) then (if (rd x3_2 (ji11))<(rd l0 x10_1) then (if 0≤x6_2 then (if x6_2<(x3_2.length:Int) then (spec_l04Down.l1 k2 (x3_2.set (x6_2:Int).toNat (rd x3_2 (ji11))) (rd l0 x10_1) ji11 l0 (l0.length:Int) x10_1) else (none)) else (none)) else (if 0≤x6_2 then (if x6_2<(x3_2.length:Int) then (spec_l04Down.l0 k2 (x3_2.set (x6_2:Int).toNat (rd l0 x10_1)) l0 (l0.length:Int) (wrap64 (x10_1+1))) else (none)) else (none))) else (none)) else (none))=some r:=by first|(rw [hji11] at H;exact H)|(simp only [hji11] at H ⊢;exact H)
 have hji11w:(IntKind.i64.wrap (x6_2 - 1))=ji11:=(i64_w _).trans hji11
 by_cases c12:0≤(ji11)
 {
 rw [if_pos c12] at H
 have c12b0:=decide_eq_true c12
 clear c12
 by_cases c13:(ji11)<(x3_2.length:Int)
 {
 rw [if_pos c13] at H
 have c13b0:=decide_eq_true c13
 clear c13
 by_cases c14:(rd x3_2 (ji11))<(rd l0 x10_1)
 {
 rw [if_pos c14] at H
 have c14b0:=decide_eq_true c14
 clear c14
 by_cases c15:0≤x6_2
 {
 rw [if_pos c15] at H
 have c15b0:=decide_eq_true c15
 clear c15
 by_cases c16:x6_2<(x3_2.length:Int)
 {
 rw [if_pos c16] at H
 have c16b0:=decide_eq_true c16
 clear c16
 obtain ⟨y357,hy357⟩:∃ y_:List Int,y_=(x3_2.set (x6_2:Int).toNat (rd x3_2 (ji11))):=⟨_,rfl⟩
 replace H:(spec_l04Down.l1 k2 y357 (rd l0 x10_1) ji11 l0 (l0.length:Int) x10_1)=some r:=by first|(rw [hy357];with_reducible exact H)|(have H2_:=(Option.bind_some _ _).symm.trans H;rw [hy357];with_reducible exact H2_)|(have H2_:=(Option.bind_some _ _).symm.trans H;with_reducible exact H2_)|with_reducible exact H|(rw [hy357];exact H)|exact H
 have Ny357:=aM hy357
 clear hy357
 have H':=aM H
 clear H
 have p355:0≤((ji11):Int):=dX
 have q355:(ji11)<(x3_2.length:Int):=dX
 obtain ⟨ad355,e355,hx355_0⟩:=Kd.at_int (Kd.R_reads' HO_3.out).2.2 (ji11) p355 q355
 cases e355
 replace p355:=eq_true p355
 replace q355:=eq_true q355
 have p356:0≤((ji11):Int):=dX
 have q356:(ji11)<(x3_2.length:Int):=dX
 obtain ⟨ad356,e356,hx356_0⟩:=Kd.at_int (Kd.R_reads' HO_3.out).2.2 (ji11) p356 q356
 obtain rfl:ad355=ad356:=(by injection e356)
 replace p356:=eq_true p356
 replace q356:=eq_true q356
 have p17:0≤(x6_2:Int):=dX
 have q17:(x6_2:Int)<((x3_2.length:Int):Int):=dX
 obtain ⟨go17,co17,eo17,gb17,gl17,cl17,HG17⟩:=Kd.R_form HO_3.out (by omega)
 (first|cases eo17|(injection eo17 with ea_ en_ ec_;(first|subst ea_|(injection ea_ with ea_;subst ea_));subst ec_;clear en_))
 have GB17:=aM gb17
 have GG17:=aM HG17
 clear gb17 gl17 HG17
 (first|simp only [add_plain] at hx355_0|skip)
 (first|simp only [add_plain] at hx356_0|skip)
 obtain ⟨hx17_0,hf17_0⟩:=Kd.R_celln 0 HO_3.out (x6_2:Int) p17 q17
 replace p17:=eq_true p17
 replace q17:=eq_true q17
 have HP18:=Kd.R_putg HO_3.out (x6_2:Int) (rd x3_2 (ji11))
 go_wp2_with (first|((with_reducible refine gate_store (t:=3) (p:=38) rfl ?_);refine store_event (t:=3) (p:=38) (v:=?vo_w19) (w1:=(wr.setCell ⟨go17,(x6_2:Int).toNat,none⟩ (.int .i64 (rd x3_2 (ji11))))) ?hg ?ho ?hn ?hr ?_;(case ho=>rfl);(case hg=>rfl);(case hn=>rfl);(case hr=>first|(go_simp;done)|(go_simp;rfl));intro w19 hw;have hg:wr.grownBy w19 (some go17):=(by rw [hw];exact HP18.2);have hp_:Kd.R (Kd.int .i64) 3 w19 w.heap.size (fun _=>True) (.slice (some ⟨go17,0,none⟩) x3_2.length co9) y357:=(by rw [hw,Ny357.out];exact HP18.1);clear HP18;replace HO_3:=aM (hp_);replace HB:=aM ((by rw [hw];exact below_set (HB.out) GB17.out:Below w.heap.size w w19));clear hg hw hp_))
 (try simp only [← hl3_2])
 go_roundg k2
 case measure=>have:=HK1.out;have:=HK2.out;omega
 case rel=>exact ⟨(y357),(ji11),(by first|rfl|(simp;done)|(simp only [← hji11] <;> (first|rfl|simp))|(simp [*];done)),H',⟨by have:=HK1.out;have:=HK2.out;omega⟩,⟨by(try simp only [hl3_2]);(with_reducible repeat(first|apply rA|apply rN|apply rD));exact HO_3.out⟩,⟨bX HB.out⟩⟩
 }
 {
 rw [if_neg c16] at H
 exact absurd H (by simp)
 }
 }
 {
 rw [if_neg c15] at H
 exact absurd H (by simp)
 }
 }
 {
 rw [if_neg c14] at H
 have c14b0:=decide_eq_false c14
 clear c14
 by_cases c20:0≤x6_2
 {
 rw [if_pos c20] at H
 have c20b0:=decide_eq_true c20
 clear c20
 by_cases c21:x6_2<(x3_2.length:Int)
 {
 rw [if_pos c21] at H
 have c21b0:=decide_eq_true c21
 clear c21
 obtain ⟨y358,hy358⟩:∃ y_:List Int,y_=(x3_2.set (x6_2:Int).toNat (rd l0 x10_1)):=⟨_,rfl⟩
 replace H:(spec_l04Down.l0 k2 y358 l0 (l0.length:Int) (wrap64 (x10_1+1)))=some r:=by first|(rw [hy358];with_reducible exact H)|(have H2_:=(Option.bind_some _ _).symm.trans H;rw [hy358];with_reducible exact H2_)|(have H2_:=(Option.bind_some _ _).symm.trans H;with_reducible exact H2_)|with_reducible exact H|(rw [hy358];exact H)|exact H
 have Ny358:=aM hy358
 clear hy358
 have H':=aM H
 clear H
 have p355:0≤((ji11):Int):=dX
 have q355:(ji11)<(x3_2.length:Int):=dX
 obtain ⟨ad355,e355,hx355_0⟩:=Kd.at_int (Kd.R_reads' HO_3.out).2.2 (ji11) p355 q355
 cases e355
 replace p355:=eq_true p355
 replace q355:=eq_true q355
 have p22:0≤(x6_2:Int):=dX
 have q22:(x6_2:Int)<((x3_2.length:Int):Int):=dX
 obtain ⟨go22,co22,eo22,gb22,gl22,cl22,HG22⟩:=Kd.R_form HO_3.out (by omega)
 (first|cases eo22|(injection eo22 with ea_ en_ ec_;(first|subst ea_|(injection ea_ with ea_;subst ea_));subst ec_;clear en_))
 have GB22:=aM gb22
 have GG22:=aM HG22
 clear gb22 gl22 HG22
 (first|simp only [add_plain] at hx355_0|skip)
 obtain ⟨hx22_0,hf22_0⟩:=Kd.R_celln 0 HO_3.out (x6_2:Int) p22 q22
 replace p22:=eq_true p22
 replace q22:=eq_true q22
 have HP23:=Kd.R_putg HO_3.out (x6_2:Int) (rd l0 x10_1)
 go_wp2_with (first|((with_reducible refine gate_store (t:=3) (p:=44) rfl ?_);refine store_event (t:=3) (p:=44) (v:=?vo_w24) (w1:=(wr.setCell ⟨go22,(x6_2:Int).toNat,none⟩ (.int .i64 (rd l0 x10_1)))) ?hg ?ho ?hn ?hr ?_;(case ho=>rfl);(case hg=>rfl);(case hn=>rfl);(case hr=>first|(go_simp;done)|(go_simp;rfl));intro w24 hw;have hg:wr.grownBy w24 (some go22):=(by rw [hw];exact HP23.2);have hp_:Kd.R (Kd.int .i64) 3 w24 w.heap.size (fun _=>True) (.slice (some ⟨go22,0,none⟩) x3_2.length co9) y358:=(by rw [hw,Ny358.out];exact HP23.1);clear HP23;replace HO_3:=aM (hp_);replace HB:=aM ((by rw [hw];exact below_set (HB.out) GB22.out:Below w.heap.size w w24));clear hg hw hp_))
 (try simp only [← hl3_2])
 go_roundg k2
 case measure=>have:=HK1.out;have:=HK2.out;omega
 case rel=>exact ⟨(y358),(wrap64 (x10_1+1)),vX,H',⟨by have:=HK1.out;have:=HK2.out;omega⟩,⟨by(try simp only [hl3_2]);(with_reducible repeat(first|apply rA|apply rN|apply rD));exact HO_3.out⟩,⟨bX HB.out⟩⟩
 }
 {
 rw [if_neg c21] at H
 exact absurd H (by simp)
 }
 }
 {
 rw [if_neg c20] at H
 exact absurd H (by simp)
 }
 }
 }
 {
 rw [if_neg c13] at H
 exact absurd H (by simp)
 }
 }
 {
 rw [if_neg c12] at H
 exact absurd H (by simp)
 }
 }
 {
 rw [if_neg c10] at H
 have c10b0:=decide_eq_false c10
 clear c10
 by_cases c25:0≤x6_2
 {
 rw [if_pos c25] at H
 have c25b0:=decide_eq_true c25
 clear c25
 by_cases c26:x6_2<(x3_2.length:Int)
 {
 rw [if_pos c26] at H
 have c26b0:=decide_eq_true c26
 clear c26
 obtain ⟨y359,hy359⟩:∃ y_:List Int,y_=(x3_2.set (x6_2:Int).toNat (rd l0 x10_1)):=⟨_,rfl⟩
 replace H:(spec_l04Down.l0 k2 y359 l0 (l0.length:Int) (wrap64 (x10_1+1)))=some r:=by first|(rw [hy359];with_reducible exact H)|(have H2_:=(Option.bind_some _ _).symm.trans H;rw [hy359];with_reducible exact H2_)|(have H2_:=(Option.bind_some _ _).symm.trans H;with_reducible exact H2_)|with_reducible exact H|(rw [hy359];exact H)|exact H
 have Ny359:=aM hy359
 clear hy359
 have H':=aM H
 clear H
 have p27:0≤(x6_2:Int):=dX
 have q27:(x6_2:Int)<((x3_2.length:Int):Int):=dX
 obtain ⟨go27,co27,eo27,gb27,gl27,cl27,HG27⟩:=Kd.R_form HO_3.out (by omega)
 (first|cases eo27|(injection eo27 with ea_ en_ ec_;(first|subst ea_|(injection ea_ with ea_;subst ea_));subst ec_;clear en_))
 have GB27:=aM gb27
 have GG27:=aM HG27
 clear gb27 gl27 HG27
 obtain ⟨hx27_0,hf27_0⟩:=Kd.R_celln 0 HO_3.out (x6_2:Int) p27 q27
 replace p27:=eq_true p27
 replace q27:=eq_true q27
 have HP28:=Kd.R_putg HO_3.out (x6_2:Int) (rd l0 x10_1)
 go_wp2_with (first|((with_reducible refine gate_store (t:=3) (p:=44) rfl ?_);refine store_event (t:=3) (p:=44) (v:=?vo_w29) (w1:=(wr.setCell ⟨go27,(x6_2:Int).toNat,none⟩ (.int .i64 (rd l0 x10_1)))) ?hg ?ho ?hn ?hr ?_;(case ho=>rfl);(case hg=>rfl);(case hn=>rfl);(case hr=>first|(go_simp;done)|(go_simp;rfl));intro w29 hw;have hg:wr.grownBy w29 (some go27):=(by rw [hw];exact HP28.2);have hp_:Kd.R (Kd.int .i64) 3 w29 w.heap.size (fun _=>True) (.slice (some ⟨go27,0,none⟩) x3_2.length co9) y359:=(by rw [hw,Ny359.out];exact HP28.1);clear HP28;replace HO_3:=aM (hp_);replace HB:=aM ((by rw [hw];exact below_set (HB.out) GB27.out:Below w.heap.size w w29));clear hg hw hp_))
 (try simp only [← hl3_2])
 go_roundg k2
 case measure=>have:=HK1.out;have:=HK2.out;omega
 case rel=>exact ⟨(y359),(wrap64 (x10_1+1)),vX,H',⟨by have:=HK1.out;have:=HK2.out;omega⟩,⟨by(try simp only [hl3_2]);(with_reducible repeat(first|apply rA|apply rN|apply rD));exact HO_3.out⟩,⟨bX HB.out⟩⟩
 }
 {
 rw [if_neg c26] at H
 exact absurd H (by simp)
 }
 }
 {
 rw [if_neg c25] at H
 exact absurd H (by simp)
 }
 }
 }
 {
 rw [if_neg c7] at H
 exact absurd H (by simp)
 }
 }
 {
 rw [if_neg c6] at H
 exact absurd H (by simp)
 }
 }
 {
 rw [if_neg c5] at H
 exact absurd H (by simp)
 }
 }
 {
 rw [if_neg c4] at H
 have c4b0:=decide_eq_false c4
 clear c4
 obtain rfl:=Option.some.inj H
 go_wp2
 go_ret
 exact ⟨_,eX,by(with_reducible repeat(first|apply rA|apply rN|apply rD));exact HO_3.out,bX HB.out⟩
 }

end Go.Proofs.YtpieaniigkgmoaaGreatDoor.S
