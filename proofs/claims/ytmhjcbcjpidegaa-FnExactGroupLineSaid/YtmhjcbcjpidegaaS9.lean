-- PRINTED by print.py (a twelfth state) out of the translation. Not trusted: Lean checks it.
import Derived.Test.YtmhjcbcjpidegaaS0
import Derived.Test.YtmhjcbcjpidegaaS1
import Derived.Test.YtmhjcbcjpidegaaS3
import Derived.Test.YtmhjcbcjpidegaaS4
import Derived.Test.YtmhjcbcjpidegaaS8
namespace Go.Proofs.Ytmhjcbcjpidegaa.S
set_option maxHeartbeats 8000000
set_option maxRecDepth 100000
open Go.RowKit Go.Proofs.YtmhjcbcjpidegaaW.PrintWords Go.Proofs.YtmhjcbcjpidegaaW.PrintLast Go.Proofs.YtmhjcbcjpidegaaW.PrintMore
attribute [local go_sem] max2_int min2_int max_two min_two max_three min_three max_four min_four   -- for this text's walks alone
set_option linter.unusedVariables false
set_option linter.unusedSimpArgs false

/-! ### laws_toSurface: function 7 -/
def laws_toSurface.f (k:Nat) (l0_0:List Int) (l0_1:List Int):Option (List Int × List Int):=(laws_toIntS.f k l0_0).bind fun t527=>((laws_toIntS.f k l0_1).bind fun t530=>(some (t527,t530)))
theorem laws_toSurface.calls (k:Nat) (A0_0:Option Addr) (c0_0:Nat) (l0_0:List Int) (A0_1:Option Addr) (c0_1:Nat) (l0_1:List Int) (r1:List Int) (r2:List Int) (w:World) (hr0_0:Kd.C (Kd.int .i64) w A0_0 l0_0.length l0_0) (hc0_0:l0_0.length≤c0_0) (hr0_1:Kd.C (Kd.int .i64) w A0_1 l0_1.length l0_1) (hc0_1:l0_1.length≤c0_1) (h:laws_toSurface.f k l0_0 l0_1=some (r1,r2)) :
  Calls Try.prog 7 #[.agg #[.slice A0_0 l0_0.length c0_0,.slice A0_1 l0_1.length c0_1]] w fun e w'=>∃ v0_ v1_:Value,e = .returned (.agg #[v0_,v1_])∧Kd.R (Kd.int .i64) 3 w' w.heap.size (fun k_=>some k_≠(v1_:Value).ownBlock) v0_ r1∧Kd.R (Kd.int .i64) 3 w' w.heap.size (fun k_=>some k_≠(v0_:Value).ownBlock) v1_ r2∧Below w.heap.size w w':=by
 have hu24:=Try.underlying24
 have hu27:=Try.underlying27
 have HR0_0:=aM hr0_0
 have HC0_0:=aM hc0_0
 clear hr0_0 hc0_0
 have HR0_1:=aM hr0_1
 have HC0_1:=aM hc0_1
 clear hr0_1 hc0_1
 have HB:=aM (Below.refl w.heap.size w)
 have H:((laws_toIntS.f k l0_0).bind fun t527=>((laws_toIntS.f k l0_1).bind fun t530=>(some (t527,t530))))=some (r1,r2):=h
 clear h
 replace H:=oB H
 obtain ⟨t527,A20,H⟩:=H
 have A2:=aM A20
 clear A20
 replace H:=oB H
 obtain ⟨t530,A30,H⟩:=H
 have A3:=aM A30
 clear A30
 simp only [Option.some.injEq,Prod.mk.injEq] at H
 obtain ⟨rfl,rfl⟩:=H
 go_enter Try.func7,Try.ntmps7
 go_wp2_with (first|((with_reducible refine gate_dst (N:=1) rfl ?_);refine bEv (cs:=#[.slice A0_0 l0_0.length c0_0,.slice A0_1 l0_1.length c0_1]) (t:=24) ?_;intro gb524 hg w4 hbox hb;have BK524:=aM (hbox);have GW524:=aM ((szX (below_size (bX HB.out)) hg:w.heap.size≤gb524));have GE524:=GW524;replace HB:=aM (below_step (bX HB.out) hb);clear hb hbox hg)|((with_reducible refine gate_dst (N:=2) rfl ?_);refine bEv (cs:=#[.slice none 0 0,.slice none 0 0]) (t:=27) ?_;intro gb525 hg w5 hbox hb;have BK525:=aM (hbox);have GW525:=aM ((szX (below_size (bX1 HB.out GE524.out)) hg:w.heap.size≤gb525));have GE525:=GW525;replace HB:=aM (below_step (bX1 HB.out GE524.out) hb);have NB524_525:=aM (neX BK524.out hg);have NB525_524:=aM (nfX BK524.out hg);replace BK524:=aM (bbX BK524.out hb);clear hb hbox hg)|((with_reducible refine gate_dst (N:=3) rfl ?_);refine bEv (cs:=#[.slice none 0 0,.slice none 0 0]) (t:=27) ?_;intro gb526 hg w6 hbox hb;have BK526:=aM (hbox);have GW526:=aM ((szX (below_size (bX2 HB.out GE524.out GE525.out)) hg:w.heap.size≤gb526));have GE526:=GW526;replace HB:=aM (below_step (bX2 HB.out GE524.out GE525.out) hb);have NB524_526:=aM (neX BK524.out hg);have NB526_524:=aM (nfX BK524.out hg);replace BK524:=aM (bbX BK524.out hb);have NB525_526:=aM (neX BK525.out hg);have NB526_525:=aM (nfX BK525.out hg);replace BK525:=aM (bbX BK525.out hb);clear hb hbox hg;have hnb7:=NB524_525.out;have hnc7:=NB525_524.out;have hnb8:=NB524_526.out;have hnc8:=NB526_524.out;obtain ⟨hcz9_0,hcz9_1,hfz9_0,hfz9_1⟩:=f2Z BK524.out)|((with_reducible refine gate_callee (f:=25) rfl ?_);refine goesL_ (some 6) rfl rfl Try.func25 (by kernel_rfl) rfl #[.slice A0_0 l0_0.length c0_0] rfl aX ?_;(with_reducible refine(laws_toIntS.calls k _ _ l0_0 t527 _ ?side1 ?side2 A2.out).mono ?_);(case side1=>exact cX (Kd.C_below HR0_0.out HB.out));(case side2=>exact HC0_0.out);rintro e w10 ⟨v528,rfl,ho0,hb⟩;refine ⟨_,rfl,?_⟩;have HO529:=aM (Kd.R_lower ho0 (below_size (bX3 HB.out GE524.out GE525.out GE526.out)));replace BK524:=aM (bbX BK524.out hb);replace BK525:=aM (bbX BK525.out hb);replace BK526:=aM (bbX BK526.out hb);replace HB:=aM (below_step (bX3 HB.out GE524.out GE525.out GE526.out) hb);(try clear hb);(try clear hk);(try clear ho0);obtain ⟨Ao11,co11,eo11⟩:=Kd.R_slice HO529.out;subst eo11;have hnb12:=NB526_525.out;have hnc12:=NB525_526.out;obtain ⟨hcz13_0,hcz13_1,hfz13_0,hfz13_1⟩:=f2Z BK526.out;obtain ⟨hcz14_0,hcz14_1,hfz14_0,hfz14_1⟩:=f2Z BK524.out)|((with_reducible refine gate_callee (f:=25) rfl ?_);refine goesL_ (some 10) rfl rfl Try.func25 (by kernel_rfl) rfl #[.slice A0_1 l0_1.length c0_1] rfl aX ?_;(with_reducible refine(laws_toIntS.calls k _ _ l0_1 t530 _ ?side1 ?side2 A3.out).mono ?_);(case side1=>exact Kd.C_below HR0_1.out (bX3 HB.out GE524.out GE525.out GE526.out));(case side2=>exact HC0_1.out);rintro e w15 ⟨v531,rfl,ho0,hb⟩;refine ⟨_,rfl,?_⟩;have HO532:=aM (Kd.R_lower (Kd.R_new' ho0 (Kd.R_lt (rX (fr1 HO529.out BK526.out (.slice Ao11 t527.length co11))))) (below_size (bX3 HB.out GE524.out GE525.out GE526.out)));replace HO529:=aM (Kd.R_elder' (rX (fr1 HO529.out BK526.out (.slice Ao11 t527.length co11))) (Kd.R_base ho0) hb);replace BK524:=aM (blk_below (g:=gb524) (o:=.cells #[.slice A0_0 l0_0.length c0_0,.slice A0_1 l0_1.length c0_1] 24 (0,0)) (by(with_reducible repeat(first|refine kN ?_ _|refine kD ?_|refine kA ?_ _));refine blk_far ?_ NB524_526.out _;(with_reducible repeat(first|refine kN ?_ _|refine kD ?_|refine kA ?_ _));exact BK524.out) hb);replace BK525:=aM (blk_below (g:=gb525) (o:=.cells #[.slice none 0 0,.slice none 0 0] 27 (0,0)) (by(with_reducible repeat(first|refine kN ?_ _|refine kD ?_|refine kA ?_ _));refine blk_far ?_ NB525_526.out _;(with_reducible repeat(first|refine kN ?_ _|refine kD ?_|refine kA ?_ _));exact BK525.out) hb);replace BK526:=aM (blk_below (g:=gb526) (o:=.cells #[.slice Ao11 t527.length co11,.slice none 0 0] 27 (0,0)) (by(with_reducible repeat(first|refine kN ?_ _|refine kD ?_|refine kA ?_ _));refine blk_put (cs:=#[.slice none 0 0,.slice none 0 0]) ?_ 0 _ rfl;(with_reducible repeat(first|refine kN ?_ _|refine kD ?_|refine kA ?_ _));exact BK526.out) hb);replace HB:=aM (below_step (bX3 HB.out GE524.out GE525.out GE526.out) hb);(try clear hb);(try clear hk);(try clear ho0);obtain ⟨Ao16,co16,eo16⟩:=Kd.R_slice HO532.out;subst eo16;obtain ⟨hcz17_0,hcz17_1,hfz17_0,hfz17_1⟩:=f2Z BK526.out;obtain ⟨hcz18_0,hcz18_1,hfz18_0,hfz18_1⟩:=f2Z BK525.out))
 refine bodyPost_ret (results_cell_row rfl _ _ gb525 27 #[.slice Ao11 t527.length co11,.slice Ao16 t530.length co16] (0,0) _ rfl (by(with_reducible repeat(first|refine kN ?_ _|refine kD ?_|refine kA ?_ _));refine blk_put (cs:=#[.slice Ao11 t527.length co11,.slice none 0 0]) ?_ 1 _ rfl;(with_reducible repeat(first|refine kN ?_ _|refine kD ?_|refine kA ?_ _));refine blk_put (cs:=#[.slice none 0 0,.slice none 0 0]) ?_ 0 _ rfl;(with_reducible repeat(first|refine kN ?_ _|refine kD ?_|refine kA ?_ _));refine blk_far ?_ NB525_526.out _;(with_reducible repeat(first|refine kN ?_ _|refine kD ?_|refine kA ?_ _));exact BK525.out) Try.underlying27 rfl (by kernel_rfl)) rfl ?_
 exact ⟨_,_,eX,by(with_reducible repeat(first|apply rA|apply rN|apply rD));exact Kd.R_mono (Kd.R_far (p:=⟨gb525,1,none⟩) (Kd.R_far (p:=⟨gb525,0,none⟩) (Kd.R_far (p:=⟨gb526,1,none⟩) (Kd.R_types (Kd.R_types HO529.out BK526.out (by decide)) BK525.out (by decide)) (fun _ hk=>hk.1.2) (.slice Ao16 t530.length co16)) (fun _ hk=>hk.2) (.slice Ao11 t527.length co11)) (fun _ hk=>hk.2) (.slice Ao16 t530.length co16)) (fun _ hk=>hk.1.1.2),by(with_reducible repeat(first|apply rA|apply rN|apply rD));exact Kd.R_mono (Kd.R_far (p:=⟨gb525,1,none⟩) (Kd.R_far (p:=⟨gb525,0,none⟩) (Kd.R_far (p:=⟨gb526,1,none⟩) (Kd.R_types (Kd.R_types HO532.out BK526.out (by decide)) BK525.out (by decide)) (fun _ hk=>hk.1.2) (.slice Ao16 t530.length co16)) (fun _ hk=>hk.2) (.slice Ao11 t527.length co11)) (fun _ hk=>hk.2) (.slice Ao16 t530.length co16)) (fun _ hk=>hk.1.1.2),bX3 HB.out GE524.out GE525.out GE526.out⟩

/-! ### strings_IndexByte: function 53 -/
/-! by hand -/
def strings_IndexByte.f (a0:ByteArray) (a1:Int):Option (Int):=some (Go.Lib.indexByte a0.data.toList a1.toNat.toUInt8)
theorem strings_IndexByte.calls (a0:ByteArray) (a1:Int) (r:Int) (w:World) (h:strings_IndexByte.f a0 a1=some r) :
    Calls Try.prog 53 #[.string a0,.int .u8 a1] w fun e w'=>e = .returned (.int .i64 r)∧Drawn0 w w':=by
 unfold strings_IndexByte.f at h
 obtain rfl:=Option.some.inj h
 refine(Try.strings_IndexByte a0 a1 w).mono ?_
 rintro e w' ⟨rfl,rfl⟩
 exact ⟨rfl,Drawn0.refl _⟩

/-! ### impl_WordOk: function 31 -/
def impl_WordOk.l0 : Nat→ByteArray→Int→Option (Bool)
 | 0,_,_=>none
 | k+1,x0,x3=>if x3<(x0.size:Int) then (if 0≤x3 then ((strings_IndexByte.f (⟨#[84,116,83,115]⟩:ByteArray) (bt x0 x3)).bind fun t533=>(if t533<0 then (some false) else (impl_WordOk.l0 k x0 (wrap64 (x3+1))))) else (none)) else (some (decide ((x0.size:Int)≤40)))
def impl_WordOk.f (k:Nat) (a0:ByteArray):Option (Bool):=impl_WordOk.l0 k a0 0
theorem impl_WordOk.calls (k:Nat) (a0:ByteArray) (r:Bool) (w:World) (h:impl_WordOk.f k a0=some r) :
  Calls Try.prog 31 #[.string a0] w fun e w'=>e = .returned (.bool r)∧Drawn0 w w':=by
 have H:(impl_WordOk.l0 k a0 0)=some r:=h
 clear h
 have H':=aM H
 clear H
 go_enter Try.func31,Try.ntmps31
 go_wp2
 go_loopg [3] k (fun kq v3 w'=>∃ (x3_1:Int),v3 = .int .i64 x3_1∧Aside0 (impl_WordOk.l0 kq a0 x3_1=some r)∧Aside0 (kq≤k)∧Drawn0 w w')
 case atStart=>exact ⟨(0),vX,H',⟨Nat.le_refl _⟩,by repeat(first|exact Drawn0.refl _|apply Drawn0.step)⟩
 case round =>
 clear H'
 obtain ⟨x3_1,rfl,HA,HK1,⟨m1,rfl⟩⟩:=hrel
 cases gk with
 | zero=>exact absurd HA.out (by simp [impl_WordOk.l0])
 | succ k1 =>
 have H:=HA.out
 clear HA
 simp only [impl_WordOk.l0] at H
 by_cases c2:x3_1<(a0.size:Int)
 {
 rw [if_pos c2] at H
 have c2b0:=decide_eq_true c2
 clear c2
 by_cases c3:0≤x3_1
 {
 rw [if_pos c3] at H
 have c3b0:=decide_eq_true c3
 clear c3
 replace H:=oB H
 obtain ⟨t533,A50,H⟩:=H
 have A5:=aM A50
 clear A50
 by_cases c6:t533<0
 {
 rw [if_pos c6] at H
 have c6b0:=decide_eq_true c6
 clear c6
 obtain rfl:=Option.some.inj H
 have p4:0≤(x3_1:Int):=dX
 have q4:x3_1<(a0.size:Int):=dX
 have hx4:=bt_at a0 x3_1
 replace p4:=eq_true p4
 replace q4:=eq_true q4
 go_wp2_with (first|((with_reducible refine gate_callee (f:=53) rfl ?_);refine goesL_ (some 13) rfl rfl Try.func53 (by kernel_rfl) rfl #[.string (⟨#[84,116,83,115]⟩:ByteArray),.int .u8 (bt a0 x3_1)] rfl aX ?_;(with_reducible refine(strings_IndexByte.calls (⟨#[84,116,83,115]⟩:ByteArray) (bt a0 x3_1) t533 _ A5.out).mono ?_);rintro e w' ⟨rfl,⟨nd,rfl⟩⟩;refine ⟨_,rfl,?_⟩))
 go_ret
 exact ⟨by first|rfl|(simp;done)|(simp [*];done),by repeat(first|exact Drawn0.refl _|apply Drawn0.step)⟩
 }
 {
 rw [if_neg c6] at H
 have c6b0:=decide_eq_false c6
 clear c6
 have H':=aM H
 clear H
 have p4:0≤(x3_1:Int):=dX
 have q4:x3_1<(a0.size:Int):=dX
 have hx4:=bt_at a0 x3_1
 replace p4:=eq_true p4
 replace q4:=eq_true q4
 go_wp2_with (first|((with_reducible refine gate_callee (f:=53) rfl ?_);refine goesL_ (some 13) rfl rfl Try.func53 (by kernel_rfl) rfl #[.string (⟨#[84,116,83,115]⟩:ByteArray),.int .u8 (bt a0 x3_1)] rfl aX ?_;(with_reducible refine(strings_IndexByte.calls (⟨#[84,116,83,115]⟩:ByteArray) (bt a0 x3_1) t533 _ A5.out).mono ?_);rintro e w' ⟨rfl,⟨nd,rfl⟩⟩;refine ⟨_,rfl,?_⟩))
 go_roundg k1
 case measure=>have:=HK1.out;omega
 case rel=>exact ⟨(wrap64 (x3_1+1)),vX,H',⟨by have:=HK1.out;omega⟩,by repeat(first|exact Drawn0.refl _|apply Drawn0.step)⟩
 }
 }
 {
 rw [if_neg c3] at H
 exact absurd H (by simp)
 }
 }
 {
 rw [if_neg c2] at H
 have c2b0:=decide_eq_false c2
 clear c2
 obtain rfl:=Option.some.inj H
 go_wp2
 go_ret
 exact ⟨by first|rfl|(simp;done)|(simp [*];done),by repeat(first|exact Drawn0.refl _|apply Drawn0.step)⟩
 }

/-! ### impl_InverseWord: function 16 -/
def impl_InverseWord.l0 : Nat→ByteArray→List Int→Int→Option (ByteArray)
 | 0,_,_,_=>none
 | k+1,x0,x3,x4=>if x4≥0 then (if 0≤x4 then (if x4<(x0.size:Int) then (if x3.length<140737488355328 then (impl_InverseWord.l0 k x0 (x3 ++ [Go.bits .xor .u8 (bt x0 x4) 32]) (wrap64 (x4 - 1))) else (none)) else (none)) else (none)) else (some (strOfNums x3))
def impl_InverseWord.f (k:Nat) (a0:ByteArray):Option (ByteArray):=(impl_WordOk.f k a0).bind fun t534=>(if t534=true then (impl_InverseWord.l0 k a0 (([]:List Int)) (wrap64 ((a0.size:Int) - 1))) else (some (⟨#[]⟩:ByteArray)))
theorem impl_InverseWord.calls (k:Nat) (a0:ByteArray) (r:ByteArray) (w:World) (h:impl_InverseWord.f k a0=some r) :
  Calls Try.prog 16 #[.string a0] w fun e w'=>e = .returned (.string r)∧Below w.heap.size w w':=by
 have HB:=aM (Below.refl w.heap.size w)
 have H:((impl_WordOk.f k a0).bind fun t534=>(if t534=true then (impl_InverseWord.l0 k a0 (([]:List Int)) (wrap64 ((a0.size:Int) - 1))) else (some (⟨#[]⟩:ByteArray))))=some r:=h
 clear h
 replace H:=oB H
 obtain ⟨t534,A20,H⟩:=H
 have A2:=aM A20
 clear A20
 by_cases c3:t534=true
 {
 subst c3
 have H1:(impl_InverseWord.l0 k a0 (([]:List Int)) (wrap64 ((a0.size:Int) - 1)))=some r:=by rw [if_pos rfl] at H;exact H
 clear H
 have H:=H1
 clear H1
 obtain ⟨y535,hy535⟩:∃ y_:List Int,y_=(([]:List Int)):=⟨_,rfl⟩
 replace H:(impl_InverseWord.l0 k a0 y535 (wrap64 ((a0.size:Int) - 1)))=some r:=by first|(rw [hy535];with_reducible exact H)|(have H2_:=(Option.bind_some _ _).symm.trans H;rw [hy535];with_reducible exact H2_)|(have H2_:=(Option.bind_some _ _).symm.trans H;with_reducible exact H2_)|with_reducible exact H|(rw [hy535];exact H)|exact H
 have Ny535:=aM hy535
 clear hy535
 have H':=aM H
 clear H
 go_enter Try.func16,Try.ntmps16
 go_wp2_with (first|((with_reducible refine gate_callee (f:=31) rfl ?_);refine goesL_ (some 6) rfl rfl Try.func31 (by kernel_rfl) rfl #[.string a0] rfl aX ?_;(with_reducible refine(impl_WordOk.calls k a0 true _ A2.out).mono ?_);rintro e w' ⟨rfl,⟨nd,rfl⟩⟩;refine ⟨_,rfl,?_⟩)|((with_reducible refine gate_dst (N:=8) rfl ?_);refine Kd.R_lit (Kd.int .u8) _ 5 ?hg (N:=8) ?hd (xs:=([]:List Int)) (inner:=[]) (ok:=fun _=>True) (okp:=fun _=>True) ?hr ?hp (fun _ hk=>hk) trivial (Below.refl _ _) (Nat.le_refl _) (by simp) ?_;(case hd=>rfl);(case hg=>rfl);(case hr=>first|(go_simp;done)|(go_simp;rfl));(case hp=>exact(Reps.none _ _));intro v536 w4 ho5 hb hg_ hnew_;clear hg_ hnew_;(first|rw [← Ny535.out] at ho5|(simp only [Int.reduceToNat] at ho5;rw [← Ny535.out] at ho5));have HO537:=aM (Kd.R_lower ho5 (below_size (bX HB.out)));replace HB:=aM (below_step (bX HB.out) hb);clear hb ho5))
 go_loopg [3,4] k (fun kq v3 v4 w'=>∃ (x3_1:List Int) (x4_1:Int),v4 = .int .i64 x4_1∧Aside0 (impl_InverseWord.l0 kq a0 x3_1 x4_1=some r)∧Aside0 (kq≤k)∧Aside0 (Kd.R (Kd.int .u8) 5 w' w.heap.size (fun _=>True) v3 x3_1)∧Aside0 (Below w.heap.size w w'))
 case atStart=>exact ⟨(y535),(wrap64 ((a0.size:Int) - 1)),vX,H',⟨Nat.le_refl _⟩,⟨rX HO537.out⟩,⟨bX HB.out⟩⟩
 case round =>
 clear H'
 try clear c3
 obtain ⟨x3_1,x4_1,rfl,HA,HK1,HO_3,HB⟩:=hrel
 cases gk with
 | zero=>exact absurd HA.out (by simp [impl_InverseWord.l0])
 | succ k1 =>
 have H:=HA.out
 clear HA
 simp only [impl_InverseWord.l0] at H
 by_cases c6:x4_1≥0
 {
 rw [if_pos c6] at H
 have c6b0:=decide_eq_true c6
 clear c6
 by_cases c7:0≤x4_1
 {
 rw [if_pos c7] at H
 have c7b0:=decide_eq_true c7
 clear c7
 by_cases c8:x4_1<(a0.size:Int)
 {
 rw [if_pos c8] at H
 have c8b0:=decide_eq_true c8
 clear c8
 by_cases c10:x3_1.length<140737488355328
 {
 rw [if_pos c10] at H
 have LMc10:=aM c10
 clear c10
 obtain ⟨y538,hy538⟩:∃ y_:List Int,y_=(x3_1 ++ [Go.bits .xor .u8 (bt a0 x4_1) 32]):=⟨_,rfl⟩
 replace H:(impl_InverseWord.l0 k1 a0 y538 (wrap64 (x4_1 - 1)))=some r:=by first|(rw [hy538];with_reducible exact H)|(have H2_:=(Option.bind_some _ _).symm.trans H;rw [hy538];with_reducible exact H2_)|(have H2_:=(Option.bind_some _ _).symm.trans H;with_reducible exact H2_)|with_reducible exact H|(rw [hy538];exact H)|exact H
 have Ny538:=aM hy538
 clear hy538
 have H':=aM H
 clear H
 have p9:0≤(x4_1:Int):=dX
 have q9:x4_1<(a0.size:Int):=dX
 have hx9:=bt_at a0 x4_1
 replace p9:=eq_true p9
 replace q9:=eq_true q9
 go_wp2_with (first|((with_reducible refine gate_builtin (b:=.append) (xs:=#[.tmp 16,.tmp 21]) rfl ?_);at_builtin;refine Kd.R_append (Kd.int .u8) (w0:=w) w.heap.size rfl (.tmp 16) (.tmp 21) 31 5 (.int .u8 0) 1 rfl Try.underlying31 info5 rfl (by decide) (by omega) u3 x3_1 (Go.bits .xor .u8 (bt a0 x4_1) 32) [.int .u8 (Go.bits .xor .u8 (bt a0 x4_1) 32)] (fun _=>True) (fun _=>False) rfl rfl ?aP (fun _ hk=>hk.elim) ?aF ?aO ?aB ?aS ?aL ?_;(case aP=>exact rfl);(case aB=>exact(bX HB.out));(case aF=>exact(fun _ _=>trivial));(case aO=>exact(rX HO_3.out));(case aS=>exact(below_size (bX HB.out)));(case aL=>have:=LMc10.out;omega);intro v539 w11 ho hb hg hat;rw [← Ny538.out] at ho;replace HB:=aM (hb);have HO540:=aM (ho);clear HO_3 ho hb hg hat))
 go_roundg k1
 case measure=>have:=HK1.out;omega
 case rel=>exact ⟨(y538),(wrap64 (x4_1 - 1)),vX,H',⟨by have:=HK1.out;omega⟩,⟨rX HO540.out⟩,⟨bX HB.out⟩⟩
 }
 {
 rw [if_neg c10] at H
 exact absurd H (by simp)
 }
 }
 {
 rw [if_neg c8] at H
 exact absurd H (by simp)
 }
 }
 {
 rw [if_neg c7] at H
 exact absurd H (by simp)
 }
 }
 {
 rw [if_neg c6] at H
 have c6b0:=decide_eq_false c6
 clear c6
 obtain rfl:=Option.some.inj H
 have hcv12:=own_string (P:=Try.prog) Try.underlying31 Try.underlying5 Try.underlying9 (Kd.own_of_R HO_3.out)
 go_wp2
 go_ret
 exact ⟨eX,bX HB.out⟩
 }
 }
 {
 replace c3:=Bool.eq_false_iff.mpr c3
 subst c3
 have H1:(some (⟨#[]⟩:ByteArray))=some r:=by rw [if_neg (show ¬ (false=true) by decide)] at H;exact H
 clear H
 have H:=H1
 clear H1
 obtain rfl:=Option.some.inj H
 go_enter Try.func16,Try.ntmps16
 go_wp2_with (first|((with_reducible refine gate_callee (f:=31) rfl ?_);refine goesL_ (some 6) rfl rfl Try.func31 (by kernel_rfl) rfl #[.string a0] rfl aX ?_;(with_reducible refine(impl_WordOk.calls k a0 false _ A2.out).mono ?_);rintro e w' ⟨rfl,⟨nd,rfl⟩⟩;refine ⟨_,rfl,?_⟩))
 go_ret
 exact ⟨eX,bX HB.out⟩
 }

/-! ### impl_GeneratorWords: function 11 -/
/-! by hand -/
def genLet (k:Nat) (c i:Int) (o:OrbV) (m:List Int) (out:List ByteArray):Option (Option (List ByteArray)) :=
  if i<(m.length:Int)∧0≤rd m i∧rd m i<(o.fr.length:Int)∧rd m i<(o.bs.length:Int)∧rd m i<(o.ws.length:Int)∧i<(o.ws.length:Int) then
    if rd o.fr (rd m i)=i∧rd o.bs (rd m i)=c then some (some out) else
      (impl_InverseWord.f k (rdOf ByteArray.empty o.ws (rd m i))).bind fun v =>
        if (rdOf ByteArray.empty o.ws i).size+1+v.size≤1000∧out.length≤1000 then
          (impl_WordOk.f k (rdOf ByteArray.empty o.ws (rd m i))).bind fun b1=>if b1=true then (impl_WordOk.f k (rdOf ByteArray.empty o.ws i)).bind fun b2=>if b2=true then (impl_WordOk.f k (rdOf ByteArray.empty o.ws i ++ strOfNums [c] ++ v)).bind fun b3=>if b3=true then some (some (out ++ [rdOf ByteArray.empty o.ws i ++ strOfNums [c] ++ v])) else some none else some none else some none
        else none
  else none
def genLoop (o:OrbV):Nat→Int→List ByteArray→Option (Option (List ByteArray))
  | 0,_,_=>none
  | k+1,i,out=>if i<(o.l.length:Int) then (genLet k 84 i o o.nt out).bind fun a=>match a with
    | none=>some none
    | some q=>(genLet k 83 i o o.ns q).bind fun b=>match b with
      | none=>some none
      | some q2=>genLoop o k (wrap64 (i+1)) q2
    else some (some out)
def impl_GeneratorWords.f (k:Nat) (l0_0 l0_1:List Int):Option (List ByteArray × Bool):=(impl_orbitOf.f k l0_0 l0_1).bind fun a=>match a with
  | none=>some ([],false)
  | some o=>(genLoop o k 0 []).bind fun b=>match b with
    | none=>some ([],false)
    | some q=>some (q,true)
/-- From a letter on. -/
def genRest (o:OrbV) (k:Nat) (i:Int) (j:Nat) (out:List ByteArray):Option (Option (List ByteArray)) :=
  if j=0 then (genLet k 84 i o o.nt out).bind fun a=>match a with|none=>some none|some q=>(genLet k 83 i o o.ns q).bind fun b=>match b with|none=>some none|some q2=>genLoop o k (wrap64 (i+1)) q2
  else if j=1 then (genLet k 83 i o o.ns out).bind fun b=>match b with|none=>some none|some q2=>genLoop o k (wrap64 (i+1)) q2
  else genLoop o k (wrap64 (i+1)) out
theorem genRest_step {o:OrbV} {k:Nat} {i:Int} {j:Nat} {out:List ByteArray} {r:Option (List ByteArray)} (h:genRest o k i j out=some r) (hj:j<2):∃ a,genLet k (rd [84,83] j) i o (o.nx (rd [84,83] j)) out=some a∧((a=none∧r=none)∨∃ q,a=some q∧genRest o k i (j+1) q=some r):=by
  have hj:j=0∨j=1:=by omega
  rcases hj with rfl|rfl
  · rw [genRest,if_pos rfl] at h
    obtain ⟨a,ha,h⟩:=oB h
    refine ⟨a,ha,?_⟩
    cases a with
    | none=>exact Or.inl ⟨rfl,(Option.some.inj h).symm⟩
    | some q=>exact Or.inr ⟨q,rfl,by rw [genRest,if_neg (by decide),if_pos rfl];exact h⟩
  · rw [genRest,if_neg (by decide),if_pos rfl] at h
    obtain ⟨a,ha,h⟩:=oB h
    refine ⟨a,ha,?_⟩
    cases a with
    | none=>exact Or.inl ⟨rfl,(Option.some.inj h).symm⟩
    | some q=>exact Or.inr ⟨q,rfl,by rw [genRest,if_neg (by decide),if_neg (by decide)];exact h⟩
theorem impl_GeneratorWords.calls (k:Nat) (A0_0:Option Addr) (c0_0:Nat) (l0_0:List Int) (A0_1:Option Addr) (c0_1:Nat) (l0_1:List Int) (r1:List ByteArray) (r2:Bool) (w:World) (hr0_0:Kd.C (Kd.int .i64) w A0_0 l0_0.length l0_0) (hc0_0:l0_0.length≤c0_0) (hr0_1:Kd.C (Kd.int .i64) w A0_1 l0_1.length l0_1) (hc0_1:l0_1.length≤c0_1) (h:impl_GeneratorWords.f k l0_0 l0_1=some (r1,r2)) :
    Calls Try.prog 11 #[.agg #[.slice A0_0 l0_0.length c0_0,.slice A0_1 l0_1.length c0_1]] w fun e w'=>∃ v0_:Value,e = .returned (.tuple #[v0_,.bool r2])∧Kd.R Kd.string 9 w' w.heap.size (fun _=>True) v0_ r1∧Below w.heap.size w w':=by
  have hv:=Try.underlying57
  have hu:=Try.underlying27
  have HS:=aM (show SurfC w A0_0 A0_1 c0_0 c0_1 l0_0 l0_1 from ⟨hc0_0,hr0_0,hc0_1,hr0_1⟩)
  clear hr0_0 hc0_0 hr0_1 hc0_1
  unfold impl_GeneratorWords.f at h
  obtain ⟨a,ha,h⟩:=oB h
  have HA:=aM ha
  clear ha
  cases a with
  | none =>
    cases h
    go_enter Try.func11,Try.ntmps11
    go_wp2_with (first
      | ((with_reducible refine gate_dst (N:=1) rfl ?_);refine bEv (cs:=#[.slice A0_0 l0_0.length c0_0,.slice A0_1 l0_1.length c0_1]) (t:=27) ?_;intro gb1 hg1 w1 hbox1 hb1;have BK1:=aM hbox1;have HB1:=aM hb1;have hc10:w1.cell? ⟨gb1,0,none⟩=some (.slice A0_0 l0_0.length c0_0):=(blk_cell BK1.out 0).trans rfl;have hc11:w1.cell? ⟨gb1,1,none⟩=some (.slice A0_1 l0_1.length c0_1):=(blk_cell BK1.out 1).trans rfl;clear hbox1 hb1 hg1)
      | (go_at_call 30;(refine(impl_orbitOf.calls k _ _ l0_0 _ _ l0_1 (none) w1 (HS.out.below HB1.out) HA.out).mono ?_);rintro e w2 ⟨hb,hp⟩;have hp2:e = .returned (.tuple #[.pointer none,.bool false]):=hp;subst hp2;have HB2:=aM (below_step HB1.out hb);clear hb hp hc10 hc11 HB1 BK1))
    go_ret2
    exact ⟨.slice none 0 0,rfl,Kd.R_nil _ _ _ _ _,HB2.out⟩
  | some o =>
    obtain ⟨b,hb,h⟩:=oB h
    have HG0:=aM hb
    have hres:(b=none→r1=[]∧r2=false)∧∀ q,b=some q→r1=q∧r2=true:=by
      clear HG0 hb
      cases b with
      | none=>cases h;exact ⟨fun _=>⟨rfl,rfl⟩,fun q e=>(by cases e)⟩
      | some q0=>cases h;exact ⟨fun e=>(by cases e),fun q e=>(by cases e;exact ⟨rfl,rfl⟩)⟩
    have HRES:=aM hres
    clear h hb hres
    go_enter Try.func11,Try.ntmps11
    go_wp2_with (first
      | ((with_reducible refine gate_dst (N:=1) rfl ?_);refine bEv (cs:=#[.slice A0_0 l0_0.length c0_0,.slice A0_1 l0_1.length c0_1]) (t:=27) ?_;intro gb1 hg1 w1 hbox1 hb1;have BK1:=aM hbox1;have HB1:=aM hb1;have hc10:w1.cell? ⟨gb1,0,none⟩=some (.slice A0_0 l0_0.length c0_0):=(blk_cell BK1.out 0).trans rfl;have hc11:w1.cell? ⟨gb1,1,none⟩=some (.slice A0_1 l0_1.length c0_1):=(blk_cell BK1.out 1).trans rfl;clear hbox1 hb1 hg1)
      | (go_at_call 30;(refine(impl_orbitOf.calls k _ _ l0_0 _ _ l0_1 (some o) w1 (HS.out.below HB1.out) HA.out).mono ?_);rintro e w2 ⟨hb,hp⟩;obtain ⟨B,M,v0,v1,v2,v3,u,rfl,ho,hl⟩:=(show ∃ B M v0 v1 v2 v3 u,e = .returned (.tuple #[.pointer (some ⟨B,0,none⟩),.bool true])∧OrbW w1.heap.size w2 B M v0 v1 v2 v3 u o∧o.l.length≤120 from hp);obtain ⟨A0,c0,e0⟩:=Kd.N_slice ho.l;subst e0;have hco:w2.cell? ⟨B,0,none⟩=some (.slice A0 o.l.length c0):=(blk_cell ho.blk 0).trans rfl;have HB2:=aM (below_step HB1.out hb);have HO:=aM ho;have HLE:=aM hl;have HN:=aM (below_size HB1.out);clear hb hp ho hl hc10 hc11 HB1 BK1;obtain ⟨Aw,cw,e0⟩:=Kd.R_slice HO.out.ws;subst e0;obtain ⟨Af,cf,e0⟩:=Kd.R_slice HO.out.fr;subst e0;obtain ⟨Ay,cy,e0⟩:=Kd.R_slice HO.out.bs;subst e0)
      | ((with_reducible refine gate_dst (N:=20) rfl ?_);refine Kd.R_lit Kd.string _ 9 ?hg (N:=20) ?hd (xs:=([]:List ByteArray)) (inner:=[]) (ok:=fun _=>True) (okp:=fun _=>True) ?hr ?hp (fun _ hk=>hk) trivial (Below.refl _ _) (Nat.le_refl _) (by simp) ?_;(case hd=>rfl);(case hg=>rfl);(case hr=>first|(go_simp;done)|(go_simp;rfl));(case hp=>exact(Reps.none _ _));intro v6 w3 hl hb hg_ hnew_;obtain ⟨Ao,co,e0⟩:=Kd.R_slice hl;subst e0;have HR3:=aM hl;have HB3:=aM hb;have hco3:w3.cell? ⟨B,0,none⟩=some (.slice A0 o.l.length c0):=(blk_cell (HO.out.below hb).blk 0).trans rfl;clear hl hb hg_ hnew_ hco))
    go_loopg [6,26] k (fun kq v6_ v26 w'=>∃ (i:Int) (out:List ByteArray) (Ao:Option Addr) (co:Nat),v6_ = .slice Ao out.length co∧v26 = .int .i64 i∧Aside0 (genLoop o kq i out=some b)∧Aside0 (0≤i)∧Aside0 (Kd.R Kd.string 9 w' w2.heap.size (fun _=>True) (.slice Ao out.length co) out)∧Aside0 (Below w2.heap.size w2 w'))
    case atStart=>exact ⟨0,[],_,_,rfl,rfl,HG0,⟨Int.le_refl _⟩,HR3,HB3⟩
    case round =>
      clear HG0 HR3 HB3 hco3
      obtain ⟨i,out,Ao,co,rfl,rfl,HG,HI0,HR,HBL⟩:=hrel
      obtain ⟨k1,rfl⟩:∃ q,gk=q+1:=by
        cases gk with
        | zero=>exact absurd HG.out (by simp [genLoop])
        | succ q=>exact ⟨q,rfl⟩
      by_cases hlt:i<(o.l.length:Int)
      · have h:=HG.out
        rw [genLoop,if_pos hlt] at h
        have HG1:=aM (show genRest o k1 i 0 out=some b by rw [genRest,if_pos rfl];exact h)
        clear h HG
        have c1:decide (i<(o.l.length:Int))=true:=decide_eq_true hlt
        have HIR:=aM (show 0≤i∧i<120 from ⟨HI0.out,by have:=HLE.out;omega⟩)
        have HWI:=aM (show wrap64 (i+1)=i+1 by have:=HIR.out;unfold wrap64;omega)
        clear hlt
        go_wp2
        have hgl:=aM (heap_new wr (.cells #[.int .u8 84,.int .u8 83] 5 (0,0)))
        have HBg:=aM (bA HBL.out (.cells #[.int .u8 84,.int .u8 83] 5 (0,0)))
        have HRg:=aM (Kd.R_below HR.out (below_alloc (Below.refl _ _) (.cells #[.int .u8 84,.int .u8 83] 5 (0,0))))
        generalize wr.heap.size=gl at hgl ⊢
        go_loopg [6,31] 2 (fun jq v6_ v31 w'=>∃ (j:Nat) (out:List ByteArray) (Ao:Option Addr) (co:Nat),v6_ = .slice Ao out.length co∧v31 = .int .i64 (j:Int)∧Aside0 (j+jq=2)∧Aside0 (genRest o k1 i j out=some b)∧Aside0 (Kd.R Kd.string 9 w' w2.heap.size (fun _=>True) (.slice Ao out.length co) out)∧Aside0 (w'.heap[gl]? = some (.cells #[.int .u8 84,.int .u8 83] 5 (0,0)))∧Aside0 (Below w2.heap.size w2 w'))
        case atStart=>exact ⟨0,out,_,_,rfl,rfl,⟨rfl⟩,HG1,HRg,hgl,HBg⟩
        case round =>
          clear HG1 HRg hgl HBg HR HBL c1 HI0
          obtain ⟨j,out,Ao,co,rfl,rfl,HJ,HG,HR,HL,HBL⟩:=hrel
          by_cases hj:j<2
          · obtain ⟨a,ha,hnext⟩:=genRest_step HG.out hj
            have hc:=letter_or (j:=(j:Int)) (by omega) (by omega)
            have hcl:wr.cell? ⟨gl,j,none⟩=some (.int .u8 (rd [84,83] (j:Int))):=by
              rw [blk_cell HL.out]
              have:j=0∨j=1:=by omega
              rcases this with rfl|rfl <;> rfl
            generalize rd [84,83] (j:Int)=c at ha hc hcl
            have HN:=aM hnext
            clear hnext HG
            obtain ⟨q1,rfl⟩:∃ q,gk=q+1:=⟨gk - 1,by have:=HJ.out;omega⟩
            have HWJ:=aM (show wrap64 ((j:Int)+1)=((j+1:Nat):Int) by unfold wrap64;omega)
            unfold genLet at ha
            split at ha
            rotate_left
            · cases ha
            rename_i hcond
            obtain ⟨im,k0,kf,kb,kw,iw⟩:=hcond
            have HOr:=aM (HO.out.below HBL.out)
            have hru:=HOr.out.nx c hc
            have hlk:=(HOr.out.held hc).2
            have hcm:=(HOr.out.held hc).1
            obtain ⟨Au,cu,eu⟩:=Kd.R_slice hru
            rw [eu] at hru hlk
            obtain ⟨adu,e1,hue⟩:=Kd.at_int (Kd.R_reads' hru).2.2 i HIR.out.1 im
            cases e1
            generalize rd (o.nx c) i=kk at *
            obtain ⟨adf,e1,hfe⟩:=Kd.at_int (Kd.R_reads' HOr.out.fr).2.2 kk k0 kf
            cases e1
            obtain ⟨ady,e1,hye⟩:=Kd.at_int (Kd.R_reads' HOr.out.bs).2.2 kk k0 kb
            cases e1
            obtain ⟨adw,e1,hwk⟩:=Kd.at_string (Kd.R_reads' HOr.out.ws).2.2 kk k0 kw
            cases e1
            obtain ⟨adw2,e1,hwi⟩:=Kd.at_string (Kd.R_reads' HOr.out.ws).2.2 i HIR.out.1 iw
            cases e1
            have hcw:wr.cell? ⟨B,1,none⟩=some (.slice (some adw) o.ws.length cw):=(blk_cell HOr.out.blk 1).trans rfl
            have hcf:wr.cell? ⟨B,2,none⟩=some (.slice (some adf) o.fr.length cf):=(blk_cell HOr.out.blk 2).trans rfl
            have hcy:wr.cell? ⟨B,3,none⟩=some (.slice (some ady) o.bs.length cy):=(blk_cell HOr.out.blk 3).trans rfl
            have c2:decide ((j:Int)<2)=true:=decide_eq_true (by omega)
            have p0:decide (0≤(j:Int))=true:=decide_eq_true (by omega)
            have p5:=eq_true (show (j:Int)<2 by omega)
            have hj0:=hj
            replace hj:=eq_true hj
            have p1:=eq_true HIR.out.1
            have p2:=eq_true im
            have p3:=eq_true k0
            have p4:=eq_true kf
            have p6:=eq_true kb
            have p7:=eq_true kw
            have p8:=eq_true iw
            have d1:decide (0≤i)=true:=decide_eq_true HIR.out.1
            have d2:=decide_eq_true im
            have d3:=decide_eq_true k0
            have d4:=decide_eq_true kf
            have d6:=decide_eq_true kb
            have d7:=decide_eq_true kw
            have d8:=decide_eq_true iw
            clear im k0 kf kb kw iw hru hj0
            by_cases hf:rd o.fr kk=i
            · have q1_:(rd o.fr kk == i)=true:=beq_iff_eq.2 hf
              by_cases hy:rd o.bs kk=c
              · have q2_:(rd o.bs kk == c)=true:=beq_iff_eq.2 hy
                rw [if_pos ⟨hf,hy⟩] at ha
                have hr:a=some out:=(Option.some.inj ha).symm
                subst hr
                have hq:genRest o k1 i (j+1) out=some b:=by
                  rcases HN.out with ⟨h1,_⟩|⟨q,h1,h2⟩
                  · cases h1
                  · rw [Option.some.inj h1]
                    exact h2
                have HQ:=aM hq
                clear hq ha HN hf hy
                go_wp2
                go_roundg q1
                case measure=>have:=HJ.out;omega
                case rel=>exact ⟨j+1,_,_,_,rfl,(by first|rfl|rw [HWJ.out]|(simp;done)),⟨by have:=HJ.out;omega⟩,HQ,HR,HL,HBL⟩
              · have q2_:(rd o.bs kk == c)=false:=beq_eq_false_iff_ne.2 hy
                rw [if_neg (fun h=>hy h.2)] at ha
                clear hf hy
                obtain ⟨v,hv,ha⟩:=oB ha
                have HV:=aM hv
                clear hv
                split at ha
                rotate_left
                · cases ha
                rename_i hsz
                have HSZ:=aM hsz
                have HA2:=aM ha
                clear ha hsz
                have s1:(strOfNums [c]).size=1:=rfl
                have z1:=eq_false (show ¬ 9223372036854775807<(rdOf ByteArray.empty o.ws i).size+(strOfNums [c]).size by have:=HSZ.out.1;omega)
                have z2:=eq_false (show ¬ 9223372036854775807<(rdOf ByteArray.empty o.ws i).size+(strOfNums [c]).size+v.size by have:=HSZ.out.1;omega)
                have z3:=eq_false (show ¬ 9223372036854775807<((rdOf ByteArray.empty o.ws i) ++ strOfNums [c]).size+v.size by have:=HSZ.out.1;rw [ByteArray.size_append];omega)
                clear s1
                go_wp2
                refine start_ (n:=15) (S:=fun w'=>w'.cell? ⟨B,1,none⟩=some (.slice (some adw) o.ws.length cw)∧w'.cell? (adw.add i.toNat)=some (.string (rdOf ByteArray.empty o.ws i))) (ds:=([]:List Nat)) #[ff,ff,ff,ff,ff,ff,ff,ff,ff,ff,ff,ff,ff,ff,ff] (by kernel_rfl) rfl rfl (held2 (below_drew (Below.refl _ _)) hcw hwi) (fun hHeld => ?_)
                have HBd:=aM (below_drew (Below.refl _ wr):Below wr.heap.size wr wr.drew)
                generalize wr.drew=wd at HBd hHeld ⊢
                refine pH 0 71 (fl 15 1) rfl rfl ?_
                refine pH 1 72 (fl 15 3) rfl rfl ?_
                refine pH 2 73 (fl 15 7) rfl rfl ?_
                refine pH 4 75 (fl 15 23) rfl rfl ?_
                refine pH 7 78 (fl 15 151) rfl rfl ?_
                refine pH 11 82 (fl 15 2199) rfl rfl ?_
                refine tH2 3 74 (fl 15 2207) rfl rfl hHeld ?_
                refine pH 5 76 (fl 15 2239) rfl rfl ?_
                refine tH2 6 77 (fl 15 2303) rfl rfl hHeld ?_
                refine join_ (σ:=Value) 2 #[tt,tt,tt,tt,tt,tt,tt,tt,tt,tt,tt,tt,tt,ff,ff] (fun s=>[(79,s),(80,.string (strOfNums [c])),(81,.string ((rdOf ByteArray.empty o.ws i) ++ strOfNums [c])),(83,.string v)]) (fun _ w'=>Below wd.heap.size wd w') ?_ ?split
                case split =>
                  intro hcont
                  refine two_ (i:=8) (j:=12) (Ni:=some 79) (Nj:=some 83) #[tt,tt,tt,tt,tt,tt,tt,tt,tt,ff,ff,tt,ff,ff,ff] #[tt,tt,tt,tt,tt,tt,tt,tt,ff,ff,ff,tt,tt,ff,ff] rfl rfl rfl rfl (by kernel_rfl) (by decide) (by decide) (fun K hK => ?_) (fun K hK => ?_)
                  · refine Kd.R_lit_step (Kd.int .u8) _ 5 ?hg (N:=79) ?hd (xs:=([c]:List Int)) (inner:=[.int .u8 c]) (ok:=fun _=>True) (okp:=fun _=>True) ?hr ?hp (fun _ hk=>hk) trivial (Below.refl _ _) (Nat.le_refl _) (by simp) ?_;(case hd=>rfl);(case hg=>rfl);(case hr=>first|(go_simp;done)|(go_simp;rfl));(case hp=>exact(Reps.one (show Kd.M (Kd.int .u8) _ _ _ c [.int .u8 c] from rfl) (Reps.none _ _)))
                    intro vb wb hbo hbb hbg hbn
                    refine hK.out _ _ (held2 hbb hHeld.1 hHeld.2) (fun hHeld => ?_)
                    clear hK K hbg hbn
                    refine nH 79 ?_
                    refine two_ (i:=9) (j:=12) (Ni:=some 80) (Nj:=some 83) #[tt,tt,tt,tt,tt,tt,tt,tt,tt,tt,ff,tt,ff,ff,ff] #[tt,tt,tt,tt,tt,tt,tt,tt,tt,ff,ff,tt,tt,ff,ff] rfl rfl rfl rfl (by kernel_rfl) (by decide) (by decide) (fun K hK => ?_) (fun K hK => ?_)
                    · have hcv:=own_string (P:=Try.prog) Try.underlying31 Try.underlying5 Try.underlying9 (Kd.own_of_R hbo)
                      refine value_ (w1:=?_) (v:=?_) (by rfl) rfl ?_ ?_
                      rotate_left 2
                      · go_simp
                        constructor
                        · rfl
                        · rfl
                      refine hK.out _ _ hHeld (fun hHeld => ?_)
                      clear hK K hcv
                      refine nH 80 ?_
                      refine pH 10 81 (fl 15 4095) rfl rfl ?_
                      refine one_ (i:=12) (N:=some 83) #[tt,tt,tt,tt,tt,tt,tt,tt,tt,tt,tt,tt,tt,ff,ff] rfl rfl (by kernel_rfl) (by decide) (fun K hK => ?_)
                      refine goes_ Try.func16 (by kernel_rfl) rfl #[.string (rdOf ByteArray.empty o.ws kk)] (by rfl) rfl rfl (by(try simp only [zE,zF,zG]);first|done|rfl|(simp only [zH,zI];rfl)) ?_
                      with_reducible refine(impl_InverseWord.calls k1 _ v _ HV.out).mono ?_
                      rintro e wA ⟨rfl,hb⟩
                      refine ⟨_,rfl,?_⟩
                      refine hK.out _ _ (held2 hb hHeld.1 hHeld.2) (fun hHeld => ?_)
                      clear hK K
                      refine norm_ (a':=putAll _ [(79,vb),(80,.string (strOfNums [c])),(81,.string ((rdOf ByteArray.empty o.ws i) ++ strOfNums [c])),(83,.string v)]) ?_ (hcont vb _ (below_step hbb hb))
                      simp only [putAll,Act.put,zA,zB,zC]
                      try rfl
                    · refine goes_ Try.func16 (by kernel_rfl) rfl #[.string (rdOf ByteArray.empty o.ws kk)] (by rfl) rfl rfl (by(try simp only [zE,zF,zG]);first|done|rfl|(simp only [zH,zI];rfl)) ?_
                      with_reducible refine(impl_InverseWord.calls k1 _ v _ HV.out).mono ?_
                      rintro e wA ⟨rfl,hb⟩
                      refine ⟨_,rfl,?_⟩
                      refine hK.out _ _ (held2 hb hHeld.1 hHeld.2) (fun hHeld => ?_)
                      clear hK K
                      refine nH 83 ?_
                      refine one_ (i:=9) (N:=some 80) #[tt,tt,tt,tt,tt,tt,tt,tt,tt,tt,ff,tt,tt,ff,ff] rfl rfl (by kernel_rfl) (by decide) (fun K hK => ?_)
                      have hcv:=own_string (P:=Try.prog) Try.underlying31 Try.underlying5 Try.underlying9 (Kd.own_of_R (Kd.R_below hbo hb))
                      refine value_ (w1:=?_) (v:=?_) (by rfl) rfl ?_ ?_
                      rotate_left 2
                      · go_simp
                        constructor
                        · rfl
                        · rfl
                      refine hK.out _ _ hHeld (fun hHeld => ?_)
                      clear hK K hcv
                      refine nH 80 ?_
                      refine pH 10 81 (fl 15 8191) rfl rfl ?_
                      refine norm_ (a':=putAll _ [(79,vb),(80,.string (strOfNums [c])),(81,.string ((rdOf ByteArray.empty o.ws i) ++ strOfNums [c])),(83,.string v)]) ?_ (hcont vb _ (below_step hbb hb))
                      simp only [putAll,Act.put,zA,zB,zC]
                      try rfl
                  · refine goes_ Try.func16 (by kernel_rfl) rfl #[.string (rdOf ByteArray.empty o.ws kk)] (by rfl) rfl rfl (by(try simp only [zE,zF,zG]);first|done|rfl|(simp only [zH,zI];rfl)) ?_
                    with_reducible refine(impl_InverseWord.calls k1 _ v _ HV.out).mono ?_
                    rintro e wA ⟨rfl,hb⟩
                    refine ⟨_,rfl,?_⟩
                    refine hK.out _ _ (held2 hb hHeld.1 hHeld.2) (fun hHeld => ?_)
                    clear hK K
                    refine nH 83 ?_
                    refine one_ (i:=8) (N:=some 79) #[tt,tt,tt,tt,tt,tt,tt,tt,tt,ff,ff,tt,tt,ff,ff] rfl rfl (by kernel_rfl) (by decide) (fun K hK => ?_)
                    refine Kd.R_lit_step (Kd.int .u8) _ 5 ?hg (N:=79) ?hd (xs:=([c]:List Int)) (inner:=[.int .u8 c]) (ok:=fun _=>True) (okp:=fun _=>True) ?hr ?hp (fun _ hk=>hk) trivial (Below.refl _ _) (Nat.le_refl _) (by simp) ?_;(case hd=>rfl);(case hg=>rfl);(case hr=>first|(go_simp;done)|(go_simp;rfl));(case hp=>exact(Reps.one (show Kd.M (Kd.int .u8) _ _ _ c [.int .u8 c] from rfl) (Reps.none _ _)))
                    intro vb wb hbo hbb hbg hbn
                    refine hK.out _ _ (held2 hbb hHeld.1 hHeld.2) (fun hHeld => ?_)
                    clear hK K hbg hbn
                    refine nH 79 ?_
                    refine one_ (i:=9) (N:=some 80) #[tt,tt,tt,tt,tt,tt,tt,tt,tt,tt,ff,tt,tt,ff,ff] rfl rfl (by kernel_rfl) (by decide) (fun K hK => ?_)
                    have hcv:=own_string (P:=Try.prog) Try.underlying31 Try.underlying5 Try.underlying9 (Kd.own_of_R hbo)
                    refine value_ (w1:=?_) (v:=?_) (by rfl) rfl ?_ ?_
                    rotate_left 2
                    · go_simp
                      constructor
                      · rfl
                      · rfl
                    refine hK.out _ _ hHeld (fun hHeld => ?_)
                    clear hK K hcv
                    refine nH 80 ?_
                    refine pH 10 81 (fl 15 8191) rfl rfl ?_
                    refine norm_ (a':=putAll _ [(79,vb),(80,.string (strOfNums [c])),(81,.string ((rdOf ByteArray.empty o.ws i) ++ strOfNums [c])),(83,.string v)]) ?_ (hcont vb _ (below_step hb hbb))
                    simp only [putAll,Act.put,zA,zB,zC]
                    try rfl
                rintro sv wj hbj
                refine norm_ (a':=?_) ?_ ?_
                rotate_left
                · simp only [putAll,Act.put,zA,zB,zC]
                  rfl
                refine pH 13 84 (fl 15 16383) rfl rfl ?_
                refine pH 14 12 (fl 15 32767) rfl rfl ?_
                refine done_ (by kernel_rfl) ?_
                have HBJ:=aM (below_step HBd.out hbj)
                have hcj:wj.cell? ⟨B,1,none⟩=some (.slice (some adw) o.ws.length cw):=(HBJ.out.cell (World.block_lt_of_cell? _ _ hcw)).trans hcw
                have hwj:wj.cell? (adw.add i.toNat)=some (.string (rdOf ByteArray.empty o.ws i)):=(HBJ.out.cell (World.block_lt_of_cell? _ _ hwi)).trans hwi
                clear hbj HBd hHeld hcw hwi hwk
                obtain ⟨b1,hb1,ha⟩:=oB HA2.out
                have HW1:=aM hb1
                clear HA2 hb1
                cases b1 with
                | false =>
                  have HA2:=aM (show some none=some a from ha)
                  clear ha
                  have hr:a=none:=(Option.some.inj HA2.out).symm
                  subst hr
                  have hb:b=none:=by
                    rcases HN.out with ⟨_,h2⟩|⟨q,h1,_⟩
                    · exact h2
                    · cases h1
                  subst hb
                  obtain ⟨rfl,rfl⟩:=HRES.out.1 rfl
                  go_wp2_with (first
                    | ((with_reducible refine gate_callee (f:=31) rfl ?_);(try(refine gate_guard (by rfl) ?_;dsimp only));refine goesL_ (some 86) rfl rfl Try.func31 (by kernel_rfl) rfl #[.string (rdOf ByteArray.empty o.ws kk)] rfl (by(try simp only [zE,zF,zG]);first|done|rfl|(simp only [zH,zI];rfl)) ?_;(with_reducible refine(impl_WordOk.calls k1 _ false _ HW1.out).mono ?_);rintro e w8 ⟨rfl,hd⟩;refine ⟨_,rfl,?_⟩;have HB8:=aM (below_step HBJ.out hd.below);have hc8:w8.cell? ⟨B,1,none⟩=some (.slice (some adw) o.ws.length cw):=(hd.below.cell (World.block_lt_of_cell? _ _ hcj)).trans hcj;have hw8:w8.cell? (adw.add i.toNat)=some (.string (rdOf ByteArray.empty o.ws i)):=(hd.below.cell (World.block_lt_of_cell? _ _ hwj)).trans hwj;clear hd))
                  go_ret2
                  exact ⟨.slice none 0 0,rfl,Kd.R_nil _ _ _ _ _,below_step HB2.out (below_step HBL.out HB8.out)⟩
                | true =>
                  have HA2:=aM ha
                  clear ha
                  obtain ⟨b2,hb2,ha⟩:=oB HA2.out
                  have HW2:=aM hb2
                  clear HA2 hb2
                  cases b2 with
                  | false =>
                    have HA2:=aM (show some none=some a from ha)
                    clear ha
                    have hr:a=none:=(Option.some.inj HA2.out).symm
                    subst hr
                    have hb:b=none:=by
                      rcases HN.out with ⟨_,h2⟩|⟨q,h1,_⟩
                      · exact h2
                      · cases h1
                    subst hb
                    obtain ⟨rfl,rfl⟩:=HRES.out.1 rfl
                    go_wp2_with (first
                      | ((with_reducible refine gate_callee (f:=31) rfl ?_);(try(refine gate_guard (by rfl) ?_;dsimp only));refine goesL_ (some 86) rfl rfl Try.func31 (by kernel_rfl) rfl #[.string (rdOf ByteArray.empty o.ws kk)] rfl (by(try simp only [zE,zF,zG]);first|done|rfl|(simp only [zH,zI];rfl)) ?_;(with_reducible refine(impl_WordOk.calls k1 _ true _ HW1.out).mono ?_);rintro e w8 ⟨rfl,hd⟩;refine ⟨_,rfl,?_⟩;have HB8:=aM (below_step HBJ.out hd.below);have hc8:w8.cell? ⟨B,1,none⟩=some (.slice (some adw) o.ws.length cw):=(hd.below.cell (World.block_lt_of_cell? _ _ hcj)).trans hcj;have hw8:w8.cell? (adw.add i.toNat)=some (.string (rdOf ByteArray.empty o.ws i)):=(hd.below.cell (World.block_lt_of_cell? _ _ hwj)).trans hwj;clear hd)
                      | ((with_reducible refine gate_callee (f:=31) rfl ?_);(try(refine gate_guard (by rfl) ?_;dsimp only));refine goesL_ (some 96) rfl rfl Try.func31 (by kernel_rfl) rfl #[.string (rdOf ByteArray.empty o.ws i)] rfl (by(try simp only [zE,zF,zG]);first|done|rfl|(simp only [zH,zI];rfl)) ?_;(with_reducible refine(impl_WordOk.calls k1 _ false _ HW2.out).mono ?_);rintro e w9 ⟨rfl,hd⟩;refine ⟨_,rfl,?_⟩;have HB9:=aM (below_step HB8.out hd.below);clear hd))
                    go_ret2
                    exact ⟨.slice none 0 0,rfl,Kd.R_nil _ _ _ _ _,below_step HB2.out (below_step HBL.out HB9.out)⟩
                  | true =>
                    have HA2:=aM ha
                    clear ha
                    obtain ⟨b3,hb3,ha⟩:=oB HA2.out
                    have HW3:=aM hb3
                    clear HA2 hb3
                    cases b3 with
                    | false =>
                      have HA2:=aM (show some none=some a from ha)
                      clear ha
                      have hr:a=none:=(Option.some.inj HA2.out).symm
                      subst hr
                      have hb:b=none:=by
                        rcases HN.out with ⟨_,h2⟩|⟨q,h1,_⟩
                        · exact h2
                        · cases h1
                      subst hb
                      obtain ⟨rfl,rfl⟩:=HRES.out.1 rfl
                      go_wp2_with (first
                        | ((with_reducible refine gate_callee (f:=31) rfl ?_);(try(refine gate_guard (by rfl) ?_;dsimp only));refine goesL_ (some 86) rfl rfl Try.func31 (by kernel_rfl) rfl #[.string (rdOf ByteArray.empty o.ws kk)] rfl (by(try simp only [zE,zF,zG]);first|done|rfl|(simp only [zH,zI];rfl)) ?_;(with_reducible refine(impl_WordOk.calls k1 _ true _ HW1.out).mono ?_);rintro e w8 ⟨rfl,hd⟩;refine ⟨_,rfl,?_⟩;have HB8:=aM (below_step HBJ.out hd.below);have hc8:w8.cell? ⟨B,1,none⟩=some (.slice (some adw) o.ws.length cw):=(hd.below.cell (World.block_lt_of_cell? _ _ hcj)).trans hcj;have hw8:w8.cell? (adw.add i.toNat)=some (.string (rdOf ByteArray.empty o.ws i)):=(hd.below.cell (World.block_lt_of_cell? _ _ hwj)).trans hwj;clear hd)
                        | ((with_reducible refine gate_callee (f:=31) rfl ?_);(try(refine gate_guard (by rfl) ?_;dsimp only));refine goesL_ (some 96) rfl rfl Try.func31 (by kernel_rfl) rfl #[.string (rdOf ByteArray.empty o.ws i)] rfl (by(try simp only [zE,zF,zG]);first|done|rfl|(simp only [zH,zI];rfl)) ?_;(with_reducible refine(impl_WordOk.calls k1 _ true _ HW2.out).mono ?_);rintro e w9 ⟨rfl,hd⟩;refine ⟨_,rfl,?_⟩;have HB9:=aM (below_step HB8.out hd.below);clear hd)
                        | ((with_reducible refine gate_callee (f:=31) rfl ?_);(try(refine gate_guard (by rfl) ?_;dsimp only));refine goesL_ (some 101) rfl rfl Try.func31 (by kernel_rfl) rfl #[.string ((rdOf ByteArray.empty o.ws i) ++ strOfNums [c] ++ v)] rfl (by(try simp only [zE,zF,zG]);first|done|rfl|(simp only [zH,zI];rfl)) ?_;(with_reducible refine(impl_WordOk.calls k1 _ false _ HW3.out).mono ?_);rintro e w10 ⟨rfl,hd⟩;refine ⟨_,rfl,?_⟩;have HB10:=aM (below_step HB9.out hd.below);clear hd))
                      go_ret2
                      exact ⟨.slice none 0 0,rfl,Kd.R_nil _ _ _ _ _,below_step HB2.out (below_step HBL.out HB10.out)⟩
                    | true =>
                      have HA2:=aM ha
                      clear ha
                      have hq:genRest o k1 i (j+1) (out ++ [((rdOf ByteArray.empty o.ws i) ++ strOfNums [c] ++ v)])=some b:=by
                        rcases HN.out with ⟨h1,_⟩|⟨q,h1,h2⟩
                        · rw [h1] at HA2
                          exact absurd HA2.out (by simp)
                        · rw [h1] at HA2
                          rw [Option.some.inj (Option.some.inj HA2.out)]
                          exact h2
                      have HQ:=aM hq
                      clear hq HA2 HN
                      go_wp2_with (first
                        | ((with_reducible refine gate_callee (f:=31) rfl ?_);(try(refine gate_guard (by rfl) ?_;dsimp only));refine goesL_ (some 86) rfl rfl Try.func31 (by kernel_rfl) rfl #[.string (rdOf ByteArray.empty o.ws kk)] rfl (by(try simp only [zE,zF,zG]);first|done|rfl|(simp only [zH,zI];rfl)) ?_;(with_reducible refine(impl_WordOk.calls k1 _ true _ HW1.out).mono ?_);rintro e w8 ⟨rfl,hd⟩;refine ⟨_,rfl,?_⟩;have HB8:=aM (below_step HBJ.out hd.below);have hc8:w8.cell? ⟨B,1,none⟩=some (.slice (some adw) o.ws.length cw):=(hd.below.cell (World.block_lt_of_cell? _ _ hcj)).trans hcj;have hw8:w8.cell? (adw.add i.toNat)=some (.string (rdOf ByteArray.empty o.ws i)):=(hd.below.cell (World.block_lt_of_cell? _ _ hwj)).trans hwj;clear hd)
                        | ((with_reducible refine gate_callee (f:=31) rfl ?_);(try(refine gate_guard (by rfl) ?_;dsimp only));refine goesL_ (some 96) rfl rfl Try.func31 (by kernel_rfl) rfl #[.string (rdOf ByteArray.empty o.ws i)] rfl (by(try simp only [zE,zF,zG]);first|done|rfl|(simp only [zH,zI];rfl)) ?_;(with_reducible refine(impl_WordOk.calls k1 _ true _ HW2.out).mono ?_);rintro e w9 ⟨rfl,hd⟩;refine ⟨_,rfl,?_⟩;have HB9:=aM (below_step HB8.out hd.below);clear hd)
                        | ((with_reducible refine gate_callee (f:=31) rfl ?_);(try(refine gate_guard (by rfl) ?_;dsimp only));refine goesL_ (some 101) rfl rfl Try.func31 (by kernel_rfl) rfl #[.string ((rdOf ByteArray.empty o.ws i) ++ strOfNums [c] ++ v)] rfl (by(try simp only [zE,zF,zG]);first|done|rfl|(simp only [zH,zI];rfl)) ?_;(with_reducible refine(impl_WordOk.calls k1 _ true _ HW3.out).mono ?_);rintro e w10 ⟨rfl,hd⟩;refine ⟨_,rfl,?_⟩;have HB10:=aM (below_step HB9.out hd.below);clear hd)
                        | ((with_reducible refine gate_builtin (b:=.append) (xs:=#[.tmp 104,.tmp 106]) rfl ?_);at_builtin;refine Kd.R_append Kd.string (w0:=w2) w2.heap.size rfl (.tmp 104) (.tmp 106) 33 9 (.string ⟨#[]⟩) 16 rfl Try.underlying33 info9 rfl (by decide) (by omega) (.slice Ao out.length co) out ((rdOf ByteArray.empty o.ws i) ++ strOfNums [c] ++ v) [.string ((rdOf ByteArray.empty o.ws i) ++ strOfNums [c] ++ v)] (fun _=>True) (fun _=>False) rfl rfl rfl (fun _ hk=>hk.elim) (fun _ _=>trivial) (Kd.R_below HR.out HB10.out) (below_step HBL.out HB10.out) (below_size (below_step HBL.out HB10.out)) (by have:=HSZ.out.2;omega) ?_;intro v61 w11 hl hb hg hat;obtain ⟨An,cn,e0⟩:=Kd.R_slice hl;subst e0;have HR11:=aM hl;have HB11:=aM hb;have HL11:=aM (blk_grown (blk_below HL.out HB10.out) hg (Kd.R_ne (Kd.R_below HR.out HB10.out) (blk_below HL.out HB10.out) (by decide)));clear hl hb hg hat))
                      go_roundg q1
                      case measure=>have:=HJ.out;omega
                      case rel=>exact ⟨j+1,out ++ [((rdOf ByteArray.empty o.ws i) ++ strOfNums [c] ++ v)],An,cn,(by rw [List.length_append];rfl),(by first|rfl|rw [HWJ.out]|(simp;done)),⟨by have:=HJ.out;omega⟩,HQ,HR11,HL11,HB11⟩
            · have q1_:(rd o.fr kk == i)=false:=beq_eq_false_iff_ne.2 hf
              rw [if_neg (fun h=>hf h.1)] at ha
              clear hf
              obtain ⟨v,hv,ha⟩:=oB ha
              have HV:=aM hv
              clear hv
              split at ha
              rotate_left
              · cases ha
              rename_i hsz
              have HSZ:=aM hsz
              have HA2:=aM ha
              clear ha hsz
              have s1:(strOfNums [c]).size=1:=rfl
              have z1:=eq_false (show ¬ 9223372036854775807<(rdOf ByteArray.empty o.ws i).size+(strOfNums [c]).size by have:=HSZ.out.1;omega)
              have z2:=eq_false (show ¬ 9223372036854775807<(rdOf ByteArray.empty o.ws i).size+(strOfNums [c]).size+v.size by have:=HSZ.out.1;omega)
              have z3:=eq_false (show ¬ 9223372036854775807<((rdOf ByteArray.empty o.ws i) ++ strOfNums [c]).size+v.size by have:=HSZ.out.1;rw [ByteArray.size_append];omega)
              clear s1
              go_wp2
              refine start_ (n:=15) (S:=fun w'=>w'.cell? ⟨B,1,none⟩=some (.slice (some adw) o.ws.length cw)∧w'.cell? (adw.add i.toNat)=some (.string (rdOf ByteArray.empty o.ws i))) (ds:=([]:List Nat)) #[ff,ff,ff,ff,ff,ff,ff,ff,ff,ff,ff,ff,ff,ff,ff] (by kernel_rfl) rfl rfl (held2 (below_drew (Below.refl _ _)) hcw hwi) (fun hHeld => ?_)
              have HBd:=aM (below_drew (Below.refl _ wr):Below wr.heap.size wr wr.drew)
              generalize wr.drew=wd at HBd hHeld ⊢
              refine pH 0 71 (fl 15 1) rfl rfl ?_
              refine pH 1 72 (fl 15 3) rfl rfl ?_
              refine pH 2 73 (fl 15 7) rfl rfl ?_
              refine pH 4 75 (fl 15 23) rfl rfl ?_
              refine pH 7 78 (fl 15 151) rfl rfl ?_
              refine pH 11 82 (fl 15 2199) rfl rfl ?_
              refine tH2 3 74 (fl 15 2207) rfl rfl hHeld ?_
              refine pH 5 76 (fl 15 2239) rfl rfl ?_
              refine tH2 6 77 (fl 15 2303) rfl rfl hHeld ?_
              refine join_ (σ:=Value) 2 #[tt,tt,tt,tt,tt,tt,tt,tt,tt,tt,tt,tt,tt,ff,ff] (fun s=>[(79,s),(80,.string (strOfNums [c])),(81,.string ((rdOf ByteArray.empty o.ws i) ++ strOfNums [c])),(83,.string v)]) (fun _ w'=>Below wd.heap.size wd w') ?_ ?split
              case split =>
                intro hcont
                refine two_ (i:=8) (j:=12) (Ni:=some 79) (Nj:=some 83) #[tt,tt,tt,tt,tt,tt,tt,tt,tt,ff,ff,tt,ff,ff,ff] #[tt,tt,tt,tt,tt,tt,tt,tt,ff,ff,ff,tt,tt,ff,ff] rfl rfl rfl rfl (by kernel_rfl) (by decide) (by decide) (fun K hK => ?_) (fun K hK => ?_)
                · refine Kd.R_lit_step (Kd.int .u8) _ 5 ?hg (N:=79) ?hd (xs:=([c]:List Int)) (inner:=[.int .u8 c]) (ok:=fun _=>True) (okp:=fun _=>True) ?hr ?hp (fun _ hk=>hk) trivial (Below.refl _ _) (Nat.le_refl _) (by simp) ?_;(case hd=>rfl);(case hg=>rfl);(case hr=>first|(go_simp;done)|(go_simp;rfl));(case hp=>exact(Reps.one (show Kd.M (Kd.int .u8) _ _ _ c [.int .u8 c] from rfl) (Reps.none _ _)))
                  intro vb wb hbo hbb hbg hbn
                  refine hK.out _ _ (held2 hbb hHeld.1 hHeld.2) (fun hHeld => ?_)
                  clear hK K hbg hbn
                  refine nH 79 ?_
                  refine two_ (i:=9) (j:=12) (Ni:=some 80) (Nj:=some 83) #[tt,tt,tt,tt,tt,tt,tt,tt,tt,tt,ff,tt,ff,ff,ff] #[tt,tt,tt,tt,tt,tt,tt,tt,tt,ff,ff,tt,tt,ff,ff] rfl rfl rfl rfl (by kernel_rfl) (by decide) (by decide) (fun K hK => ?_) (fun K hK => ?_)
                  · have hcv:=own_string (P:=Try.prog) Try.underlying31 Try.underlying5 Try.underlying9 (Kd.own_of_R hbo)
                    refine value_ (w1:=?_) (v:=?_) (by rfl) rfl ?_ ?_
                    rotate_left 2
                    · go_simp
                      constructor
                      · rfl
                      · rfl
                    refine hK.out _ _ hHeld (fun hHeld => ?_)
                    clear hK K hcv
                    refine nH 80 ?_
                    refine pH 10 81 (fl 15 4095) rfl rfl ?_
                    refine one_ (i:=12) (N:=some 83) #[tt,tt,tt,tt,tt,tt,tt,tt,tt,tt,tt,tt,tt,ff,ff] rfl rfl (by kernel_rfl) (by decide) (fun K hK => ?_)
                    refine goes_ Try.func16 (by kernel_rfl) rfl #[.string (rdOf ByteArray.empty o.ws kk)] (by rfl) rfl rfl (by(try simp only [zE,zF,zG]);first|done|rfl|(simp only [zH,zI];rfl)) ?_
                    with_reducible refine(impl_InverseWord.calls k1 _ v _ HV.out).mono ?_
                    rintro e wA ⟨rfl,hb⟩
                    refine ⟨_,rfl,?_⟩
                    refine hK.out _ _ (held2 hb hHeld.1 hHeld.2) (fun hHeld => ?_)
                    clear hK K
                    refine norm_ (a':=putAll _ [(79,vb),(80,.string (strOfNums [c])),(81,.string ((rdOf ByteArray.empty o.ws i) ++ strOfNums [c])),(83,.string v)]) ?_ (hcont vb _ (below_step hbb hb))
                    simp only [putAll,Act.put,zA,zB,zC]
                    try rfl
                  · refine goes_ Try.func16 (by kernel_rfl) rfl #[.string (rdOf ByteArray.empty o.ws kk)] (by rfl) rfl rfl (by(try simp only [zE,zF,zG]);first|done|rfl|(simp only [zH,zI];rfl)) ?_
                    with_reducible refine(impl_InverseWord.calls k1 _ v _ HV.out).mono ?_
                    rintro e wA ⟨rfl,hb⟩
                    refine ⟨_,rfl,?_⟩
                    refine hK.out _ _ (held2 hb hHeld.1 hHeld.2) (fun hHeld => ?_)
                    clear hK K
                    refine nH 83 ?_
                    refine one_ (i:=9) (N:=some 80) #[tt,tt,tt,tt,tt,tt,tt,tt,tt,tt,ff,tt,tt,ff,ff] rfl rfl (by kernel_rfl) (by decide) (fun K hK => ?_)
                    have hcv:=own_string (P:=Try.prog) Try.underlying31 Try.underlying5 Try.underlying9 (Kd.own_of_R (Kd.R_below hbo hb))
                    refine value_ (w1:=?_) (v:=?_) (by rfl) rfl ?_ ?_
                    rotate_left 2
                    · go_simp
                      constructor
                      · rfl
                      · rfl
                    refine hK.out _ _ hHeld (fun hHeld => ?_)
                    clear hK K hcv
                    refine nH 80 ?_
                    refine pH 10 81 (fl 15 8191) rfl rfl ?_
                    refine norm_ (a':=putAll _ [(79,vb),(80,.string (strOfNums [c])),(81,.string ((rdOf ByteArray.empty o.ws i) ++ strOfNums [c])),(83,.string v)]) ?_ (hcont vb _ (below_step hbb hb))
                    simp only [putAll,Act.put,zA,zB,zC]
                    try rfl
                · refine goes_ Try.func16 (by kernel_rfl) rfl #[.string (rdOf ByteArray.empty o.ws kk)] (by rfl) rfl rfl (by(try simp only [zE,zF,zG]);first|done|rfl|(simp only [zH,zI];rfl)) ?_
                  with_reducible refine(impl_InverseWord.calls k1 _ v _ HV.out).mono ?_
                  rintro e wA ⟨rfl,hb⟩
                  refine ⟨_,rfl,?_⟩
                  refine hK.out _ _ (held2 hb hHeld.1 hHeld.2) (fun hHeld => ?_)
                  clear hK K
                  refine nH 83 ?_
                  refine one_ (i:=8) (N:=some 79) #[tt,tt,tt,tt,tt,tt,tt,tt,tt,ff,ff,tt,tt,ff,ff] rfl rfl (by kernel_rfl) (by decide) (fun K hK => ?_)
                  refine Kd.R_lit_step (Kd.int .u8) _ 5 ?hg (N:=79) ?hd (xs:=([c]:List Int)) (inner:=[.int .u8 c]) (ok:=fun _=>True) (okp:=fun _=>True) ?hr ?hp (fun _ hk=>hk) trivial (Below.refl _ _) (Nat.le_refl _) (by simp) ?_;(case hd=>rfl);(case hg=>rfl);(case hr=>first|(go_simp;done)|(go_simp;rfl));(case hp=>exact(Reps.one (show Kd.M (Kd.int .u8) _ _ _ c [.int .u8 c] from rfl) (Reps.none _ _)))
                  intro vb wb hbo hbb hbg hbn
                  refine hK.out _ _ (held2 hbb hHeld.1 hHeld.2) (fun hHeld => ?_)
                  clear hK K hbg hbn
                  refine nH 79 ?_
                  refine one_ (i:=9) (N:=some 80) #[tt,tt,tt,tt,tt,tt,tt,tt,tt,tt,ff,tt,tt,ff,ff] rfl rfl (by kernel_rfl) (by decide) (fun K hK => ?_)
                  have hcv:=own_string (P:=Try.prog) Try.underlying31 Try.underlying5 Try.underlying9 (Kd.own_of_R hbo)
                  refine value_ (w1:=?_) (v:=?_) (by rfl) rfl ?_ ?_
                  rotate_left 2
                  · go_simp
                    constructor
                    · rfl
                    · rfl
                  refine hK.out _ _ hHeld (fun hHeld => ?_)
                  clear hK K hcv
                  refine nH 80 ?_
                  refine pH 10 81 (fl 15 8191) rfl rfl ?_
                  refine norm_ (a':=putAll _ [(79,vb),(80,.string (strOfNums [c])),(81,.string ((rdOf ByteArray.empty o.ws i) ++ strOfNums [c])),(83,.string v)]) ?_ (hcont vb _ (below_step hb hbb))
                  simp only [putAll,Act.put,zA,zB,zC]
                  try rfl
              rintro sv wj hbj
              refine norm_ (a':=?_) ?_ ?_
              rotate_left
              · simp only [putAll,Act.put,zA,zB,zC]
                rfl
              refine pH 13 84 (fl 15 16383) rfl rfl ?_
              refine pH 14 12 (fl 15 32767) rfl rfl ?_
              refine done_ (by kernel_rfl) ?_
              have HBJ:=aM (below_step HBd.out hbj)
              have hcj:wj.cell? ⟨B,1,none⟩=some (.slice (some adw) o.ws.length cw):=(HBJ.out.cell (World.block_lt_of_cell? _ _ hcw)).trans hcw
              have hwj:wj.cell? (adw.add i.toNat)=some (.string (rdOf ByteArray.empty o.ws i)):=(HBJ.out.cell (World.block_lt_of_cell? _ _ hwi)).trans hwi
              clear hbj HBd hHeld hcw hwi hwk
              obtain ⟨b1,hb1,ha⟩:=oB HA2.out
              have HW1:=aM hb1
              clear HA2 hb1
              cases b1 with
              | false =>
                have HA2:=aM (show some none=some a from ha)
                clear ha
                have hr:a=none:=(Option.some.inj HA2.out).symm
                subst hr
                have hb:b=none:=by
                  rcases HN.out with ⟨_,h2⟩|⟨q,h1,_⟩
                  · exact h2
                  · cases h1
                subst hb
                obtain ⟨rfl,rfl⟩:=HRES.out.1 rfl
                go_wp2_with (first
                  | ((with_reducible refine gate_callee (f:=31) rfl ?_);(try(refine gate_guard (by rfl) ?_;dsimp only));refine goesL_ (some 86) rfl rfl Try.func31 (by kernel_rfl) rfl #[.string (rdOf ByteArray.empty o.ws kk)] rfl (by(try simp only [zE,zF,zG]);first|done|rfl|(simp only [zH,zI];rfl)) ?_;(with_reducible refine(impl_WordOk.calls k1 _ false _ HW1.out).mono ?_);rintro e w8 ⟨rfl,hd⟩;refine ⟨_,rfl,?_⟩;have HB8:=aM (below_step HBJ.out hd.below);have hc8:w8.cell? ⟨B,1,none⟩=some (.slice (some adw) o.ws.length cw):=(hd.below.cell (World.block_lt_of_cell? _ _ hcj)).trans hcj;have hw8:w8.cell? (adw.add i.toNat)=some (.string (rdOf ByteArray.empty o.ws i)):=(hd.below.cell (World.block_lt_of_cell? _ _ hwj)).trans hwj;clear hd))
                go_ret2
                exact ⟨.slice none 0 0,rfl,Kd.R_nil _ _ _ _ _,below_step HB2.out (below_step HBL.out HB8.out)⟩
              | true =>
                have HA2:=aM ha
                clear ha
                obtain ⟨b2,hb2,ha⟩:=oB HA2.out
                have HW2:=aM hb2
                clear HA2 hb2
                cases b2 with
                | false =>
                  have HA2:=aM (show some none=some a from ha)
                  clear ha
                  have hr:a=none:=(Option.some.inj HA2.out).symm
                  subst hr
                  have hb:b=none:=by
                    rcases HN.out with ⟨_,h2⟩|⟨q,h1,_⟩
                    · exact h2
                    · cases h1
                  subst hb
                  obtain ⟨rfl,rfl⟩:=HRES.out.1 rfl
                  go_wp2_with (first
                    | ((with_reducible refine gate_callee (f:=31) rfl ?_);(try(refine gate_guard (by rfl) ?_;dsimp only));refine goesL_ (some 86) rfl rfl Try.func31 (by kernel_rfl) rfl #[.string (rdOf ByteArray.empty o.ws kk)] rfl (by(try simp only [zE,zF,zG]);first|done|rfl|(simp only [zH,zI];rfl)) ?_;(with_reducible refine(impl_WordOk.calls k1 _ true _ HW1.out).mono ?_);rintro e w8 ⟨rfl,hd⟩;refine ⟨_,rfl,?_⟩;have HB8:=aM (below_step HBJ.out hd.below);have hc8:w8.cell? ⟨B,1,none⟩=some (.slice (some adw) o.ws.length cw):=(hd.below.cell (World.block_lt_of_cell? _ _ hcj)).trans hcj;have hw8:w8.cell? (adw.add i.toNat)=some (.string (rdOf ByteArray.empty o.ws i)):=(hd.below.cell (World.block_lt_of_cell? _ _ hwj)).trans hwj;clear hd)
                    | ((with_reducible refine gate_callee (f:=31) rfl ?_);(try(refine gate_guard (by rfl) ?_;dsimp only));refine goesL_ (some 96) rfl rfl Try.func31 (by kernel_rfl) rfl #[.string (rdOf ByteArray.empty o.ws i)] rfl (by(try simp only [zE,zF,zG]);first|done|rfl|(simp only [zH,zI];rfl)) ?_;(with_reducible refine(impl_WordOk.calls k1 _ false _ HW2.out).mono ?_);rintro e w9 ⟨rfl,hd⟩;refine ⟨_,rfl,?_⟩;have HB9:=aM (below_step HB8.out hd.below);clear hd))
                  go_ret2
                  exact ⟨.slice none 0 0,rfl,Kd.R_nil _ _ _ _ _,below_step HB2.out (below_step HBL.out HB9.out)⟩
                | true =>
                  have HA2:=aM ha
                  clear ha
                  obtain ⟨b3,hb3,ha⟩:=oB HA2.out
                  have HW3:=aM hb3
                  clear HA2 hb3
                  cases b3 with
                  | false =>
                    have HA2:=aM (show some none=some a from ha)
                    clear ha
                    have hr:a=none:=(Option.some.inj HA2.out).symm
                    subst hr
                    have hb:b=none:=by
                      rcases HN.out with ⟨_,h2⟩|⟨q,h1,_⟩
                      · exact h2
                      · cases h1
                    subst hb
                    obtain ⟨rfl,rfl⟩:=HRES.out.1 rfl
                    go_wp2_with (first
                      | ((with_reducible refine gate_callee (f:=31) rfl ?_);(try(refine gate_guard (by rfl) ?_;dsimp only));refine goesL_ (some 86) rfl rfl Try.func31 (by kernel_rfl) rfl #[.string (rdOf ByteArray.empty o.ws kk)] rfl (by(try simp only [zE,zF,zG]);first|done|rfl|(simp only [zH,zI];rfl)) ?_;(with_reducible refine(impl_WordOk.calls k1 _ true _ HW1.out).mono ?_);rintro e w8 ⟨rfl,hd⟩;refine ⟨_,rfl,?_⟩;have HB8:=aM (below_step HBJ.out hd.below);have hc8:w8.cell? ⟨B,1,none⟩=some (.slice (some adw) o.ws.length cw):=(hd.below.cell (World.block_lt_of_cell? _ _ hcj)).trans hcj;have hw8:w8.cell? (adw.add i.toNat)=some (.string (rdOf ByteArray.empty o.ws i)):=(hd.below.cell (World.block_lt_of_cell? _ _ hwj)).trans hwj;clear hd)
                      | ((with_reducible refine gate_callee (f:=31) rfl ?_);(try(refine gate_guard (by rfl) ?_;dsimp only));refine goesL_ (some 96) rfl rfl Try.func31 (by kernel_rfl) rfl #[.string (rdOf ByteArray.empty o.ws i)] rfl (by(try simp only [zE,zF,zG]);first|done|rfl|(simp only [zH,zI];rfl)) ?_;(with_reducible refine(impl_WordOk.calls k1 _ true _ HW2.out).mono ?_);rintro e w9 ⟨rfl,hd⟩;refine ⟨_,rfl,?_⟩;have HB9:=aM (below_step HB8.out hd.below);clear hd)
                      | ((with_reducible refine gate_callee (f:=31) rfl ?_);(try(refine gate_guard (by rfl) ?_;dsimp only));refine goesL_ (some 101) rfl rfl Try.func31 (by kernel_rfl) rfl #[.string ((rdOf ByteArray.empty o.ws i) ++ strOfNums [c] ++ v)] rfl (by(try simp only [zE,zF,zG]);first|done|rfl|(simp only [zH,zI];rfl)) ?_;(with_reducible refine(impl_WordOk.calls k1 _ false _ HW3.out).mono ?_);rintro e w10 ⟨rfl,hd⟩;refine ⟨_,rfl,?_⟩;have HB10:=aM (below_step HB9.out hd.below);clear hd))
                    go_ret2
                    exact ⟨.slice none 0 0,rfl,Kd.R_nil _ _ _ _ _,below_step HB2.out (below_step HBL.out HB10.out)⟩
                  | true =>
                    have HA2:=aM ha
                    clear ha
                    have hq:genRest o k1 i (j+1) (out ++ [((rdOf ByteArray.empty o.ws i) ++ strOfNums [c] ++ v)])=some b:=by
                      rcases HN.out with ⟨h1,_⟩|⟨q,h1,h2⟩
                      · rw [h1] at HA2
                        exact absurd HA2.out (by simp)
                      · rw [h1] at HA2
                        rw [Option.some.inj (Option.some.inj HA2.out)]
                        exact h2
                    have HQ:=aM hq
                    clear hq HA2 HN
                    go_wp2_with (first
                      | ((with_reducible refine gate_callee (f:=31) rfl ?_);(try(refine gate_guard (by rfl) ?_;dsimp only));refine goesL_ (some 86) rfl rfl Try.func31 (by kernel_rfl) rfl #[.string (rdOf ByteArray.empty o.ws kk)] rfl (by(try simp only [zE,zF,zG]);first|done|rfl|(simp only [zH,zI];rfl)) ?_;(with_reducible refine(impl_WordOk.calls k1 _ true _ HW1.out).mono ?_);rintro e w8 ⟨rfl,hd⟩;refine ⟨_,rfl,?_⟩;have HB8:=aM (below_step HBJ.out hd.below);have hc8:w8.cell? ⟨B,1,none⟩=some (.slice (some adw) o.ws.length cw):=(hd.below.cell (World.block_lt_of_cell? _ _ hcj)).trans hcj;have hw8:w8.cell? (adw.add i.toNat)=some (.string (rdOf ByteArray.empty o.ws i)):=(hd.below.cell (World.block_lt_of_cell? _ _ hwj)).trans hwj;clear hd)
                      | ((with_reducible refine gate_callee (f:=31) rfl ?_);(try(refine gate_guard (by rfl) ?_;dsimp only));refine goesL_ (some 96) rfl rfl Try.func31 (by kernel_rfl) rfl #[.string (rdOf ByteArray.empty o.ws i)] rfl (by(try simp only [zE,zF,zG]);first|done|rfl|(simp only [zH,zI];rfl)) ?_;(with_reducible refine(impl_WordOk.calls k1 _ true _ HW2.out).mono ?_);rintro e w9 ⟨rfl,hd⟩;refine ⟨_,rfl,?_⟩;have HB9:=aM (below_step HB8.out hd.below);clear hd)
                      | ((with_reducible refine gate_callee (f:=31) rfl ?_);(try(refine gate_guard (by rfl) ?_;dsimp only));refine goesL_ (some 101) rfl rfl Try.func31 (by kernel_rfl) rfl #[.string ((rdOf ByteArray.empty o.ws i) ++ strOfNums [c] ++ v)] rfl (by(try simp only [zE,zF,zG]);first|done|rfl|(simp only [zH,zI];rfl)) ?_;(with_reducible refine(impl_WordOk.calls k1 _ true _ HW3.out).mono ?_);rintro e w10 ⟨rfl,hd⟩;refine ⟨_,rfl,?_⟩;have HB10:=aM (below_step HB9.out hd.below);clear hd)
                      | ((with_reducible refine gate_builtin (b:=.append) (xs:=#[.tmp 104,.tmp 106]) rfl ?_);at_builtin;refine Kd.R_append Kd.string (w0:=w2) w2.heap.size rfl (.tmp 104) (.tmp 106) 33 9 (.string ⟨#[]⟩) 16 rfl Try.underlying33 info9 rfl (by decide) (by omega) (.slice Ao out.length co) out ((rdOf ByteArray.empty o.ws i) ++ strOfNums [c] ++ v) [.string ((rdOf ByteArray.empty o.ws i) ++ strOfNums [c] ++ v)] (fun _=>True) (fun _=>False) rfl rfl rfl (fun _ hk=>hk.elim) (fun _ _=>trivial) (Kd.R_below HR.out HB10.out) (below_step HBL.out HB10.out) (below_size (below_step HBL.out HB10.out)) (by have:=HSZ.out.2;omega) ?_;intro v61 w11 hl hb hg hat;obtain ⟨An,cn,e0⟩:=Kd.R_slice hl;subst e0;have HR11:=aM hl;have HB11:=aM hb;have HL11:=aM (blk_grown (blk_below HL.out HB10.out) hg (Kd.R_ne (Kd.R_below HR.out HB10.out) (blk_below HL.out HB10.out) (by decide)));clear hl hb hg hat))
                    go_roundg q1
                    case measure=>have:=HJ.out;omega
                    case rel=>exact ⟨j+1,out ++ [((rdOf ByteArray.empty o.ws i) ++ strOfNums [c] ++ v)],An,cn,(by rw [List.length_append];rfl),(by first|rfl|rw [HWJ.out]|(simp;done)),⟨by have:=HJ.out;omega⟩,HQ,HR11,HL11,HB11⟩
          · have e2:j=2:=by have:=HJ.out;omega
            subst e2
            have h2:=HG.out
            rw [genRest,if_neg (by decide),if_neg (by decide)] at h2
            have HG2:=aM h2
            clear h2 HG HJ hj
            have c2:decide (((2:Nat):Int)<2)=false:=by decide
            go_wp2
            go_roundg k1
            case measure=>omega
            case rel=>exact ⟨i+1,out,_,_,rfl,(by first|rfl|rw [HWI.out]),⟨by rw [← HWI.out];exact HG2.out⟩,⟨by have:=HIR.out;omega⟩,HR,HBL⟩
      · have c1:decide (i<(o.l.length:Int))=false:=decide_eq_false hlt
        have hr:some out=b:=by
          have h:=HG.out
          rw [genLoop,if_neg hlt] at h
          exact Option.some.inj h
        subst hr
        obtain ⟨rfl,rfl⟩:=HRES.out.2 _ rfl
        clear HG hlt
        go_wp2
        go_ret2
        exact ⟨_,rfl,Kd.R_lower HR.out (below_size HB2.out),below_step HB2.out HBL.out⟩

/-! ### strings_Join: function 46 -/
/-! by hand -/
def joinB (l:List ByteArray) (by_:ByteArray):List UInt8:=Go.Lib.join (l.map (·.data.toList)) by_.data.toList
def strings_Join.f (l0:List ByteArray) (a1:ByteArray):Option (ByteArray):=if l0.length≤140737488355328∧(joinB l0 a1).length≤140737488355328 then some ⟨(joinB l0 a1).toArray⟩ else none
theorem strings_Join.calls (A0:Option Addr) (c0:Nat) (l0:List ByteArray) (a1:ByteArray) (r:ByteArray) (w:World) (hr0:Kd.C Kd.string w A0 l0.length l0) (hc0:l0.length≤c0) (h:strings_Join.f l0 a1=some r) :
    Calls Try.prog 46 #[.slice A0 l0.length c0,.string a1] w fun e w'=>e = .returned (.string r)∧Below w.heap.size w w':=by
  unfold strings_Join.f at h
  by_cases hh:l0.length≤140737488355328∧(joinB l0 a1).length≤140737488355328
  · rw [if_pos hh] at h
    obtain rfl:=Option.some.inj h
    cases l0 with
    | nil =>
      refine(Try.strings_Join_none A0 c0 a1 w).mono ?_
      rintro e w' ⟨rfl,rfl⟩
      exact ⟨rfl,Below.refl _ _⟩
    | cons x xs =>
      obtain ⟨ad,e,hx⟩:=Kd.at_string hr0 0 (by omega) (by simp)
      subst e
      obtain ⟨b,o,s⟩:=ad
      have hs:s=none∧b<w.heap.size:=by
        rw [show (⟨b,o,s⟩:Addr).add (0:Int).toNat=⟨b,o,s⟩ from by simp [Addr.add]] at hx
        simp only [World.cell?] at hx
        split at hx
        · rename_i hb
          have hlt:b<w.heap.size:=by
            rcases Nat.lt_or_ge b w.heap.size with h|h
            · exact h
            · rw [Array.getElem?_eq_none h] at hb
              cases hb
          cases s with
          | none=>exact ⟨rfl,hlt⟩
          | some _=>simp at hx
        · cases hx
      obtain ⟨rfl,hlt⟩:=hs
      refine(Try.strings_Join b o c0 (x :: xs) a1 w ?_ hlt hh.1 hc0 hh.2).mono ?_
      · intro j y hj
        have hjl:j<(x :: xs).length:=(List.getElem?_eq_some_iff.1 hj).1
        obtain ⟨ad,e,hy⟩:=Kd.at_string hr0 j (by omega) (by omega)
        obtain rfl:=Option.some.inj e
        rw [show rdOf ByteArray.empty (x :: xs) j=y from by simp [rdOf,List.getD,hj]] at hy
        have e2:(⟨b,o,none⟩:Addr).add ((j:Int)).toNat=⟨b,o+j,none⟩:=by cases j <;> simp [Addr.add]
        rw [e2] at hy
        exact hy
      · rintro e w' ⟨rfl,hb⟩
        exact ⟨rfl,hb⟩
  · rw [if_neg hh] at h
    exact absurd h (by simp)

/-! ### impl_Join: function 26 -/
def impl_Join.f (l0:List ByteArray) (a1:ByteArray):Option (ByteArray):=(strings_Join.f l0 a1).bind fun t541=>(some t541)
theorem impl_Join.calls (A0:Option Addr) (c0:Nat) (l0:List ByteArray) (a1:ByteArray) (r:ByteArray) (w:World) (hr0:Kd.C Kd.string w A0 l0.length l0) (hc0:l0.length≤c0) (h:impl_Join.f l0 a1=some r) :
  Calls Try.prog 26 #[.slice A0 l0.length c0,.string a1] w fun e w'=>e = .returned (.string r)∧Below w.heap.size w w':=by
 have HR0:=aM hr0
 have HC0:=aM hc0
 clear hr0 hc0
 have HB:=aM (Below.refl w.heap.size w)
 have H:((strings_Join.f l0 a1).bind fun t541=>(some t541))=some r:=h
 clear h
 replace H:=oB H
 obtain ⟨t541,A30,H⟩:=H
 have A3:=aM A30
 clear A30
 obtain rfl:=Option.some.inj H
 go_enter Try.func26,Try.ntmps26
 go_wp2_with (first|((with_reducible refine gate_callee (f:=46) rfl ?_);refine goesL_ (some 7) rfl rfl Try.func46 (by kernel_rfl) rfl #[.slice A0 l0.length c0,.string a1] rfl (by(try simp only [List.map_toArray,List.map_cons,List.map_nil]);first|done|rfl|(simp only [List.length_drop,List.length_take];rfl)) ?_;(with_reducible refine(strings_Join.calls _ _ l0 a1 t541 _ ?side1 ?side2 A3.out).mono ?_);(case side1=>exact cX HR0.out);(case side2=>exact HC0.out);rintro e w4 ⟨rfl,hb⟩;refine ⟨_,rfl,?_⟩;replace HB:=aM (below_step (by repeat(first|(with_reducible first|exact HB.out|apply below_alloc|apply pw_below_drewN|apply below_drew1)|exact HB.out)) hb);(try clear hb)))
 go_ret
 exact ⟨eX,by repeat(first|(with_reducible first|exact HB.out|apply below_alloc|apply pw_below_drewN|apply below_drew1)|exact HB.out)⟩

/-! ### impl_GroupLine: function 8 -/
def impl_GroupLine.f (k:Nat) (l0_0:List Int) (l0_1:List Int):Option (ByteArray):=(impl_GeneratorWords.f k l0_0 l0_1).bind fun bt543=>(if bt543.2=true then ((impl_Join.f bt543.1 (⟨#[32]⟩:ByteArray)).bind fun t547=>(some t547)) else (some (⟨#[110,111,110,101]⟩:ByteArray)))
theorem impl_GroupLine.calls (k:Nat) (A0_0:Option Addr) (c0_0:Nat) (l0_0:List Int) (A0_1:Option Addr) (c0_1:Nat) (l0_1:List Int) (r:ByteArray) (w:World) (hr0_0:Kd.C (Kd.int .i64) w A0_0 l0_0.length l0_0) (hc0_0:l0_0.length≤c0_0) (hr0_1:Kd.C (Kd.int .i64) w A0_1 l0_1.length l0_1) (hc0_1:l0_1.length≤c0_1) (h:impl_GroupLine.f k l0_0 l0_1=some r) :
  Calls Try.prog 8 #[.agg #[.slice A0_0 l0_0.length c0_0,.slice A0_1 l0_1.length c0_1]] w fun e w'=>e = .returned (.string r)∧Below w.heap.size w w':=by
 have hu27:=Try.underlying27
 have HR0_0:=aM hr0_0
 have HC0_0:=aM hc0_0
 clear hr0_0 hc0_0
 have HR0_1:=aM hr0_1
 have HC0_1:=aM hc0_1
 clear hr0_1 hc0_1
 have HB:=aM (Below.refl w.heap.size w)
 have H:((impl_GeneratorWords.f k l0_0 l0_1).bind fun bt543=>(if bt543.2=true then ((impl_Join.f bt543.1 (⟨#[32]⟩:ByteArray)).bind fun t547=>(some t547)) else (some (⟨#[110,111,110,101]⟩:ByteArray))))=some r:=h
 clear h
 replace H:=oB H
 obtain ⟨⟨t543,t546⟩,A20,H⟩:=H
 replace H:(if t546=true then ((impl_Join.f t543 (⟨#[32]⟩:ByteArray)).bind fun t547=>(some t547)) else (some (⟨#[110,111,110,101]⟩:ByteArray)))=some r:=H
 have A2:=aM A20
 clear A20
 by_cases c3:t546=true
 {
 subst c3
 have H1:((impl_Join.f t543 (⟨#[32]⟩:ByteArray)).bind fun t547=>(some t547))=some r:=by rw [if_pos rfl] at H;exact H
 clear H
 have H:=H1
 clear H1
 replace H:=oB H
 obtain ⟨t547,A40,H⟩:=H
 have A4:=aM A40
 clear A40
 obtain rfl:=Option.some.inj H
 go_enter Try.func8,Try.ntmps8
 go_wp2_with (first|((with_reducible refine gate_dst (N:=1) rfl ?_);refine bEv (cs:=#[.slice A0_0 l0_0.length c0_0,.slice A0_1 l0_1.length c0_1]) (t:=27) ?_;intro gb542 hg w5 hbox hb;have BK542:=aM (hbox);have GW542:=aM ((szX (below_size (bX HB.out)) hg:w.heap.size≤gb542));have GE542:=GW542;replace HB:=aM (below_step (bX HB.out) hb);clear hb hbox hg;obtain ⟨hcz6_0,hcz6_1,hfz6_0,hfz6_1⟩:=f2Z BK542.out)|((with_reducible refine gate_callee (f:=11) rfl ?_);refine goesL_ (some 7) rfl rfl Try.func11 (by kernel_rfl) rfl #[.agg #[.slice A0_0 l0_0.length c0_0,.slice A0_1 l0_1.length c0_1]] rfl aX ?_;(with_reducible refine(impl_GeneratorWords.calls k _ _ l0_0 _ _ l0_1 t543 true _ ?side1 ?side2 ?side3 ?side4 A2.out).mono ?_);(case side1=>exact cX (Kd.C_below HR0_0.out HB.out));(case side2=>exact HC0_0.out);(case side3=>exact cX (Kd.C_below HR0_1.out HB.out));(case side4=>exact HC0_1.out);rintro e w7 ⟨v544,rfl,ho0,hb⟩;refine ⟨_,rfl,?_⟩;have HO545:=aM (Kd.R_lower ho0 (below_size (bX1 HB.out GE542.out)));replace BK542:=aM (bbX BK542.out hb);replace HB:=aM (below_step (bX1 HB.out GE542.out) hb);(try clear hb);(try clear ho0);obtain ⟨Ao8,co8,eo8⟩:=Kd.R_slice HO545.out;subst eo8)|((with_reducible refine gate_callee (f:=26) rfl ?_);refine goesL_ (some 13) rfl rfl Try.func26 (by kernel_rfl) rfl #[.slice Ao8 t543.length co8,.string (⟨#[32]⟩:ByteArray)] rfl aX ?_;(with_reducible refine(impl_Join.calls _ _ t543 (⟨#[32]⟩:ByteArray) t547 _ ?side1 ?side2 A4.out).mono ?_);(case side1=>exact cX (Kd.R_reads' HO545.out).2.2);(case side2=>exact(Kd.R_reads' HO545.out).2.1);rintro e w9 ⟨rfl,hb⟩;refine ⟨_,rfl,?_⟩;replace HO545:=aM (Kd.R_below (rX HO545.out) hb);replace BK542:=aM (bbX BK542.out hb);replace HB:=aM (below_step (bX1 HB.out GE542.out) hb);(try clear hb)))
 go_ret
 exact ⟨eX,bX1 HB.out GE542.out⟩
 }
 {
 replace c3:=Bool.eq_false_iff.mpr c3
 subst c3
 have H1:(some (⟨#[110,111,110,101]⟩:ByteArray))=some r:=by rw [if_neg (show ¬ (false=true) by decide)] at H;exact H
 clear H
 have H:=H1
 clear H1
 obtain rfl:=Option.some.inj H
 go_enter Try.func8,Try.ntmps8
 go_wp2_with (first|((with_reducible refine gate_dst (N:=1) rfl ?_);refine bEv (cs:=#[.slice A0_0 l0_0.length c0_0,.slice A0_1 l0_1.length c0_1]) (t:=27) ?_;intro gb542 hg w10 hbox hb;have BK542:=aM (hbox);have GW542:=aM ((szX (below_size (bX HB.out)) hg:w.heap.size≤gb542));have GE542:=GW542;replace HB:=aM (below_step (bX HB.out) hb);clear hb hbox hg;obtain ⟨hcz11_0,hcz11_1,hfz11_0,hfz11_1⟩:=f2Z BK542.out)|((with_reducible refine gate_callee (f:=11) rfl ?_);refine goesL_ (some 7) rfl rfl Try.func11 (by kernel_rfl) rfl #[.agg #[.slice A0_0 l0_0.length c0_0,.slice A0_1 l0_1.length c0_1]] rfl aX ?_;(with_reducible refine(impl_GeneratorWords.calls k _ _ l0_0 _ _ l0_1 t543 false _ ?side1 ?side2 ?side3 ?side4 A2.out).mono ?_);(case side1=>exact cX (Kd.C_below HR0_0.out HB.out));(case side2=>exact HC0_0.out);(case side3=>exact cX (Kd.C_below HR0_1.out HB.out));(case side4=>exact HC0_1.out);rintro e w12 ⟨v544,rfl,ho0,hb⟩;refine ⟨_,rfl,?_⟩;have HO545:=aM (Kd.R_lower ho0 (below_size (bX1 HB.out GE542.out)));replace BK542:=aM (bbX BK542.out hb);replace HB:=aM (below_step (bX1 HB.out GE542.out) hb);(try clear hb);(try clear ho0)))
 go_ret
 exact ⟨eX,bX1 HB.out GE542.out⟩
 }

/-! ### laws_eqIntS: function 27 -/
def laws_eqIntS.l0 : Nat→List Int→List Int→Int→Option (Bool)
 | 0,_,_,_=>none
 | k+1,x0,x1,x5=>if x5<(x0.length:Int) then (if 0≤x5 then (if x5<(x1.length:Int) then (if (rd x0 x5)=(rd x1 x5) then (laws_eqIntS.l0 k x0 x1 (wrap64 (x5+1))) else (some false)) else (none)) else (none)) else (some true)
def laws_eqIntS.f (k:Nat) (l0:List Int) (l1:List Int):Option (Bool):=if (l0.length:Int)=(l1.length:Int) then (laws_eqIntS.l0 k l0 l1 0) else (some false)
theorem laws_eqIntS.calls (k:Nat) (A0:Option Addr) (c0:Nat) (l0:List Int) (A1:Option Addr) (c1:Nat) (l1:List Int) (r:Bool) (w:World) (hr0:Kd.C (Kd.int .i64) w A0 l0.length l0) (hc0:l0.length≤c0) (hr1:Kd.C (Kd.int .i64) w A1 l1.length l1) (hc1:l1.length≤c1) (h:laws_eqIntS.f k l0 l1=some r) :
  Calls Try.prog 27 #[.slice A0 l0.length c0,.slice A1 l1.length c1] w fun e w'=>e = .returned (.bool r)∧Drawn0 w w':=by
 have HR0:=aM hr0
 have HC0:=aM hc0
 clear hr0 hc0
 have HR1:=aM hr1
 have HC1:=aM hc1
 clear hr1 hc1
 have H:(if (l0.length:Int)=(l1.length:Int) then (laws_eqIntS.l0 k l0 l1 0) else (some false))=some r:=h
 clear h
 by_cases c3:(l0.length:Int)=(l1.length:Int)
 {
 rw [if_pos c3] at H
 have c3b0:((l0.length:Int) == (l1.length:Int))=true:=beq_iff_eq.mpr c3
 have c3b1:((l0.length:Int) != (l1.length:Int))=false:=bne_eq_false_iff_eq.mpr c3
 have c3b2:(l0.length == l1.length)=true:=by first|simpa using c3|(simp at c3 ⊢;omega)
 clear c3
 have H':=aM H
 clear H
 go_enter Try.func27,Try.ntmps27
 go_wp2
 repeat(go_quiet (fail);try go_wp2)
 go_loopg [5] k (fun kq v5 w'=>∃ (x5_1:Int),v5 = .int .i64 x5_1∧Aside0 (laws_eqIntS.l0 kq l0 l1 x5_1=some r)∧Aside0 (kq≤k)∧Drawn0 w w')
 case atStart=>exact ⟨(0),vX,H',⟨Nat.le_refl _⟩,by repeat(first|exact Drawn0.refl _|apply Drawn0.step)⟩
 case round =>
 clear H'
 try clear c1
 try clear c3
 try clear c3b0
 try clear c3b1
 try clear c3b2
 obtain ⟨x5_1,rfl,HA,HK1,⟨m1,rfl⟩⟩:=hrel
 cases gk with
 | zero=>exact absurd HA.out (by simp [laws_eqIntS.l0])
 | succ k1 =>
 have H:=HA.out
 clear HA
 simp only [laws_eqIntS.l0] at H
 by_cases c4:x5_1<(l0.length:Int)
 {
 rw [if_pos c4] at H
 have c4b0:=decide_eq_true c4
 clear c4
 by_cases c5:0≤x5_1
 {
 rw [if_pos c5] at H
 have c5b0:=decide_eq_true c5
 clear c5
 by_cases c6:x5_1<(l1.length:Int)
 {
 rw [if_pos c6] at H
 have c6b0:=decide_eq_true c6
 clear c6
 by_cases c7:(rd l0 x5_1)=(rd l1 x5_1)
 {
 rw [if_pos c7] at H
 have c7b0:((rd l0 x5_1) == (rd l1 x5_1))=true:=beq_iff_eq.mpr c7
 have c7b1:((rd l0 x5_1) != (rd l1 x5_1))=false:=bne_eq_false_iff_eq.mpr c7
 clear c7
 have H':=aM H
 clear H
 have p548:0≤(x5_1:Int):=dX
 have q548:x5_1<(l0.length:Int):=dX
 obtain ⟨ad548,e548,hx548_0⟩:=Kd.at_int HR0.out x5_1 p548 q548
 cases e548
 replace p548:=eq_true p548
 replace q548:=eq_true q548
 have p549:0≤(x5_1:Int):=dX
 have q549:x5_1<(l1.length:Int):=dX
 obtain ⟨ad549,e549,hx549_0⟩:=Kd.at_int HR1.out x5_1 p549 q549
 cases e549
 replace p549:=eq_true p549
 replace q549:=eq_true q549
 go_wp2
 repeat(go_quiet (fail);try go_wp2)
 go_roundg k1
 case measure=>have:=HK1.out;omega
 case rel=>exact ⟨(wrap64 (x5_1+1)),vX,H',⟨by have:=HK1.out;omega⟩,by repeat(first|exact Drawn0.refl _|apply Drawn0.step)⟩
 }
 {
 rw [if_neg c7] at H
 have c7b0:((rd l0 x5_1) == (rd l1 x5_1))=false:=beq_eq_false_iff_ne.mpr c7
 have c7b1:((rd l0 x5_1) != (rd l1 x5_1))=true:=bne_iff_ne.mpr c7
 obtain rfl:=Option.some.inj H
 have p548:0≤(x5_1:Int):=dX
 have q548:x5_1<(l0.length:Int):=dX
 obtain ⟨ad548,e548,hx548_0⟩:=Kd.at_int HR0.out x5_1 p548 q548
 cases e548
 replace p548:=eq_true p548
 replace q548:=eq_true q548
 have p549:0≤(x5_1:Int):=dX
 have q549:x5_1<(l1.length:Int):=dX
 obtain ⟨ad549,e549,hx549_0⟩:=Kd.at_int HR1.out x5_1 p549 q549
 cases e549
 replace p549:=eq_true p549
 replace q549:=eq_true q549
 go_wp2
 repeat(go_quiet (fail);try go_wp2)
 go_ret
 exact ⟨by first|rfl|(simp;done)|(simp [*];done),by repeat(first|exact Drawn0.refl _|apply Drawn0.step)⟩
 }
 }
 {
 rw [if_neg c6] at H
 exact absurd H (by simp)
 }
 }
 {
 rw [if_neg c5] at H
 exact absurd H (by simp)
 }
 }
 {
 rw [if_neg c4] at H
 have c4b0:=decide_eq_false c4
 clear c4
 obtain rfl:=Option.some.inj H
 go_wp2
 repeat(go_quiet (fail);try go_wp2)
 go_ret
 exact ⟨by first|rfl|(simp;done)|(simp [*];done),by repeat(first|exact Drawn0.refl _|apply Drawn0.step)⟩
 }
 }
 {
 rw [if_neg c3] at H
 have c3b0:((l0.length:Int) == (l1.length:Int))=false:=beq_eq_false_iff_ne.mpr c3
 have c3b1:((l0.length:Int) != (l1.length:Int))=true:=bne_iff_ne.mpr c3
 have c3b2:(l0.length == l1.length)=false:=by first|simpa using c3|(simp at c3 ⊢;omega)
 obtain rfl:=Option.some.inj H
 go_enter Try.func27,Try.ntmps27
 go_wp2
 repeat(go_quiet (fail);try go_wp2)
 go_ret
 exact ⟨by first|rfl|(simp;done)|(simp [*];done),by repeat(first|exact Drawn0.refl _|apply Drawn0.step)⟩
 }

/-! ### laws_eqSurface: function 9 -/
def laws_eqSurface.f (k:Nat) (l0_0:List Int) (l0_1:List Int) (l1_0:List Int) (l1_1:List Int):Option (Bool):=(laws_eqIntS.f k l0_0 l1_0).bind fun t552=>(if t552=true then ((laws_eqIntS.f k l0_1 l1_1).bind fun t553=>(if t553=true then (some true) else (some false))) else (some false))
theorem laws_eqSurface.calls (k:Nat) (A0_0:Option Addr) (c0_0:Nat) (l0_0:List Int) (A0_1:Option Addr) (c0_1:Nat) (l0_1:List Int) (A1_0:Option Addr) (c1_0:Nat) (l1_0:List Int) (A1_1:Option Addr) (c1_1:Nat) (l1_1:List Int) (r:Bool) (w:World) (hr0_0:Kd.C (Kd.int .i64) w A0_0 l0_0.length l0_0) (hc0_0:l0_0.length≤c0_0) (hr0_1:Kd.C (Kd.int .i64) w A0_1 l0_1.length l0_1) (hc0_1:l0_1.length≤c0_1) (hr1_0:Kd.C (Kd.int .i64) w A1_0 l1_0.length l1_0) (hc1_0:l1_0.length≤c1_0) (hr1_1:Kd.C (Kd.int .i64) w A1_1 l1_1.length l1_1) (hc1_1:l1_1.length≤c1_1) (h:laws_eqSurface.f k l0_0 l0_1 l1_0 l1_1=some r) :
  Calls Try.prog 9 #[.agg #[.slice A0_0 l0_0.length c0_0,.slice A0_1 l0_1.length c0_1],.agg #[.slice A1_0 l1_0.length c1_0,.slice A1_1 l1_1.length c1_1]] w fun e w'=>e = .returned (.bool r)∧Below w.heap.size w w':=by
 have hu27:=Try.underlying27
 have HR0_0:=aM hr0_0
 have HC0_0:=aM hc0_0
 clear hr0_0 hc0_0
 have HR0_1:=aM hr0_1
 have HC0_1:=aM hc0_1
 clear hr0_1 hc0_1
 have HR1_0:=aM hr1_0
 have HC1_0:=aM hc1_0
 clear hr1_0 hc1_0
 have HR1_1:=aM hr1_1
 have HC1_1:=aM hc1_1
 clear hr1_1 hc1_1
 have HB:=aM (Below.refl w.heap.size w)
 have H:((laws_eqIntS.f k l0_0 l1_0).bind fun t552=>(if t552=true then ((laws_eqIntS.f k l0_1 l1_1).bind fun t553=>(if t553=true then (some true) else (some false))) else (some false)))=some r:=h
 clear h
 replace H:=oB H
 obtain ⟨t552,A30,H⟩:=H
 have A3:=aM A30
 clear A30
 by_cases c4:t552=true
 {
 subst c4
 have H1:((laws_eqIntS.f k l0_1 l1_1).bind fun t553=>(if t553=true then (some true) else (some false)))=some r:=by rw [if_pos rfl] at H;exact H
 clear H
 have H:=H1
 clear H1
 replace H:=oB H
 obtain ⟨t553,A50,H⟩:=H
 have A5:=aM A50
 clear A50
 by_cases c6:t553=true
 {
 subst c6
 have H1:(some true)=some r:=by rw [if_pos rfl] at H;exact H
 clear H
 have H:=H1
 clear H1
 obtain rfl:=Option.some.inj H
 go_enter Try.func9,Try.ntmps9
 go_wp2_with (first|((with_reducible refine gate_dst (N:=2) rfl ?_);refine bEv (cs:=#[.slice A0_0 l0_0.length c0_0,.slice A0_1 l0_1.length c0_1]) (t:=27) ?_;intro gb550 hg w7 hbox hb;have BK550:=aM (hbox);have GW550:=aM ((szX (below_size (bX HB.out)) hg:w.heap.size≤gb550));have GE550:=GW550;replace HB:=aM (below_step (bX HB.out) hb);clear hb hbox hg)|((with_reducible refine gate_dst (N:=3) rfl ?_);refine bEv (cs:=#[.slice A1_0 l1_0.length c1_0,.slice A1_1 l1_1.length c1_1]) (t:=27) ?_;intro gb551 hg w8 hbox hb;have BK551:=aM (hbox);have GW551:=aM ((szX (below_size (bX1 HB.out GE550.out)) hg:w.heap.size≤gb551));have GE551:=GW551;replace HB:=aM (below_step (bX1 HB.out GE550.out) hb);have NB550_551:=aM (neX BK550.out hg);have NB551_550:=aM (nfX BK550.out hg);replace BK550:=aM (bbX BK550.out hb);clear hb hbox hg;have hnb9:=NB550_551.out;have hnc9:=NB551_550.out;obtain ⟨hcz10_0,hcz10_1,hfz10_0,hfz10_1⟩:=f2Z BK550.out;have hcz11_0:w8.cell? ⟨gb551,0,none⟩=some (.slice A1_0 l1_0.length c1_0):=(blk_cell BK551.out 0).trans rfl;have hcz11_1:w8.cell? ⟨gb551,1,none⟩=some (.slice A1_1 l1_1.length c1_1):=(blk_cell BK551.out 1).trans rfl;have hfz11_0:=blk_frozen BK551.out 0;have hfz11_1:=blk_frozen BK551.out 1)|((with_reducible refine gate_callee (f:=27) rfl ?_);refine goesL_ (some 9) rfl rfl Try.func27 (by kernel_rfl) rfl #[.slice A0_0 l0_0.length c0_0,.slice A1_0 l1_0.length c1_0] rfl aX ?_;(with_reducible refine(laws_eqIntS.calls k _ _ l0_0 _ _ l1_0 true _ ?side1 ?side2 ?side3 ?side4 A3.out).mono ?_);(case side1=>exact cX (Kd.C_below HR0_0.out HB.out));(case side2=>exact HC0_0.out);(case side3=>exact cX (Kd.C_below HR1_0.out HB.out));(case side4=>exact HC1_0.out);rintro e w' ⟨rfl,⟨nd,rfl⟩⟩;refine ⟨_,rfl,?_⟩)|((with_reducible refine gate_callee (f:=27) rfl ?_);refine goesL_ (some 15) rfl rfl Try.func27 (by kernel_rfl) rfl #[.slice A0_1 l0_1.length c0_1,.slice A1_1 l1_1.length c1_1] rfl aX ?_;(with_reducible refine(laws_eqIntS.calls k _ _ l0_1 _ _ l1_1 true _ ?side1 ?side2 ?side3 ?side4 A5.out).mono ?_);(case side1=>exact cX (Kd.C_below HR0_1.out (bX2 HB.out GE550.out GE551.out)));(case side2=>exact HC0_1.out);(case side3=>exact cX (Kd.C_below HR1_1.out (bX2 HB.out GE550.out GE551.out)));(case side4=>exact HC1_1.out);rintro e w' ⟨rfl,⟨nd,rfl⟩⟩;refine ⟨_,rfl,?_⟩))
 go_ret
 exact ⟨eX,bX2 HB.out GE550.out GE551.out⟩
 }
 {
 replace c6:=Bool.eq_false_iff.mpr c6
 subst c6
 have H1:(some false)=some r:=by rw [if_neg (show ¬ (false=true) by decide)] at H;exact H
 clear H
 have H:=H1
 clear H1
 obtain rfl:=Option.some.inj H
 go_enter Try.func9,Try.ntmps9
 go_wp2_with (first|((with_reducible refine gate_dst (N:=2) rfl ?_);refine bEv (cs:=#[.slice A0_0 l0_0.length c0_0,.slice A0_1 l0_1.length c0_1]) (t:=27) ?_;intro gb550 hg w12 hbox hb;have BK550:=aM (hbox);have GW550:=aM ((szX (below_size (bX HB.out)) hg:w.heap.size≤gb550));have GE550:=GW550;replace HB:=aM (below_step (bX HB.out) hb);clear hb hbox hg)|((with_reducible refine gate_dst (N:=3) rfl ?_);refine bEv (cs:=#[.slice A1_0 l1_0.length c1_0,.slice A1_1 l1_1.length c1_1]) (t:=27) ?_;intro gb551 hg w13 hbox hb;have BK551:=aM (hbox);have GW551:=aM ((szX (below_size (bX1 HB.out GE550.out)) hg:w.heap.size≤gb551));have GE551:=GW551;replace HB:=aM (below_step (bX1 HB.out GE550.out) hb);have NB550_551:=aM (neX BK550.out hg);have NB551_550:=aM (nfX BK550.out hg);replace BK550:=aM (bbX BK550.out hb);clear hb hbox hg;have hnb14:=NB550_551.out;have hnc14:=NB551_550.out;obtain ⟨hcz15_0,hcz15_1,hfz15_0,hfz15_1⟩:=f2Z BK550.out;have hcz16_0:w13.cell? ⟨gb551,0,none⟩=some (.slice A1_0 l1_0.length c1_0):=(blk_cell BK551.out 0).trans rfl;have hcz16_1:w13.cell? ⟨gb551,1,none⟩=some (.slice A1_1 l1_1.length c1_1):=(blk_cell BK551.out 1).trans rfl;have hfz16_0:=blk_frozen BK551.out 0;have hfz16_1:=blk_frozen BK551.out 1)|((with_reducible refine gate_callee (f:=27) rfl ?_);refine goesL_ (some 9) rfl rfl Try.func27 (by kernel_rfl) rfl #[.slice A0_0 l0_0.length c0_0,.slice A1_0 l1_0.length c1_0] rfl aX ?_;(with_reducible refine(laws_eqIntS.calls k _ _ l0_0 _ _ l1_0 true _ ?side1 ?side2 ?side3 ?side4 A3.out).mono ?_);(case side1=>exact cX (Kd.C_below HR0_0.out HB.out));(case side2=>exact HC0_0.out);(case side3=>exact cX (Kd.C_below HR1_0.out HB.out));(case side4=>exact HC1_0.out);rintro e w' ⟨rfl,⟨nd,rfl⟩⟩;refine ⟨_,rfl,?_⟩)|((with_reducible refine gate_callee (f:=27) rfl ?_);refine goesL_ (some 15) rfl rfl Try.func27 (by kernel_rfl) rfl #[.slice A0_1 l0_1.length c0_1,.slice A1_1 l1_1.length c1_1] rfl aX ?_;(with_reducible refine(laws_eqIntS.calls k _ _ l0_1 _ _ l1_1 false _ ?side1 ?side2 ?side3 ?side4 A5.out).mono ?_);(case side1=>exact cX (Kd.C_below HR0_1.out (bX2 HB.out GE550.out GE551.out)));(case side2=>exact HC0_1.out);(case side3=>exact cX (Kd.C_below HR1_1.out (bX2 HB.out GE550.out GE551.out)));(case side4=>exact HC1_1.out);rintro e w' ⟨rfl,⟨nd,rfl⟩⟩;refine ⟨_,rfl,?_⟩))
 go_ret
 exact ⟨eX,bX2 HB.out GE550.out GE551.out⟩
 }
 }
 {
 replace c4:=Bool.eq_false_iff.mpr c4
 subst c4
 have H1:(some false)=some r:=by rw [if_neg (show ¬ (false=true) by decide)] at H;exact H
 clear H
 have H:=H1
 clear H1
 obtain rfl:=Option.some.inj H
 go_enter Try.func9,Try.ntmps9
 go_wp2_with (first|((with_reducible refine gate_dst (N:=2) rfl ?_);refine bEv (cs:=#[.slice A0_0 l0_0.length c0_0,.slice A0_1 l0_1.length c0_1]) (t:=27) ?_;intro gb550 hg w17 hbox hb;have BK550:=aM (hbox);have GW550:=aM ((szX (below_size (bX HB.out)) hg:w.heap.size≤gb550));have GE550:=GW550;replace HB:=aM (below_step (bX HB.out) hb);clear hb hbox hg)|((with_reducible refine gate_dst (N:=3) rfl ?_);refine bEv (cs:=#[.slice A1_0 l1_0.length c1_0,.slice A1_1 l1_1.length c1_1]) (t:=27) ?_;intro gb551 hg w18 hbox hb;have BK551:=aM (hbox);have GW551:=aM ((szX (below_size (bX1 HB.out GE550.out)) hg:w.heap.size≤gb551));have GE551:=GW551;replace HB:=aM (below_step (bX1 HB.out GE550.out) hb);have NB550_551:=aM (neX BK550.out hg);have NB551_550:=aM (nfX BK550.out hg);replace BK550:=aM (bbX BK550.out hb);clear hb hbox hg;have hnb19:=NB550_551.out;have hnc19:=NB551_550.out;obtain ⟨hcz20_0,hcz20_1,hfz20_0,hfz20_1⟩:=f2Z BK550.out;have hcz21_0:w18.cell? ⟨gb551,0,none⟩=some (.slice A1_0 l1_0.length c1_0):=(blk_cell BK551.out 0).trans rfl;have hcz21_1:w18.cell? ⟨gb551,1,none⟩=some (.slice A1_1 l1_1.length c1_1):=(blk_cell BK551.out 1).trans rfl;have hfz21_0:=blk_frozen BK551.out 0;have hfz21_1:=blk_frozen BK551.out 1)|((with_reducible refine gate_callee (f:=27) rfl ?_);refine goesL_ (some 9) rfl rfl Try.func27 (by kernel_rfl) rfl #[.slice A0_0 l0_0.length c0_0,.slice A1_0 l1_0.length c1_0] rfl aX ?_;(with_reducible refine(laws_eqIntS.calls k _ _ l0_0 _ _ l1_0 false _ ?side1 ?side2 ?side3 ?side4 A3.out).mono ?_);(case side1=>exact cX (Kd.C_below HR0_0.out HB.out));(case side2=>exact HC0_0.out);(case side3=>exact cX (Kd.C_below HR1_0.out HB.out));(case side4=>exact HC1_0.out);rintro e w' ⟨rfl,⟨nd,rfl⟩⟩;refine ⟨_,rfl,?_⟩))
 go_ret
 exact ⟨eX,bX2 HB.out GE550.out GE551.out⟩
 }

/-! ### laws_FnExactGroupLine: function 3 -/
def laws_FnExactGroupLine.f (k:Nat) (l0_0:List Int) (l0_1:List Int):Option (Bool):=(laws_szSurface.f l0_0 l0_1 1048576).bind fun t555=>(if t555<0 then (some true) else ((laws_toSurface.f k l0_0 l0_1).bind fun bt556=>((spec_GroupLine.f k bt556.1 bt556.2).bind fun t562=>((laws_toSurface.f k l0_0 l0_1).bind fun bt563=>((impl_GroupLine.f k bt563.1 bt563.2).bind fun t570=>(if t570.toList=t562.toList then ((laws_toSurface.f k l0_0 l0_1).bind fun bt571=>((laws_eqSurface.f k bt563.1 bt563.2 bt571.1 bt571.2).bind fun t577=>(if t577=true then (some true) else (some false)))) else (some false)))))))
theorem laws_FnExactGroupLine.calls (k:Nat) (A0_0:Option Addr) (c0_0:Nat) (l0_0:List Int) (A0_1:Option Addr) (c0_1:Nat) (l0_1:List Int) (r:Bool) (w:World) (hr0_0:Kd.C (Kd.int .i64) w A0_0 l0_0.length l0_0) (hc0_0:l0_0.length≤c0_0) (hr0_1:Kd.C (Kd.int .i64) w A0_1 l0_1.length l0_1) (hc0_1:l0_1.length≤c0_1) (hrt_:r=true) (h:laws_FnExactGroupLine.f k l0_0 l0_1=some r) :
  Calls Try.prog 3 #[.agg #[.slice A0_0 l0_0.length c0_0,.slice A0_1 l0_1.length c0_1]] w fun e w'=>e = .returned (.bool r)∧Below w.heap.size w w':=by
 have hu24:=Try.underlying24
 have hu27:=Try.underlying27
 have HR0_0:=aM hr0_0
 have HC0_0:=aM hc0_0
 clear hr0_0 hc0_0
 have HR0_1:=aM hr0_1
 have HC0_1:=aM hc0_1
 clear hr0_1 hc0_1
 have HB:=aM (Below.refl w.heap.size w)
 have H:((laws_szSurface.f l0_0 l0_1 1048576).bind fun t555=>(if t555<0 then (some true) else ((laws_toSurface.f k l0_0 l0_1).bind fun bt556=>((spec_GroupLine.f k bt556.1 bt556.2).bind fun t562=>((laws_toSurface.f k l0_0 l0_1).bind fun bt563=>((impl_GroupLine.f k bt563.1 bt563.2).bind fun t570=>(if t570.toList=t562.toList then ((laws_toSurface.f k l0_0 l0_1).bind fun bt571=>((laws_eqSurface.f k bt563.1 bt563.2 bt571.1 bt571.2).bind fun t577=>(if t577=true then (some true) else (some false)))) else (some false))))))))=some r:=h
 clear h
 have HRT:=aM hrt_
 clear hrt_
 replace H:=oB H
 obtain ⟨t555,A20,H⟩:=H
 have A2:=aM A20
 clear A20
 by_cases c3:t555<0
 {
 rw [if_pos c3] at H
 have c3b0:=decide_eq_true c3
 clear c3
 obtain rfl:=Option.some.inj H
 go_enter Try.func3,Try.ntmps3
 go_wp2_with (first|((with_reducible refine gate_dst (N:=1) rfl ?_);refine bEv (cs:=#[.slice A0_0 l0_0.length c0_0,.slice A0_1 l0_1.length c0_1]) (t:=24) ?_;intro gb554 hg w4 hbox hb;have BK554:=aM (hbox);have GW554:=aM ((szX (below_size (bX HB.out)) hg:w.heap.size≤gb554));have GE554:=GW554;replace HB:=aM (below_step (bX HB.out) hb);clear hb hbox hg;obtain ⟨hcz5_0,hcz5_1,hfz5_0,hfz5_1⟩:=f2Z BK554.out)|((with_reducible refine gate_callee (f:=5) rfl ?_);refine goesL_ (some 9) rfl rfl Try.func5 (by kernel_rfl) rfl #[.agg #[.slice A0_0 l0_0.length c0_0,.slice A0_1 l0_1.length c0_1],.int .i64 1048576] rfl aX ?_;(with_reducible refine(laws_szSurface.calls _ _ l0_0 _ _ l0_1 1048576 t555 _ ?side1 ?side2 ?side3 ?side4 A2.out).mono ?_);(case side1=>exact cX (Kd.C_below HR0_0.out HB.out));(case side2=>exact HC0_0.out);(case side3=>exact cX (Kd.C_below HR0_1.out HB.out));(case side4=>exact HC0_1.out);rintro e w6 ⟨rfl,hb⟩;refine ⟨_,rfl,?_⟩;replace BK554:=aM (bbX BK554.out hb);replace HB:=aM (below_step (bX1 HB.out GE554.out) hb);(try clear hb)))
 go_ret
 exact ⟨eX,bX1 HB.out GE554.out⟩
 }
 {
 rw [if_neg c3] at H
 have c3b0:=decide_eq_false c3
 clear c3
 replace H:=oB H
 obtain ⟨⟨t556,t559⟩,A70,H⟩:=H
 replace H:((spec_GroupLine.f k t556 t559).bind fun t562=>((laws_toSurface.f k l0_0 l0_1).bind fun bt563=>((impl_GroupLine.f k bt563.1 bt563.2).bind fun t570=>(if t570.toList=t562.toList then ((laws_toSurface.f k l0_0 l0_1).bind fun bt571=>((laws_eqSurface.f k bt563.1 bt563.2 bt571.1 bt571.2).bind fun t577=>(if t577=true then (some true) else (some false)))) else (some false)))))=some r:=H
 have A7:=aM A70
 clear A70
 replace H:=oB H
 obtain ⟨t562,A80,H⟩:=H
 have A8:=aM A80
 clear A80
 replace H:=oB H
 obtain ⟨⟨t563,t566⟩,A90,H⟩:=H
 replace H:((impl_GroupLine.f k t563 t566).bind fun t570=>(if t570.toList=t562.toList then ((laws_toSurface.f k l0_0 l0_1).bind fun bt571=>((laws_eqSurface.f k t563 t566 bt571.1 bt571.2).bind fun t577=>(if t577=true then (some true) else (some false)))) else (some false)))=some r:=H
 have A9:=aM A90
 clear A90
 replace H:=oB H
 obtain ⟨t570,A100,H⟩:=H
 have A10:=aM A100
 clear A100
 by_cases c11:t570.toList=t562.toList
 {
 rw [if_pos c11] at H
 have c11b0:(t570.toList == t562.toList)=true:=beq_iff_eq.mpr c11
 have c11b1:(t570.toList != t562.toList)=false:=bne_eq_false_iff_eq.mpr c11
 clear c11
 replace H:=oB H
 obtain ⟨⟨t571,t574⟩,A120,H⟩:=H
 replace H:((laws_eqSurface.f k t563 t566 t571 t574).bind fun t577=>(if t577=true then (some true) else (some false)))=some r:=H
 have A12:=aM A120
 clear A120
 replace H:=oB H
 obtain ⟨t577,A130,H⟩:=H
 have A13:=aM A130
 clear A130
 by_cases c14:t577=true
 {
 subst c14
 have H1:(some true)=some r:=by rw [if_pos rfl] at H;exact H
 clear H
 have H:=H1
 clear H1
 obtain rfl:=Option.some.inj H
 go_enter Try.func3,Try.ntmps3
 try go_wp2_with (first|((with_reducible refine gate_dst (N:=1) rfl ?_);refine bEv (cs:=#[.slice A0_0 l0_0.length c0_0,.slice A0_1 l0_1.length c0_1]) (t:=24) ?_;intro gb554 hg w15 hbox hb;have BK554:=aM (hbox);have GW554:=aM ((szX (below_size (bX HB.out)) hg:w.heap.size≤gb554));have GE554:=GW554;replace HB:=aM (below_step (bX HB.out) hb);clear hb hbox hg;obtain ⟨hcz16_0,hcz16_1,hfz16_0,hfz16_1⟩:=f2Z BK554.out)|((with_reducible refine gate_callee (f:=5) rfl ?_);refine goesL_ (some 9) rfl rfl Try.func5 (by kernel_rfl) rfl #[.agg #[.slice A0_0 l0_0.length c0_0,.slice A0_1 l0_1.length c0_1],.int .i64 1048576] rfl aX ?_;(with_reducible refine(laws_szSurface.calls _ _ l0_0 _ _ l0_1 1048576 t555 _ ?side1 ?side2 ?side3 ?side4 A2.out).mono ?_);(case side1=>exact cX (Kd.C_below HR0_0.out HB.out));(case side2=>exact HC0_0.out);(case side3=>exact cX (Kd.C_below HR0_1.out HB.out));(case side4=>exact HC0_1.out);rintro e w17 ⟨rfl,hb⟩;refine ⟨_,rfl,?_⟩;replace BK554:=aM (bbX BK554.out hb);replace HB:=aM (below_step (bX1 HB.out GE554.out) hb);(try clear hb);obtain ⟨hcz18_0,hcz18_1,hfz18_0,hfz18_1⟩:=f2Z BK554.out)|((with_reducible refine gate_callee (f:=7) rfl ?_);refine goesL_ (some 13) rfl rfl Try.func7 (by kernel_rfl) rfl #[.agg #[.slice A0_0 l0_0.length c0_0,.slice A0_1 l0_1.length c0_1]] rfl aX ?_;(with_reducible refine(laws_toSurface.calls k _ _ l0_0 _ _ l0_1 t556 t559 _ ?side1 ?side2 ?side3 ?side4 A7.out).mono ?_);(case side1=>exact cX (Kd.C_below HR0_0.out HB.out));(case side2=>exact HC0_0.out);(case side3=>exact cX (Kd.C_below HR0_1.out HB.out));(case side4=>exact HC0_1.out);rintro e w19 ⟨v557,v560,rfl,ho0,ho1,hb⟩;refine ⟨_,rfl,?_⟩;have HO558:=aM (Kd.R_lower ho0 (below_size (bX1 HB.out GE554.out)));have HO561:=aM (Kd.R_lower ho1 (below_size (bX1 HB.out GE554.out)));replace BK554:=aM (bbX BK554.out hb);replace HB:=aM (below_step (bX1 HB.out GE554.out) hb);(try clear hb);(try clear ho0);(try clear ho1);obtain ⟨Ao20,co20,eo20⟩:=Kd.R_slice HO558.out;subst eo20;obtain ⟨Ao21,co21,eo21⟩:=Kd.R_slice HO561.out;subst eo21)|((with_reducible refine gate_callee (f:=6) rfl ?_);refine goesL_ (some 14) rfl rfl Try.func6 (by kernel_rfl) rfl #[.agg #[.slice Ao20 t556.length co20,.slice Ao21 t559.length co21]] rfl aX ?_;(with_reducible refine(spec_GroupLine.calls k _ _ t556 _ _ t559 t562 _ ?side1 ?side2 ?side3 ?side4 A8.out).mono ?_);(case side1=>exact cX (Kd.R_reads' HO558.out).2.2);(case side2=>exact(Kd.R_reads' HO558.out).2.1);(case side3=>exact cX (Kd.R_reads' HO561.out).2.2);(case side4=>exact(Kd.R_reads' HO561.out).2.1);rintro e w22 ⟨rfl,hb⟩;refine ⟨_,rfl,?_⟩;replace HO558:=aM (Kd.R_below (rX HO558.out) hb);replace HO561:=aM (Kd.R_below (rX HO561.out) hb);replace BK554:=aM (bbX BK554.out hb);replace HB:=aM (below_step (bX1 HB.out GE554.out) hb);(try clear hb);obtain ⟨hcz23_0,hcz23_1,hfz23_0,hfz23_1⟩:=f2Z BK554.out)|((with_reducible refine gate_callee (f:=7) rfl ?_);refine goesL_ (some 16) rfl rfl Try.func7 (by kernel_rfl) rfl #[.agg #[.slice A0_0 l0_0.length c0_0,.slice A0_1 l0_1.length c0_1]] rfl aX ?_;(with_reducible refine(laws_toSurface.calls k _ _ l0_0 _ _ l0_1 t563 t566 _ ?side1 ?side2 ?side3 ?side4 A9.out).mono ?_);(case side1=>exact cX (Kd.C_below HR0_0.out HB.out));(case side2=>exact HC0_0.out);(case side3=>exact cX (Kd.C_below HR0_1.out HB.out));(case side4=>exact HC0_1.out);rintro e w24 ⟨v564,v567,rfl,ho0,ho1,hb⟩;refine ⟨_,rfl,?_⟩;have HO565:=aM (Kd.R_lower (Kd.R_new' (Kd.R_new' ho0 (Kd.R_lt (rX HO558.out))) (Kd.R_lt (rX HO561.out))) (below_size (bX1 HB.out GE554.out)));have HO568:=aM (Kd.R_lower (Kd.R_new' (Kd.R_new' ho1 (Kd.R_lt (rX HO558.out))) (Kd.R_lt (rX HO561.out))) (below_size (bX1 HB.out GE554.out)));replace HO558:=aM (Kd.R_mono (Kd.R_told (Kd.R_told (Kd.R_old (rX HO558.out) hb) (Kd.R_base ho0)) (Kd.R_base ho1)) (fun _ h_=>h_.1));replace HO561:=aM (Kd.R_mono (Kd.R_told (Kd.R_told (Kd.R_old (rX HO561.out) hb) (Kd.R_base ho0)) (Kd.R_base ho1)) (fun _ h_=>h_.1));replace BK554:=aM (bbX BK554.out hb);replace HB:=aM (below_step (bX1 HB.out GE554.out) hb);(try clear hb);(try clear ho0);(try clear ho1))|((with_reducible refine gate_dst (N:=5) rfl ?_);refine bEv (cs:=#[.slice none 0 0,.slice none 0 0]) (t:=27) ?_;intro gb569 hg w25 hbox hb;replace HO558:=aM (Kd.R_below (rX HO558.out) hb);replace HO561:=aM (Kd.R_below (rX HO561.out) hb);replace HO565:=aM (Kd.R_below (rX HO565.out) hb);replace HO568:=aM (Kd.R_below (rX HO568.out) hb);have BK569:=aM (hbox);have GW569:=aM ((szX (below_size (bX1 HB.out GE554.out)) hg:w.heap.size≤gb569));have GE569:=GW569;replace HB:=aM (below_step (bX1 HB.out GE554.out) hb);have NB554_569:=aM (neX BK554.out hg);have NB569_554:=aM (nfX BK554.out hg);replace BK554:=aM (bbX BK554.out hb);clear hb hbox hg;obtain ⟨Ao26,co26,eo26⟩:=Kd.R_slice HO565.out;subst eo26;have hnb27:=NB569_554.out;have hnc27:=NB554_569.out;obtain ⟨hcz28_0,hcz28_1,hfz28_0,hfz28_1⟩:=f2Z BK569.out;obtain ⟨Ao29,co29,eo29⟩:=Kd.R_slice HO568.out;subst eo29)|((with_reducible refine gate_callee (f:=8) rfl ?_);refine goesL_ (some 18) rfl rfl Try.func8 (by kernel_rfl) rfl #[.agg #[.slice Ao26 t563.length co26,.slice Ao29 t566.length co29]] rfl aX ?_;(with_reducible refine(impl_GroupLine.calls k _ _ t563 _ _ t566 t570 _ ?side1 ?side2 ?side3 ?side4 A10.out).mono ?_);(case side1=>exact rcX (fr2 HO565.out BK569.out (.slice Ao26 t563.length co26) (.slice Ao29 t566.length co29)));(case side2=>exact(Kd.R_reads' HO565.out).2.1);(case side3=>exact rcX (fr2 HO568.out BK569.out (.slice Ao26 t563.length co26) (.slice Ao29 t566.length co29)));(case side4=>exact(Kd.R_reads' HO568.out).2.1);rintro e w30 ⟨rfl,hb⟩;refine ⟨_,rfl,?_⟩;replace HO558:=aM (Kd.R_below (rX (fr2 HO558.out BK569.out (.slice Ao26 t563.length co26) (.slice Ao29 t566.length co29))) hb);replace HO561:=aM (Kd.R_below (rX (fr2 HO561.out BK569.out (.slice Ao26 t563.length co26) (.slice Ao29 t566.length co29))) hb);replace HO565:=aM (Kd.R_below (rX (fr2 HO565.out BK569.out (.slice Ao26 t563.length co26) (.slice Ao29 t566.length co29))) hb);replace HO568:=aM (Kd.R_below (rX (fr2 HO568.out BK569.out (.slice Ao26 t563.length co26) (.slice Ao29 t566.length co29))) hb);replace BK554:=aM (blk_below (g:=gb554) (o:=.cells #[.slice A0_0 l0_0.length c0_0,.slice A0_1 l0_1.length c0_1] 24 (0,0)) (by(with_reducible repeat(first|refine kN ?_ _|refine kD ?_|refine kA ?_ _));refine blk_far ?_ NB554_569.out _;(with_reducible repeat(first|refine kN ?_ _|refine kD ?_|refine kA ?_ _));refine blk_far ?_ NB554_569.out _;(with_reducible repeat(first|refine kN ?_ _|refine kD ?_|refine kA ?_ _));exact BK554.out) hb);replace BK569:=aM (blk_below (g:=gb569) (o:=.cells #[.slice Ao26 t563.length co26,.slice Ao29 t566.length co29] 27 (0,0)) (by(with_reducible repeat(first|refine kN ?_ _|refine kD ?_|refine kA ?_ _));refine blk_put (cs:=#[.slice Ao26 t563.length co26,.slice none 0 0]) ?_ 1 _ rfl;(with_reducible repeat(first|refine kN ?_ _|refine kD ?_|refine kA ?_ _));refine blk_put (cs:=#[.slice none 0 0,.slice none 0 0]) ?_ 0 _ rfl;(with_reducible repeat(first|refine kN ?_ _|refine kD ?_|refine kA ?_ _));exact BK569.out) hb);replace HB:=aM (below_step (bX2 HB.out GE554.out GE569.out) hb);(try clear hb)))
 replace HO558:=aM (Kd.R_drew HO558.out)
 replace HO561:=aM (Kd.R_drew HO561.out)
 replace HO565:=aM (Kd.R_drew HO565.out)
 replace HO568:=aM (Kd.R_drew HO568.out)
 replace BK554:=aM (blk_drew BK554.out)
 replace BK569:=aM (blk_drew BK569.out)
 replace HB:=aM (below_drew1 HB.out)
 refine start_ (n:=5) (S:=fun w'=>w'.cell? ⟨gb569,0,none⟩=some (.slice Ao26 t563.length co26)∧w'.cell? ⟨gb569,1,none⟩=some (.slice Ao29 t566.length co29)∧w'.cell? ⟨gb554,0,none⟩=some (.slice A0_0 l0_0.length c0_0)∧w'.cell? ⟨gb554,1,none⟩=some (.slice A0_1 l0_1.length c0_1)) (ds:=[]) #[false,false,false,false,false] (by kernel_rfl) rfl rfl ⟨cz20 BK569.out,cz21 BK569.out,cz20 BK554.out,cz21 BK554.out⟩ (fun hHeld => ?_)
 generalize w30.drew=w31 at HO558 HO561 HO565 HO568 BK554 BK569 HB hHeld ⊢
 refine take_ (i:=0) (N:=some 22) (v:=?_) (a':=?_) #[true,false,false,false,false] rfl rfl (by kernel_rfl) (fun _ _ _ h=>h) (Or.inl ⟨by rfl,?_⟩) hHeld ?_ ?_
 rotate_left
 {
 rintro w' ⟨s0,s1,s2,s3⟩
 go_simp
 with_reducible rfl
 }
 rotate_left
 {
 simp only [Act.put,zA,zB,zC,i64_w,i32_w]
 rfl
 }
 refine take_ (i:=1) (N:=some 23) (v:=?_) (a':=?_) #[true,true,false,false,false] rfl rfl (by kernel_rfl) (fun _ _ _ h=>h) (Or.inl ⟨by rfl,?_⟩) hHeld ?_ ?_
 rotate_left
 {
 rintro w' ⟨s0,s1,s2,s3⟩
 go_simp
 with_reducible rfl
 }
 rotate_left
 {
 simp only [Act.put,zA,zB,zC,i64_w,i32_w]
 rfl
 }
 refine one_ (i:=2) (N:=some 24) #[true,true,true,false,false] rfl rfl (by kernel_rfl) (by decide) (fun K hK => ?_)
 refine goes_ Try.func7 (by kernel_rfl) rfl #[.agg #[.slice A0_0 l0_0.length c0_0,.slice A0_1 l0_1.length c0_1]] (by rfl) rfl rfl aX ?_
 with_reducible refine(laws_toSurface.calls k _ _ l0_0 _ _ l0_1 t571 t574 _ ?side1 ?side2 ?side3 ?side4 A12.out).mono ?_
 (case side1=>exact cX (Kd.C_below HR0_0.out HB.out))
 (case side2=>exact HC0_0.out)
 (case side3=>exact cX (Kd.C_below HR0_1.out HB.out))
 (case side4=>exact HC0_1.out)
 rintro e w32 ⟨v572,v575,rfl,ho0,ho1,hb⟩
 refine ⟨_,rfl,?_⟩
 have HO573:=aM (Kd.R_lower (Kd.R_new' (Kd.R_new' (Kd.R_new' (Kd.R_new' ho0 (Kd.R_lt (rX HO558.out))) (Kd.R_lt (rX HO561.out))) (Kd.R_lt (rX HO565.out))) (Kd.R_lt (rX HO568.out))) (below_size (bX2 HB.out GE554.out GE569.out)))
 have HO576:=aM (Kd.R_lower (Kd.R_new' (Kd.R_new' (Kd.R_new' (Kd.R_new' ho1 (Kd.R_lt (rX HO558.out))) (Kd.R_lt (rX HO561.out))) (Kd.R_lt (rX HO565.out))) (Kd.R_lt (rX HO568.out))) (below_size (bX2 HB.out GE554.out GE569.out)))
 replace HO558:=aM (Kd.R_mono (Kd.R_told (Kd.R_told (Kd.R_old (rX HO558.out) hb) (Kd.R_base ho0)) (Kd.R_base ho1)) (fun _ h_=>h_.1))
 replace HO561:=aM (Kd.R_mono (Kd.R_told (Kd.R_told (Kd.R_old (rX HO561.out) hb) (Kd.R_base ho0)) (Kd.R_base ho1)) (fun _ h_=>h_.1))
 replace HO565:=aM (Kd.R_mono (Kd.R_told (Kd.R_told (Kd.R_old (rX HO565.out) hb) (Kd.R_base ho0)) (Kd.R_base ho1)) (fun _ h_=>h_.1))
 replace HO568:=aM (Kd.R_mono (Kd.R_told (Kd.R_told (Kd.R_old (rX HO568.out) hb) (Kd.R_base ho0)) (Kd.R_base ho1)) (fun _ h_=>h_.1))
 replace BK554:=aM (bbX BK554.out hb)
 replace BK569:=aM (bbX BK569.out hb)
 replace HB:=aM (below_step (bX2 HB.out GE554.out GE569.out) hb)
 (try clear hb)
 (try clear ho0)
 (try clear ho1)
 obtain ⟨Ao33,co33,eo33⟩:=Kd.R_slice HO573.out
 (first|subst eo33|(injection eo33 with f1_ f2_ f3_;have f4_:=f1_.symm;have f5_:=f3_.symm;clear f1_ f2_ f3_;subst f4_;subst f5_))
 obtain ⟨Ao34,co34,eo34⟩:=Kd.R_slice HO576.out
 (first|subst eo34|(injection eo34 with f1_ f2_ f3_;have f4_:=f1_.symm;have f5_:=f3_.symm;clear f1_ f2_ f3_;subst f4_;subst f5_))
 refine hK.out _ _ ⟨cz20 BK569.out,cz21 BK569.out,cz20 BK554.out,cz21 BK554.out⟩ (fun hHeld => ?_)
 clear hK K
 refine norm_ (a':=?_) ?_ ?_
 rotate_left
 {
 show Act.put _ (some 24) _=_
 simp only [Act.put,zA,zB,zC,i64_w,i32_w]
 rfl
 }
 refine one_ (i:=3) (N:=some 25) #[true,true,true,true,false] rfl rfl (by kernel_rfl) (by decide) (fun K hK => ?_)
 refine goes_ Try.func9 (by kernel_rfl) rfl #[.agg #[.slice Ao26 t563.length co26,.slice Ao29 t566.length co29],.agg #[.slice Ao33 t571.length co33,.slice Ao34 t574.length co34]] (by rfl) rfl rfl aX ?_
 with_reducible refine(laws_eqSurface.calls k _ _ t563 _ _ t566 _ _ t571 _ _ t574 true _ ?side1 ?side2 ?side3 ?side4 ?side5 ?side6 ?side7 ?side8 A13.out).mono ?_
 (case side1=>exact cX (Kd.R_reads' HO565.out).2.2)
 (case side2=>exact(Kd.R_reads' HO565.out).2.1)
 (case side3=>exact cX (Kd.R_reads' HO568.out).2.2)
 (case side4=>exact(Kd.R_reads' HO568.out).2.1)
 (case side5=>exact cX (Kd.R_reads' HO573.out).2.2)
 (case side6=>exact(Kd.R_reads' HO573.out).2.1)
 (case side7=>exact cX (Kd.R_reads' HO576.out).2.2)
 (case side8=>exact(Kd.R_reads' HO576.out).2.1)
 rintro e w35 ⟨rfl,hb⟩
 refine ⟨_,rfl,?_⟩
 replace HO558:=aM (Kd.R_below (rX HO558.out) hb)
 replace HO561:=aM (Kd.R_below (rX HO561.out) hb)
 replace HO565:=aM (Kd.R_below (rX HO565.out) hb)
 replace HO568:=aM (Kd.R_below (rX HO568.out) hb)
 replace HO573:=aM (Kd.R_below (rX HO573.out) hb)
 replace HO576:=aM (Kd.R_below (rX HO576.out) hb)
 replace BK554:=aM (bbX BK554.out hb)
 replace BK569:=aM (bbX BK569.out hb)
 replace HB:=aM (below_step (bX2 HB.out GE554.out GE569.out) hb)
 (try clear hb)
 refine hK.out _ _ ⟨cz20 BK569.out,cz21 BK569.out,cz20 BK554.out,cz21 BK554.out⟩ (fun hHeld => ?_)
 clear hK K
 refine norm_ (a':=?_) ?_ ?_
 rotate_left
 {
 show Act.put _ (some 25) _=_
 simp only [Act.put,zA,zB,zC,i64_w,i32_w]
 rfl
 }
 refine pure_ (i:=4) (N:=some 26) (v:=?_) (a':=?_) #[true,true,true,true,true] rfl rfl (by kernel_rfl) (fun _ _ _ h=>h) (Or.inl ⟨by rfl,?_⟩) ?_ ?_
 rotate_left
 {
 intro w'
 go_simp
 with_reducible rfl
 }
 rotate_left
 {
 simp only [Act.put,zA,zB,zC,i64_w,i32_w]
 rfl
 }
 refine done_ (by kernel_rfl) ?_
 try go_wp2
 go_ret
 exact ⟨eX,bX2 HB.out GE554.out GE569.out⟩
 }
 {
 replace c14:=Bool.eq_false_iff.mpr c14
 subst c14
 have H1:(some false)=some r:=by rw [if_neg (show ¬ (false=true) by decide)] at H;exact H
 clear H
 have H:=H1
 clear H1
 exact absurd ((Option.some.inj H).trans HRT.out) (by decide)
 }
 }
 {
 rw [if_neg c11] at H
 have c11b0:(t570.toList == t562.toList)=false:=beq_eq_false_iff_ne.mpr c11
 have c11b1:(t570.toList != t562.toList)=true:=bne_iff_ne.mpr c11
 exact absurd ((Option.some.inj H).trans HRT.out) (by decide)
 }
 }

end Go.Proofs.Ytmhjcbcjpidegaa.S
