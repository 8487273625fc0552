-- PRINTED by print.py (a twelfth state) out of the translation. Not trusted: Lean checks it.
import Derived.Test.YthhdgeafdnikcaaDoorS0
import Derived.Test.YthhdgeafdnikcaaDoorS2
import Derived.Test.YthhdgeafdnikcaaDoorS4
import Derived.Test.YthhdgeafdnikcaaDoorS9
namespace Go.Proofs.YthhdgeafdnikcaaDoor.S
set_option maxHeartbeats 8000000
set_option maxRecDepth 100000
open Go.RowKit Go.Proofs.YthhdgeafdnikcaaDoorW.PrintWords Go.Proofs.YthhdgeafdnikcaaDoorW.PrintLast Go.Proofs.YthhdgeafdnikcaaDoorW.PrintMore
attribute [local go_sem] max2_int min2_int max_two min_two max_three min_three max_four min_four   -- for this text's walks alone
set_option linter.unusedVariables false
set_option linter.unusedSimpArgs false

/-! ### i_IsHyperelliptic: function 9 -/
def i_IsHyperelliptic.l0 : Nat→List (List Int)→Int→Int→List Int→List Int→Option (Bool)
 | 0,_,_,_,_,_=>none
 | k+1,x6,x7,x8,x687000,x687001=>if x8<x7 then (if 0≤x8 then (if x8<(x6.length:Int) then ((i_QuotientGenus.f k x687000 x687001 (rd_L2 x6 x8)).bind fun t691=>(if t691=0 then (some true) else (i_IsHyperelliptic.l0 k x6 x7 (wrap64 (x8+1)) x687000 x687001))) else (none)) else (none)) else (some false)
def i_IsHyperelliptic.f (k:Nat) (l0_0:List Int) (l0_1:List Int):Option (Bool):=(i_TurnsOf.f k l0_0 l0_1).bind fun t687=>(i_IsHyperelliptic.l0 k t687 (t687.length:Int) 0 l0_0 l0_1)
theorem i_IsHyperelliptic.calls (k:Nat) (A0_0:Option Addr) (c0_0:Nat) (l0_0:List Int) (A0_1:Option Addr) (c0_1:Nat) (l0_1:List Int) (r:Bool) (w:World) (hr0_0:Kd.C (Kd.int .i64) w A0_0 l0_0.length l0_0) (hc0_0:l0_0.length≤c0_0) (hr0_1:Kd.C (Kd.int .i64) w A0_1 l0_1.length l0_1) (hc0_1:l0_1.length≤c0_1) (h:i_IsHyperelliptic.f k l0_0 l0_1=some r) :
  Calls Tryd.prog 9 #[.agg #[.slice A0_0 l0_0.length c0_0,.slice A0_1 l0_1.length c0_1]] w fun e w'=>e = .returned (.bool r)∧Below w.heap.size w w':=by
 have hu25:=Tryd.underlying25
 have HR0_0:=aM hr0_0
 have HC0_0:=aM hc0_0
 clear hr0_0 hc0_0
 have HR0_1:=aM hr0_1
 have HC0_1:=aM hc0_1
 clear hr0_1 hc0_1
 have HB:=aM (Below.refl w.heap.size w)
 have H:((i_TurnsOf.f k l0_0 l0_1).bind fun t687=>(i_IsHyperelliptic.l0 k t687 (t687.length:Int) 0 l0_0 l0_1))=some r:=h
 clear h
 replace H:=oB H
 obtain ⟨t687,A20,H⟩:=H
 have A2:=aM A20
 clear A20
 have H':=aM H
 clear H
 go_enter Tryd.func9,Tryd.ntmps9
 go_wp2_with (first|((with_reducible refine gate_dst (N:=1) rfl ?_);refine bEv (cs:=#[.slice A0_0 l0_0.length c0_0,.slice A0_1 l0_1.length c0_1]) (t:=25) ?_;intro gb686 hg w3 hbox hb;have BK686:=aM (hbox);have GW686:=aM ((szX (below_size (bX HB.out)) hg:w.heap.size≤gb686));have GE686:=GW686;replace HB:=aM (below_step (bX HB.out) hb);clear hb hbox hg;obtain ⟨hcz4_0,hcz4_1,hfz4_0,hfz4_1⟩:=f2Z BK686.out)|((with_reducible refine gate_callee (f:=5) rfl ?_);refine goesL_ (some 6) rfl rfl Tryd.func5 (by kernel_rfl) rfl #[.agg #[.slice A0_0 l0_0.length c0_0,.slice A0_1 l0_1.length c0_1]] rfl aX ?_;(with_reducible refine(i_TurnsOf.calls k _ _ l0_0 _ _ l0_1 t687 _ ?side1 ?side2 ?side3 ?side4 A2.out).mono ?_);(case side1=>exact cX (Kd.C_below HR0_0.out HB.out));(case side2=>exact HC0_0.out);(case side3=>exact cX (Kd.C_below HR0_1.out HB.out));(case side4=>exact HC0_1.out);rintro e w5 ⟨v688,rfl,ho0,hb⟩;refine ⟨_,rfl,?_⟩;have HO689:=aM (Kd.S_lower ho0 (below_size (bX1 HB.out GE686.out)));replace BK686:=aM (bbX BK686.out hb);replace HB:=aM (below_step (bX1 HB.out GE686.out) hb);(try clear hb);(try clear ho0);obtain ⟨Ao6,co6,eo6⟩:=Kd.S_slice HO689.out;subst eo6))
 go_loopg [8] k (fun kq v8 w'=>∃ (x8_1:Int),v8 = .int .i64 x8_1∧Aside0 (i_IsHyperelliptic.l0 kq t687 (t687.length:Int) x8_1 l0_0 l0_1=some r)∧Aside0 (kq≤k)∧Aside0 (Kd.S (Kd.slice 3 (Kd.int .i64)) 23 w' w.heap.size (fun _=>True) (.slice Ao6 t687.length co6) t687)∧Aside0 (w'.heap[gb686]? = some (.cells #[(.slice A0_0 l0_0.length c0_0),(.slice A0_1 l0_1.length c0_1)] 25 (0,0)))∧Aside0 (Below w.heap.size w w'))
 case atStart=>exact ⟨(0),vX,H',⟨Nat.le_refl _⟩,⟨sX HO689.out⟩,⟨kX BK686.out⟩,⟨bX1 HB.out GE686.out⟩⟩
 case round =>
 clear H'
 try clear hcz4_0
 try clear hcz4_1
 try clear hfz4_0
 try clear hfz4_1
 obtain ⟨x8_1,rfl,HA,HK1,HO_6,BK686,HB⟩:=hrel
 cases gk with
 | zero=>exact absurd HA.out (by simp [i_IsHyperelliptic.l0])
 | succ k1 =>
 have H:=HA.out
 clear HA
 simp only [i_IsHyperelliptic.l0] at H
 by_cases c7:x8_1<(t687.length:Int)
 {
 rw [if_pos c7] at H
 have c7b0:=decide_eq_true c7
 clear c7
 by_cases c8:0≤x8_1
 {
 rw [if_pos c8] at H
 have c8b0:=decide_eq_true c8
 clear c8
 by_cases c9:x8_1<(t687.length:Int)
 {
 rw [if_pos c9] at H
 have c9b0:=decide_eq_true c9
 clear c9
 replace H:=oB H
 obtain ⟨t691,A100,H⟩:=H
 have A10:=aM A100
 clear A100
 by_cases c11:t691=0
 {
 rw [if_pos c11] at H
 have c11b0:(t691 == 0)=true:=beq_iff_eq.mpr c11
 have c11b1:(t691 != 0)=false:=bne_eq_false_iff_eq.mpr c11
 clear c11
 obtain rfl:=Option.some.inj H
 have p690:0≤(x8_1:Int):=dX
 have q690:x8_1<(t687.length:Int):=dX
 obtain ⟨ad690,A690_0,c690_0,e690,hx690_0,hl690_0,hi690_0⟩:=at_L2 (Kd.S_reads' HO_6.out).2.2 x8_1 p690 q690
 cases e690
 obtain ⟨ce690,hce690,hMe690,hcc690⟩:=Kd.S_get HO_6.out [] x8_1 p690 (by first|exact q690|exact dX|(have e_:=(Kd.S_reads' HO_6.out).1;omega))
 obtain ⟨ve690_0,rfl,ge690_0⟩:=hMe690
 have hv690_0:=hcc690 0 _ rfl
 rw [Nat.add_zero,show ((Kd.slice 3 (Kd.int .i64))).sz=1 from rfl,Nat.mul_one] at hv690_0
 replace hv690_0:=Option.some.inj (hv690_0.symm.trans hx690_0)
 rw [hv690_0] at ge690_0
 have HL690_0:=aM (show Kd.R (Kd.int .i64) 3 _ _ _ _ (rd_L2 t687 x8_1) from ge690_0)
 clear hv690_0 ge690_0 hcc690 hce690
 have HR690_0:=aM hi690_0
 have HC690_0:=aM hl690_0
 clear hi690_0 hl690_0
 replace p690:=eq_true p690
 replace q690:=eq_true q690
 obtain ⟨hcz12_0,hcz12_1,hfz12_0,hfz12_1⟩:=f2Z BK686.out
 go_wp2_with (first|((with_reducible refine gate_callee (f:=12) rfl ?_);refine goesL_ (some 14) rfl rfl Tryd.func12 (by kernel_rfl) rfl #[.agg #[.slice A0_0 l0_0.length c0_0,.slice A0_1 l0_1.length c0_1],.slice A690_0 (rd_L2 t687 x8_1).length c690_0] rfl aX ?_;(with_reducible refine(i_QuotientGenus.calls k1 _ _ l0_0 _ _ l0_1 _ _ (rd_L2 t687 x8_1) t691 _ ?side1 ?side2 ?side3 ?side4 ?side5 ?side6 A10.out).mono ?_);(case side1=>exact cX (Kd.C_below HR0_0.out HB.out));(case side2=>exact HC0_0.out);(case side3=>exact cX (Kd.C_below HR0_1.out HB.out));(case side4=>exact HC0_1.out);(case side5=>exact cX (cX HR690_0.out));(case side6=>exact HC690_0.out);rintro e w13 ⟨rfl,hb⟩;refine ⟨_,rfl,?_⟩;replace HO_6:=aM (Kd.S_below (sX HO_6.out) hb);replace HL690_0:=aM (Kd.R_below (rX HL690_0.out) hb);replace BK686:=aM (bbX BK686.out hb);replace HR690_0:=aM (Kd.C_below (cX HR690_0.out) hb);replace HB:=aM (below_step (bX1 HB.out GE686.out) hb);(try clear hb)))
 go_ret
 exact ⟨eX,bX1 HB.out GE686.out⟩
 }
 {
 rw [if_neg c11] at H
 have c11b0:(t691 == 0)=false:=beq_eq_false_iff_ne.mpr c11
 have c11b1:(t691 != 0)=true:=bne_iff_ne.mpr c11
 have H':=aM H
 clear H
 have p690:0≤(x8_1:Int):=dX
 have q690:x8_1<(t687.length:Int):=dX
 obtain ⟨ad690,A690_0,c690_0,e690,hx690_0,hl690_0,hi690_0⟩:=at_L2 (Kd.S_reads' HO_6.out).2.2 x8_1 p690 q690
 cases e690
 obtain ⟨ce690,hce690,hMe690,hcc690⟩:=Kd.S_get HO_6.out [] x8_1 p690 (by first|exact q690|exact dX|(have e_:=(Kd.S_reads' HO_6.out).1;omega))
 obtain ⟨ve690_0,rfl,ge690_0⟩:=hMe690
 have hv690_0:=hcc690 0 _ rfl
 rw [Nat.add_zero,show ((Kd.slice 3 (Kd.int .i64))).sz=1 from rfl,Nat.mul_one] at hv690_0
 replace hv690_0:=Option.some.inj (hv690_0.symm.trans hx690_0)
 rw [hv690_0] at ge690_0
 have HL690_0:=aM (show Kd.R (Kd.int .i64) 3 _ _ _ _ (rd_L2 t687 x8_1) from ge690_0)
 clear hv690_0 ge690_0 hcc690 hce690
 have HR690_0:=aM hi690_0
 have HC690_0:=aM hl690_0
 clear hi690_0 hl690_0
 replace p690:=eq_true p690
 replace q690:=eq_true q690
 obtain ⟨hcz14_0,hcz14_1,hfz14_0,hfz14_1⟩:=f2Z BK686.out
 go_wp2_with (first|((with_reducible refine gate_callee (f:=12) rfl ?_);refine goesL_ (some 14) rfl rfl Tryd.func12 (by kernel_rfl) rfl #[.agg #[.slice A0_0 l0_0.length c0_0,.slice A0_1 l0_1.length c0_1],.slice A690_0 (rd_L2 t687 x8_1).length c690_0] rfl aX ?_;(with_reducible refine(i_QuotientGenus.calls k1 _ _ l0_0 _ _ l0_1 _ _ (rd_L2 t687 x8_1) t691 _ ?side1 ?side2 ?side3 ?side4 ?side5 ?side6 A10.out).mono ?_);(case side1=>exact cX (Kd.C_below HR0_0.out HB.out));(case side2=>exact HC0_0.out);(case side3=>exact cX (Kd.C_below HR0_1.out HB.out));(case side4=>exact HC0_1.out);(case side5=>exact cX (cX HR690_0.out));(case side6=>exact HC690_0.out);rintro e w15 ⟨rfl,hb⟩;refine ⟨_,rfl,?_⟩;replace HO_6:=aM (Kd.S_below (sX HO_6.out) hb);replace HL690_0:=aM (Kd.R_below (rX HL690_0.out) hb);replace BK686:=aM (bbX BK686.out hb);replace HR690_0:=aM (Kd.C_below (cX HR690_0.out) hb);replace HB:=aM (below_step (bX1 HB.out GE686.out) hb);(try clear hb)))
 go_roundg k1
 case measure=>have:=HK1.out;omega
 case rel=>exact ⟨(wrap64 (x8_1+1)),vX,H',⟨by have:=HK1.out;omega⟩,⟨sX HO_6.out⟩,⟨kX BK686.out⟩,⟨bX1 HB.out GE686.out⟩⟩
 }
 }
 {
 rw [if_neg c9] at H
 exact absurd H (by simp)
 }
 }
 {
 rw [if_neg c8] at H
 exact absurd H (by simp)
 }
 }
 {
 rw [if_neg c7] at H
 have c7b0:=decide_eq_false c7
 clear c7
 obtain rfl:=Option.some.inj H
 go_wp2
 go_ret
 exact ⟨eX,bX1 HB.out GE686.out⟩
 }

/-! ### laws_total: function 14 -/
def laws_total.l0 : Nat→Int→List Int→Int→Int→Option (Int)
 | 0,_,_,_,_=>none
 | k+1,x3,x6,x7,x8=>if x8<x7 then (if 0≤x8 then (if x8<(x6.length:Int) then (laws_total.l0 k (wrap64 (x3+(rd x6 x8))) x6 x7 (wrap64 (x8+1))) else (none)) else (none)) else (some x3)
def laws_total.f (k:Nat) (l0:List Int):Option (Int):=laws_total.l0 k 0 l0 (l0.length:Int) 0
theorem laws_total.calls (k:Nat) (A0:Option Addr) (c0:Nat) (l0:List Int) (r:Int) (w:World) (hr0:Kd.C (Kd.int .i64) w A0 l0.length l0) (hc0:l0.length≤c0) (h:laws_total.f k l0=some r) :
  Calls Tryd.prog 14 #[.slice A0 l0.length c0] w fun e w'=>e = .returned (.int .i64 r)∧Drawn0 w w':=by
 have HR0:=aM hr0
 have HC0:=aM hc0
 clear hr0 hc0
 have H:(laws_total.l0 k 0 l0 (l0.length:Int) 0)=some r:=h
 clear h
 have H':=aM H
 clear H
 go_enter Tryd.func14,Tryd.ntmps14
 go_wp2
 go_loopg [3,8] k (fun kq v3 v8 w'=>∃ (x3_1:Int) (x8_1:Int),v3 = .int .i64 x3_1∧v8 = .int .i64 x8_1∧Aside0 (laws_total.l0 kq x3_1 l0 (l0.length:Int) x8_1=some r)∧Aside0 (kq≤k)∧Drawn0 w w')
 case atStart=>exact ⟨(0),(0),vX,vX,H',⟨Nat.le_refl _⟩,by repeat(first|exact Drawn0.refl _|apply Drawn0.step)⟩
 case round =>
 clear H'
 obtain ⟨x3_1,x8_1,rfl,rfl,HA,HK1,⟨m1,rfl⟩⟩:=hrel
 cases gk with
 | zero=>exact absurd HA.out (by simp [laws_total.l0])
 | succ k1 =>
 have H:=HA.out
 clear HA
 simp only [laws_total.l0] at H
 by_cases c2:x8_1<(l0.length:Int)
 {
 rw [if_pos c2] at H
 have c2b0:=decide_eq_true c2
 clear c2
 by_cases c3:0≤x8_1
 {
 rw [if_pos c3] at H
 have c3b0:=decide_eq_true c3
 clear c3
 by_cases c4:x8_1<(l0.length:Int)
 {
 rw [if_pos c4] at H
 have c4b0:=decide_eq_true c4
 clear c4
 have H':=aM H
 clear H
 have p692:0≤(x8_1:Int):=dX
 have q692:x8_1<(l0.length:Int):=dX
 obtain ⟨ad692,e692,hx692_0⟩:=Kd.at_int HR0.out x8_1 p692 q692
 cases e692
 replace p692:=eq_true p692
 replace q692:=eq_true q692
 go_wp2
 go_roundg k1
 case measure=>have:=HK1.out;omega
 case rel=>exact ⟨(wrap64 (x3_1+(rd l0 x8_1))),(wrap64 (x8_1+1)),vX,vX,H',⟨by have:=HK1.out;omega⟩,by repeat(first|exact Drawn0.refl _|apply Drawn0.step)⟩
 }
 {
 rw [if_neg c4] at H
 exact absurd H (by simp)
 }
 }
 {
 rw [if_neg c3] at H
 exact absurd H (by simp)
 }
 }
 {
 rw [if_neg c2] at H
 have c2b0:=decide_eq_false c2
 clear c2
 obtain rfl:=Option.some.inj H
 go_wp2
 go_ret
 exact ⟨by first|rfl|(simp;done)|(simp [*];done),by repeat(first|exact Drawn0.refl _|apply Drawn0.step)⟩
 }

/-! ### strconv_Itoa: function 61 -/
/-! by hand -/
def strconv_Itoa.f (a0:Int):Option (ByteArray):=if -9223372036854775808≤a0∧a0≤9223372036854775807 then some ⟨(Go.Lib.itoa a0).toArray⟩ else none
theorem strconv_Itoa.calls (a0:Int) (r:ByteArray) (w:World) (htab_:PowTab w) (h:strconv_Itoa.f a0=some r) :
    Calls Tryd.prog 61 #[.int .i64 a0] w fun e w'=>e = .returned (.string r)∧Below w.heap.size w w':=by
  unfold strconv_Itoa.f at h
  by_cases hh : -9223372036854775808≤a0∧a0≤9223372036854775807
  · rw [if_pos hh] at h
    obtain rfl:=Option.some.inj h
    refine(Tryd.strconv_Itoa a0 hh.1 hh.2 w htab_.tab).mono ?_
    rintro e w' ⟨rfl,k,os,rfl⟩
    exact ⟨rfl,Go.Lib.below_grow _ w (Nat.le_refl _) k os⟩
  · rw [if_neg hh] at h
    exact absurd h (by simp)

/-! ### i_FormatInt: function 51 -/
def i_FormatInt.f (a0:Int):Option (ByteArray):=(strconv_Itoa.f a0).bind fun t693=>(some t693)
theorem i_FormatInt.calls (a0:Int) (r:ByteArray) (w:World) (htab_:PowTab w) (h:i_FormatInt.f a0=some r) :
  Calls Tryd.prog 51 #[.int .i64 a0] w fun e w'=>e = .returned (.string r)∧Below w.heap.size w w':=by
 have HB:=aM (Below.refl w.heap.size w)
 have H:((strconv_Itoa.f a0).bind fun t693=>(some t693))=some r:=h
 clear h
 have HTAB:=aM htab_
 clear htab_
 replace H:=oB H
 obtain ⟨t693,A20,H⟩:=H
 have A2:=aM A20
 clear A20
 obtain rfl:=Option.some.inj H
 go_enter Tryd.func51,Tryd.ntmps51
 go_wp2_with (first|((with_reducible refine gate_callee (f:=61) rfl ?_);refine goesL_ (some 4) rfl rfl Tryd.func61 (by kernel_rfl) rfl #[.int .i64 a0] rfl (by(try simp only [List.map_toArray,List.map_cons,List.map_nil]);first|done|rfl|(simp only [List.length_drop,List.length_take];rfl)) ?_;(with_reducible refine(strconv_Itoa.calls a0 t693 _ ?side1 A2.out).mono ?_);(case side1=>exact PowTab.below HTAB.out (by repeat(first|(with_reducible first|exact HB.out|apply below_alloc|apply pw_below_drewN|apply below_drew1)|exact HB.out)));rintro e w3 ⟨rfl,hb⟩;refine ⟨_,rfl,?_⟩;replace HB:=aM (below_step (by repeat(first|(with_reducible first|exact HB.out|apply below_alloc|apply pw_below_drewN|apply below_drew1)|exact HB.out)) hb);(try clear hb)))
 go_ret
 exact ⟨eX,by repeat(first|(with_reducible first|exact HB.out|apply below_alloc|apply pw_below_drewN|apply below_drew1)|exact HB.out)⟩

/-! ### strings_Join: function 62 -/
/-! by hand -/
def joinB (l:List ByteArray) (by_:ByteArray):List UInt8:=Go.Lib.join (l.map (·.data.toList)) by_.data.toList
def strings_Join.f (l0:List ByteArray) (a1:ByteArray):Option (ByteArray):=if l0.length≤140737488355328∧(joinB l0 a1).length≤140737488355328 then some ⟨(joinB l0 a1).toArray⟩ else none
theorem strings_Join.calls (A0:Option Addr) (c0:Nat) (l0:List ByteArray) (a1:ByteArray) (r:ByteArray) (w:World) (hr0:Kd.C Kd.string w A0 l0.length l0) (hc0:l0.length≤c0) (h:strings_Join.f l0 a1=some r) :
    Calls Tryd.prog 62 #[.slice A0 l0.length c0,.string a1] w fun e w'=>e = .returned (.string r)∧Below w.heap.size w w':=by
  unfold strings_Join.f at h
  by_cases hh:l0.length≤140737488355328∧(joinB l0 a1).length≤140737488355328
  · rw [if_pos hh] at h
    obtain rfl:=Option.some.inj h
    cases l0 with
    | nil =>
      refine(Tryd.strings_Join_none A0 c0 a1 w).mono ?_
      rintro e w' ⟨rfl,rfl⟩
      exact ⟨rfl,Below.refl _ _⟩
    | cons x xs =>
      obtain ⟨ad,e,hx⟩:=Kd.at_string hr0 0 (by omega) (by simp)
      subst e
      obtain ⟨b,o,s⟩:=ad
      have hs:s=none∧b<w.heap.size:=by
        rw [show (⟨b,o,s⟩:Addr).add (0:Int).toNat=⟨b,o,s⟩ from by simp [Addr.add]] at hx
        simp only [World.cell?] at hx
        split at hx
        · rename_i hb
          have hlt:b<w.heap.size:=by
            rcases Nat.lt_or_ge b w.heap.size with h|h
            · exact h
            · rw [Array.getElem?_eq_none h] at hb
              cases hb
          cases s with
          | none=>exact ⟨rfl,hlt⟩
          | some _=>simp at hx
        · cases hx
      obtain ⟨rfl,hlt⟩:=hs
      refine(Tryd.strings_Join b o c0 (x :: xs) a1 w ?_ hlt hh.1 hc0 hh.2).mono ?_
      · intro j y hj
        have hjl:j<(x :: xs).length:=(List.getElem?_eq_some_iff.1 hj).1
        obtain ⟨ad,e,hy⟩:=Kd.at_string hr0 j (by omega) (by omega)
        obtain rfl:=Option.some.inj e
        rw [show rdOf ByteArray.empty (x :: xs) j=y from by simp [rdOf,List.getD,hj]] at hy
        have e2:(⟨b,o,none⟩:Addr).add ((j:Int)).toNat=⟨b,o+j,none⟩:=by cases j <;> simp [Addr.add]
        rw [e2] at hy
        exact hy
      · rintro e w' ⟨rfl,hb⟩
        exact ⟨rfl,hb⟩
  · rw [if_neg hh] at h
    exact absurd h (by simp)

/-! ### i_Join: function 52 -/
def i_Join.f (l0:List ByteArray) (a1:ByteArray):Option (ByteArray):=(strings_Join.f l0 a1).bind fun t694=>(some t694)
theorem i_Join.calls (A0:Option Addr) (c0:Nat) (l0:List ByteArray) (a1:ByteArray) (r:ByteArray) (w:World) (hr0:Kd.C Kd.string w A0 l0.length l0) (hc0:l0.length≤c0) (h:i_Join.f l0 a1=some r) :
  Calls Tryd.prog 52 #[.slice A0 l0.length c0,.string a1] w fun e w'=>e = .returned (.string r)∧Below w.heap.size w w':=by
 have HR0:=aM hr0
 have HC0:=aM hc0
 clear hr0 hc0
 have HB:=aM (Below.refl w.heap.size w)
 have H:((strings_Join.f l0 a1).bind fun t694=>(some t694))=some r:=h
 clear h
 replace H:=oB H
 obtain ⟨t694,A30,H⟩:=H
 have A3:=aM A30
 clear A30
 obtain rfl:=Option.some.inj H
 go_enter Tryd.func52,Tryd.ntmps52
 go_wp2_with (first|((with_reducible refine gate_callee (f:=62) rfl ?_);refine goesL_ (some 7) rfl rfl Tryd.func62 (by kernel_rfl) rfl #[.slice A0 l0.length c0,.string a1] rfl (by(try simp only [List.map_toArray,List.map_cons,List.map_nil]);first|done|rfl|(simp only [List.length_drop,List.length_take];rfl)) ?_;(with_reducible refine(strings_Join.calls _ _ l0 a1 t694 _ ?side1 ?side2 A3.out).mono ?_);(case side1=>exact cX HR0.out);(case side2=>exact HC0.out);rintro e w4 ⟨rfl,hb⟩;refine ⟨_,rfl,?_⟩;replace HB:=aM (below_step (by repeat(first|(with_reducible first|exact HB.out|apply below_alloc|apply pw_below_drewN|apply below_drew1)|exact HB.out)) hb);(try clear hb)))
 go_ret
 exact ⟨eX,by repeat(first|(with_reducible first|exact HB.out|apply below_alloc|apply pw_below_drewN|apply below_drew1)|exact HB.out)⟩

/-! ### i_joinInts: function 33 -/
def i_joinInts.l0 : Nat→ByteArray→List ByteArray→List Int→Int→Int→Option (ByteArray)
 | 0,_,_,_,_,_=>none
 | k+1,x1,x5,x9,x10,x11=>if x11<x10 then (if 0≤x11 then (if x11<(x9.length:Int) then ((i_FormatInt.f (rd x9 x11)).bind fun t699=>(if x5.length<8796093022208 then (i_joinInts.l0 k x1 (x5 ++ [t699]) x9 x10 (wrap64 (x11+1))) else (none))) else (none)) else (none)) else ((i_Join.f x5 x1).bind fun t703=>(some t703))
def i_joinInts.f (k:Nat) (l0:List Int) (a1:ByteArray):Option (ByteArray):=i_joinInts.l0 k a1 (([]:List ByteArray)) l0 (l0.length:Int) 0
theorem i_joinInts.calls (k:Nat) (A0:Option Addr) (c0:Nat) (l0:List Int) (a1:ByteArray) (r:ByteArray) (w:World) (hr0:Kd.C (Kd.int .i64) w A0 l0.length l0) (hc0:l0.length≤c0) (htab_:PowTab w) (h:i_joinInts.f k l0 a1=some r) :
  Calls Tryd.prog 33 #[.slice A0 l0.length c0,.string a1] w fun e w'=>e = .returned (.string r)∧Below w.heap.size w w':=by
 have HR0:=aM hr0
 have HC0:=aM hc0
 clear hr0 hc0
 have HB:=aM (Below.refl w.heap.size w)
 have H:(i_joinInts.l0 k a1 (([]:List ByteArray)) l0 (l0.length:Int) 0)=some r:=h
 clear h
 have HTAB:=aM htab_
 clear htab_
 obtain ⟨y695,hy695⟩:∃ y_:List ByteArray,y_=(([]:List ByteArray)):=⟨_,rfl⟩
 replace H:(i_joinInts.l0 k a1 y695 l0 (l0.length:Int) 0)=some r:=by first|(rw [hy695];with_reducible exact H)|(have H2_:=(Option.bind_some _ _).symm.trans H;rw [hy695];with_reducible exact H2_)|(have H2_:=(Option.bind_some _ _).symm.trans H;with_reducible exact H2_)|with_reducible exact H|(rw [hy695];exact H)|exact H
 have Ny695:=aM hy695
 clear hy695
 have H':=aM H
 clear H
 go_enter Tryd.func33,Tryd.ntmps33
 go_wp2_with (first|((with_reducible refine gate_dst (N:=8) rfl ?_);refine Kd.R_lit Kd.string _ 9 ?hg (N:=8) ?hd (xs:=([]:List ByteArray)) (inner:=[]) (ok:=fun _=>True) (okp:=fun _=>True) ?hr ?hp (fun _ hk=>hk) trivial (Below.refl _ _) (Nat.le_refl _) (by simp) ?_;(case hd=>rfl);(case hg=>rfl);(case hr=>first|(go_simp;done)|(go_simp;rfl));(case hp=>exact(Reps.none _ _));intro v696 w3 ho4 hb hg_ hnew_;clear hg_ hnew_;(first|rw [← Ny695.out] at ho4|(simp only [Int.reduceToNat] at ho4;rw [← Ny695.out] at ho4));have HO697:=aM (Kd.R_lower ho4 (below_size (bX HB.out)));replace HB:=aM (below_step (bX HB.out) hb);clear hb ho4))
 go_loopg [5,11] k (fun kq v5 v11 w'=>∃ (x5_1:List ByteArray) (x11_1:Int),v11 = .int .i64 x11_1∧Aside0 (i_joinInts.l0 kq a1 x5_1 l0 (l0.length:Int) x11_1=some r)∧Aside0 (kq≤k)∧Aside0 (Kd.R Kd.string 9 w' w.heap.size (fun _=>True) v5 x5_1)∧Aside0 (Below w.heap.size w w'))
 case atStart=>exact ⟨(y695),(0),vX,H',⟨Nat.le_refl _⟩,⟨rX HO697.out⟩,⟨bX HB.out⟩⟩
 case round =>
 clear H'
 obtain ⟨x5_1,x11_1,rfl,HA,HK1,HO_5,HB⟩:=hrel
 cases gk with
 | zero=>exact absurd HA.out (by simp [i_joinInts.l0])
 | succ k1 =>
 have H:=HA.out
 clear HA
 simp only [i_joinInts.l0] at H
 by_cases c5:x11_1<(l0.length:Int)
 {
 rw [if_pos c5] at H
 have c5b0:=decide_eq_true c5
 clear c5
 by_cases c6:0≤x11_1
 {
 rw [if_pos c6] at H
 have c6b0:=decide_eq_true c6
 clear c6
 by_cases c7:x11_1<(l0.length:Int)
 {
 rw [if_pos c7] at H
 have c7b0:=decide_eq_true c7
 clear c7
 replace H:=oB H
 obtain ⟨t699,A80,H⟩:=H
 have A8:=aM A80
 clear A80
 by_cases c9:x5_1.length<8796093022208
 {
 rw [if_pos c9] at H
 have LMc9:=aM c9
 clear c9
 obtain ⟨y700,hy700⟩:∃ y_:List ByteArray,y_=(x5_1 ++ [t699]):=⟨_,rfl⟩
 replace H:(i_joinInts.l0 k1 a1 y700 l0 (l0.length:Int) (wrap64 (x11_1+1)))=some r:=by first|(rw [hy700];with_reducible exact H)|(have H2_:=(Option.bind_some _ _).symm.trans H;rw [hy700];with_reducible exact H2_)|(have H2_:=(Option.bind_some _ _).symm.trans H;with_reducible exact H2_)|with_reducible exact H|(rw [hy700];exact H)|exact H
 have Ny700:=aM hy700
 clear hy700
 have H':=aM H
 clear H
 have p698:0≤(x11_1:Int):=dX
 have q698:x11_1<(l0.length:Int):=dX
 obtain ⟨ad698,e698,hx698_0⟩:=Kd.at_int HR0.out x11_1 p698 q698
 cases e698
 replace hx698_0:=(HB.out.cell (World.block_lt_of_cell? w _ hx698_0)).trans hx698_0
 replace p698:=eq_true p698
 replace q698:=eq_true q698
 go_wp2_with (first|((with_reducible refine gate_callee (f:=51) rfl ?_);refine goesL_ (some 17) rfl rfl Tryd.func51 (by kernel_rfl) rfl #[.int .i64 (rd l0 x11_1)] rfl aX ?_;(with_reducible refine(i_FormatInt.calls (rd l0 x11_1) t699 _ ?side1 A8.out).mono ?_);(case side1=>exact PowTab.below HTAB.out (bX HB.out));rintro e w10 ⟨rfl,hb⟩;refine ⟨_,rfl,?_⟩;replace HO_5:=aM (Kd.R_below (rX HO_5.out) hb);replace HB:=aM (below_step (bX HB.out) hb);(try clear hb);(try clear hk))|((with_reducible refine gate_builtin (b:=.append) (xs:=#[.tmp 15,.tmp 18]) rfl ?_);at_builtin;refine Kd.R_append Kd.string (w0:=w) w.heap.size rfl (.tmp 15) (.tmp 18) 72 9 (.string ⟨#[]⟩) 16 rfl Tryd.underlying72 info9 rfl (by decide) (by omega) u5 x5_1 t699 [.string t699] (fun _=>True) (fun _=>False) rfl rfl ?aP (fun _ hk=>hk.elim) ?aF ?aO ?aB ?aS ?aL ?_;(case aP=>exact rfl);(case aB=>exact(bX HB.out));(case aF=>exact(fun _ _=>trivial));(case aO=>exact(rX HO_5.out));(case aS=>exact(below_size (bX HB.out)));(case aL=>have:=LMc9.out;omega);intro v701 w11 ho hb hg hat;rw [← Ny700.out] at ho;replace HB:=aM (hb);have HO702:=aM (ho);clear HO_5 ho hb hg hat))
 go_roundg k1
 case measure=>have:=HK1.out;omega
 case rel=>exact ⟨(y700),(wrap64 (x11_1+1)),vX,H',⟨by have:=HK1.out;omega⟩,⟨rX HO702.out⟩,⟨bX HB.out⟩⟩
 }
 {
 rw [if_neg c9] at H
 exact absurd H (by simp)
 }
 }
 {
 rw [if_neg c7] at H
 exact absurd H (by simp)
 }
 }
 {
 rw [if_neg c6] at H
 exact absurd H (by simp)
 }
 }
 {
 rw [if_neg c5] at H
 have c5b0:=decide_eq_false c5
 clear c5
 replace H:=oB H
 obtain ⟨t703,A120,H⟩:=H
 have A12:=aM A120
 clear A120
 obtain rfl:=Option.some.inj H
 obtain ⟨Ao13,co13,eo13⟩:=Kd.R_slice HO_5.out
 subst eo13
 go_wp2_with (first|((with_reducible refine gate_callee (f:=52) rfl ?_);refine goesL_ (some 23) rfl rfl Tryd.func52 (by kernel_rfl) rfl #[.slice Ao13 x5_1.length co13,.string a1] rfl aX ?_;(with_reducible refine(i_Join.calls _ _ x5_1 a1 t703 _ ?side1 ?side2 A12.out).mono ?_);(case side1=>exact cX (Kd.R_reads' HO_5.out).2.2);(case side2=>exact(Kd.R_reads' HO_5.out).2.1);rintro e w14 ⟨rfl,hb⟩;refine ⟨_,rfl,?_⟩;replace HO_5:=aM (Kd.R_below (rX HO_5.out) hb);replace HB:=aM (below_step (bX HB.out) hb);(try clear hb);(try clear hk)))
 go_ret
 exact ⟨eX,bX HB.out⟩
 }

/-! ### i_FormatPerm: function 32 -/
def i_FormatPerm.l0 : Nat→ByteArray→List (List Int)→Int→Int→Option (ByteArray)
 | 0,_,_,_,_=>none
 | k+1,x3,x10,x11,x12=>if x12<x11 then (if 0≤x12 then (if x12<(x10.length:Int) then (if ((rd_L2 x10 x12).length:Int) > 1 then ((i_joinInts.f k (rd_L2 x10 x12) (⟨#[32]⟩:ByteArray)).bind fun t709=>(if 1+t709.size≤9223372036854775807 then (if ((⟨#[40]⟩:ByteArray) ++ t709).size+1≤9223372036854775807 then (if x3.size+(((⟨#[40]⟩:ByteArray) ++ t709) ++ (⟨#[41]⟩:ByteArray)).size≤9223372036854775807 then (i_FormatPerm.l0 k (x3 ++ (((⟨#[40]⟩:ByteArray) ++ t709) ++ (⟨#[41]⟩:ByteArray))) x10 x11 (wrap64 (x12+1))) else (none)) else (none)) else (none))) else (i_FormatPerm.l0 k x3 x10 x11 (wrap64 (x12+1)))) else (none)) else (none)) else (if x3.toList=([]:List UInt8) then (some (⟨#[40,41]⟩:ByteArray)) else (some x3))
def i_FormatPerm.f (k:Nat) (l0:List Int):Option (ByteArray):=(i_PermOk.f l0).bind fun t704=>(if t704=true then ((i_CyclesOf.f k l0).bind fun t705=>(i_FormatPerm.l0 k (⟨#[]⟩:ByteArray) t705 (t705.length:Int) 0)) else (some (⟨#[]⟩:ByteArray)))
theorem i_FormatPerm.calls (k:Nat) (A0:Option Addr) (c0:Nat) (l0:List Int) (r:ByteArray) (w:World) (hr0:Kd.C (Kd.int .i64) w A0 l0.length l0) (hc0:l0.length≤c0) (htab_:PowTab w) (h:i_FormatPerm.f k l0=some r) :
  Calls Tryd.prog 32 #[.slice A0 l0.length c0] w fun e w'=>e = .returned (.string r)∧Below w.heap.size w w':=by
 have HR0:=aM hr0
 have HC0:=aM hc0
 clear hr0 hc0
 have HB:=aM (Below.refl w.heap.size w)
 have H:((i_PermOk.f l0).bind fun t704=>(if t704=true then ((i_CyclesOf.f k l0).bind fun t705=>(i_FormatPerm.l0 k (⟨#[]⟩:ByteArray) t705 (t705.length:Int) 0)) else (some (⟨#[]⟩:ByteArray))))=some r:=h
 clear h
 have HTAB:=aM htab_
 clear htab_
 replace H:=oB H
 obtain ⟨t704,A20,H⟩:=H
 have A2:=aM A20
 clear A20
 by_cases c3:t704=true
 {
 subst c3
 have H1:((i_CyclesOf.f k l0).bind fun t705=>(i_FormatPerm.l0 k (⟨#[]⟩:ByteArray) t705 (t705.length:Int) 0))=some r:=by rw [if_pos rfl] at H;exact H
 clear H
 have H:=H1
 clear H1
 replace H:=oB H
 obtain ⟨t705,A40,H⟩:=H
 have A4:=aM A40
 clear A40
 have H':=aM H
 clear H
 go_enter Tryd.func32,Tryd.ntmps32
 go_wp2_with (first|((with_reducible refine gate_callee (f:=31) rfl ?_);refine goesL_ (some 7) rfl rfl Tryd.func31 (by kernel_rfl) rfl #[.slice A0 l0.length c0] rfl aX ?_;(with_reducible refine(i_PermOk.calls _ _ l0 true _ ?side1 ?side2 A2.out).mono ?_);(case side1=>exact cX HR0.out);(case side2=>exact HC0.out);rintro e w5 ⟨rfl,hb⟩;refine ⟨_,rfl,?_⟩;replace HB:=aM (below_step (bX HB.out) hb);(try clear hb))|((with_reducible refine gate_callee (f:=42) rfl ?_);refine goesL_ (some 10) rfl rfl Tryd.func42 (by kernel_rfl) rfl #[.slice A0 l0.length c0] rfl aX ?_;(with_reducible refine(i_CyclesOf.calls k _ _ l0 t705 _ ?side1 ?side2 A4.out).mono ?_);(case side1=>exact cX (Kd.C_below HR0.out HB.out));(case side2=>exact HC0.out);rintro e w6 ⟨v706,rfl,ho0,hb⟩;refine ⟨_,rfl,?_⟩;have HO707:=aM (Kd.S_lower ho0 (below_size (bX HB.out)));replace HB:=aM (below_step (bX HB.out) hb);(try clear hb);(try clear ho0);obtain ⟨Ao7,co7,eo7⟩:=Kd.S_slice HO707.out;subst eo7))
 go_loopg [3,12] k (fun kq v3 v12 w'=>∃ (x3_1:ByteArray) (x12_1:Int),v3 = .string x3_1∧v12 = .int .i64 x12_1∧Aside0 (i_FormatPerm.l0 kq x3_1 t705 (t705.length:Int) x12_1=some r)∧Aside0 (kq≤k)∧Aside0 (Kd.S (Kd.slice 3 (Kd.int .i64)) 23 w' w.heap.size (fun _=>True) (.slice Ao7 t705.length co7) t705)∧Aside0 (Below w.heap.size w w'))
 case atStart=>exact ⟨((⟨#[]⟩:ByteArray)),(0),vX,vX,H',⟨Nat.le_refl _⟩,⟨sX HO707.out⟩,⟨bX HB.out⟩⟩
 case round =>
 clear H'
 try clear c3
 obtain ⟨x3_1,x12_1,rfl,rfl,HA,HK1,HO_10,HB⟩:=hrel
 cases gk with
 | zero=>exact absurd HA.out (by simp [i_FormatPerm.l0])
 | succ k1 =>
 have H:=HA.out
 clear HA
 simp only [i_FormatPerm.l0] at H
 by_cases c8:x12_1<(t705.length:Int)
 {
 rw [if_pos c8] at H
 have c8b0:=decide_eq_true c8
 clear c8
 by_cases c9:0≤x12_1
 {
 rw [if_pos c9] at H
 have c9b0:=decide_eq_true c9
 clear c9
 by_cases c10:x12_1<(t705.length:Int)
 {
 rw [if_pos c10] at H
 have c10b0:=decide_eq_true c10
 clear c10
 by_cases c11:((rd_L2 t705 x12_1).length:Int) > 1
 {
 rw [if_pos c11] at H
 have c11b0:=decide_eq_true c11
 have c11b1:decide (1<(rd_L2 t705 x12_1).length)=true:=decide_eq_true (by omega)
 clear c11
 replace H:=oB H
 obtain ⟨t709,A120,H⟩:=H
 have A12:=aM A120
 clear A120
 by_cases c13:1+t709.size≤9223372036854775807
 {
 rw [if_pos c13] at H
 have c13b0:=eq_true c13
 have c13b1:=decide_eq_true c13
 try have c13b2:(9223372036854775807<1+t709.size)=False:=eq_false (Nat.not_lt.2 c13)
 by_cases c14:((⟨#[40]⟩:ByteArray) ++ t709).size+1≤9223372036854775807
 {
 rw [if_pos c14] at H
 have c14b0:=eq_true c14
 have c14b1:=decide_eq_true c14
 try have c14b2:(9223372036854775807<((⟨#[40]⟩:ByteArray) ++ t709).size+1)=False:=eq_false (Nat.not_lt.2 c14)
 try have c14b3:(9223372036854775807<1+t709.size+1)=False:=eq_false (Nat.not_lt.2 (by have hz_:=c14;simp only [ByteArray.size_append] at hz_;first|exact hz_|omega))
 by_cases c15:x3_1.size+(((⟨#[40]⟩:ByteArray) ++ t709) ++ (⟨#[41]⟩:ByteArray)).size≤9223372036854775807
 {
 rw [if_pos c15] at H
 have c15b0:=eq_true c15
 have c15b1:=decide_eq_true c15
 try have c15b2:(9223372036854775807<x3_1.size+(((⟨#[40]⟩:ByteArray) ++ t709) ++ (⟨#[41]⟩:ByteArray)).size)=False:=eq_false (Nat.not_lt.2 c15)
 try have c15b3:(9223372036854775807<x3_1.size+(1+t709.size+1))=False:=eq_false (Nat.not_lt.2 (by have hz_:=c15;simp only [ByteArray.size_append] at hz_;first|exact hz_|omega))
 have H':=aM H
 clear H
 have p708:0≤(x12_1:Int):=dX
 have q708:x12_1<(t705.length:Int):=dX
 obtain ⟨ad708,A708_0,c708_0,e708,hx708_0,hl708_0,hi708_0⟩:=at_L2 (Kd.S_reads' HO_10.out).2.2 x12_1 p708 q708
 cases e708
 obtain ⟨ce708,hce708,hMe708,hcc708⟩:=Kd.S_get HO_10.out [] x12_1 p708 (by first|exact q708|exact dX|(have e_:=(Kd.S_reads' HO_10.out).1;omega))
 obtain ⟨ve708_0,rfl,ge708_0⟩:=hMe708
 have hv708_0:=hcc708 0 _ rfl
 rw [Nat.add_zero,show ((Kd.slice 3 (Kd.int .i64))).sz=1 from rfl,Nat.mul_one] at hv708_0
 replace hv708_0:=Option.some.inj (hv708_0.symm.trans hx708_0)
 rw [hv708_0] at ge708_0
 have HL708_0:=aM (show Kd.R (Kd.int .i64) 3 _ _ _ _ (rd_L2 t705 x12_1) from ge708_0)
 clear hv708_0 ge708_0 hcc708 hce708
 have HR708_0:=aM hi708_0
 have HC708_0:=aM hl708_0
 clear hi708_0 hl708_0
 replace p708:=eq_true p708
 replace q708:=eq_true q708
 go_wp2_with (first|((with_reducible refine gate_callee (f:=33) rfl ?_);refine goesL_ (some 21) rfl rfl Tryd.func33 (by kernel_rfl) rfl #[.slice A708_0 (rd_L2 t705 x12_1).length c708_0,.string (⟨#[32]⟩:ByteArray)] rfl aX ?_;(with_reducible refine(i_joinInts.calls k1 _ _ (rd_L2 t705 x12_1) (⟨#[32]⟩:ByteArray) t709 _ ?side1 ?side2 ?side3 A12.out).mono ?_);(case side1=>exact cX (cX HR708_0.out));(case side2=>exact HC708_0.out);(case side3=>exact PowTab.below HTAB.out (bX HB.out));rintro e w16 ⟨rfl,hb⟩;refine ⟨_,rfl,?_⟩;replace HO_10:=aM (Kd.S_below (sX HO_10.out) hb);replace HL708_0:=aM (Kd.R_below (rX HL708_0.out) hb);replace HR708_0:=aM (Kd.C_below (cX HR708_0.out) hb);replace HB:=aM (below_step (bX HB.out) hb);(try clear hb)))
 go_roundg k1
 case measure=>have:=HK1.out;omega
 case rel=>exact ⟨(x3_1 ++ (((⟨#[40]⟩:ByteArray) ++ t709) ++ (⟨#[41]⟩:ByteArray))),(wrap64 (x12_1+1)),vX,vX,H',⟨by have:=HK1.out;omega⟩,⟨sX HO_10.out⟩,⟨bX HB.out⟩⟩
 }
 {
 rw [if_neg c15] at H
 exact absurd H (by simp)
 }
 }
 {
 rw [if_neg c14] at H
 exact absurd H (by simp)
 }
 }
 {
 rw [if_neg c13] at H
 exact absurd H (by simp)
 }
 }
 {
 rw [if_neg c11] at H
 have c11b0:=decide_eq_false c11
 have c11b1:decide (1<(rd_L2 t705 x12_1).length)=false:=decide_eq_false (by omega)
 clear c11
 have H':=aM H
 clear H
 have p708:0≤(x12_1:Int):=dX
 have q708:x12_1<(t705.length:Int):=dX
 obtain ⟨ad708,A708_0,c708_0,e708,hx708_0,hl708_0,hi708_0⟩:=at_L2 (Kd.S_reads' HO_10.out).2.2 x12_1 p708 q708
 cases e708
 obtain ⟨ce708,hce708,hMe708,hcc708⟩:=Kd.S_get HO_10.out [] x12_1 p708 (by first|exact q708|exact dX|(have e_:=(Kd.S_reads' HO_10.out).1;omega))
 obtain ⟨ve708_0,rfl,ge708_0⟩:=hMe708
 have hv708_0:=hcc708 0 _ rfl
 rw [Nat.add_zero,show ((Kd.slice 3 (Kd.int .i64))).sz=1 from rfl,Nat.mul_one] at hv708_0
 replace hv708_0:=Option.some.inj (hv708_0.symm.trans hx708_0)
 rw [hv708_0] at ge708_0
 have HL708_0:=aM (show Kd.R (Kd.int .i64) 3 _ _ _ _ (rd_L2 t705 x12_1) from ge708_0)
 clear hv708_0 ge708_0 hcc708 hce708
 have HR708_0:=aM hi708_0
 have HC708_0:=aM hl708_0
 clear hi708_0 hl708_0
 replace p708:=eq_true p708
 replace q708:=eq_true q708
 go_wp2
 go_roundg k1
 case measure=>have:=HK1.out;omega
 case rel=>exact ⟨(x3_1),(wrap64 (x12_1+1)),vX,vX,H',⟨by have:=HK1.out;omega⟩,⟨sX HO_10.out⟩,⟨bX HB.out⟩⟩
 }
 }
 {
 rw [if_neg c10] at H
 exact absurd H (by simp)
 }
 }
 {
 rw [if_neg c9] at H
 exact absurd H (by simp)
 }
 }
 {
 rw [if_neg c8] at H
 have c8b0:=decide_eq_false c8
 clear c8
 by_cases c17:x3_1.toList=([]:List UInt8)
 {
 rw [if_pos c17] at H
 have c17b0:(x3_1.toList == ([]:List UInt8))=true:=beq_iff_eq.mpr c17
 have c17b1:(x3_1.toList != ([]:List UInt8))=false:=bne_eq_false_iff_eq.mpr c17
 clear c17
 obtain rfl:=Option.some.inj H
 go_wp2
 go_ret
 exact ⟨eX,bX HB.out⟩
 }
 {
 rw [if_neg c17] at H
 have c17b0:(x3_1.toList == ([]:List UInt8))=false:=beq_eq_false_iff_ne.mpr c17
 have c17b1:(x3_1.toList != ([]:List UInt8))=true:=bne_iff_ne.mpr c17
 obtain rfl:=Option.some.inj H
 go_wp2
 go_ret
 exact ⟨eX,bX HB.out⟩
 }
 }
 }
 {
 replace c3:=Bool.eq_false_iff.mpr c3
 subst c3
 have H1:(some (⟨#[]⟩:ByteArray))=some r:=by rw [if_neg (show ¬ (false=true) by decide)] at H;exact H
 clear H
 have H:=H1
 clear H1
 obtain rfl:=Option.some.inj H
 go_enter Tryd.func32,Tryd.ntmps32
 go_wp2_with (first|((with_reducible refine gate_callee (f:=31) rfl ?_);refine goesL_ (some 7) rfl rfl Tryd.func31 (by kernel_rfl) rfl #[.slice A0 l0.length c0] rfl aX ?_;(with_reducible refine(i_PermOk.calls _ _ l0 false _ ?side1 ?side2 A2.out).mono ?_);(case side1=>exact cX HR0.out);(case side2=>exact HC0.out);rintro e w18 ⟨rfl,hb⟩;refine ⟨_,rfl,?_⟩;replace HB:=aM (below_step (bX HB.out) hb);(try clear hb)))
 go_ret
 exact ⟨eX,bX HB.out⟩
 }

/-! ### i_TurnLine: function 15 -/
def i_TurnLine.f (k:Nat) (l0_0:List Int) (l0_1:List Int):Option (ByteArray):=(i_TurnsOf.f k l0_0 l0_1).bind fun t711=>(if (t711.length:Int)=0 then (some (⟨#[110,111,110,101]⟩:ByteArray)) else (if 0<(t711.length:Int) then ((i_FixedPoints.f k l0_0 l0_1 (rd_L2 t711 0)).bind fun bt715=>((i_FormatPerm.f k (rd_L2 t711 0)).bind fun t720=>(if t720.size+7≤9223372036854775807 then ((i_joinInts.f k bt715.1 (⟨#[32]⟩:ByteArray)).bind fun t721=>(if (t720 ++ (⟨#[32,102,105,120,101,100,32]⟩:ByteArray)).size+t721.size≤9223372036854775807 then (some ((t720 ++ (⟨#[32,102,105,120,101,100,32]⟩:ByteArray)) ++ t721)) else (none))) else (none)))) else (none)))
def i_TurnLine.T4 : Bool × List (List Nat × List Nat):=(true,[([],[]),([],[]),([1],[1]),([2],[2]),([0,3],[0,3]),([4],[4]),([5],[5]),([5],[5]),([6,4,0,1,2,3,4,5,6],[6]),([7,8,0,1,2,3,4,5,6,7,8],[7])])
def i_TurnLine.B4 : List Nat:=[0,0,2,6,15,31,63,63,127,511]
theorem i_TurnLine.tab4 : rtab .any (opsOf Tryd.f15 4)=i_TurnLine.T4:=by kernel_rfl
theorem i_TurnLine.bits4 : waitsOk i_TurnLine.T4.2 i_TurnLine.B4=true:=by kernel_rfl
theorem i_TurnLine.calls (k:Nat) (A0_0:Option Addr) (c0_0:Nat) (l0_0:List Int) (A0_1:Option Addr) (c0_1:Nat) (l0_1:List Int) (r:ByteArray) (w:World) (hr0_0:Kd.C (Kd.int .i64) w A0_0 l0_0.length l0_0) (hc0_0:l0_0.length≤c0_0) (hr0_1:Kd.C (Kd.int .i64) w A0_1 l0_1.length l0_1) (hc0_1:l0_1.length≤c0_1) (htab_:PowTab w) (h:i_TurnLine.f k l0_0 l0_1=some r) :
  Calls Tryd.prog 15 #[.agg #[.slice A0_0 l0_0.length c0_0,.slice A0_1 l0_1.length c0_1]] w fun e w'=>e = .returned (.string r)∧Below w.heap.size w w':=by
 have hu25:=Tryd.underlying25
 have HR0_0:=aM hr0_0
 have HC0_0:=aM hc0_0
 clear hr0_0 hc0_0
 have HR0_1:=aM hr0_1
 have HC0_1:=aM hc0_1
 clear hr0_1 hc0_1
 have HB:=aM (Below.refl w.heap.size w)
 have H:((i_TurnsOf.f k l0_0 l0_1).bind fun t711=>(if (t711.length:Int)=0 then (some (⟨#[110,111,110,101]⟩:ByteArray)) else (if 0<(t711.length:Int) then ((i_FixedPoints.f k l0_0 l0_1 (rd_L2 t711 0)).bind fun bt715=>((i_FormatPerm.f k (rd_L2 t711 0)).bind fun t720=>(if t720.size+7≤9223372036854775807 then ((i_joinInts.f k bt715.1 (⟨#[32]⟩:ByteArray)).bind fun t721=>(if (t720 ++ (⟨#[32,102,105,120,101,100,32]⟩:ByteArray)).size+t721.size≤9223372036854775807 then (some ((t720 ++ (⟨#[32,102,105,120,101,100,32]⟩:ByteArray)) ++ t721)) else (none))) else (none)))) else (none))))=some r:=h
 clear h
 have HTAB:=aM htab_
 clear htab_
 replace H:=oB H
 obtain ⟨t711,A20,H⟩:=H
 have A2:=aM A20
 clear A20
 by_cases c3:(t711.length:Int)=0
 {
 rw [if_pos c3] at H
 have c3b0:((t711.length:Int) == 0)=true:=beq_iff_eq.mpr c3
 have c3b1:((t711.length:Int) != 0)=false:=bne_eq_false_iff_eq.mpr c3
 clear c3
 obtain rfl:=Option.some.inj H
 go_enter Tryd.func15,Tryd.ntmps15
 go_wp2_with (first|((with_reducible refine gate_dst (N:=1) rfl ?_);refine bEv (cs:=#[.slice A0_0 l0_0.length c0_0,.slice A0_1 l0_1.length c0_1]) (t:=25) ?_;intro gb710 hg w4 hbox hb;have BK710:=aM (hbox);have GW710:=aM ((szX (below_size (bX HB.out)) hg:w.heap.size≤gb710));have GE710:=GW710;replace HB:=aM (below_step (bX HB.out) hb);clear hb hbox hg;obtain ⟨hcz5_0,hcz5_1,hfz5_0,hfz5_1⟩:=f2Z BK710.out)|((with_reducible refine gate_callee (f:=5) rfl ?_);refine goesL_ (some 7) rfl rfl Tryd.func5 (by kernel_rfl) rfl #[.agg #[.slice A0_0 l0_0.length c0_0,.slice A0_1 l0_1.length c0_1]] rfl aX ?_;(with_reducible refine(i_TurnsOf.calls k _ _ l0_0 _ _ l0_1 t711 _ ?side1 ?side2 ?side3 ?side4 A2.out).mono ?_);(case side1=>exact cX (Kd.C_below HR0_0.out HB.out));(case side2=>exact HC0_0.out);(case side3=>exact cX (Kd.C_below HR0_1.out HB.out));(case side4=>exact HC0_1.out);rintro e w6 ⟨v712,rfl,ho0,hb⟩;refine ⟨_,rfl,?_⟩;have HO713:=aM (Kd.S_lower ho0 (below_size (bX1 HB.out GE710.out)));replace BK710:=aM (bbX BK710.out hb);replace HB:=aM (below_step (bX1 HB.out GE710.out) hb);(try clear hb);(try clear ho0);obtain ⟨Ao7,co7,eo7⟩:=Kd.S_slice HO713.out;subst eo7))
 go_ret
 exact ⟨eX,bX1 HB.out GE710.out⟩
 }
 {
 rw [if_neg c3] at H
 have c3b0:((t711.length:Int) == 0)=false:=beq_eq_false_iff_ne.mpr c3
 have c3b1:((t711.length:Int) != 0)=true:=bne_iff_ne.mpr c3
 have c3b2:¬ (t711=[]):=fun h_=>c3 (by rw [h_];rfl)
 by_cases c8:0<(t711.length:Int)
 {
 rw [if_pos c8] at H
 have c8b0:=decide_eq_true c8
 have c8b1:decide (0<t711.length)=true:=decide_eq_true (by omega)
 clear c8
 replace H:=oB H
 obtain ⟨⟨t715,t718⟩,A90,H⟩:=H
 replace H:((i_FormatPerm.f k (rd_L2 t711 0)).bind fun t720=>(if t720.size+7≤9223372036854775807 then ((i_joinInts.f k t715 (⟨#[32]⟩:ByteArray)).bind fun t721=>(if (t720 ++ (⟨#[32,102,105,120,101,100,32]⟩:ByteArray)).size+t721.size≤9223372036854775807 then (some ((t720 ++ (⟨#[32,102,105,120,101,100,32]⟩:ByteArray)) ++ t721)) else (none))) else (none)))=some r:=H
 have A9:=aM A90
 clear A90
 replace H:=oB H
 obtain ⟨t720,A100,H⟩:=H
 have A10:=aM A100
 clear A100
 by_cases c11:t720.size+7≤9223372036854775807
 {
 rw [if_pos c11] at H
 have c11b0:=eq_true c11
 have c11b1:=decide_eq_true c11
 try have c11b2:(9223372036854775807<t720.size+7)=False:=eq_false (Nat.not_lt.2 c11)
 replace H:=oB H
 obtain ⟨t721,A120,H⟩:=H
 have A12:=aM A120
 clear A120
 by_cases c13:(t720 ++ (⟨#[32,102,105,120,101,100,32]⟩:ByteArray)).size+t721.size≤9223372036854775807
 {
 rw [if_pos c13] at H
 have c13b0:=eq_true c13
 have c13b1:=decide_eq_true c13
 try have c13b2:(9223372036854775807<(t720 ++ (⟨#[32,102,105,120,101,100,32]⟩:ByteArray)).size+t721.size)=False:=eq_false (Nat.not_lt.2 c13)
 try have c13b3:(9223372036854775807<t720.size+7+t721.size)=False:=eq_false (Nat.not_lt.2 (by have hz_:=c13;simp only [ByteArray.size_append] at hz_;first|exact hz_|omega))
 obtain rfl:=Option.some.inj H
 go_enter Tryd.func15,Tryd.ntmps15
 try go_wp2_with (first|((with_reducible refine gate_dst (N:=1) rfl ?_);refine bEv (cs:=#[.slice A0_0 l0_0.length c0_0,.slice A0_1 l0_1.length c0_1]) (t:=25) ?_;intro gb710 hg w14 hbox hb;have BK710:=aM (hbox);have GW710:=aM ((szX (below_size (bX HB.out)) hg:w.heap.size≤gb710));have GE710:=GW710;replace HB:=aM (below_step (bX HB.out) hb);clear hb hbox hg;obtain ⟨hcz15_0,hcz15_1,hfz15_0,hfz15_1⟩:=f2Z BK710.out)|((with_reducible refine gate_callee (f:=5) rfl ?_);refine goesL_ (some 7) rfl rfl Tryd.func5 (by kernel_rfl) rfl #[.agg #[.slice A0_0 l0_0.length c0_0,.slice A0_1 l0_1.length c0_1]] rfl aX ?_;(with_reducible refine(i_TurnsOf.calls k _ _ l0_0 _ _ l0_1 t711 _ ?side1 ?side2 ?side3 ?side4 A2.out).mono ?_);(case side1=>exact cX (Kd.C_below HR0_0.out HB.out));(case side2=>exact HC0_0.out);(case side3=>exact cX (Kd.C_below HR0_1.out HB.out));(case side4=>exact HC0_1.out);rintro e w16 ⟨v712,rfl,ho0,hb⟩;refine ⟨_,rfl,?_⟩;have HO713:=aM (Kd.S_lower ho0 (below_size (bX1 HB.out GE710.out)));replace BK710:=aM (bbX BK710.out hb);replace HB:=aM (below_step (bX1 HB.out GE710.out) hb);(try clear hb);(try clear ho0);obtain ⟨Ao17,co17,eo17⟩:=Kd.S_slice HO713.out;subst eo17))
 replace HO713:=aM (Kd.S_drew HO713.out)
 replace BK710:=aM (blk_drew BK710.out)
 replace HB:=aM (below_drew1 HB.out)
 have p714:0≤(0:Int):=(by omega)
 have q714:0<(t711.length:Int):=dX
 obtain ⟨ad714,A714_0,c714_0,e714,hx714_0,hl714_0,hi714_0⟩:=at_L2 (Kd.S_reads' HO713.out).2.2 0 p714 q714
 cases e714
 obtain ⟨ce714,hce714,hMe714,hcc714⟩:=Kd.S_get HO713.out [] 0 p714 (by first|exact q714|exact dX|(have e_:=(Kd.S_reads' HO713.out).1;omega))
 obtain ⟨ve714_0,rfl,ge714_0⟩:=hMe714
 have hv714_0:=hcc714 0 _ rfl
 rw [Nat.add_zero,show ((Kd.slice 3 (Kd.int .i64))).sz=1 from rfl,Nat.mul_one] at hv714_0
 replace hv714_0:=Option.some.inj (hv714_0.symm.trans hx714_0)
 rw [hv714_0] at ge714_0
 have HL714_0:=aM (show Kd.R (Kd.int .i64) 3 _ _ _ _ (rd_L2 t711 0) from ge714_0)
 clear hv714_0 ge714_0 hcc714 hce714
 have qi714:(0<t711.length)=True:=eq_true (by omega)
 (try rw [show ((0:Int)).toNat=0 from rfl] at hx714_0)
 (try rw [Addr.add_zero'] at hx714_0)
 have HR714_0:=aM hi714_0
 have HC714_0:=aM hl714_0
 clear hi714_0 hl714_0
 replace p714:=eq_true p714
 replace q714:=eq_true q714
 refine start_ (n:=10) (S:=fun w'=>w'.cell? ⟨gb710,0,none⟩=some (.slice A0_0 l0_0.length c0_0)∧w'.cell? ⟨gb710,1,none⟩=some (.slice A0_1 l0_1.length c0_1)∧w'.cell? ad714=some (.slice A714_0 (rd_L2 t711 0).length c714_0)) (ds:=[]) #[ff,ff,ff,ff,ff,ff,ff,ff,ff,ff] (by kernel_rfl) rfl rfl ⟨cz20 BK710.out,cz21 BK710.out,hx714_0⟩ (fun hHeld => ?_);refine with_tabW i_TurnLine.tab4 i_TurnLine.bits4 (fun HT_ HW_ => ?_)
 generalize w16.drew=w18 at HO713 BK710 HB HL714_0 HR714_0 hx714_0 hHeld ⊢
 refine pX 1 13 (fl 10 2) rfl rfl HT_.out ?_
 refine pX 2 14 (fl 10 6) rfl rfl HT_.out ?_
 refine tX3 0 12 (fl 10 7) rfl rfl HT_.out HW_.out hHeld ?_
 refine tX3 3 15 (fl 10 15) rfl rfl HT_.out HW_.out hHeld ?_
 refine one_ (i:=4) (N:=some 16) #[tt,tt,tt,tt,tt,ff,ff,ff,ff,ff] rfl rfl (one_of HT_.out (by kernel_rfl)) (by decide) (fun K hK => ?_)
 refine goes_ Tryd.func10 (by kernel_rfl) rfl #[.agg #[.slice A0_0 l0_0.length c0_0,.slice A0_1 l0_1.length c0_1],.slice A714_0 (rd_L2 t711 0).length c714_0] (by rfl) rfl rfl aX ?_
 with_reducible refine(i_FixedPoints.calls k _ _ l0_0 _ _ l0_1 _ _ (rd_L2 t711 0) t715 t718 _ ?side1 ?side2 ?side3 ?side4 ?side5 ?side6 A9.out).mono ?_
 (case side1=>exact cX (Kd.C_below HR0_0.out HB.out))
 (case side2=>exact HC0_0.out)
 (case side3=>exact cX (Kd.C_below HR0_1.out HB.out))
 (case side4=>exact HC0_1.out)
 (case side5=>exact cX (cX HR714_0.out))
 (case side6=>exact HC714_0.out)
 rintro e w19 ⟨v716,rfl,ho0,hb⟩
 have HS2_:=(hb.cell (World.block_lt_of_cell? _ _ (hHeld.2.2))).trans (hHeld.2.2)
 refine ⟨_,rfl,?_⟩
 replace HO713:=aM (Kd.S_elder' (sX HO713.out) (Kd.R_base ho0) hb)
 have HO717:=aM (Kd.R_lower (Kd.R_new' ho0 (Kd.R_lt (rX HL714_0.out))) (below_size (bX1 HB.out GE710.out)))
 replace HL714_0:=aM (Kd.R_elder' (rX HL714_0.out) (Kd.R_base ho0) hb)
 replace BK710:=aM (bbX BK710.out hb)
 replace HR714_0:=aM (Kd.C_below (cX HR714_0.out) hb)
 replace HB:=aM (below_step (bX1 HB.out GE710.out) hb)
 (try clear hb)
 (try clear ho0)
 refine hK.out _ _ ⟨cz20 BK710.out,cz21 BK710.out,HS2_⟩ (fun hHeld => ?_)
 clear hK K
 refine norm_ (a':=?_) ?_ ?_
 rotate_left
 {
 show Act.put _ (some 16) _=_
 simp only [Act.put,zA,zB,zC,i64_w,i32_w]
 rfl
 }
 refine pX 5 11 (fl 10 63) rfl rfl HT_.out ?_
 refine pX 6 17 (fl 10 127) rfl rfl HT_.out ?_
 refine pX 7 18 (fl 10 255) rfl rfl HT_.out ?_
 refine pX 8 4 (fl 10 511) rfl rfl HT_.out ?_
 refine pX 9 5 (fl 10 1023) rfl rfl HT_.out ?_
 refine done_ (done_of HT_.out (by kernel_rfl)) ?_
 have p719:0≤(0:Int):=(by omega)
 have q719:0<(t711.length:Int):=dX
 obtain ⟨ad719,A719_0,c719_0,e719,hx719_0,hl719_0,hi719_0⟩:=at_L2 (Kd.S_reads' HO713.out).2.2 0 p719 q719
 obtain rfl:ad714=ad719:=(by injection e719)
 obtain ⟨ce719,hce719,hMe719,hcc719⟩:=Kd.S_get HO713.out [] 0 p719 (by first|exact q719|exact dX|(have e_:=(Kd.S_reads' HO713.out).1;omega))
 obtain ⟨ve719_0,rfl,ge719_0⟩:=hMe719
 have hv719_0:=hcc719 0 _ rfl
 rw [Nat.add_zero,show ((Kd.slice 3 (Kd.int .i64))).sz=1 from rfl,Nat.mul_one] at hv719_0
 replace hv719_0:=Option.some.inj (hv719_0.symm.trans hx719_0)
 rw [hv719_0] at ge719_0
 have HL719_0:=aM (show Kd.R (Kd.int .i64) 3 _ _ _ _ (rd_L2 t711 0) from ge719_0)
 clear hv719_0 ge719_0 hcc719 hce719
 have qi719:(0<t711.length)=True:=eq_true (by omega)
 (try rw [show ((0:Int)).toNat=0 from rfl] at hx719_0)
 (try rw [Addr.add_zero'] at hx719_0)
 have HR719_0:=aM hi719_0
 have HC719_0:=aM hl719_0
 clear hi719_0 hl719_0
 replace p719:=eq_true p719
 replace q719:=eq_true q719
 try go_wp2_with (first|((with_reducible refine gate_callee (f:=32) rfl ?_);refine goesL_ (some 22) rfl rfl Tryd.func32 (by kernel_rfl) rfl #[.slice A714_0 (rd_L2 t711 0).length c714_0] rfl aX ?_;(with_reducible refine(i_FormatPerm.calls k _ _ (rd_L2 t711 0) t720 _ ?side1 ?side2 ?side3 A10.out).mono ?_);(case side1=>exact cX (cX HR714_0.out));(case side2=>exact HC714_0.out);(case side3=>exact PowTab.below HTAB.out (bX1 HB.out GE710.out));rintro e w20 ⟨rfl,hb⟩;refine ⟨_,rfl,?_⟩;replace HO713:=aM (Kd.S_below (sX HO713.out) hb);replace HL714_0:=aM (Kd.R_below (rX HL714_0.out) hb);replace HO717:=aM (Kd.R_below (rX HO717.out) hb);replace HL719_0:=aM (Kd.R_below (rX HL719_0.out) hb);replace BK710:=aM (bbX BK710.out hb);replace HR714_0:=aM (Kd.C_below (cX HR714_0.out) hb);replace HR719_0:=aM (Kd.C_below (cX HR719_0.out) hb);replace HB:=aM (below_step (bX1 HB.out GE710.out) hb);(try clear hb);obtain ⟨Ao21,co21,eo21⟩:=Kd.R_slice HO717.out;subst eo21)|((with_reducible refine gate_callee (f:=33) rfl ?_);refine goesL_ (some 25) rfl rfl Tryd.func33 (by kernel_rfl) rfl #[.slice Ao21 t715.length co21,.string (⟨#[32]⟩:ByteArray)] rfl aX ?_;(with_reducible refine(i_joinInts.calls k _ _ t715 (⟨#[32]⟩:ByteArray) t721 _ ?side1 ?side2 ?side3 A12.out).mono ?_);(case side1=>exact cX (Kd.R_reads' HO717.out).2.2);(case side2=>exact(Kd.R_reads' HO717.out).2.1);(case side3=>exact PowTab.below HTAB.out (bX1 HB.out GE710.out));rintro e w22 ⟨rfl,hb⟩;refine ⟨_,rfl,?_⟩;replace HO713:=aM (Kd.S_below (sX HO713.out) hb);replace HL714_0:=aM (Kd.R_below (rX HL714_0.out) hb);replace HO717:=aM (Kd.R_below (rX HO717.out) hb);replace HL719_0:=aM (Kd.R_below (rX HL719_0.out) hb);replace BK710:=aM (bbX BK710.out hb);replace HR714_0:=aM (Kd.C_below (cX HR714_0.out) hb);replace HR719_0:=aM (Kd.C_below (cX HR719_0.out) hb);replace HB:=aM (below_step (bX1 HB.out GE710.out) hb);(try clear hb)))
 go_ret
 exact ⟨eX,bX1 HB.out GE710.out⟩
 }
 {
 rw [if_neg c13] at H
 exact absurd H (by simp)
 }
 }
 {
 rw [if_neg c11] at H
 exact absurd H (by simp)
 }
 }
 {
 rw [if_neg c8] at H
 exact absurd H (by simp)
 }
 }

end Go.Proofs.YthhdgeafdnikcaaDoor.S
