-- PRINTED by print.py (a twelfth state) out of the translation. Not trusted: Lean checks it.
import Derived.Test.YtpieaniigkgmoaaGreatDoorS0
namespace Go.Proofs.YtpieaniigkgmoaaGreatDoor.S
set_option maxHeartbeats 8000000
set_option maxRecDepth 100000
open Go.RowKit Go.Proofs.YtpieaniigkgmoaaGreatDoorW.PrintWords Go.Proofs.YtpieaniigkgmoaaGreatDoorW.PrintLast Go.Proofs.YtpieaniigkgmoaaGreatDoorW.PrintMore
attribute [local go_sem] max2_int min2_int max_two min_two max_three min_three max_four min_four   -- for this text's walks alone
set_option linter.unusedVariables false
set_option linter.unusedSimpArgs false

/-! ### laws_szIntS: function 9 -/
def laws_szIntS.f (l0:List Int) (a1:Int):Option (Int):=if (wrap64 (a1 - (l0.length:Int)))<0 then (some (-1)) else (some (wrap64 (a1 - (l0.length:Int))))
theorem laws_szIntS.calls (A0:Option Addr) (c0:Nat) (l0:List Int) (a1:Int) (r:Int) (w:World) (hr0:Kd.C (Kd.int .i64) w A0 l0.length l0) (hc0:l0.length≤c0) (h:laws_szIntS.f l0 a1=some r) :
  Calls Tryz.prog 9 #[.slice A0 l0.length c0,.int .i64 a1] w fun e w'=>e = .returned (.int .i64 r)∧Drawn0 w w':=by
 have HR0:=aM hr0
 have HC0:=aM hc0
 clear hr0 hc0
 have H:(if (wrap64 (a1 - (l0.length:Int)))<0 then (some (-1)) else (some (wrap64 (a1 - (l0.length:Int)))))=some r:=h
 clear h
 by_cases c3:(wrap64 (a1 - (l0.length:Int)))<0
 {
 rw [if_pos c3] at H
 have c3b0:=decide_eq_true c3
 clear c3
 obtain rfl:=Option.some.inj H
 go_enter Tryz.func9,Tryz.ntmps9
 go_wp2
 go_ret
 exact ⟨by first|rfl|(simp;done)|(simp [*];done),by repeat(first|exact Drawn0.refl _|apply Drawn0.step)⟩
 }
 {
 rw [if_neg c3] at H
 have c3b0:=decide_eq_false c3
 clear c3
 obtain rfl:=Option.some.inj H
 go_enter Tryz.func9,Tryz.ntmps9
 go_wp2
 go_ret
 exact ⟨by first|rfl|(simp;done)|(simp [*];done),by repeat(first|exact Drawn0.refl _|apply Drawn0.step)⟩
 }

/-! ### laws_szSurface: function 4 -/
def laws_szSurface.f (l0_0:List Int) (l0_1:List Int) (a1:Int):Option (Int):=(laws_szIntS.f l0_0 a1).bind fun t102=>(if t102<0 then (some (-1)) else ((laws_szIntS.f l0_1 t102).bind fun t103=>(if t103<0 then (some (-1)) else (some t103))))
theorem laws_szSurface.calls (A0_0:Option Addr) (c0_0:Nat) (l0_0:List Int) (A0_1:Option Addr) (c0_1:Nat) (l0_1:List Int) (a1:Int) (r:Int) (w:World) (hr0_0:Kd.C (Kd.int .i64) w A0_0 l0_0.length l0_0) (hc0_0:l0_0.length≤c0_0) (hr0_1:Kd.C (Kd.int .i64) w A0_1 l0_1.length l0_1) (hc0_1:l0_1.length≤c0_1) (h:laws_szSurface.f l0_0 l0_1 a1=some r) :
  Calls Tryz.prog 4 #[.agg #[.slice A0_0 l0_0.length c0_0,.slice A0_1 l0_1.length c0_1],.int .i64 a1] w fun e w'=>e = .returned (.int .i64 r)∧Below w.heap.size w w':=by
 have hu24:=Tryz.underlying24
 have HR0_0:=aM hr0_0
 have HC0_0:=aM hc0_0
 clear hr0_0 hc0_0
 have HR0_1:=aM hr0_1
 have HC0_1:=aM hc0_1
 clear hr0_1 hc0_1
 have HB:=aM (Below.refl w.heap.size w)
 have H:((laws_szIntS.f l0_0 a1).bind fun t102=>(if t102<0 then (some (-1)) else ((laws_szIntS.f l0_1 t102).bind fun t103=>(if t103<0 then (some (-1)) else (some t103)))))=some r:=h
 clear h
 replace H:=oB H
 obtain ⟨t102,A30,H⟩:=H
 have A3:=aM A30
 clear A30
 by_cases c4:t102<0
 {
 rw [if_pos c4] at H
 have c4b0:=decide_eq_true c4
 clear c4
 obtain rfl:=Option.some.inj H
 go_enter Tryz.func4,Tryz.ntmps4
 go_wp2_with (first|((with_reducible refine gate_dst (N:=2) rfl ?_);refine bEv (cs:=#[.slice A0_0 l0_0.length c0_0,.slice A0_1 l0_1.length c0_1]) (t:=24) ?_;intro gb101 hg w5 hbox hb;have BK101:=aM (hbox);have GW101:=aM ((szX (below_size (bX HB.out)) hg:w.heap.size≤gb101));have GE101:=GW101;replace HB:=aM (below_step (bX HB.out) hb);clear hb hbox hg;have hcz6_0:w5.cell? ⟨gb101,0,none⟩=some (.slice A0_0 l0_0.length c0_0):=(blk_cell BK101.out 0).trans rfl;have hcz6_1:w5.cell? ⟨gb101,1,none⟩=some (.slice A0_1 l0_1.length c0_1):=(blk_cell BK101.out 1).trans rfl;have hfz6_0:=blk_frozen BK101.out 0;have hfz6_1:=blk_frozen BK101.out 1)|((with_reducible refine gate_callee (f:=9) rfl ?_);refine goesL_ (some 8) rfl rfl Tryz.func9 (by kernel_rfl) rfl #[.slice A0_0 l0_0.length c0_0,.int .i64 a1] rfl aX ?_;(with_reducible refine(laws_szIntS.calls _ _ l0_0 a1 t102 _ ?side1 ?side2 A3.out).mono ?_);(case side1=>exact cX (Kd.C_below HR0_0.out HB.out));(case side2=>exact HC0_0.out);rintro e w' ⟨rfl,⟨nd,rfl⟩⟩;refine ⟨_,rfl,?_⟩))
 go_ret
 exact ⟨eX,bX1 HB.out GE101.out⟩
 }
 {
 rw [if_neg c4] at H
 have c4b0:=decide_eq_false c4
 clear c4
 replace H:=oB H
 obtain ⟨t103,A70,H⟩:=H
 have A7:=aM A70
 clear A70
 by_cases c8:t103<0
 {
 rw [if_pos c8] at H
 have c8b0:=decide_eq_true c8
 clear c8
 obtain rfl:=Option.some.inj H
 go_enter Tryz.func4,Tryz.ntmps4
 go_wp2_with (first|((with_reducible refine gate_dst (N:=2) rfl ?_);refine bEv (cs:=#[.slice A0_0 l0_0.length c0_0,.slice A0_1 l0_1.length c0_1]) (t:=24) ?_;intro gb101 hg w9 hbox hb;have BK101:=aM (hbox);have GW101:=aM ((szX (below_size (bX HB.out)) hg:w.heap.size≤gb101));have GE101:=GW101;replace HB:=aM (below_step (bX HB.out) hb);clear hb hbox hg;have hcz10_0:w9.cell? ⟨gb101,0,none⟩=some (.slice A0_0 l0_0.length c0_0):=(blk_cell BK101.out 0).trans rfl;have hcz10_1:w9.cell? ⟨gb101,1,none⟩=some (.slice A0_1 l0_1.length c0_1):=(blk_cell BK101.out 1).trans rfl;have hfz10_0:=blk_frozen BK101.out 0;have hfz10_1:=blk_frozen BK101.out 1)|((with_reducible refine gate_callee (f:=9) rfl ?_);refine goesL_ (some 8) rfl rfl Tryz.func9 (by kernel_rfl) rfl #[.slice A0_0 l0_0.length c0_0,.int .i64 a1] rfl aX ?_;(with_reducible refine(laws_szIntS.calls _ _ l0_0 a1 t102 _ ?side1 ?side2 A3.out).mono ?_);(case side1=>exact cX (Kd.C_below HR0_0.out HB.out));(case side2=>exact HC0_0.out);rintro e w' ⟨rfl,⟨nd,rfl⟩⟩;refine ⟨_,rfl,?_⟩)|((with_reducible refine gate_callee (f:=9) rfl ?_);refine goesL_ (some 14) rfl rfl Tryz.func9 (by kernel_rfl) rfl #[.slice A0_1 l0_1.length c0_1,.int .i64 t102] rfl aX ?_;(with_reducible refine(laws_szIntS.calls _ _ l0_1 t102 t103 _ ?side1 ?side2 A7.out).mono ?_);(case side1=>exact cX (Kd.C_below HR0_1.out (bX1 HB.out GE101.out)));(case side2=>exact HC0_1.out);rintro e w' ⟨rfl,⟨nd,rfl⟩⟩;refine ⟨_,rfl,?_⟩))
 go_ret
 exact ⟨eX,bX1 HB.out GE101.out⟩
 }
 {
 rw [if_neg c8] at H
 have c8b0:=decide_eq_false c8
 clear c8
 obtain rfl:=Option.some.inj H
 go_enter Tryz.func4,Tryz.ntmps4
 go_wp2_with (first|((with_reducible refine gate_dst (N:=2) rfl ?_);refine bEv (cs:=#[.slice A0_0 l0_0.length c0_0,.slice A0_1 l0_1.length c0_1]) (t:=24) ?_;intro gb101 hg w11 hbox hb;have BK101:=aM (hbox);have GW101:=aM ((szX (below_size (bX HB.out)) hg:w.heap.size≤gb101));have GE101:=GW101;replace HB:=aM (below_step (bX HB.out) hb);clear hb hbox hg;have hcz12_0:w11.cell? ⟨gb101,0,none⟩=some (.slice A0_0 l0_0.length c0_0):=(blk_cell BK101.out 0).trans rfl;have hcz12_1:w11.cell? ⟨gb101,1,none⟩=some (.slice A0_1 l0_1.length c0_1):=(blk_cell BK101.out 1).trans rfl;have hfz12_0:=blk_frozen BK101.out 0;have hfz12_1:=blk_frozen BK101.out 1)|((with_reducible refine gate_callee (f:=9) rfl ?_);refine goesL_ (some 8) rfl rfl Tryz.func9 (by kernel_rfl) rfl #[.slice A0_0 l0_0.length c0_0,.int .i64 a1] rfl aX ?_;(with_reducible refine(laws_szIntS.calls _ _ l0_0 a1 t102 _ ?side1 ?side2 A3.out).mono ?_);(case side1=>exact cX (Kd.C_below HR0_0.out HB.out));(case side2=>exact HC0_0.out);rintro e w' ⟨rfl,⟨nd,rfl⟩⟩;refine ⟨_,rfl,?_⟩)|((with_reducible refine gate_callee (f:=9) rfl ?_);refine goesL_ (some 14) rfl rfl Tryz.func9 (by kernel_rfl) rfl #[.slice A0_1 l0_1.length c0_1,.int .i64 t102] rfl aX ?_;(with_reducible refine(laws_szIntS.calls _ _ l0_1 t102 t103 _ ?side1 ?side2 A7.out).mono ?_);(case side1=>exact cX (Kd.C_below HR0_1.out (bX1 HB.out GE101.out)));(case side2=>exact HC0_1.out);rintro e w' ⟨rfl,⟨nd,rfl⟩⟩;refine ⟨_,rfl,?_⟩))
 go_ret
 exact ⟨eX,bX1 HB.out GE101.out⟩
 }
 }

/-! ### spec_l01In: function 48 -/
def spec_l01In.f (a0:Int) (a1:Int) (a2:Int):Option (Bool):=if a0≥a1 then (some (decide (a0≤a2))) else (some false)
theorem spec_l01In.calls (a0:Int) (a1:Int) (a2:Int) (r:Bool) (w:World) (h:spec_l01In.f a0 a1 a2=some r) :
  Calls Tryz.prog 48 #[.int .i64 a0,.int .i64 a1,.int .i64 a2] w fun e w'=>e = .returned (.bool r)∧Drawn0 w w':=by
 have H:(if a0≥a1 then (some (decide (a0≤a2))) else (some false))=some r:=h
 clear h
 by_cases c4:a0≥a1
 {
 rw [if_pos c4] at H
 have c4b0:=decide_eq_true c4
 clear c4
 obtain rfl:=Option.some.inj H
 go_enter Tryz.func48,Tryz.ntmps48
 go_wp2
 go_ret
 exact ⟨by first|rfl|(simp;done)|(simp [*];done),by repeat(first|exact Drawn0.refl _|apply Drawn0.step)⟩
 }
 {
 rw [if_neg c4] at H
 have c4b0:=decide_eq_false c4
 clear c4
 obtain rfl:=Option.some.inj H
 go_enter Tryz.func48,Tryz.ntmps48
 go_wp2
 go_ret
 exact ⟨by first|rfl|(simp;done)|(simp [*];done),by repeat(first|exact Drawn0.refl _|apply Drawn0.step)⟩
 }

/-! ### spec_l02Has: function 49 -/
def spec_l02Has.l0 : Nat→Int→List Int→Int→Int→Option (Bool)
 | 0,_,_,_,_=>none
 | k+1,x1,x7,x8,x9=>if x9<x8 then (if 0≤x9 then (if x9<(x7.length:Int) then (if (rd x7 x9)=x1 then (some true) else (spec_l02Has.l0 k x1 x7 x8 (wrap64 (x9+1)))) else (none)) else (none)) else (some false)
def spec_l02Has.f (k:Nat) (l0:List Int) (a1:Int):Option (Bool):=spec_l02Has.l0 k a1 l0 (l0.length:Int) 0
theorem spec_l02Has.calls (k:Nat) (A0:Option Addr) (c0:Nat) (l0:List Int) (a1:Int) (r:Bool) (w:World) (hr0:Kd.C (Kd.int .i64) w A0 l0.length l0) (hc0:l0.length≤c0) (h:spec_l02Has.f k l0 a1=some r) :
  Calls Tryz.prog 49 #[.slice A0 l0.length c0,.int .i64 a1] w fun e w'=>e = .returned (.bool r)∧Drawn0 w w':=by
 have HR0:=aM hr0
 have HC0:=aM hc0
 clear hr0 hc0
 have H:(spec_l02Has.l0 k a1 l0 (l0.length:Int) 0)=some r:=h
 clear h
 have H':=aM H
 clear H
 go_enter Tryz.func49,Tryz.ntmps49
 go_wp2
 go_loopg [9] k (fun kq v9 w'=>∃ (x9_1:Int),v9 = .int .i64 x9_1∧Aside0 (spec_l02Has.l0 kq a1 l0 (l0.length:Int) x9_1=some r)∧Aside0 (kq≤k)∧Drawn0 w w')
 case atStart=>exact ⟨(0),vX,H',⟨Nat.le_refl _⟩,by repeat(first|exact Drawn0.refl _|apply Drawn0.step)⟩
 case round =>
 clear H'
 obtain ⟨x9_1,rfl,HA,HK1,⟨m1,rfl⟩⟩:=hrel
 cases gk with
 | zero=>exact absurd HA.out (by simp [spec_l02Has.l0])
 | succ k1 =>
 have H:=HA.out
 clear HA
 simp only [spec_l02Has.l0] at H
 by_cases c3:x9_1<(l0.length:Int)
 {
 rw [if_pos c3] at H
 have c3b0:=decide_eq_true c3
 clear c3
 by_cases c4:0≤x9_1
 {
 rw [if_pos c4] at H
 have c4b0:=decide_eq_true c4
 clear c4
 by_cases c5:x9_1<(l0.length:Int)
 {
 rw [if_pos c5] at H
 have c5b0:=decide_eq_true c5
 clear c5
 by_cases c6:(rd l0 x9_1)=a1
 {
 rw [if_pos c6] at H
 have c6b0:((rd l0 x9_1) == a1)=true:=beq_iff_eq.mpr c6
 have c6b1:((rd l0 x9_1) != a1)=false:=bne_eq_false_iff_eq.mpr c6
 clear c6
 obtain rfl:=Option.some.inj H
 have p104:0≤(x9_1:Int):=dX
 have q104:x9_1<(l0.length:Int):=dX
 obtain ⟨ad104,e104,hx104_0⟩:=Kd.at_int HR0.out x9_1 p104 q104
 cases e104
 replace p104:=eq_true p104
 replace q104:=eq_true q104
 go_wp2
 go_ret
 exact ⟨by first|rfl|(simp;done)|(simp [*];done),by repeat(first|exact Drawn0.refl _|apply Drawn0.step)⟩
 }
 {
 rw [if_neg c6] at H
 have c6b0:((rd l0 x9_1) == a1)=false:=beq_eq_false_iff_ne.mpr c6
 have c6b1:((rd l0 x9_1) != a1)=true:=bne_iff_ne.mpr c6
 have H':=aM H
 clear H
 have p104:0≤(x9_1:Int):=dX
 have q104:x9_1<(l0.length:Int):=dX
 obtain ⟨ad104,e104,hx104_0⟩:=Kd.at_int HR0.out x9_1 p104 q104
 cases e104
 replace p104:=eq_true p104
 replace q104:=eq_true q104
 go_wp2
 go_roundg k1
 case measure=>have:=HK1.out;omega
 case rel=>exact ⟨(wrap64 (x9_1+1)),vX,H',⟨by have:=HK1.out;omega⟩,by repeat(first|exact Drawn0.refl _|apply Drawn0.step)⟩
 }
 }
 {
 rw [if_neg c5] at H
 exact absurd H (by simp)
 }
 }
 {
 rw [if_neg c4] at H
 exact absurd H (by simp)
 }
 }
 {
 rw [if_neg c3] at H
 have c3b0:=decide_eq_false c3
 clear c3
 obtain rfl:=Option.some.inj H
 go_wp2
 go_ret
 exact ⟨by first|rfl|(simp;done)|(simp [*];done),by repeat(first|exact Drawn0.refl _|apply Drawn0.step)⟩
 }

/-! ### spec_PermOk: function 33 -/
/-! by hand -/
theorem hand_in01 (a b c:Int):spec_l01In.f a b c=some (decide (b≤a∧a≤c)):=by
  unfold spec_l01In.f
  split
  · rename_i h
    by_cases h2:a≤c
    · rw [decide_eq_true h2,decide_eq_true ⟨h,h2⟩]
    · rw [decide_eq_false h2,decide_eq_false (fun h=>h2 h.2)]
  · rename_i h
    rw [decide_eq_false (fun h2=>h h2.1)]
theorem hand_has_l0 (l:List Int) (hl:l.length≤4611686018427387904) (x:Int):∀ (suf pre:List Int),l=pre ++ suf →
    Ev (fun k=>spec_l02Has.l0 k x l (l.length:Int) (pre.length:Int)) (decide (x∈suf)):=by
  intro suf
  induction suf with
  | nil =>
    intro pre h
    subst h
    refine Ev.step (f:=fun _=>some false) (fun k => ?_) (by simpa using Ev.now false)
    simp only [spec_l02Has.l0]
    rw [if_neg (by simp)]
  | cons c suf ih =>
    intro pre h
    have:=ih (pre ++ [c]) (by simp [h])
    subst h
    have h1:((pre.length:Nat):Int)<((pre ++ c :: suf).length:Int):=by simp;omega
    have hr:rd (pre ++ c :: suf) (pre.length:Int)=c:=by simp [rd,List.getD]
    have hw:wrap64 ((pre.length:Int)+1)=((pre ++ [c]).length:Int):=by simp at hl ⊢;unfold wrap64;omega
    by_cases hc:c=x
    · refine Ev.step (f:=fun _=>some true) (fun k => ?_) (by simpa [hc] using Ev.now true)
      simp only [spec_l02Has.l0]
      rw [if_pos h1,if_pos (Int.natCast_nonneg _),if_pos h1,hr,if_pos hc]
    · rw [show decide (x∈c :: suf)=decide (x∈suf) by simp [Ne.symm hc]]
      refine Ev.step (fun k => ?_) this
      simp only [spec_l02Has.l0]
      rw [if_pos h1,if_pos (Int.natCast_nonneg _),if_pos h1,hr,if_neg hc,hw]
theorem hand_has (l:List Int) (hl:l.length≤4611686018427387904) (x:Int):∃ k,spec_l02Has.f k l x=some (decide (x∈l)):=by
 obtain ⟨k,hk⟩:=Ev.rounds (hand_has_l0 l hl x l [] rfl)
 exact ⟨k,by simpa [spec_l02Has.f] using hk⟩
/-- The reference's way: each is in range and none stands before. -/
def permSGo (n:Int):List Int→List Int→Bool
  | _,[]=>true
  | pre,x :: xs=>if 0≤x∧x≤n - 1 then (if x∈pre then false else permSGo n (pre ++ [x]) xs) else false
def permSB (p:List Int):Bool:=if p.length≤24 then permSGo p.length [] p else false
def spec_PermOk.f (l0:List Int):Option Bool:=some (permSB l0)
theorem spec_PermOk.calls_le (A0:Option Addr) (c0:Nat) (l0:List (Int)) (r:Bool) (w:World) (hr0:Kd.C (Kd.int .i64) w A0 l0.length l0) (hc0:l0.length≤c0) (hle:l0.length≤24) (hres:permSGo l0.length [] l0=r) :
    Calls Tryz.prog 33 #[.slice A0 l0.length c0] w fun e w'=>e = .returned (.bool r)∧Drawn0 w w':=by
  have HR0:=aM hr0
  have HC0:=aM hc0
  have HRES:=aM hres
  have HLE:=aM hle
  have hb24:decide (24<(l0.length:Int))=false:=decide_eq_false (by omega)
  clear hr0 hc0 hres hle
  go_enter Tryz.func33,Tryz.ntmps33
  go_wp2
  go_loopg [10] (l0.length+1) (fun kq v10 w'=>∃ (i:Int),v10 = .int .i64 i∧Aside0 (0≤i∧i≤l0.length∧(kq:Int)+i=l0.length+1∧permSGo l0.length (l0.take i.toNat) (l0.drop i.toNat)=r)∧Drawn0 w w')
  case atStart=>exact ⟨0,rfl,⟨by omega,by omega,by simp,by simpa using HRES.out⟩,by repeat(first|exact Drawn0.refl _|apply Drawn0.step)⟩
  case round =>
    obtain ⟨i,rfl,HI,⟨m1,rfl⟩⟩:=hrel
    obtain ⟨hi0,hi1,hik,hgo⟩:=HI.out
    clear HI
    have hle:=HLE.out
    obtain ⟨k1,rfl⟩:∃ m,gk=m+1:=⟨gk - 1,by omega⟩
    have HGO:=aM hgo
    have HK:=aM hik
    clear hgo hik
    by_cases hlt:i<(l0.length:Int)
    · have c1:decide (i<(l0.length:Int))=true:=decide_eq_true hlt
      have c1':decide (i≤(l0.length:Int))=true:=decide_eq_true hi1
      have p0:decide (0≤i)=true:=decide_eq_true hi0
      have HW:=aM (show wrap64 (i+1)=i+1 from by unfold wrap64;omega)
      have HW2:=aM (show wrap64 ((l0.length:Int) - 1)=(l0.length:Int) - 1 from by unfold wrap64;omega)
      have hlen:(l0.take i.toNat).length=i.toNat:=by simp;omega
      obtain ⟨ad,ead,hx⟩:=Kd.at_int HR0.out i hi0 hlt
      cases ead
      have hdrop:l0.drop i.toNat=rd l0 i :: l0.drop (i+1).toNat:=by
        have h1:i.toNat<l0.length:=by omega
        rw [show (i+1).toNat=i.toNat+1 by omega,List.drop_eq_getElem_cons h1]
        simp [rd,List.getD,h1]
      have htake:l0.take (i+1).toNat=l0.take i.toNat ++ [rd l0 i]:=by
        have h1:i.toNat<l0.length:=by omega
        rw [show (i+1).toNat=i.toNat+1 by omega,List.take_succ_eq_append_getElem h1]
        simp [rd,List.getD,h1]
      have HD:=aM hdrop
      have HT:=aM htake
      clear hdrop htake
      obtain ⟨i3,hi3,_,hsz3,_⟩:=info_parts (show (Tryz.prog.info? 3).map (fun i=>(i.zero,i.size,i.bytes))=some (some (.int .i64 0),1,8) by kernel_rfl)
      obtain ⟨hcut,hA,hC⟩:=print_take_of (P:=Tryz.prog) (Value.int .i64) 0 22 3 .i64 Tryz.underlying22 hi3 hsz3 (some ad) c0 l0 i hi0 hi1 HC0.out
      rw [hlen] at hcut hC
      have HR1:=aM (Kd.C_of_reads (h1:=fun _=>rfl) (hA _ (Kd.reads_of_C HR0.out)))
      have HC1:=aM hC
      have HL:=aM hlen
      clear hA hC hi3 hsz3 hlen
      generalize hX:rd l0 i=x at *
      clear hX
      replace hi0:=eq_true hi0
      replace hi1:=eq_true hi1
      replace hlt:=eq_true hlt
      clear hle
      have HIN:=aM (hand_in01 x 0 (wrap64 ((l0.length:Int) - 1)))
      by_cases h1:0≤x∧x≤(l0.length:Int) - 1
      · rw [HW2.out,decide_eq_true h1,← HW2.out] at HIN
        by_cases h2:x∈l0.take i.toNat
        · have hr:r=false:=by
            have:=HGO.out
            rw [HD.out] at this
            simp only [permSGo] at this
            rw [if_pos h1,if_pos h2] at this
            exact this.symm
          subst hr
          obtain ⟨kh,hkh⟩:=hand_has (l0.take i.toNat) (by have:=HL.out;have:=HLE.out;simp;omega) x
          rw [decide_eq_true h2] at hkh
          have HH:∀ W:World,Drawn0 w W→Calls Tryz.prog 49 #[.slice (some ad) i.toNat c0,.int .i64 x] W fun e w'=>e = .returned (.bool true)∧Drawn0 W w':=by
            intro W hW
            obtain ⟨n,rfl⟩:=hW.out
            have:=spec_l02Has.calls kh _ _ (l0.take i.toNat) x true (w.drewN n) (Kd.C_drewN HR1.out n) (by rw [HL.out];exact HC1.out) hkh
            rw [HL.out] at this
            exact this
          have HHA:=aM HH
          clear h1 h2 HH hkh
          go_wp2_with (first
            | (go_at_call 48;refine(spec_l01In.calls x 0 (wrap64 ((l0.length:Int) - 1)) true _ HIN.out).mono ?_;rintro e w' ⟨rfl,⟨nd,rfl⟩⟩)
            | (go_at_call 49;refine(HHA.out _ (by repeat(first|exact Drawn0.refl _|apply Drawn0.step))).mono ?_;rintro e w' ⟨rfl,⟨nd,rfl⟩⟩))
          go_ret
          exact ⟨rfl,by repeat(first|exact Drawn0.refl _|apply Drawn0.step)⟩
        · have hg2:permSGo l0.length (l0.take (i+1).toNat) (l0.drop (i+1).toNat)=r:=by
            have:=HGO.out
            rw [HD.out] at this
            simp only [permSGo] at this
            rw [if_pos h1,if_neg h2] at this
            rw [HT.out]
            exact this
          have HG2:=aM hg2
          clear hg2
          obtain ⟨kh,hkh⟩:=hand_has (l0.take i.toNat) (by have:=HL.out;have:=HLE.out;simp;omega) x
          rw [decide_eq_false h2] at hkh
          have HH:∀ W:World,Drawn0 w W→Calls Tryz.prog 49 #[.slice (some ad) i.toNat c0,.int .i64 x] W fun e w'=>e = .returned (.bool false)∧Drawn0 W w':=by
            intro W hW
            obtain ⟨n,rfl⟩:=hW.out
            have:=spec_l02Has.calls kh _ _ (l0.take i.toNat) x false (w.drewN n) (Kd.C_drewN HR1.out n) (by rw [HL.out];exact HC1.out) hkh
            rw [HL.out] at this
            exact this
          have HHA:=aM HH
          clear h1 h2 HH hkh
          go_wp2_with (first
            | (go_at_call 48;refine(spec_l01In.calls x 0 (wrap64 ((l0.length:Int) - 1)) true _ HIN.out).mono ?_;rintro e w' ⟨rfl,⟨nd,rfl⟩⟩)
            | (go_at_call 49;refine(HHA.out _ (by repeat(first|exact Drawn0.refl _|apply Drawn0.step))).mono ?_;rintro e w' ⟨rfl,⟨nd,rfl⟩⟩))
          go_roundg k1
          case measure=>omega
          case rel=>exact ⟨i+1,by rw [HW.out],⟨by simp at hi0;omega,by simp at hlt;omega,by have:=HK.out;simp at this ⊢;omega,HG2.out⟩,by repeat(first|exact Drawn0.refl _|apply Drawn0.step)⟩
      · rw [HW2.out,decide_eq_false h1,← HW2.out] at HIN
        have hr:r=false:=by
          have:=HGO.out
          rw [HD.out] at this
          simp only [permSGo] at this
          rw [if_neg h1] at this
          exact this.symm
        subst hr
        clear h1
        go_wp2_with (go_at_call 48;refine(spec_l01In.calls x 0 (wrap64 ((l0.length:Int) - 1)) false _ HIN.out).mono ?_;rintro e w' ⟨rfl,⟨nd,rfl⟩⟩)
        go_ret
        exact ⟨rfl,by repeat(first|exact Drawn0.refl _|apply Drawn0.step)⟩
    · have hie:i=l0.length:=by omega
      have hr:r=true:=by
        have:=HGO.out
        rw [show l0.drop i.toNat=[] from by rw [hie];simp] at this
        simp only [permSGo] at this
        exact this.symm
      subst hr
      have c1:decide (i<(l0.length:Int))=false:=decide_eq_false hlt
      clear hlt hie
      go_wp2
      go_ret
      exact ⟨rfl,by repeat(first|exact Drawn0.refl _|apply Drawn0.step)⟩
theorem spec_PermOk.calls (A0:Option Addr) (c0:Nat) (l0:List Int) (r:Bool) (w:World) (hr0:Kd.C (Kd.int .i64) w A0 l0.length l0) (hc0:l0.length≤c0) (h:spec_PermOk.f l0=some r) :
    Calls Tryz.prog 33 #[.slice A0 l0.length c0] w fun e w'=>e = .returned (.bool r)∧Drawn0 w w':=by
  unfold spec_PermOk.f permSB at h
  by_cases hle:l0.length≤24
  · rw [if_pos hle] at h
    exact spec_PermOk.calls_le A0 c0 l0 r w hr0 hc0 hle (Option.some.inj h)
  · rw [if_neg hle] at h
    obtain rfl:=Option.some.inj h
    have hb24:decide (24<(l0.length:Int))=true:=decide_eq_true (by omega)
    clear hle
    go_enter Tryz.func33,Tryz.ntmps33
    go_wp2
    go_ret
    exact ⟨rfl,by repeat(first|exact Drawn0.refl _|apply Drawn0.step)⟩

/-! ### spec_l02Reach: function 34 -/
mutual
def spec_l02Reach.l0 : Nat→List Int→List Int→List Int→Int→Option (List Int)
 | 0,_,_,_,_=>none
 | k+1,x0,x1,x7,x8=>if x8<(x7.length:Int) then (if 0≤x8 then (if 0≤(rd x7 x8) then (if (rd x7 x8)<(x0.length:Int) then (if (rd x7 x8)<(x1.length:Int) then ((some (([rd x0 (rd x7 x8),rd x1 (rd x7 x8)]:List Int):List Int)).bind fun y112=>(spec_l02Reach.l1 k x0 x1 x7 x8 y112 (y112.length:Int) 0)) else (none)) else (none)) else (none)) else (none)) else (some x7)
def spec_l02Reach.l1 : Nat→List Int→List Int→List Int→Int→List Int→Int→Int→Option (List Int)
 | 0,_,_,_,_,_,_,_=>none
 | k+1,x0,x1,x7,x8,x33,x34,x35=>if x35<x34 then (if 0≤x35 then (if x35<(x33.length:Int) then ((spec_l02Has.f k x7 (rd x33 x35)).bind fun t116=>(if t116=true then (spec_l02Reach.l1 k x0 x1 x7 x8 x33 x34 (wrap64 (x35+1))) else (if x7.length<17592186044416 then (spec_l02Reach.l1 k x0 x1 (x7 ++ [rd x33 x35]) x8 x33 x34 (wrap64 (x35+1))) else (none)))) else (none)) else (none)) else (spec_l02Reach.l0 k x0 x1 x7 (wrap64 (x8+1)))
end
def spec_l02Reach.f (k:Nat) (l0:List Int) (l1:List Int) (a2:Int):Option (List Int):=spec_l02Reach.l0 k l0 l1 (([a2]:List Int)) 0
def spec_l02Reach.T5 : Bool × List (List Nat × List Nat):=(true,[([],[]),([],[]),([],[]),([1,2],[1,2]),([3],[3]),([0,4],[0,4]),([5],[5]),([],[]),([],[]),([],[]),([8,9],[8,9]),([10],[10]),([7,11],[7,11]),([12],[12]),([6,13],[6,13]),([14],[14]),([],[])])
def spec_l02Reach.B5 : List Nat:=[0,0,0,6,14,31,63,0,0,0,768,1792,3968,8064,16383,32767,0]
theorem spec_l02Reach.tab5 : rtab .any (opsOf Tryz.f34 5)=spec_l02Reach.T5:=by kernel_rfl
theorem spec_l02Reach.bits5 : waitsOk spec_l02Reach.T5.2 spec_l02Reach.B5=true:=by kernel_rfl
theorem spec_l02Reach.calls (k:Nat) (A0:Option Addr) (c0:Nat) (l0:List Int) (A1:Option Addr) (c1:Nat) (l1:List Int) (a2:Int) (r:List Int) (w:World) (hr0:Kd.C (Kd.int .i64) w A0 l0.length l0) (hc0:l0.length≤c0) (hr1:Kd.C (Kd.int .i64) w A1 l1.length l1) (hc1:l1.length≤c1) (h:spec_l02Reach.f k l0 l1 a2=some r) :
  Calls Tryz.prog 34 #[.slice A0 l0.length c0,.slice A1 l1.length c1,.int .i64 a2] w fun e w'=>∃ v0_:Value,e = .returned (v0_)∧Kd.R (Kd.int .i64) 3 w' w.heap.size (fun _=>True) v0_ r∧Below w.heap.size w w':=by
 have HR0:=aM hr0
 have HC0:=aM hc0
 clear hr0 hc0
 have HR1:=aM hr1
 have HC1:=aM hc1
 clear hr1 hc1
 have HB:=aM (Below.refl w.heap.size w)
 have H:(spec_l02Reach.l0 k l0 l1 (([a2]:List Int)) 0)=some r:=h
 clear h
 obtain ⟨y105,hy105⟩:∃ y_:List Int,y_=(([a2]:List Int)):=⟨_,rfl⟩
 replace H:(spec_l02Reach.l0 k l0 l1 y105 0)=some r:=by first|(rw [hy105];with_reducible exact H)|(have H2_:=(Option.bind_some _ _).symm.trans H;rw [hy105];with_reducible exact H2_)|(have H2_:=(Option.bind_some _ _).symm.trans H;with_reducible exact H2_)|with_reducible exact H|(rw [hy105];exact H)|exact H
 have Ny105:=aM hy105
 clear hy105
 have H':=aM H
 clear H
 go_enter Tryz.func34,Tryz.ntmps34
 go_wp2_with (first|((with_reducible refine gate_dst (N:=12) rfl ?_);refine Kd.R_lit (Kd.int .i64) _ 3 ?hg (N:=12) ?hd (xs:=([a2]:List Int)) (inner:=[.int .i64 a2]) (ok:=fun _=>True) (okp:=fun _=>True) ?hr ?hp (fun _ hk=>hk) trivial (Below.refl _ _) (Nat.le_refl _) (by simp) ?_;(case hd=>rfl);(case hg=>rfl);(case hr=>first|(go_simp;done)|(go_simp;rfl));(case hp=>exact(Reps.one (show Kd.M (Kd.int .i64) _ _ _ a2 [.int .i64 a2] from rfl) (Reps.none _ _)));intro v106 w4 ho5 hb hg_ hnew_;clear hg_ hnew_;(first|rw [← Ny105.out] at ho5|(simp only [Int.reduceToNat] at ho5;rw [← Ny105.out] at ho5));have HO107:=aM (Kd.R_lower ho5 (below_size (bX HB.out)));replace HB:=aM (below_step (bX HB.out) hb);clear hb ho5))
 go_loopg [7,8] k (fun kq v7 v8 w'=>∃ (x7_1:List Int) (x8_1:Int),v8 = .int .i64 x8_1∧Aside0 (spec_l02Reach.l0 kq l0 l1 x7_1 x8_1=some r)∧Aside0 (kq≤k)∧Aside0 (Kd.R (Kd.int .i64) 3 w' w.heap.size (fun _=>True) v7 x7_1)∧Aside0 (Below w.heap.size w w'))
 case atStart=>exact ⟨(y105),(0),vX,H',⟨Nat.le_refl _⟩,⟨rX HO107.out⟩,⟨bX HB.out⟩⟩
 case round =>
 clear H'
 try clear c1
 obtain ⟨x7_1,x8_1,rfl,HA,HK1,HO_7,HB⟩:=hrel
 cases gk with
 | zero=>exact absurd HA.out (by simp [spec_l02Reach.l0])
 | succ k1 =>
 have H:=HA.out
 clear HA
 simp only [spec_l02Reach.l0] at H
 by_cases c6:x8_1<(x7_1.length:Int)
 {
 rw [if_pos c6] at H
 have c6b0:=decide_eq_true c6
 clear c6
 by_cases c7:0≤x8_1
 {
 rw [if_pos c7] at H
 have c7b0:=decide_eq_true c7
 clear c7
 by_cases c8:0≤(rd x7_1 x8_1)
 {
 rw [if_pos c8] at H
 have c8b0:=decide_eq_true c8
 clear c8
 by_cases c9:(rd x7_1 x8_1)<(l0.length:Int)
 {
 rw [if_pos c9] at H
 have c9b0:=decide_eq_true c9
 clear c9
 by_cases c10:(rd x7_1 x8_1)<(l1.length:Int)
 {
 rw [if_pos c10] at H
 have c10b0:=decide_eq_true c10
 clear c10
 obtain ⟨y112,hy112⟩:∃ y_:List Int,y_=(([rd l0 (rd x7_1 x8_1),rd l1 (rd x7_1 x8_1)]:List Int)):=⟨_,rfl⟩
 replace H:(spec_l02Reach.l1 k1 l0 l1 x7_1 x8_1 y112 (y112.length:Int) 0)=some r:=by first|(rw [hy112];with_reducible exact H)|(have H2_:=(Option.bind_some _ _).symm.trans H;rw [hy112];with_reducible exact H2_)|(have H2_:=(Option.bind_some _ _).symm.trans H;with_reducible exact H2_)|with_reducible exact H|(rw [hy112];exact H)|exact H
 have Ny112:=aM hy112
 clear hy112
 have H':=aM H
 clear H
 obtain ⟨Ao11,co11,eo11⟩:=Kd.R_slice HO_7.out
 subst eo11
 try go_wp2
 replace HO_7:=aM (Kd.R_drew HO_7.out)
 replace HB:=aM (below_drew1 HB.out)
 have p108:0≤(x8_1:Int):=dX
 have q108:x8_1<(x7_1.length:Int):=dX
 obtain ⟨ad108,e108,hx108_0⟩:=Kd.at_int (Kd.R_reads' HO_7.out).2.2 x8_1 p108 q108
 cases e108
 replace p108:=eq_true p108
 replace q108:=eq_true q108
 have p109:0≤((rd x7_1 x8_1):Int):=dX
 have q109:(rd x7_1 x8_1)<(l0.length:Int):=dX
 obtain ⟨ad109,e109,hx109_0⟩:=Kd.at_int HR0.out (rd x7_1 x8_1) p109 q109
 have hw109_0:=hx109_0
 cases e109
 replace hx109_0:=(HB.out.cell (World.block_lt_of_cell? w _ hx109_0)).trans hx109_0
 replace p109:=eq_true p109
 replace q109:=eq_true q109
 have p110:0≤(x8_1:Int):=dX
 have q110:x8_1<(x7_1.length:Int):=dX
 obtain ⟨ad110,e110,hx110_0⟩:=Kd.at_int (Kd.R_reads' HO_7.out).2.2 x8_1 p110 q110
 obtain rfl:ad108=ad110:=(by injection e110)
 replace p110:=eq_true p110
 replace q110:=eq_true q110
 have p111:0≤((rd x7_1 x8_1):Int):=dX
 have q111:(rd x7_1 x8_1)<(l1.length:Int):=dX
 obtain ⟨ad111,e111,hx111_0⟩:=Kd.at_int HR1.out (rd x7_1 x8_1) p111 q111
 have hw111_0:=hx111_0
 cases e111
 replace hx111_0:=(HB.out.cell (World.block_lt_of_cell? w _ hx111_0)).trans hx111_0
 replace p111:=eq_true p111
 replace q111:=eq_true q111
 refine start_ (n:=17) (S:=fun w'=>w'.cell? (ad108.add (x8_1).toNat)=some (.int .i64 (rd x7_1 x8_1))∧w'.cell? (ad109.add ((rd x7_1 x8_1)).toNat)=some (.int .i64 (rd l0 (rd x7_1 x8_1)))∧w'.cell? (ad108.add (x8_1).toNat)=some (.int .i64 (rd x7_1 x8_1))∧w'.cell? (ad111.add ((rd x7_1 x8_1)).toNat)=some (.int .i64 (rd l1 (rd x7_1 x8_1)))) (ds:=[]) #[ff,ff,ff,ff,ff,ff,ff,ff,ff,ff,ff,ff,ff,ff,ff,ff,ff] (by kernel_rfl) rfl rfl ⟨hx108_0,((HB.out.cell (World.block_lt_of_cell? w _ hw109_0)).trans hw109_0),hx110_0,((HB.out.cell (World.block_lt_of_cell? w _ hw111_0)).trans hw111_0)⟩ (fun hHeld => ?_);refine with_tabW spec_l02Reach.tab5 spec_l02Reach.bits5 (fun HT_ HW_ => ?_)
 generalize wr.drew=w12 at HO_7 HB hx108_0 hx109_0 hx110_0 hx111_0 hHeld ⊢
 refine pX 0 19 (fl 17 1) rfl rfl HT_.out ?_
 refine pX 1 20 (fl 17 3) rfl rfl HT_.out ?_
 refine pX 2 21 (fl 17 7) rfl rfl HT_.out ?_
 refine pX 3 22 (fl 17 15) rfl rfl HT_.out ?_
 refine pX 7 26 (fl 17 143) rfl rfl HT_.out ?_
 refine pX 8 27 (fl 17 399) rfl rfl HT_.out ?_
 refine pX 9 28 (fl 17 911) rfl rfl HT_.out ?_
 refine pX 10 29 (fl 17 1935) rfl rfl HT_.out ?_
 refine pX 16 35 (fl 17 67471) rfl rfl HT_.out ?_
 refine tX4 4 23 (fl 17 67487) rfl rfl HT_.out HW_.out hHeld ?_
 refine pX 5 24 (fl 17 67519) rfl rfl HT_.out ?_
 refine tX4 6 25 (fl 17 67583) rfl rfl HT_.out HW_.out hHeld ?_
 refine tX4 11 30 (fl 17 69631) rfl rfl HT_.out HW_.out hHeld ?_
 refine pX 12 31 (fl 17 73727) rfl rfl HT_.out ?_
 refine tX4 13 32 (fl 17 81919) rfl rfl HT_.out HW_.out hHeld ?_
 refine one_ (i:=14) (N:=some 33) #[tt,tt,tt,tt,tt,tt,tt,tt,tt,tt,tt,tt,tt,tt,tt,ff,tt] rfl rfl (one_of HT_.out (by kernel_rfl)) (by decide) (fun K hK => ?_)
 refine Kd.R_lit_step (Kd.int .i64) _ 3 ?hg (N:=33) ?hd (xs:=([rd l0 (rd x7_1 x8_1),rd l1 (rd x7_1 x8_1)]:List Int)) (inner:=[.int .i64 (rd l0 (rd x7_1 x8_1)),.int .i64 (rd l1 (rd x7_1 x8_1))]) (ok:=fun _=>True) (okp:=fun _=>True) ?hr ?hp (fun _ hk=>hk) trivial (Below.refl _ _) (Nat.le_refl _) (by simp) ?_;(case hd=>rfl);(case hg=>rfl);(case hr=>first|(go_simp;done)|(go_simp;rfl));(case hp=>exact(Reps.one (show Kd.M (Kd.int .i64) _ _ _ (rd l0 (rd x7_1 x8_1)) [.int .i64 (rd l0 (rd x7_1 x8_1))] from rfl) (Reps.one (show Kd.M (Kd.int .i64) _ _ _ (rd l1 (rd x7_1 x8_1)) [.int .i64 (rd l1 (rd x7_1 x8_1))] from rfl) (Reps.none _ _))))
 intro v113 w13 ho14 hb hg_ hnew_
 have HS0_:=(hb.cell (World.block_lt_of_cell? _ _ (hHeld.1))).trans (hHeld.1)
 have HS2_:=(hb.cell (World.block_lt_of_cell? _ _ (hHeld.2.2.1))).trans (hHeld.2.2.1)
 clear hg_ hnew_
 (first|rw [← Ny112.out] at ho14|(simp only [Int.reduceToNat] at ho14;rw [← Ny112.out] at ho14))
 have HO114:=aM (Kd.R_lower (Kd.R_new' ho14 (Kd.R_lt (rX HO_7.out))) (below_size (bX HB.out)))
 replace HO_7:=aM (Kd.R_elder' (rX HO_7.out) (Kd.R_base ho14) hb)
 replace HB:=aM (below_step (bX HB.out) hb)
 clear hb ho14
 obtain ⟨Ao15,co15,eo15⟩:=Kd.R_slice HO114.out
 (first|subst eo15|(injection eo15 with f1_ f2_ f3_;have f4_:=f1_.symm;have f5_:=f3_.symm;clear f1_ f2_ f3_;subst f4_;subst f5_))
 refine hK.out _ _ ⟨HS0_,((HB.out.cell (World.block_lt_of_cell? w _ hw109_0)).trans hw109_0),HS2_,((HB.out.cell (World.block_lt_of_cell? w _ hw111_0)).trans hw111_0)⟩ (fun hHeld => ?_)
 clear hK K
 refine norm_ (a':=?_) ?_ ?_
 rotate_left
 {
 show Act.put _ (some 33) _=_
 simp only [Act.put,zA,zB,zC,i64_w,i32_w]
 rfl
 }
 refine pX 15 34 (fl 17 131071) rfl rfl HT_.out ?_
 refine done_ (done_of HT_.out (by kernel_rfl)) ?_
 try go_wp2
 go_loopg [7,35] k1 (fun kq v7 v35 w'=>∃ (x7_2:List Int) (x35_2:Int),v35 = .int .i64 x35_2∧Aside0 (spec_l02Reach.l1 kq l0 l1 x7_2 x8_1 y112 (y112.length:Int) x35_2=some r)∧Aside0 (kq≤k1)∧Aside0 (Kd.R (Kd.int .i64) 3 w' w.heap.size (fun k_=>some k_≠((.slice Ao15 y112.length co15):Value).ownBlock) v7 x7_2)∧Aside0 (Kd.R (Kd.int .i64) 3 w' w.heap.size (fun k_=>some k_≠(v7:Value).ownBlock) (.slice Ao15 y112.length co15) y112)∧Aside0 (Below w.heap.size w w'))
 case atStart=>exact ⟨(x7_1),(0),vX,H',⟨Nat.le_refl _⟩,⟨rM HO_7.out (fun _ hk=>hk.2)⟩,⟨rM HO114.out (fun _ hk=>hk.2)⟩,⟨bX HB.out⟩⟩
 case round =>
 clear H'
 try clear c1
 try clear c6
 try clear c6b0
 try clear c7
 try clear c7b0
 try clear c8
 try clear c8b0
 try clear c9
 try clear c9b0
 try clear c10
 try clear c10b0
 try clear hx108_0
 try clear hx109_0
 try clear hx110_0
 try clear hx111_0
 try clear p108
 try clear p109
 try clear p110
 try clear p111
 try clear q108
 try clear q109
 try clear q110
 try clear q111
 obtain ⟨x7_2,x35_2,rfl,HA,HK2,HO_7,HO_33,HB⟩:=hrel
 cases gk with
 | zero=>exact absurd HA.out (by simp [spec_l02Reach.l1])
 | succ k2 =>
 have H:=HA.out
 clear HA
 simp only [spec_l02Reach.l1] at H
 by_cases c16:x35_2<(y112.length:Int)
 {
 rw [if_pos c16] at H
 have c16b0:=decide_eq_true c16
 clear c16
 by_cases c17:0≤x35_2
 {
 rw [if_pos c17] at H
 have c17b0:=decide_eq_true c17
 clear c17
 by_cases c18:x35_2<(y112.length:Int)
 {
 rw [if_pos c18] at H
 have c18b0:=decide_eq_true c18
 clear c18
 replace H:=oB H
 obtain ⟨t116,A190,H⟩:=H
 have A19:=aM A190
 clear A190
 by_cases c20:t116=true
 {
 subst c20
 have H1:(spec_l02Reach.l1 k2 l0 l1 x7_2 x8_1 y112 (y112.length:Int) (wrap64 (x35_2+1)))=some r:=by rw [if_pos rfl] at H;exact H
 clear H
 have H:=H1
 clear H1
 have H':=aM H
 clear H
 have p115:0≤(x35_2:Int):=dX
 have q115:x35_2<(y112.length:Int):=dX
 obtain ⟨ad115,e115,hx115_0⟩:=Kd.at_int (Kd.R_reads' HO_33.out).2.2 x35_2 p115 q115
 cases e115
 replace p115:=eq_true p115
 replace q115:=eq_true q115
 obtain ⟨Ao21,co21,eo21⟩:=Kd.R_slice HO_7.out
 subst eo21
 go_wp2_with (first|((with_reducible refine gate_callee (f:=49) rfl ?_);refine goesL_ (some 41) rfl rfl Tryz.func49 (by kernel_rfl) rfl #[.slice Ao21 x7_2.length co21,.int .i64 (rd y112 x35_2)] rfl aX ?_;(with_reducible refine(spec_l02Has.calls k2 _ _ x7_2 (rd y112 x35_2) true _ ?side1 ?side2 A19.out).mono ?_);(case side1=>exact cX (Kd.R_reads' HO_7.out).2.2);(case side2=>exact(Kd.R_reads' HO_7.out).2.1);rintro e w' ⟨rfl,⟨nd,rfl⟩⟩;refine ⟨_,rfl,?_⟩))
 go_roundg k2
 case measure=>have:=HK1.out;have:=HK2.out;omega
 case rel=>exact ⟨(x7_2),(wrap64 (x35_2+1)),vX,H',⟨by have:=HK1.out;have:=HK2.out;omega⟩,⟨rX HO_7.out⟩,⟨rX HO_33.out⟩,⟨bX HB.out⟩⟩
 }
 {
 replace c20:=Bool.eq_false_iff.mpr c20
 subst c20
 have H1:(if x7_2.length<17592186044416 then (spec_l02Reach.l1 k2 l0 l1 (x7_2 ++ [rd y112 x35_2]) x8_1 y112 (y112.length:Int) (wrap64 (x35_2+1))) else (none))=some r:=by rw [if_neg (show ¬ (false=true) by decide)] at H;exact H
 clear H
 have H:=H1
 clear H1
 by_cases c22:x7_2.length<17592186044416
 {
 rw [if_pos c22] at H
 have LMc22:=aM c22
 clear c22
 obtain ⟨y117,hy117⟩:∃ y_:List Int,y_=(x7_2 ++ [rd y112 x35_2]):=⟨_,rfl⟩
 replace H:(spec_l02Reach.l1 k2 l0 l1 y117 x8_1 y112 (y112.length:Int) (wrap64 (x35_2+1)))=some r:=by first|(rw [hy117];with_reducible exact H)|(have H2_:=(Option.bind_some _ _).symm.trans H;rw [hy117];with_reducible exact H2_)|(have H2_:=(Option.bind_some _ _).symm.trans H;with_reducible exact H2_)|with_reducible exact H|(rw [hy117];exact H)|exact H
 have Ny117:=aM hy117
 clear hy117
 have H':=aM H
 clear H
 have p115:0≤(x35_2:Int):=dX
 have q115:x35_2<(y112.length:Int):=dX
 obtain ⟨ad115,e115,hx115_0⟩:=Kd.at_int (Kd.R_reads' HO_33.out).2.2 x35_2 p115 q115
 cases e115
 replace p115:=eq_true p115
 replace q115:=eq_true q115
 obtain ⟨Ao23,co23,eo23⟩:=Kd.R_slice HO_7.out
 subst eo23
 go_wp2_with (first|((with_reducible refine gate_callee (f:=49) rfl ?_);refine goesL_ (some 41) rfl rfl Tryz.func49 (by kernel_rfl) rfl #[.slice Ao23 x7_2.length co23,.int .i64 (rd y112 x35_2)] rfl aX ?_;(with_reducible refine(spec_l02Has.calls k2 _ _ x7_2 (rd y112 x35_2) false _ ?side1 ?side2 A19.out).mono ?_);(case side1=>exact cX (Kd.R_reads' HO_7.out).2.2);(case side2=>exact(Kd.R_reads' HO_7.out).2.1);rintro e w' ⟨rfl,⟨nd,rfl⟩⟩;refine ⟨_,rfl,?_⟩)|((with_reducible refine gate_builtin (b:=.append) (xs:=#[.tmp 43,.tmp 45]) rfl ?_);at_builtin;refine Kd.R_append (Kd.int .i64) (w0:=w) w.heap.size rfl (.tmp 43) (.tmp 45) 22 3 (.int .i64 0) 8 rfl Tryz.underlying22 info3 rfl (by decide) (by omega) (.slice Ao23 x7_2.length co23) x7_2 (rd y112 x35_2) [.int .i64 (rd y112 x35_2)] (fun k_=>some k_≠(.slice (some ad115) y112.length co15:Value).ownBlock) (fun _=>False) rfl rfl ?aP (fun _ hk=>hk.elim) ?aF ?aO ?aB ?aS ?aL ?_;(case aP=>exact rfl);(case aB=>exact(bX HB.out));(case aF=>exact(fun k_ hk=>Kd.fresh' (Kd.R_lt (rX HO_33.out)) k_ hk));(case aO=>exact(rX HO_7.out));(case aS=>exact(below_size (bX HB.out)));(case aL=>have:=LMc22.out;omega);intro v118 w24 ho hb hg hat;rw [← Ny117.out] at ho;replace HO_33:=aM (Kd.R_after (ok:=(fun _=>True)) (rM HO_33.out (fun _ hk=>⟨trivial,hk⟩)) hg hat);replace HB:=aM (hb);have HO119:=aM (ho);clear HO_7 ho hb hg hat))
 go_roundg k2
 case measure=>have:=HK1.out;have:=HK2.out;omega
 case rel=>exact ⟨(y117),(wrap64 (x35_2+1)),vX,H',⟨by have:=HK1.out;have:=HK2.out;omega⟩,⟨rX HO119.out⟩,⟨rM HO_33.out (fun _ hk=>hk.2)⟩,⟨bX HB.out⟩⟩
 }
 {
 rw [if_neg c22] at H
 exact absurd H (by simp)
 }
 }
 }
 {
 rw [if_neg c18] at H
 exact absurd H (by simp)
 }
 }
 {
 rw [if_neg c17] at H
 exact absurd H (by simp)
 }
 }
 {
 rw [if_neg c16] at H
 have c16b0:=decide_eq_false c16
 clear c16
 have H':=aM H
 clear H
 go_wp2
 go_roundg k2
 case measure=>have:=HK1.out;have:=HK2.out;omega
 case rel=>exact ⟨(x7_2),(wrap64 (x8_1+1)),vX,H',⟨by have:=HK1.out;have:=HK2.out;omega⟩,⟨rM HO_7.out (fun _ hk=>trivial)⟩,⟨bX HB.out⟩⟩
 }
 }
 {
 rw [if_neg c10] at H
 exact absurd H (by simp)
 }
 }
 {
 rw [if_neg c9] at H
 exact absurd H (by simp)
 }
 }
 {
 rw [if_neg c8] at H
 exact absurd H (by simp)
 }
 }
 {
 rw [if_neg c7] at H
 exact absurd H (by simp)
 }
 }
 {
 rw [if_neg c6] at H
 have c6b0:=decide_eq_false c6
 clear c6
 obtain rfl:=Option.some.inj H
 obtain ⟨Ao25,co25,eo25⟩:=Kd.R_slice HO_7.out
 subst eo25
 go_wp2
 go_ret
 exact ⟨_,eX,by(with_reducible repeat(first|apply rA|apply rN|apply rD));exact HO_7.out,bX HB.out⟩
 }

/-! ### spec_IsTransitive: function 22 -/
def spec_IsTransitive.f (k:Nat) (l0:List Int) (l1:List Int):Option (Bool):=(spec_PermOk.f l0).bind fun t120=>(if t120=true then ((spec_PermOk.f l1).bind fun t121=>(if t121=true then (if (l0.length:Int)=(l1.length:Int) then (if (l0.length:Int) > 0 then ((spec_l02Reach.f k l0 l1 0).bind fun t122=>(some ((t122.length:Int) == (l0.length:Int)))) else (some false)) else (some false)) else (some false))) else (some false))
theorem spec_IsTransitive.calls (k:Nat) (A0:Option Addr) (c0:Nat) (l0:List Int) (A1:Option Addr) (c1:Nat) (l1:List Int) (r:Bool) (w:World) (hr0:Kd.C (Kd.int .i64) w A0 l0.length l0) (hc0:l0.length≤c0) (hr1:Kd.C (Kd.int .i64) w A1 l1.length l1) (hc1:l1.length≤c1) (h:spec_IsTransitive.f k l0 l1=some r) :
  Calls Tryz.prog 22 #[.slice A0 l0.length c0,.slice A1 l1.length c1] w fun e w'=>e = .returned (.bool r)∧Below w.heap.size w w':=by
 have HR0:=aM hr0
 have HC0:=aM hc0
 clear hr0 hc0
 have HR1:=aM hr1
 have HC1:=aM hc1
 clear hr1 hc1
 have HB:=aM (Below.refl w.heap.size w)
 have H:((spec_PermOk.f l0).bind fun t120=>(if t120=true then ((spec_PermOk.f l1).bind fun t121=>(if t121=true then (if (l0.length:Int)=(l1.length:Int) then (if (l0.length:Int) > 0 then ((spec_l02Reach.f k l0 l1 0).bind fun t122=>(some ((t122.length:Int) == (l0.length:Int)))) else (some false)) else (some false)) else (some false))) else (some false)))=some r:=h
 clear h
 replace H:=oB H
 obtain ⟨t120,A30,H⟩:=H
 have A3:=aM A30
 clear A30
 by_cases c4:t120=true
 {
 subst c4
 have H1:((spec_PermOk.f l1).bind fun t121=>(if t121=true then (if (l0.length:Int)=(l1.length:Int) then (if (l0.length:Int) > 0 then ((spec_l02Reach.f k l0 l1 0).bind fun t122=>(some ((t122.length:Int) == (l0.length:Int)))) else (some false)) else (some false)) else (some false)))=some r:=by rw [if_pos rfl] at H;exact H
 clear H
 have H:=H1
 clear H1
 replace H:=oB H
 obtain ⟨t121,A50,H⟩:=H
 have A5:=aM A50
 clear A50
 by_cases c6:t121=true
 {
 subst c6
 have H1:(if (l0.length:Int)=(l1.length:Int) then (if (l0.length:Int) > 0 then ((spec_l02Reach.f k l0 l1 0).bind fun t122=>(some ((t122.length:Int) == (l0.length:Int)))) else (some false)) else (some false))=some r:=by rw [if_pos rfl] at H;exact H
 clear H
 have H:=H1
 clear H1
 by_cases c7:(l0.length:Int)=(l1.length:Int)
 {
 rw [if_pos c7] at H
 have c7b0:((l0.length:Int) == (l1.length:Int))=true:=beq_iff_eq.mpr c7
 have c7b1:((l0.length:Int) != (l1.length:Int))=false:=bne_eq_false_iff_eq.mpr c7
 have c7b2:(l0.length == l1.length)=true:=by first|simpa using c7|(simp at c7 ⊢;omega)
 clear c7
 by_cases c8:(l0.length:Int) > 0
 {
 rw [if_pos c8] at H
 have c8b0:=decide_eq_true c8
 have c8b1:decide (0<l0.length)=true:=decide_eq_true (by omega)
 clear c8
 replace H:=oB H
 obtain ⟨t122,A90,H⟩:=H
 have A9:=aM A90
 clear A90
 obtain rfl:=Option.some.inj H
 go_enter Tryz.func22,Tryz.ntmps22
 go_wp2_with (first|((with_reducible refine gate_callee (f:=33) rfl ?_);refine goesL_ (some 6) rfl rfl Tryz.func33 (by kernel_rfl) rfl #[.slice A0 l0.length c0] rfl aX ?_;(with_reducible refine(spec_PermOk.calls _ _ l0 true _ ?side1 ?side2 A3.out).mono ?_);(case side1=>exact cX HR0.out);(case side2=>exact HC0.out);rintro e w' ⟨rfl,⟨nd,rfl⟩⟩;refine ⟨_,rfl,?_⟩)|(go_at_call 33;(with_reducible refine(spec_PermOk.calls _ _ l1 true _ ?side1 ?side2 A5.out).mono ?_);(case side1=>exact cX HR1.out);(case side2=>exact HC1.out);rintro e w' ⟨rfl,⟨nd,rfl⟩⟩)|(go_at_call 34;(with_reducible refine(spec_l02Reach.calls k _ _ l0 _ _ l1 0 t122 _ ?side1 ?side2 ?side3 ?side4 A9.out).mono ?_);(case side1=>exact cX HR0.out);(case side2=>exact HC0.out);(case side3=>exact cX HR1.out);(case side4=>exact HC1.out);rintro e w10 ⟨v123,rfl,ho0,hb⟩;have HO124:=aM (Kd.R_lower ho0 (below_size (bX HB.out)));replace HB:=aM (below_step (bX HB.out) hb);(try clear hb);(try clear ho0);obtain ⟨Ao11,co11,eo11⟩:=Kd.R_slice HO124.out;subst eo11))
 go_ret
 exact ⟨eX,bX HB.out⟩
 }
 {
 rw [if_neg c8] at H
 have c8b0:=decide_eq_false c8
 have c8b1:decide (0<l0.length)=false:=decide_eq_false (by omega)
 clear c8
 obtain rfl:=Option.some.inj H
 go_enter Tryz.func22,Tryz.ntmps22
 go_wp2_with (first|((with_reducible refine gate_callee (f:=33) rfl ?_);refine goesL_ (some 6) rfl rfl Tryz.func33 (by kernel_rfl) rfl #[.slice A0 l0.length c0] rfl aX ?_;(with_reducible refine(spec_PermOk.calls _ _ l0 true _ ?side1 ?side2 A3.out).mono ?_);(case side1=>exact cX HR0.out);(case side2=>exact HC0.out);rintro e w' ⟨rfl,⟨nd,rfl⟩⟩;refine ⟨_,rfl,?_⟩)|(go_at_call 33;(with_reducible refine(spec_PermOk.calls _ _ l1 true _ ?side1 ?side2 A5.out).mono ?_);(case side1=>exact cX HR1.out);(case side2=>exact HC1.out);rintro e w' ⟨rfl,⟨nd,rfl⟩⟩))
 go_ret
 exact ⟨eX,bX HB.out⟩
 }
 }
 {
 rw [if_neg c7] at H
 have c7b0:((l0.length:Int) == (l1.length:Int))=false:=beq_eq_false_iff_ne.mpr c7
 have c7b1:((l0.length:Int) != (l1.length:Int))=true:=bne_iff_ne.mpr c7
 have c7b2:(l0.length == l1.length)=false:=by first|simpa using c7|(simp at c7 ⊢;omega)
 obtain rfl:=Option.some.inj H
 go_enter Tryz.func22,Tryz.ntmps22
 go_wp2_with (first|((with_reducible refine gate_callee (f:=33) rfl ?_);refine goesL_ (some 6) rfl rfl Tryz.func33 (by kernel_rfl) rfl #[.slice A0 l0.length c0] rfl aX ?_;(with_reducible refine(spec_PermOk.calls _ _ l0 true _ ?side1 ?side2 A3.out).mono ?_);(case side1=>exact cX HR0.out);(case side2=>exact HC0.out);rintro e w' ⟨rfl,⟨nd,rfl⟩⟩;refine ⟨_,rfl,?_⟩)|(go_at_call 33;(with_reducible refine(spec_PermOk.calls _ _ l1 true _ ?side1 ?side2 A5.out).mono ?_);(case side1=>exact cX HR1.out);(case side2=>exact HC1.out);rintro e w' ⟨rfl,⟨nd,rfl⟩⟩))
 go_ret
 exact ⟨eX,bX HB.out⟩
 }
 }
 {
 replace c6:=Bool.eq_false_iff.mpr c6
 subst c6
 have H1:(some false)=some r:=by rw [if_neg (show ¬ (false=true) by decide)] at H;exact H
 clear H
 have H:=H1
 clear H1
 obtain rfl:=Option.some.inj H
 go_enter Tryz.func22,Tryz.ntmps22
 go_wp2_with (first|((with_reducible refine gate_callee (f:=33) rfl ?_);refine goesL_ (some 6) rfl rfl Tryz.func33 (by kernel_rfl) rfl #[.slice A0 l0.length c0] rfl aX ?_;(with_reducible refine(spec_PermOk.calls _ _ l0 true _ ?side1 ?side2 A3.out).mono ?_);(case side1=>exact cX HR0.out);(case side2=>exact HC0.out);rintro e w' ⟨rfl,⟨nd,rfl⟩⟩;refine ⟨_,rfl,?_⟩)|(go_at_call 33;(with_reducible refine(spec_PermOk.calls _ _ l1 false _ ?side1 ?side2 A5.out).mono ?_);(case side1=>exact cX HR1.out);(case side2=>exact HC1.out);rintro e w' ⟨rfl,⟨nd,rfl⟩⟩))
 go_ret
 exact ⟨eX,bX HB.out⟩
 }
 }
 {
 replace c4:=Bool.eq_false_iff.mpr c4
 subst c4
 have H1:(some false)=some r:=by rw [if_neg (show ¬ (false=true) by decide)] at H;exact H
 clear H
 have H:=H1
 clear H1
 obtain rfl:=Option.some.inj H
 go_enter Tryz.func22,Tryz.ntmps22
 go_wp2_with (first|((with_reducible refine gate_callee (f:=33) rfl ?_);refine goesL_ (some 6) rfl rfl Tryz.func33 (by kernel_rfl) rfl #[.slice A0 l0.length c0] rfl aX ?_;(with_reducible refine(spec_PermOk.calls _ _ l0 false _ ?side1 ?side2 A3.out).mono ?_);(case side1=>exact cX HR0.out);(case side2=>exact HC0.out);rintro e w' ⟨rfl,⟨nd,rfl⟩⟩;refine ⟨_,rfl,?_⟩))
 go_ret
 exact ⟨eX,bX HB.out⟩
 }

/-! ### spec_SurfaceOk: function 10 -/
def spec_SurfaceOk.f (k:Nat) (l0_0:List Int) (l0_1:List Int):Option (Bool):=(spec_IsTransitive.f k l0_0 l0_1).bind fun t126=>(some t126)
theorem spec_SurfaceOk.calls (k:Nat) (A0_0:Option Addr) (c0_0:Nat) (l0_0:List Int) (A0_1:Option Addr) (c0_1:Nat) (l0_1:List Int) (r:Bool) (w:World) (hr0_0:Kd.C (Kd.int .i64) w A0_0 l0_0.length l0_0) (hc0_0:l0_0.length≤c0_0) (hr0_1:Kd.C (Kd.int .i64) w A0_1 l0_1.length l0_1) (hc0_1:l0_1.length≤c0_1) (h:spec_SurfaceOk.f k l0_0 l0_1=some r) :
  Calls Tryz.prog 10 #[.agg #[.slice A0_0 l0_0.length c0_0,.slice A0_1 l0_1.length c0_1]] w fun e w'=>e = .returned (.bool r)∧Below w.heap.size w w':=by
 have hu27:=Tryz.underlying27
 have HR0_0:=aM hr0_0
 have HC0_0:=aM hc0_0
 clear hr0_0 hc0_0
 have HR0_1:=aM hr0_1
 have HC0_1:=aM hc0_1
 clear hr0_1 hc0_1
 have HB:=aM (Below.refl w.heap.size w)
 have H:((spec_IsTransitive.f k l0_0 l0_1).bind fun t126=>(some t126))=some r:=h
 clear h
 replace H:=oB H
 obtain ⟨t126,A20,H⟩:=H
 have A2:=aM A20
 clear A20
 obtain rfl:=Option.some.inj H
 go_enter Tryz.func10,Tryz.ntmps10
 go_wp2_with (first|((with_reducible refine gate_dst (N:=1) rfl ?_);refine bEv (cs:=#[.slice A0_0 l0_0.length c0_0,.slice A0_1 l0_1.length c0_1]) (t:=27) ?_;intro gb125 hg w3 hbox hb;have BK125:=aM (hbox);have GW125:=aM ((szX (below_size (bX HB.out)) hg:w.heap.size≤gb125));have GE125:=GW125;replace HB:=aM (below_step (bX HB.out) hb);clear hb hbox hg;obtain ⟨hcz4_0,hcz4_1,hfz4_0,hfz4_1⟩:=f2Z BK125.out)|((with_reducible refine gate_callee (f:=22) rfl ?_);refine goesL_ (some 7) rfl rfl Tryz.func22 (by kernel_rfl) rfl #[.slice A0_0 l0_0.length c0_0,.slice A0_1 l0_1.length c0_1] rfl aX ?_;(with_reducible refine(spec_IsTransitive.calls k _ _ l0_0 _ _ l0_1 t126 _ ?side1 ?side2 ?side3 ?side4 A2.out).mono ?_);(case side1=>exact cX (Kd.C_below HR0_0.out HB.out));(case side2=>exact HC0_0.out);(case side3=>exact cX (Kd.C_below HR0_1.out HB.out));(case side4=>exact HC0_1.out);rintro e w5 ⟨rfl,hb⟩;refine ⟨_,rfl,?_⟩;replace BK125:=aM (bbX BK125.out hb);replace HB:=aM (below_step (bX1 HB.out GE125.out) hb);(try clear hb)))
 go_ret
 exact ⟨eX,bX1 HB.out GE125.out⟩

/-! ### spec_SameList: function 82 -/
def spec_SameList.l0 : Nat→List Int→List Int→Int→Int→Option (Bool)
 | 0,_,_,_,_=>none
 | k+1,x1,x12,x13,x14=>if x14<x13 then (if 0≤x14 then (if x14<(x12.length:Int) then (if x14<(x1.length:Int) then (if (rd x12 x14)=(rd x1 x14) then (spec_SameList.l0 k x1 x12 x13 (wrap64 (x14+1))) else (some false)) else (none)) else (none)) else (none)) else (some true)
def spec_SameList.f (k:Nat) (l0:List Int) (l1:List Int):Option (Bool):=if (l0.length:Int)=(l1.length:Int) then (spec_SameList.l0 k l1 l0 (l0.length:Int) 0) else (some false)
theorem spec_SameList.calls (k:Nat) (A0:Option Addr) (c0:Nat) (l0:List Int) (A1:Option Addr) (c1:Nat) (l1:List Int) (r:Bool) (w:World) (hr0:Kd.C (Kd.int .i64) w A0 l0.length l0) (hc0:l0.length≤c0) (hr1:Kd.C (Kd.int .i64) w A1 l1.length l1) (hc1:l1.length≤c1) (h:spec_SameList.f k l0 l1=some r) :
  Calls Tryz.prog 82 #[.slice A0 l0.length c0,.slice A1 l1.length c1] w fun e w'=>e = .returned (.bool r)∧Drawn0 w w':=by
 have HR0:=aM hr0
 have HC0:=aM hc0
 clear hr0 hc0
 have HR1:=aM hr1
 have HC1:=aM hc1
 clear hr1 hc1
 have H:(if (l0.length:Int)=(l1.length:Int) then (spec_SameList.l0 k l1 l0 (l0.length:Int) 0) else (some false))=some r:=h
 clear h
 by_cases c3:(l0.length:Int)=(l1.length:Int)
 {
 rw [if_pos c3] at H
 have c3b0:((l0.length:Int) == (l1.length:Int))=true:=beq_iff_eq.mpr c3
 have c3b1:((l0.length:Int) != (l1.length:Int))=false:=bne_eq_false_iff_eq.mpr c3
 have c3b2:(l0.length == l1.length)=true:=by first|simpa using c3|(simp at c3 ⊢;omega)
 clear c3
 have H':=aM H
 clear H
 go_enter Tryz.func82,Tryz.ntmps82
 go_wp2
 go_loopg [14] k (fun kq v14 w'=>∃ (x14_1:Int),v14 = .int .i64 x14_1∧Aside0 (spec_SameList.l0 kq l1 l0 (l0.length:Int) x14_1=some r)∧Aside0 (kq≤k)∧Drawn0 w w')
 case atStart=>exact ⟨(0),vX,H',⟨Nat.le_refl _⟩,by repeat(first|exact Drawn0.refl _|apply Drawn0.step)⟩
 case round =>
 clear H'
 try clear c1
 try clear c3
 try clear c3b0
 try clear c3b1
 try clear c3b2
 obtain ⟨x14_1,rfl,HA,HK1,⟨m1,rfl⟩⟩:=hrel
 cases gk with
 | zero=>exact absurd HA.out (by simp [spec_SameList.l0])
 | succ k1 =>
 have H:=HA.out
 clear HA
 simp only [spec_SameList.l0] at H
 by_cases c4:x14_1<(l0.length:Int)
 {
 rw [if_pos c4] at H
 have c4b0:=decide_eq_true c4
 clear c4
 by_cases c5:0≤x14_1
 {
 rw [if_pos c5] at H
 have c5b0:=decide_eq_true c5
 clear c5
 by_cases c6:x14_1<(l0.length:Int)
 {
 rw [if_pos c6] at H
 have c6b0:=decide_eq_true c6
 clear c6
 by_cases c7:x14_1<(l1.length:Int)
 {
 rw [if_pos c7] at H
 have c7b0:=decide_eq_true c7
 clear c7
 by_cases c8:(rd l0 x14_1)=(rd l1 x14_1)
 {
 rw [if_pos c8] at H
 have c8b0:((rd l0 x14_1) == (rd l1 x14_1))=true:=beq_iff_eq.mpr c8
 have c8b1:((rd l0 x14_1) != (rd l1 x14_1))=false:=bne_eq_false_iff_eq.mpr c8
 clear c8
 have H':=aM H
 clear H
 have p127:0≤(x14_1:Int):=dX
 have q127:x14_1<(l0.length:Int):=dX
 obtain ⟨ad127,e127,hx127_0⟩:=Kd.at_int HR0.out x14_1 p127 q127
 cases e127
 replace p127:=eq_true p127
 replace q127:=eq_true q127
 have p128:0≤(x14_1:Int):=dX
 have q128:x14_1<(l1.length:Int):=dX
 obtain ⟨ad128,e128,hx128_0⟩:=Kd.at_int HR1.out x14_1 p128 q128
 cases e128
 replace p128:=eq_true p128
 replace q128:=eq_true q128
 go_wp2
 go_roundg k1
 case measure=>have:=HK1.out;omega
 case rel=>exact ⟨(wrap64 (x14_1+1)),vX,H',⟨by have:=HK1.out;omega⟩,by repeat(first|exact Drawn0.refl _|apply Drawn0.step)⟩
 }
 {
 rw [if_neg c8] at H
 have c8b0:((rd l0 x14_1) == (rd l1 x14_1))=false:=beq_eq_false_iff_ne.mpr c8
 have c8b1:((rd l0 x14_1) != (rd l1 x14_1))=true:=bne_iff_ne.mpr c8
 obtain rfl:=Option.some.inj H
 have p127:0≤(x14_1:Int):=dX
 have q127:x14_1<(l0.length:Int):=dX
 obtain ⟨ad127,e127,hx127_0⟩:=Kd.at_int HR0.out x14_1 p127 q127
 cases e127
 replace p127:=eq_true p127
 replace q127:=eq_true q127
 have p128:0≤(x14_1:Int):=dX
 have q128:x14_1<(l1.length:Int):=dX
 obtain ⟨ad128,e128,hx128_0⟩:=Kd.at_int HR1.out x14_1 p128 q128
 cases e128
 replace p128:=eq_true p128
 replace q128:=eq_true q128
 go_wp2
 go_ret
 exact ⟨by first|rfl|(simp;done)|(simp [*];done),by repeat(first|exact Drawn0.refl _|apply Drawn0.step)⟩
 }
 }
 {
 rw [if_neg c7] at H
 exact absurd H (by simp)
 }
 }
 {
 rw [if_neg c6] at H
 exact absurd H (by simp)
 }
 }
 {
 rw [if_neg c5] at H
 exact absurd H (by simp)
 }
 }
 {
 rw [if_neg c4] at H
 have c4b0:=decide_eq_false c4
 clear c4
 obtain rfl:=Option.some.inj H
 go_wp2
 go_ret
 exact ⟨by first|rfl|(simp;done)|(simp [*];done),by repeat(first|exact Drawn0.refl _|apply Drawn0.step)⟩
 }
 }
 {
 rw [if_neg c3] at H
 have c3b0:((l0.length:Int) == (l1.length:Int))=false:=beq_eq_false_iff_ne.mpr c3
 have c3b1:((l0.length:Int) != (l1.length:Int))=true:=bne_iff_ne.mpr c3
 have c3b2:(l0.length == l1.length)=false:=by first|simpa using c3|(simp at c3 ⊢;omega)
 obtain rfl:=Option.some.inj H
 go_enter Tryz.func82,Tryz.ntmps82
 go_wp2
 go_ret
 exact ⟨by first|rfl|(simp;done)|(simp [*];done),by repeat(first|exact Drawn0.refl _|apply Drawn0.step)⟩
 }

/-! ### spec_SameSurface: function 51 -/
def spec_SameSurface.f (k:Nat) (l0_0:List Int) (l0_1:List Int) (l1_0:List Int) (l1_1:List Int):Option (Bool):=(spec_SameList.f k l0_0 l1_0).bind fun t131=>(if t131=true then ((spec_SameList.f k l0_1 l1_1).bind fun t132=>(some t132)) else (some false))
theorem spec_SameSurface.calls (k:Nat) (A0_0:Option Addr) (c0_0:Nat) (l0_0:List Int) (A0_1:Option Addr) (c0_1:Nat) (l0_1:List Int) (A1_0:Option Addr) (c1_0:Nat) (l1_0:List Int) (A1_1:Option Addr) (c1_1:Nat) (l1_1:List Int) (r:Bool) (w:World) (hr0_0:Kd.C (Kd.int .i64) w A0_0 l0_0.length l0_0) (hc0_0:l0_0.length≤c0_0) (hr0_1:Kd.C (Kd.int .i64) w A0_1 l0_1.length l0_1) (hc0_1:l0_1.length≤c0_1) (hr1_0:Kd.C (Kd.int .i64) w A1_0 l1_0.length l1_0) (hc1_0:l1_0.length≤c1_0) (hr1_1:Kd.C (Kd.int .i64) w A1_1 l1_1.length l1_1) (hc1_1:l1_1.length≤c1_1) (h:spec_SameSurface.f k l0_0 l0_1 l1_0 l1_1=some r) :
  Calls Tryz.prog 51 #[.agg #[.slice A0_0 l0_0.length c0_0,.slice A0_1 l0_1.length c0_1],.agg #[.slice A1_0 l1_0.length c1_0,.slice A1_1 l1_1.length c1_1]] w fun e w'=>e = .returned (.bool r)∧Below w.heap.size w w':=by
 have hu27:=Tryz.underlying27
 have HR0_0:=aM hr0_0
 have HC0_0:=aM hc0_0
 clear hr0_0 hc0_0
 have HR0_1:=aM hr0_1
 have HC0_1:=aM hc0_1
 clear hr0_1 hc0_1
 have HR1_0:=aM hr1_0
 have HC1_0:=aM hc1_0
 clear hr1_0 hc1_0
 have HR1_1:=aM hr1_1
 have HC1_1:=aM hc1_1
 clear hr1_1 hc1_1
 have HB:=aM (Below.refl w.heap.size w)
 have H:((spec_SameList.f k l0_0 l1_0).bind fun t131=>(if t131=true then ((spec_SameList.f k l0_1 l1_1).bind fun t132=>(some t132)) else (some false)))=some r:=h
 clear h
 replace H:=oB H
 obtain ⟨t131,A30,H⟩:=H
 have A3:=aM A30
 clear A30
 by_cases c4:t131=true
 {
 subst c4
 have H1:((spec_SameList.f k l0_1 l1_1).bind fun t132=>(some t132))=some r:=by rw [if_pos rfl] at H;exact H
 clear H
 have H:=H1
 clear H1
 replace H:=oB H
 obtain ⟨t132,A50,H⟩:=H
 have A5:=aM A50
 clear A50
 obtain rfl:=Option.some.inj H
 go_enter Tryz.func51,Tryz.ntmps51
 go_wp2_with (first|((with_reducible refine gate_dst (N:=2) rfl ?_);refine bEv (cs:=#[.slice A0_0 l0_0.length c0_0,.slice A0_1 l0_1.length c0_1]) (t:=27) ?_;intro gb129 hg w6 hbox hb;have BK129:=aM (hbox);have GW129:=aM ((szX (below_size (bX HB.out)) hg:w.heap.size≤gb129));have GE129:=GW129;replace HB:=aM (below_step (bX HB.out) hb);clear hb hbox hg)|((with_reducible refine gate_dst (N:=3) rfl ?_);refine bEv (cs:=#[.slice A1_0 l1_0.length c1_0,.slice A1_1 l1_1.length c1_1]) (t:=27) ?_;intro gb130 hg w7 hbox hb;have BK130:=aM (hbox);have GW130:=aM ((szX (below_size (bX1 HB.out GE129.out)) hg:w.heap.size≤gb130));have GE130:=GW130;replace HB:=aM (below_step (bX1 HB.out GE129.out) hb);have NB129_130:=aM (neX BK129.out hg);have NB130_129:=aM (nfX BK129.out hg);replace BK129:=aM (bbX BK129.out hb);clear hb hbox hg;have hnb8:=NB129_130.out;have hnc8:=NB130_129.out;obtain ⟨hcz9_0,hcz9_1,hfz9_0,hfz9_1⟩:=f2Z BK129.out;have hcz10_0:w7.cell? ⟨gb130,0,none⟩=some (.slice A1_0 l1_0.length c1_0):=(blk_cell BK130.out 0).trans rfl;have hcz10_1:w7.cell? ⟨gb130,1,none⟩=some (.slice A1_1 l1_1.length c1_1):=(blk_cell BK130.out 1).trans rfl;have hfz10_0:=blk_frozen BK130.out 0;have hfz10_1:=blk_frozen BK130.out 1)|((with_reducible refine gate_callee (f:=82) rfl ?_);refine goesL_ (some 9) rfl rfl Tryz.func82 (by kernel_rfl) rfl #[.slice A0_0 l0_0.length c0_0,.slice A1_0 l1_0.length c1_0] rfl aX ?_;(with_reducible refine(spec_SameList.calls k _ _ l0_0 _ _ l1_0 true _ ?side1 ?side2 ?side3 ?side4 A3.out).mono ?_);(case side1=>exact cX (Kd.C_below HR0_0.out HB.out));(case side2=>exact HC0_0.out);(case side3=>exact cX (Kd.C_below HR1_0.out HB.out));(case side4=>exact HC1_0.out);rintro e w' ⟨rfl,⟨nd,rfl⟩⟩;refine ⟨_,rfl,?_⟩)|(go_at_call 82;(with_reducible refine(spec_SameList.calls k _ _ l0_1 _ _ l1_1 t132 _ ?side1 ?side2 ?side3 ?side4 A5.out).mono ?_);(case side1=>exact cX (Kd.C_below HR0_1.out (bX2 HB.out GE129.out GE130.out)));(case side2=>exact HC0_1.out);(case side3=>exact cX (Kd.C_below HR1_1.out (bX2 HB.out GE129.out GE130.out)));(case side4=>exact HC1_1.out);rintro e w' ⟨rfl,⟨nd,rfl⟩⟩))
 go_ret
 exact ⟨eX,bX2 HB.out GE129.out GE130.out⟩
 }
 {
 replace c4:=Bool.eq_false_iff.mpr c4
 subst c4
 have H1:(some false)=some r:=by rw [if_neg (show ¬ (false=true) by decide)] at H;exact H
 clear H
 have H:=H1
 clear H1
 obtain rfl:=Option.some.inj H
 go_enter Tryz.func51,Tryz.ntmps51
 go_wp2_with (first|((with_reducible refine gate_dst (N:=2) rfl ?_);refine bEv (cs:=#[.slice A0_0 l0_0.length c0_0,.slice A0_1 l0_1.length c0_1]) (t:=27) ?_;intro gb129 hg w11 hbox hb;have BK129:=aM (hbox);have GW129:=aM ((szX (below_size (bX HB.out)) hg:w.heap.size≤gb129));have GE129:=GW129;replace HB:=aM (below_step (bX HB.out) hb);clear hb hbox hg)|((with_reducible refine gate_dst (N:=3) rfl ?_);refine bEv (cs:=#[.slice A1_0 l1_0.length c1_0,.slice A1_1 l1_1.length c1_1]) (t:=27) ?_;intro gb130 hg w12 hbox hb;have BK130:=aM (hbox);have GW130:=aM ((szX (below_size (bX1 HB.out GE129.out)) hg:w.heap.size≤gb130));have GE130:=GW130;replace HB:=aM (below_step (bX1 HB.out GE129.out) hb);have NB129_130:=aM (neX BK129.out hg);have NB130_129:=aM (nfX BK129.out hg);replace BK129:=aM (bbX BK129.out hb);clear hb hbox hg;have hnb13:=NB129_130.out;have hnc13:=NB130_129.out;obtain ⟨hcz14_0,hcz14_1,hfz14_0,hfz14_1⟩:=f2Z BK129.out;have hcz15_0:w12.cell? ⟨gb130,0,none⟩=some (.slice A1_0 l1_0.length c1_0):=(blk_cell BK130.out 0).trans rfl;have hcz15_1:w12.cell? ⟨gb130,1,none⟩=some (.slice A1_1 l1_1.length c1_1):=(blk_cell BK130.out 1).trans rfl;have hfz15_0:=blk_frozen BK130.out 0;have hfz15_1:=blk_frozen BK130.out 1)|((with_reducible refine gate_callee (f:=82) rfl ?_);refine goesL_ (some 9) rfl rfl Tryz.func82 (by kernel_rfl) rfl #[.slice A0_0 l0_0.length c0_0,.slice A1_0 l1_0.length c1_0] rfl aX ?_;(with_reducible refine(spec_SameList.calls k _ _ l0_0 _ _ l1_0 false _ ?side1 ?side2 ?side3 ?side4 A3.out).mono ?_);(case side1=>exact cX (Kd.C_below HR0_0.out HB.out));(case side2=>exact HC0_0.out);(case side3=>exact cX (Kd.C_below HR1_0.out HB.out));(case side4=>exact HC1_0.out);rintro e w' ⟨rfl,⟨nd,rfl⟩⟩;refine ⟨_,rfl,?_⟩))
 go_ret
 exact ⟨eX,bX2 HB.out GE129.out GE130.out⟩
 }

/-! ### spec_l06Find: function 36 -/
def spec_l06Find.l0 : Nat→List (S27)→Int→Int→List Int→List Int→Option (Int)
 | 0,_,_,_,_,_=>none
 | k+1,x7,x8,x9,x134000,x134001=>if x9<x8 then (if 0≤x9 then (if x9<(x7.length:Int) then ((spec_SameSurface.f k ((rd_T27 x7 x9).f0) ((rd_T27 x7 x9).f1) x134000 x134001).bind fun t136=>(if t136=true then (some x9) else (spec_l06Find.l0 k x7 x8 (wrap64 (x9+1)) x134000 x134001))) else (none)) else (none)) else (some (-1))
def spec_l06Find.f (k:Nat) (l0:List (S27)) (l1_0:List Int) (l1_1:List Int):Option (Int):=spec_l06Find.l0 k l0 (l0.length:Int) 0 l1_0 l1_1
theorem spec_l06Find.calls (k:Nat) (A0:Option Addr) (c0:Nat) (l0:List (S27)) (A1_0:Option Addr) (c1_0:Nat) (l1_0:List Int) (A1_1:Option Addr) (c1_1:Nat) (l1_1:List Int) (r:Int) (w:World) (hr0:Kd.C k27 w A0 l0.length l0) (hc0:l0.length≤c0) (hr1_0:Kd.C (Kd.int .i64) w A1_0 l1_0.length l1_0) (hc1_0:l1_0.length≤c1_0) (hr1_1:Kd.C (Kd.int .i64) w A1_1 l1_1.length l1_1) (hc1_1:l1_1.length≤c1_1) (h:spec_l06Find.f k l0 l1_0 l1_1=some r) :
  Calls Tryz.prog 36 #[.slice A0 l0.length c0,.agg #[.slice A1_0 l1_0.length c1_0,.slice A1_1 l1_1.length c1_1]] w fun e w'=>e = .returned (.int .i64 r)∧Below w.heap.size w w':=by
 have hu27:=Tryz.underlying27
 have HR0:=aM hr0
 have HC0:=aM hc0
 clear hr0 hc0
 have HR1_0:=aM hr1_0
 have HC1_0:=aM hc1_0
 clear hr1_0 hc1_0
 have HR1_1:=aM hr1_1
 have HC1_1:=aM hc1_1
 clear hr1_1 hc1_1
 have HB:=aM (Below.refl w.heap.size w)
 have H:(spec_l06Find.l0 k l0 (l0.length:Int) 0 l1_0 l1_1)=some r:=h
 clear h
 have H':=aM H
 clear H
 go_enter Tryz.func36,Tryz.ntmps36
 go_wp2_with (first|((with_reducible refine gate_dst (N:=3) rfl ?_);refine bEv (cs:=#[.slice A1_0 l1_0.length c1_0,.slice A1_1 l1_1.length c1_1]) (t:=27) ?_;intro gb133 hg w3 hbox hb;have BK133:=aM (hbox);have GW133:=aM ((szX (below_size (bX HB.out)) hg:w.heap.size≤gb133));have GE133:=GW133;replace HB:=aM (below_step (bX HB.out) hb);clear hb hbox hg))
 go_loopg [9] k (fun kq v9 w'=>∃ (x9_1:Int),v9 = .int .i64 x9_1∧Aside0 (spec_l06Find.l0 kq l0 (l0.length:Int) x9_1 l1_0 l1_1=some r)∧Aside0 (kq≤k)∧Aside0 (w'.heap[gb133]? = some (.cells #[(.slice A1_0 l1_0.length c1_0),(.slice A1_1 l1_1.length c1_1)] 27 (0,0)))∧Aside0 (Below w.heap.size w w'))
 case atStart=>exact ⟨(0),vX,H',⟨Nat.le_refl _⟩,⟨kX BK133.out⟩,⟨bX1 HB.out GE133.out⟩⟩
 case round =>
 clear H'
 obtain ⟨x9_1,rfl,HA,HK1,BK133,HB⟩:=hrel
 cases gk with
 | zero=>exact absurd HA.out (by simp [spec_l06Find.l0])
 | succ k1 =>
 have H:=HA.out
 clear HA
 simp only [spec_l06Find.l0] at H
 by_cases c4:x9_1<(l0.length:Int)
 {
 rw [if_pos c4] at H
 have c4b0:=decide_eq_true c4
 clear c4
 by_cases c5:0≤x9_1
 {
 rw [if_pos c5] at H
 have c5b0:=decide_eq_true c5
 clear c5
 by_cases c6:x9_1<(l0.length:Int)
 {
 rw [if_pos c6] at H
 have c6b0:=decide_eq_true c6
 clear c6
 replace H:=oB H
 obtain ⟨t136,A70,H⟩:=H
 have A7:=aM A70
 clear A70
 by_cases c8:t136=true
 {
 subst c8
 have H1:(some x9_1)=some r:=by rw [if_pos rfl] at H;exact H
 clear H
 have H:=H1
 clear H1
 obtain rfl:=Option.some.inj H
 have p134:0≤(x9_1:Int):=dX
 have q134:x9_1<(l0.length:Int):=dX
 obtain ⟨ad134,A134_0,c134_0,A134_1,c134_1,e134,hx134_0,hx134_1,hl134_0,hi134_0,hl134_1,hi134_1⟩:=at_T27 HR0.out x9_1 p134 q134
 cases e134
 replace hx134_0:=(HB.out.cell (World.block_lt_of_cell? w _ hx134_0)).trans hx134_0
 replace hx134_1:=(HB.out.cell (World.block_lt_of_cell? w _ hx134_1)).trans hx134_1
 have HR134_0:=aM hi134_0
 have HC134_0:=aM hl134_0
 clear hi134_0 hl134_0
 have HR134_1:=aM hi134_1
 have HC134_1:=aM hl134_1
 clear hi134_1 hl134_1
 replace p134:=eq_true p134
 replace q134:=eq_true q134
 go_wp2_with (first|((with_reducible refine gate_dst (N:=6) rfl ?_);refine bEv (cs:=#[.slice none 0 0,.slice none 0 0]) (t:=27) ?_;intro gb135 hg w9 hbox hb;have BK135:=aM (hbox);have GW135:=aM ((szX (below_size (bX1 HB.out GE133.out)) hg:w.heap.size≤gb135));have GE135:=GW135;replace HB:=aM (below_step (bX1 HB.out GE133.out) hb);have NB133_135:=aM (neX BK133.out hg);have NB135_133:=aM (nfX BK133.out hg);replace BK133:=aM (bbX BK133.out hb);clear hb hbox hg;have hnb10:=NB135_133.out;have hnc10:=NB133_135.out;obtain ⟨hcz11_0,hcz11_1,hfz11_0,hfz11_1⟩:=f2Z BK135.out;obtain ⟨hcz12_0,hcz12_1,hfz12_0,hfz12_1⟩:=f2Z BK133.out)|((with_reducible refine gate_callee (f:=51) rfl ?_);refine goesL_ (some 16) rfl rfl Tryz.func51 (by kernel_rfl) rfl #[.agg #[.slice A134_0 ((rd_T27 l0 x9_1).f0).length c134_0,.slice A134_1 ((rd_T27 l0 x9_1).f1).length c134_1],.agg #[.slice A1_0 l1_0.length c1_0,.slice A1_1 l1_1.length c1_1]] rfl aX ?_;(with_reducible refine(spec_SameSurface.calls k1 _ _ ((rd_T27 l0 x9_1).f0) _ _ ((rd_T27 l0 x9_1).f1) _ _ l1_0 _ _ l1_1 true _ ?side1 ?side2 ?side3 ?side4 ?side5 ?side6 ?side7 ?side8 A7.out).mono ?_);(case side1=>exact Kd.C_below HR134_0.out (bX2 HB.out GE133.out GE135.out));(case side2=>exact HC134_0.out);(case side3=>exact Kd.C_below HR134_1.out (bX2 HB.out GE133.out GE135.out));(case side4=>exact HC134_1.out);(case side5=>exact Kd.C_below HR1_0.out (bX2 HB.out GE133.out GE135.out));(case side6=>exact HC1_0.out);(case side7=>exact Kd.C_below HR1_1.out (bX2 HB.out GE133.out GE135.out));(case side8=>exact HC1_1.out);rintro e w13 ⟨rfl,hb⟩;refine ⟨_,rfl,?_⟩;replace BK133:=aM (blk_below (g:=gb133) (o:=.cells #[.slice A1_0 l1_0.length c1_0,.slice A1_1 l1_1.length c1_1] 27 (0,0)) (by(with_reducible repeat(first|refine kN ?_ _|refine kD ?_|refine kA ?_ _));refine blk_far ?_ NB133_135.out _;(with_reducible repeat(first|refine kN ?_ _|refine kD ?_|refine kA ?_ _));refine blk_far ?_ NB133_135.out _;(with_reducible repeat(first|refine kN ?_ _|refine kD ?_|refine kA ?_ _));exact BK133.out) hb);replace BK135:=aM (blk_below (g:=gb135) (o:=.cells #[.slice A134_0 ((rd_T27 l0 x9_1).f0).length c134_0,.slice A134_1 ((rd_T27 l0 x9_1).f1).length c134_1] 27 (0,0)) (by(with_reducible repeat(first|refine kN ?_ _|refine kD ?_|refine kA ?_ _));refine blk_put (cs:=#[.slice A134_0 ((rd_T27 l0 x9_1).f0).length c134_0,.slice none 0 0]) ?_ 1 _ rfl;(with_reducible repeat(first|refine kN ?_ _|refine kD ?_|refine kA ?_ _));refine blk_put (cs:=#[.slice none 0 0,.slice none 0 0]) ?_ 0 _ rfl;(with_reducible repeat(first|refine kN ?_ _|refine kD ?_|refine kA ?_ _));exact BK135.out) hb);replace HB:=aM (below_step (bX2 HB.out GE133.out GE135.out) hb);(try clear hb)))
 go_ret
 exact ⟨eX,bX2 HB.out GE133.out GE135.out⟩
 }
 {
 replace c8:=Bool.eq_false_iff.mpr c8
 subst c8
 have H1:(spec_l06Find.l0 k1 l0 (l0.length:Int) (wrap64 (x9_1+1)) l1_0 l1_1)=some r:=by rw [if_neg (show ¬ (false=true) by decide)] at H;exact H
 clear H
 have H:=H1
 clear H1
 have H':=aM H
 clear H
 have p134:0≤(x9_1:Int):=dX
 have q134:x9_1<(l0.length:Int):=dX
 obtain ⟨ad134,A134_0,c134_0,A134_1,c134_1,e134,hx134_0,hx134_1,hl134_0,hi134_0,hl134_1,hi134_1⟩:=at_T27 HR0.out x9_1 p134 q134
 cases e134
 replace hx134_0:=(HB.out.cell (World.block_lt_of_cell? w _ hx134_0)).trans hx134_0
 replace hx134_1:=(HB.out.cell (World.block_lt_of_cell? w _ hx134_1)).trans hx134_1
 have HR134_0:=aM hi134_0
 have HC134_0:=aM hl134_0
 clear hi134_0 hl134_0
 have HR134_1:=aM hi134_1
 have HC134_1:=aM hl134_1
 clear hi134_1 hl134_1
 replace p134:=eq_true p134
 replace q134:=eq_true q134
 go_wp2_with (first|((with_reducible refine gate_dst (N:=6) rfl ?_);refine bEv (cs:=#[.slice none 0 0,.slice none 0 0]) (t:=27) ?_;intro gb135 hg w14 hbox hb;have BK135:=aM (hbox);have GW135:=aM ((szX (below_size (bX1 HB.out GE133.out)) hg:w.heap.size≤gb135));have GE135:=GW135;replace HB:=aM (below_step (bX1 HB.out GE133.out) hb);have NB133_135:=aM (neX BK133.out hg);have NB135_133:=aM (nfX BK133.out hg);replace BK133:=aM (bbX BK133.out hb);clear hb hbox hg;have hnb15:=NB135_133.out;have hnc15:=NB133_135.out;obtain ⟨hcz16_0,hcz16_1,hfz16_0,hfz16_1⟩:=f2Z BK135.out;obtain ⟨hcz17_0,hcz17_1,hfz17_0,hfz17_1⟩:=f2Z BK133.out)|((with_reducible refine gate_callee (f:=51) rfl ?_);refine goesL_ (some 16) rfl rfl Tryz.func51 (by kernel_rfl) rfl #[.agg #[.slice A134_0 ((rd_T27 l0 x9_1).f0).length c134_0,.slice A134_1 ((rd_T27 l0 x9_1).f1).length c134_1],.agg #[.slice A1_0 l1_0.length c1_0,.slice A1_1 l1_1.length c1_1]] rfl aX ?_;(with_reducible refine(spec_SameSurface.calls k1 _ _ ((rd_T27 l0 x9_1).f0) _ _ ((rd_T27 l0 x9_1).f1) _ _ l1_0 _ _ l1_1 false _ ?side1 ?side2 ?side3 ?side4 ?side5 ?side6 ?side7 ?side8 A7.out).mono ?_);(case side1=>exact Kd.C_below HR134_0.out (bX2 HB.out GE133.out GE135.out));(case side2=>exact HC134_0.out);(case side3=>exact Kd.C_below HR134_1.out (bX2 HB.out GE133.out GE135.out));(case side4=>exact HC134_1.out);(case side5=>exact Kd.C_below HR1_0.out (bX2 HB.out GE133.out GE135.out));(case side6=>exact HC1_0.out);(case side7=>exact Kd.C_below HR1_1.out (bX2 HB.out GE133.out GE135.out));(case side8=>exact HC1_1.out);rintro e w18 ⟨rfl,hb⟩;refine ⟨_,rfl,?_⟩;replace BK133:=aM (blk_below (g:=gb133) (o:=.cells #[.slice A1_0 l1_0.length c1_0,.slice A1_1 l1_1.length c1_1] 27 (0,0)) (by(with_reducible repeat(first|refine kN ?_ _|refine kD ?_|refine kA ?_ _));refine blk_far ?_ NB133_135.out _;(with_reducible repeat(first|refine kN ?_ _|refine kD ?_|refine kA ?_ _));refine blk_far ?_ NB133_135.out _;(with_reducible repeat(first|refine kN ?_ _|refine kD ?_|refine kA ?_ _));exact BK133.out) hb);replace BK135:=aM (blk_below (g:=gb135) (o:=.cells #[.slice A134_0 ((rd_T27 l0 x9_1).f0).length c134_0,.slice A134_1 ((rd_T27 l0 x9_1).f1).length c134_1] 27 (0,0)) (by(with_reducible repeat(first|refine kN ?_ _|refine kD ?_|refine kA ?_ _));refine blk_put (cs:=#[.slice A134_0 ((rd_T27 l0 x9_1).f0).length c134_0,.slice none 0 0]) ?_ 1 _ rfl;(with_reducible repeat(first|refine kN ?_ _|refine kD ?_|refine kA ?_ _));refine blk_put (cs:=#[.slice none 0 0,.slice none 0 0]) ?_ 0 _ rfl;(with_reducible repeat(first|refine kN ?_ _|refine kD ?_|refine kA ?_ _));exact BK135.out) hb);replace HB:=aM (below_step (bX2 HB.out GE133.out GE135.out) hb);(try clear hb)))
 go_roundg k1
 case measure=>have:=HK1.out;omega
 case rel=>exact ⟨(wrap64 (x9_1+1)),vX,H',⟨by have:=HK1.out;omega⟩,⟨kX BK133.out⟩,⟨bX2 HB.out GE133.out GE135.out⟩⟩
 }
 }
 {
 rw [if_neg c6] at H
 exact absurd H (by simp)
 }
 }
 {
 rw [if_neg c5] at H
 exact absurd H (by simp)
 }
 }
 {
 rw [if_neg c4] at H
 have c4b0:=decide_eq_false c4
 clear c4
 obtain rfl:=Option.some.inj H
 go_wp2
 go_ret
 exact ⟨eX,bX1 HB.out GE133.out⟩
 }

/-! ### spec_l02Rename: function 83 -/
def spec_l02Rename.l0 : Nat→List Int→List Int→List Int→Int→Int→Option (List Int)
 | 0,_,_,_,_,_=>none
 | k+1,x1,x5,x11,x12,x13=>if x13<x12 then (if 0≤x13 then (if x13<(x11.length:Int) then (if x13<(x1.length:Int) then (if 0≤(rd x11 x13) then (if (rd x11 x13)<(x1.length:Int) then (if 0≤(rd x1 x13) then (if (rd x1 x13)<(x5.length:Int) then (spec_l02Rename.l0 k x1 (x5.set ((rd x1 x13):Int).toNat (rd x1 (rd x11 x13))) x11 x12 (wrap64 (x13+1))) else (none)) else (none)) else (none)) else (none)) else (none)) else (none)) else (none)) else (some x5)
def spec_l02Rename.f (k:Nat) (l0:List Int) (l1:List Int):Option (List Int):=if 0≤(l0.length:Int) then (if ((l0.length:Int):Int).toNat≤35184372088832 then (spec_l02Rename.l0 k l1 (List.replicate ((l0.length:Int):Int).toNat 0) l0 (l0.length:Int) 0) else (none)) else (none)
def spec_l02Rename.T5 : Bool × List (List Nat × List Nat):=(true,[([],[]),([],[]),([],[]),([1,2],[1,2]),([3],[3]),([],[]),([],[]),([5,6],[5,6]),([7],[7]),([0,4,0,1,2,3,4,5,6,7,8],[0,4]),([9,8,0,1,2,3,4,5,6,7,8],[8,9])])
def spec_l02Rename.B5 : List Nat:=[0,0,0,6,14,0,0,96,224,511,1023]
theorem spec_l02Rename.tab5 : rtab .any (opsOf Tryz.f83 5)=spec_l02Rename.T5:=by kernel_rfl
theorem spec_l02Rename.bits5 : waitsOk spec_l02Rename.T5.2 spec_l02Rename.B5=true:=by kernel_rfl
theorem spec_l02Rename.calls (k:Nat) (A0:Option Addr) (c0:Nat) (l0:List Int) (A1:Option Addr) (c1:Nat) (l1:List Int) (r:List Int) (w:World) (hr0:Kd.C (Kd.int .i64) w A0 l0.length l0) (hc0:l0.length≤c0) (hr1:Kd.C (Kd.int .i64) w A1 l1.length l1) (hc1:l1.length≤c1) (h:spec_l02Rename.f k l0 l1=some r) :
  Calls Tryz.prog 83 #[.slice A0 l0.length c0,.slice A1 l1.length c1] w fun e w'=>∃ v0_:Value,e = .returned (v0_)∧Kd.R (Kd.int .i64) 3 w' w.heap.size (fun _=>True) v0_ r∧Below w.heap.size w w':=by
 have HR0:=aM hr0
 have HC0:=aM hc0
 clear hr0 hc0
 have HR1:=aM hr1
 have HC1:=aM hc1
 clear hr1 hc1
 have HB:=aM (Below.refl w.heap.size w)
 have H:(if 0≤(l0.length:Int) then (if ((l0.length:Int):Int).toNat≤35184372088832 then (spec_l02Rename.l0 k l1 (List.replicate ((l0.length:Int):Int).toNat 0) l0 (l0.length:Int) 0) else (none)) else (none))=some r:=h
 clear h
 by_cases c3:0≤(l0.length:Int)
 {
 rw [if_pos c3] at H
 have c3b0:=eq_true c3
 have c3b1:=decide_eq_true c3
 clear c3
 by_cases c4:((l0.length:Int):Int).toNat≤35184372088832
 {
 rw [if_pos c4] at H
 have c4b0:=eq_true c4
 have c4b1:=decide_eq_true c4
 clear c4
 obtain ⟨y137,hy137⟩:∃ y_:List Int,y_=(List.replicate ((l0.length:Int):Int).toNat 0):=⟨_,rfl⟩
 replace H:(spec_l02Rename.l0 k l1 y137 l0 (l0.length:Int) 0)=some r:=by first|(rw [hy137];with_reducible exact H)|(have H2_:=(Option.bind_some _ _).symm.trans H;rw [hy137];with_reducible exact H2_)|(have H2_:=(Option.bind_some _ _).symm.trans H;with_reducible exact H2_)|with_reducible exact H|(rw [hy137];exact H)|exact H
 have Ny137:=aM hy137
 clear hy137
 have H':=aM H
 clear H
 go_enter Tryz.func83,Tryz.ntmps83
 go_wp2_with (first|((with_reducible refine gate_dst (N:=10) rfl ?_);refine Kd.R_make (Kd.int .i64) _ 3 rfl (N:=10) rfl 22 _ _ rfl (l0.length:Int) rfl rfl Tryz.underlying22 (.int .i64 0) 8 info3 rfl (by decide) (by omega) 0 (ok:=fun _=>True) (okp:=fun _=>True) rfl (fun _ hk=>hk) trivial (dX) (Nat.le_trans (Nat.mul_le_mul_right _ (dX:(l0.length:Int).toNat≤35184372088832)) (by omega)) (Below.refl _ _) (Nat.le_refl _) ?_;intro v138 w5 ho6 hb hg_ hnew_;clear hg_ hnew_;(first|rw [← Ny137.out] at ho6|(simp only [Int.reduceToNat] at ho6;rw [← Ny137.out] at ho6));have HO139:=aM (Kd.R_lower ho6 (below_size (bX HB.out)));replace HB:=aM (below_step (bX HB.out) hb);clear hb ho6))
 go_loopg [13] k (fun kq v13 w'=>∃ (x5_1:List Int) (x13_1:Int),v13 = .int .i64 x13_1∧Aside0 (spec_l02Rename.l0 kq l1 x5_1 l0 (l0.length:Int) x13_1=some r)∧Aside0 (kq≤k)∧Aside0 (Kd.R (Kd.int .i64) 3 w' w.heap.size (fun _=>True) v138 x5_1)∧Aside0 (Below w.heap.size w w'))
 case atStart=>exact ⟨(y137),(0),vX,H',⟨Nat.le_refl _⟩,⟨rX HO139.out⟩,⟨bX HB.out⟩⟩
 case round =>
 clear H'
 try clear c1
 try clear c3
 try clear c3b0
 try clear c3b1
 try clear c4
 try clear c4b0
 try clear c4b1
 obtain ⟨x5_1,x13_1,rfl,HA,HK1,HO_5,HB⟩:=hrel
 cases gk with
 | zero=>exact absurd HA.out (by simp [spec_l02Rename.l0])
 | succ k1 =>
 have H:=HA.out
 clear HA
 simp only [spec_l02Rename.l0] at H
 by_cases c7:x13_1<(l0.length:Int)
 {
 rw [if_pos c7] at H
 have c7b0:=decide_eq_true c7
 clear c7
 by_cases c8:0≤x13_1
 {
 rw [if_pos c8] at H
 have c8b0:=decide_eq_true c8
 clear c8
 by_cases c9:x13_1<(l0.length:Int)
 {
 rw [if_pos c9] at H
 have c9b0:=decide_eq_true c9
 clear c9
 by_cases c10:x13_1<(l1.length:Int)
 {
 rw [if_pos c10] at H
 have c10b0:=decide_eq_true c10
 clear c10
 by_cases c11:0≤(rd l0 x13_1)
 {
 rw [if_pos c11] at H
 have c11b0:=decide_eq_true c11
 clear c11
 by_cases c12:(rd l0 x13_1)<(l1.length:Int)
 {
 rw [if_pos c12] at H
 have c12b0:=decide_eq_true c12
 clear c12
 by_cases c13:0≤(rd l1 x13_1)
 {
 rw [if_pos c13] at H
 have c13b0:=decide_eq_true c13
 clear c13
 by_cases c14:(rd l1 x13_1)<(x5_1.length:Int)
 {
 rw [if_pos c14] at H
 have c14b0:=decide_eq_true c14
 clear c14
 obtain ⟨y143,hy143⟩:∃ y_:List Int,y_=(x5_1.set ((rd l1 x13_1):Int).toNat (rd l1 (rd l0 x13_1))):=⟨_,rfl⟩
 replace H:(spec_l02Rename.l0 k1 l1 y143 l0 (l0.length:Int) (wrap64 (x13_1+1)))=some r:=by first|(rw [hy143];with_reducible exact H)|(have H2_:=(Option.bind_some _ _).symm.trans H;rw [hy143];with_reducible exact H2_)|(have H2_:=(Option.bind_some _ _).symm.trans H;with_reducible exact H2_)|with_reducible exact H|(rw [hy143];exact H)|exact H
 have Ny143:=aM hy143
 clear hy143
 have H':=aM H
 clear H
 have p140:0≤(x13_1:Int):=dX
 have q140:x13_1<(l0.length:Int):=dX
 obtain ⟨ad140,e140,hx140_0⟩:=Kd.at_int HR0.out x13_1 p140 q140
 cases e140
 replace hx140_0:=(HB.out.cell (World.block_lt_of_cell? w _ hx140_0)).trans hx140_0
 replace p140:=eq_true p140
 replace q140:=eq_true q140
 try go_wp2
 replace HO_5:=aM (Kd.R_drew HO_5.out)
 replace HB:=aM (below_drew1 HB.out)
 have p141:0≤(x13_1:Int):=dX
 have q141:x13_1<(l1.length:Int):=dX
 obtain ⟨ad141,e141,hx141_0⟩:=Kd.at_int HR1.out x13_1 p141 q141
 have hw141_0:=hx141_0
 cases e141
 replace hx141_0:=(HB.out.cell (World.block_lt_of_cell? w _ hx141_0)).trans hx141_0
 replace p141:=eq_true p141
 replace q141:=eq_true q141
 have p142:0≤((rd l0 x13_1):Int):=dX
 have q142:(rd l0 x13_1)<(l1.length:Int):=dX
 obtain ⟨ad142,e142,hx142_0⟩:=Kd.at_int HR1.out (rd l0 x13_1) p142 q142
 have hw142_0:=hx142_0
 obtain rfl:ad141=ad142:=(by injection e142)
 replace hx142_0:=(HB.out.cell (World.block_lt_of_cell? w _ hx142_0)).trans hx142_0
 replace p142:=eq_true p142
 replace q142:=eq_true q142
 have p15:0≤((rd l1 x13_1):Int):=dX
 have q15:((rd l1 x13_1):Int)<((x5_1.length:Int):Int):=dX
 obtain ⟨go15,co15,eo15,gb15,gl15,cl15,HG15⟩:=Kd.R_form HO_5.out (by omega)
 (first|cases eo15|(injection eo15 with ea_ en_ ec_;(first|subst ea_|(injection ea_ with ea_;subst ea_));subst ec_;clear en_))
 have GB15:=aM gb15
 have GG15:=aM HG15
 clear gb15 gl15 HG15
 obtain ⟨hx15_0,hf15_0⟩:=Kd.R_celln 0 HO_5.out ((rd l1 x13_1):Int) p15 q15
 replace p15:=eq_true p15
 replace q15:=eq_true q15
 have HP17:=Kd.R_putn HO_5.out ((rd l1 x13_1):Int) (rd l1 (rd l0 x13_1))
 rw [← Ny143.out] at HP17
 have HQ17:=aM HP17
 clear HP17
 refine start_ (n:=11) (S:=fun w'=>w'.cell? (ad141.add (x13_1).toNat)=some (.int .i64 (rd l1 x13_1))∧w'.cell? (ad141.add ((rd l0 x13_1)).toNat)=some (.int .i64 (rd l1 (rd l0 x13_1)))) (ds:=[10]) #[ff,ff,ff,ff,ff,ff,ff,ff,ff,ff,ff] (by kernel_rfl) rfl rfl ⟨((HB.out.cell (World.block_lt_of_cell? w _ hw141_0)).trans hw141_0),((HB.out.cell (World.block_lt_of_cell? w _ hw142_0)).trans hw142_0)⟩ (fun hHeld => ?_);refine with_tabW spec_l02Rename.tab5 spec_l02Rename.bits5 (fun HT_ HW_ => ?_)
 generalize wr.drew=w16 at HO_5 HB GG15 HQ17 hf15_0 hx141_0 hx142_0 hx15_0 hHeld ⊢
 refine pX 0 18 (fl 11 1) rfl rfl HT_.out ?_
 refine pX 1 19 (fl 11 3) rfl rfl HT_.out ?_
 refine pX 2 20 (fl 11 7) rfl rfl HT_.out ?_
 refine pX 3 21 (fl 11 15) rfl rfl HT_.out ?_
 refine pX 5 23 (fl 11 47) rfl rfl HT_.out ?_
 refine pX 6 24 (fl 11 111) rfl rfl HT_.out ?_
 refine pX 7 25 (fl 11 239) rfl rfl HT_.out ?_
 refine tX2 4 22 (fl 11 255) rfl rfl HT_.out HW_.out hHeld ?_
 refine tX2 8 26 (fl 11 511) rfl rfl HT_.out HW_.out hHeld ?_
 refine pX 9 27 (fl 11 1023) rfl rfl HT_.out ?_
 refine last_ (i:=10) (N:=none) #[tt,tt,tt,tt,tt,tt,tt,tt,tt,tt,tt] rfl rfl (one_of HT_.out (by kernel_rfl)) (by decide) (fun K hK => ?_)
 refine skip_ (w1:=?_) (by rfl) rfl ?_ ?_
 rotate_left
 {
 go_simp
 rfl
 }
 refine hK.out _ _ ?_
 clear hK K
 refine done_ (done_of HT_.out (by kernel_rfl)) ?_
 try go_wp2
 go_roundg k1
 case measure=>have:=HK1.out;omega
 case rel=>exact ⟨(y143),(wrap64 (x13_1+1)),vX,H',⟨by have:=HK1.out;omega⟩,⟨rX HQ17.out⟩,⟨bX1 HB.out GB15.out⟩⟩
 }
 {
 rw [if_neg c14] at H
 exact absurd H (by simp)
 }
 }
 {
 rw [if_neg c13] at H
 exact absurd H (by simp)
 }
 }
 {
 rw [if_neg c12] at H
 exact absurd H (by simp)
 }
 }
 {
 rw [if_neg c11] at H
 exact absurd H (by simp)
 }
 }
 {
 rw [if_neg c10] at H
 exact absurd H (by simp)
 }
 }
 {
 rw [if_neg c9] at H
 exact absurd H (by simp)
 }
 }
 {
 rw [if_neg c8] at H
 exact absurd H (by simp)
 }
 }
 {
 rw [if_neg c7] at H
 have c7b0:=decide_eq_false c7
 clear c7
 obtain rfl:=Option.some.inj H
 go_wp2
 go_ret
 exact ⟨_,eX,by(with_reducible repeat(first|apply rA|apply rN|apply rD));exact HO_5.out,bX HB.out⟩
 }
 }
 {
 rw [if_neg c4] at H
 exact absurd H (by simp)
 }
 }
 {
 rw [if_neg c3] at H
 exact absurd H (by simp)
 }

/-! ### spec_l03Rename: function 52 -/
def spec_l03Rename.f (k:Nat) (l0_0:List Int) (l0_1:List Int) (l1:List Int):Option (List Int × List Int):=(spec_l02Rename.f k l0_0 l1).bind fun t146=>((spec_l02Rename.f k l0_1 l1).bind fun t149=>(some (t146,t149)))
def spec_l03Rename.T1 : Bool × List (List Nat × List Nat):=(true,[([],[]),([0],[0]),([],[]),([1,2],[1,2]),([],[]),([4],[4]),([],[]),([5,6,3],[5,6]),([3,7],[3,7]),([8,7,0,1,2,3,4,5,6,7,8],[8])])
def spec_l03Rename.B1 : List Nat:=[0,1,0,7,0,16,0,127,255,511]
theorem spec_l03Rename.tab1 : rtab .any (opsOf Tryz.f52 1)=spec_l03Rename.T1:=by kernel_rfl
theorem spec_l03Rename.bits1 : waitsOk spec_l03Rename.T1.2 spec_l03Rename.B1=true:=by kernel_rfl
theorem spec_l03Rename.calls (k:Nat) (A0_0:Option Addr) (c0_0:Nat) (l0_0:List Int) (A0_1:Option Addr) (c0_1:Nat) (l0_1:List Int) (A1:Option Addr) (c1:Nat) (l1:List Int) (r1:List Int) (r2:List Int) (w:World) (hr0_0:Kd.C (Kd.int .i64) w A0_0 l0_0.length l0_0) (hc0_0:l0_0.length≤c0_0) (hr0_1:Kd.C (Kd.int .i64) w A0_1 l0_1.length l0_1) (hc0_1:l0_1.length≤c0_1) (hr1:Kd.C (Kd.int .i64) w A1 l1.length l1) (hc1:l1.length≤c1) (h:spec_l03Rename.f k l0_0 l0_1 l1=some (r1,r2)) :
  Calls Tryz.prog 52 #[.agg #[.slice A0_0 l0_0.length c0_0,.slice A0_1 l0_1.length c0_1],.slice A1 l1.length c1] w fun e w'=>∃ v0_ v1_:Value,e = .returned (.agg #[v0_,v1_])∧Kd.R (Kd.int .i64) 3 w' w.heap.size (fun k_=>some k_≠(v1_:Value).ownBlock) v0_ r1∧Kd.R (Kd.int .i64) 3 w' w.heap.size (fun k_=>some k_≠(v0_:Value).ownBlock) v1_ r2∧Below w.heap.size w w':=by
 have hu27:=Tryz.underlying27
 have HR0_0:=aM hr0_0
 have HC0_0:=aM hc0_0
 clear hr0_0 hc0_0
 have HR0_1:=aM hr0_1
 have HC0_1:=aM hc0_1
 clear hr0_1 hc0_1
 have HR1:=aM hr1
 have HC1:=aM hc1
 clear hr1 hc1
 have HB:=aM (Below.refl w.heap.size w)
 have H:((spec_l02Rename.f k l0_0 l1).bind fun t146=>((spec_l02Rename.f k l0_1 l1).bind fun t149=>(some (t146,t149))))=some (r1,r2):=h
 clear h
 replace H:=oB H
 obtain ⟨t146,A30,H⟩:=H
 have A3:=aM A30
 clear A30
 replace H:=oB H
 obtain ⟨t149,A40,H⟩:=H
 have A4:=aM A40
 clear A40
 simp only [Option.some.injEq,Prod.mk.injEq] at H
 obtain ⟨rfl,rfl⟩:=H
 go_enter Tryz.func52,Tryz.ntmps52
 try go_wp2_with (first|((with_reducible refine gate_dst (N:=2) rfl ?_);refine bEv (cs:=#[.slice A0_0 l0_0.length c0_0,.slice A0_1 l0_1.length c0_1]) (t:=27) ?_;intro gb144 hg w5 hbox hb;have BK144:=aM (hbox);have GW144:=aM ((szX (below_size (bX HB.out)) hg:w.heap.size≤gb144));have GE144:=GW144;replace HB:=aM (below_step (bX HB.out) hb);clear hb hbox hg)|((with_reducible refine gate_dst (N:=4) rfl ?_);refine bEv (cs:=#[.slice none 0 0,.slice none 0 0]) (t:=27) ?_;intro gb145 hg w6 hbox hb;have BK145:=aM (hbox);have GW145:=aM ((szX (below_size (bX1 HB.out GE144.out)) hg:w.heap.size≤gb145));have GE145:=GW145;replace HB:=aM (below_step (bX1 HB.out GE144.out) hb);have NB144_145:=aM (neX BK144.out hg);have NB145_144:=aM (nfX BK144.out hg);replace BK144:=aM (bbX BK144.out hb);clear hb hbox hg))
 replace BK144:=aM (blk_drew BK144.out)
 replace BK145:=aM (blk_drew BK145.out)
 replace HB:=aM (below_drew1 HB.out)
 refine start_ (n:=10) (S:=fun w'=>w'.cell? ⟨gb144,0,none⟩=some (.slice A0_0 l0_0.length c0_0)∧w'.cell? ⟨gb144,1,none⟩=some (.slice A0_1 l0_1.length c0_1)) (ds:=[]) #[ff,ff,ff,ff,ff,ff,ff,ff,ff,ff] (by kernel_rfl) rfl rfl ⟨cz20 BK144.out,cz21 BK144.out⟩ (fun hHeld => ?_);refine with_tabW spec_l03Rename.tab1 spec_l03Rename.bits1 (fun HT_ HW_ => ?_)
 generalize w6.drew=w7 at BK144 BK145 HB hHeld ⊢
 refine pX 0 5 (fl 10 1) rfl rfl HT_.out ?_
 refine pX 2 7 (fl 10 5) rfl rfl HT_.out ?_
 refine pX 4 9 (fl 10 21) rfl rfl HT_.out ?_
 refine pX 6 11 (fl 10 85) rfl rfl HT_.out ?_
 refine tX2 1 6 (fl 10 87) rfl rfl HT_.out HW_.out hHeld ?_
 refine tX2 5 10 (fl 10 119) rfl rfl HT_.out HW_.out hHeld ?_
 refine one_ (i:=3) (N:=some 8) #[tt,tt,tt,tt,tt,tt,tt,ff,ff,ff] rfl rfl (one_of HT_.out (by kernel_rfl)) (by decide) (fun K hK => ?_)
 refine goes_ Tryz.func83 (by kernel_rfl) rfl #[.slice A0_0 l0_0.length c0_0,.slice A1 l1.length c1] (by rfl) rfl rfl aX ?_
 with_reducible refine(spec_l02Rename.calls k _ _ l0_0 _ _ l1 t146 _ ?side1 ?side2 ?side3 ?side4 A3.out).mono ?_
 (case side1=>exact cX (Kd.C_below HR0_0.out HB.out))
 (case side2=>exact HC0_0.out)
 (case side3=>exact cX (Kd.C_below HR1.out HB.out))
 (case side4=>exact HC1.out)
 rintro e w8 ⟨v147,rfl,ho0,hb⟩
 refine ⟨_,rfl,?_⟩
 have HO148:=aM (Kd.R_lower ho0 (below_size (bX2 HB.out GE144.out GE145.out)))
 replace BK144:=aM (bbX BK144.out hb)
 replace BK145:=aM (bbX BK145.out hb)
 replace HB:=aM (below_step (bX2 HB.out GE144.out GE145.out) hb)
 (try clear hb)
 (try clear hk)
 (try clear ho0)
 refine hK.out _ _ ⟨cz20 BK144.out,cz21 BK144.out⟩ (fun hHeld => ?_)
 clear hK K
 refine norm_ (a':=?_) ?_ ?_
 rotate_left
 {
 show Act.put _ (some 8) _=_
 simp only [Act.put,zA,zB,zC,i64_w,i32_w]
 rfl
 }
 refine one_ (i:=7) (N:=some 12) #[tt,tt,tt,tt,tt,tt,tt,tt,ff,ff] rfl rfl (one_of HT_.out (by kernel_rfl)) (by decide) (fun K hK => ?_)
 refine goes_ Tryz.func83 (by kernel_rfl) rfl #[.slice A0_1 l0_1.length c0_1,.slice A1 l1.length c1] (by rfl) rfl rfl aX ?_
 with_reducible refine(spec_l02Rename.calls k _ _ l0_1 _ _ l1 t149 _ ?side1 ?side2 ?side3 ?side4 A4.out).mono ?_
 (case side1=>exact cX (Kd.C_below HR0_1.out HB.out))
 (case side2=>exact HC0_1.out)
 (case side3=>exact cX (Kd.C_below HR1.out HB.out))
 (case side4=>exact HC1.out)
 rintro e w9 ⟨v150,rfl,ho0,hb⟩
 refine ⟨_,rfl,?_⟩
 have HO151:=aM (Kd.R_lower (Kd.R_new' ho0 (Kd.R_lt (rX HO148.out))) (below_size (bX2 HB.out GE144.out GE145.out)))
 replace HO148:=aM (Kd.R_elder' (rX HO148.out) (Kd.R_base ho0) hb)
 replace BK144:=aM (bbX BK144.out hb)
 replace BK145:=aM (bbX BK145.out hb)
 replace HB:=aM (below_step (bX2 HB.out GE144.out GE145.out) hb)
 (try clear hb)
 (try clear hk)
 (try clear ho0)
 obtain ⟨Ao10,co10,eo10⟩:=Kd.R_slice HO151.out
 (first|subst eo10|(injection eo10 with f1_ f2_ f3_;have f4_:=f1_.symm;have f5_:=f3_.symm;clear f1_ f2_ f3_;subst f4_;subst f5_))
 obtain ⟨Ao11,co11,eo11⟩:=Kd.R_slice HO148.out
 (first|subst eo11|(injection eo11 with f1_ f2_ f3_;have f4_:=f1_.symm;have f5_:=f3_.symm;clear f1_ f2_ f3_;subst f4_;subst f5_))
 refine hK.out _ _ ⟨cz20 BK144.out,cz21 BK144.out⟩ (fun hHeld => ?_)
 clear hK K
 refine norm_ (a':=?_) ?_ ?_
 rotate_left
 {
 show Act.put _ (some 12) _=_
 simp only [Act.put,zA,zB,zC,i64_w,i32_w]
 rfl
 }
 refine pX 8 13 (fl 10 511) rfl rfl HT_.out ?_
 refine one_ (i:=9) (N:=none) #[tt,tt,tt,tt,tt,tt,tt,tt,tt,tt] rfl rfl (one_of HT_.out (by kernel_rfl)) (by decide) (fun K hK => ?_)
 have hs12:w9.cell? ⟨gb145,0,none⟩=some (.slice none 0 0):=cz20 BK145.out
 have hfs12:=blk_frozen BK145.out 0
 have hns12_0:=NB144_145.out
 have hms12_0:=NB145_144.out
 have hs13:w9.cell? ⟨gb145,1,none⟩=some (.slice none 0 0):=cz21 BK145.out
 have hfs13:=blk_frozen BK145.out 1
 have hns13_0:=NB144_145.out
 have hms13_0:=NB145_144.out
 refine skip_ (w1:=?_) (by rfl) rfl ?_ ?_
 rotate_left
 {
 go_simp
 rfl
 }
 refine hK.out _ _ ⟨((cell_far (p:=⟨gb145,_,none⟩) NB144_145.out _).trans (((cell_far (p:=⟨gb145,_,none⟩) NB144_145.out _).trans (hHeld.1)))),((cell_far (p:=⟨gb145,_,none⟩) NB144_145.out _).trans (((cell_far (p:=⟨gb145,_,none⟩) NB144_145.out _).trans (hHeld.2))))⟩ (fun hHeld => ?_)
 clear hK K
 refine done_ (done_of HT_.out (by kernel_rfl)) ?_
 try go_wp2
 refine bodyPost_ret (results_cell_row rfl _ _ gb145 27 #[.slice Ao11 t146.length co11,.slice Ao10 t149.length co10] (0,0) _ rfl (by(with_reducible repeat(first|refine kN ?_ _|refine kD ?_|refine kA ?_ _));refine blk_put (cs:=#[.slice Ao11 t146.length co11,.slice none 0 0]) ?_ 1 _ rfl;(with_reducible repeat(first|refine kN ?_ _|refine kD ?_|refine kA ?_ _));refine blk_put (cs:=#[.slice none 0 0,.slice none 0 0]) ?_ 0 _ rfl;(with_reducible repeat(first|refine kN ?_ _|refine kD ?_|refine kA ?_ _));exact BK145.out) Tryz.underlying27 rfl (by kernel_rfl)) rfl ?_
 exact ⟨_,_,eX,by(with_reducible repeat(first|apply rA|apply rN|apply rD));exact Kd.R_mono (Kd.R_far (p:=⟨gb145,1,none⟩) (Kd.R_far (p:=⟨gb145,0,none⟩) (Kd.R_types HO148.out BK145.out (by decide)) (fun _ hk=>hk.2) (.slice Ao11 t146.length co11)) (fun _ hk=>hk.2) (.slice Ao10 t149.length co10)) (fun _ hk=>hk.1.2),by(with_reducible repeat(first|apply rA|apply rN|apply rD));exact Kd.R_mono (Kd.R_far (p:=⟨gb145,1,none⟩) (Kd.R_far (p:=⟨gb145,0,none⟩) (Kd.R_types HO151.out BK145.out (by decide)) (fun _ hk=>hk.2) (.slice Ao11 t146.length co11)) (fun _ hk=>hk.2) (.slice Ao10 t149.length co10)) (fun _ hk=>hk.1.2),bX2 HB.out GE144.out GE145.out⟩

/-! ### spec_l02Inverse: function 56 -/
def spec_l02Inverse.l0 : Nat→List Int→List Int→Int→Int→Option (List Int)
 | 0,_,_,_,_=>none
 | k+1,x3,x9,x10,x11=>if x11<x10 then (if 0≤x11 then (if x11<(x9.length:Int) then (if 0≤(rd x9 x11) then (if (rd x9 x11)<(x3.length:Int) then (spec_l02Inverse.l0 k (x3.set ((rd x9 x11):Int).toNat x11) x9 x10 (wrap64 (x11+1))) else (none)) else (none)) else (none)) else (none)) else (some x3)
def spec_l02Inverse.f (k:Nat) (l0:List Int):Option (List Int):=if 0≤(l0.length:Int) then (if ((l0.length:Int):Int).toNat≤35184372088832 then (spec_l02Inverse.l0 k (List.replicate ((l0.length:Int):Int).toNat 0) l0 (l0.length:Int) 0) else (none)) else (none)
theorem spec_l02Inverse.calls (k:Nat) (A0:Option Addr) (c0:Nat) (l0:List Int) (r:List Int) (w:World) (hr0:Kd.C (Kd.int .i64) w A0 l0.length l0) (hc0:l0.length≤c0) (h:spec_l02Inverse.f k l0=some r) :
  Calls Tryz.prog 56 #[.slice A0 l0.length c0] w fun e w'=>∃ v0_:Value,e = .returned (v0_)∧Kd.R (Kd.int .i64) 3 w' w.heap.size (fun _=>True) v0_ r∧Below w.heap.size w w':=by
 have HR0:=aM hr0
 have HC0:=aM hc0
 clear hr0 hc0
 have HB:=aM (Below.refl w.heap.size w)
 have H:(if 0≤(l0.length:Int) then (if ((l0.length:Int):Int).toNat≤35184372088832 then (spec_l02Inverse.l0 k (List.replicate ((l0.length:Int):Int).toNat 0) l0 (l0.length:Int) 0) else (none)) else (none))=some r:=h
 clear h
 by_cases c2:0≤(l0.length:Int)
 {
 rw [if_pos c2] at H
 have c2b0:=eq_true c2
 have c2b1:=decide_eq_true c2
 clear c2
 by_cases c3:((l0.length:Int):Int).toNat≤35184372088832
 {
 rw [if_pos c3] at H
 have c3b0:=eq_true c3
 have c3b1:=decide_eq_true c3
 clear c3
 obtain ⟨y152,hy152⟩:∃ y_:List Int,y_=(List.replicate ((l0.length:Int):Int).toNat 0):=⟨_,rfl⟩
 replace H:(spec_l02Inverse.l0 k y152 l0 (l0.length:Int) 0)=some r:=by first|(rw [hy152];with_reducible exact H)|(have H2_:=(Option.bind_some _ _).symm.trans H;rw [hy152];with_reducible exact H2_)|(have H2_:=(Option.bind_some _ _).symm.trans H;with_reducible exact H2_)|with_reducible exact H|(rw [hy152];exact H)|exact H
 have Ny152:=aM hy152
 clear hy152
 have H':=aM H
 clear H
 go_enter Tryz.func56,Tryz.ntmps56
 go_wp2_with (first|((with_reducible refine gate_dst (N:=8) rfl ?_);refine Kd.R_make (Kd.int .i64) _ 3 rfl (N:=8) rfl 22 _ _ rfl (l0.length:Int) rfl rfl Tryz.underlying22 (.int .i64 0) 8 info3 rfl (by decide) (by omega) 0 (ok:=fun _=>True) (okp:=fun _=>True) rfl (fun _ hk=>hk) trivial (dX) (Nat.le_trans (Nat.mul_le_mul_right _ (dX:(l0.length:Int).toNat≤35184372088832)) (by omega)) (Below.refl _ _) (Nat.le_refl _) ?_;intro v153 w4 ho5 hb hg_ hnew_;clear hg_ hnew_;(first|rw [← Ny152.out] at ho5|(simp only [Int.reduceToNat] at ho5;rw [← Ny152.out] at ho5));have HO154:=aM (Kd.R_lower ho5 (below_size (bX HB.out)));replace HB:=aM (below_step (bX HB.out) hb);clear hb ho5))
 go_loopg [11] k (fun kq v11 w'=>∃ (x3_1:List Int) (x11_1:Int),v11 = .int .i64 x11_1∧Aside0 (spec_l02Inverse.l0 kq x3_1 l0 (l0.length:Int) x11_1=some r)∧Aside0 (kq≤k)∧Aside0 (Kd.R (Kd.int .i64) 3 w' w.heap.size (fun _=>True) v153 x3_1)∧Aside0 (Below w.heap.size w w'))
 case atStart=>exact ⟨(y152),(0),vX,H',⟨Nat.le_refl _⟩,⟨rX HO154.out⟩,⟨bX HB.out⟩⟩
 case round =>
 clear H'
 try clear c2
 try clear c2b0
 try clear c2b1
 try clear c3
 try clear c3b0
 try clear c3b1
 obtain ⟨x3_1,x11_1,rfl,HA,HK1,HO_3,HB⟩:=hrel
 cases gk with
 | zero=>exact absurd HA.out (by simp [spec_l02Inverse.l0])
 | succ k1 =>
 have H:=HA.out
 clear HA
 simp only [spec_l02Inverse.l0] at H
 by_cases c6:x11_1<(l0.length:Int)
 {
 rw [if_pos c6] at H
 have c6b0:=decide_eq_true c6
 clear c6
 by_cases c7:0≤x11_1
 {
 rw [if_pos c7] at H
 have c7b0:=decide_eq_true c7
 clear c7
 by_cases c8:x11_1<(l0.length:Int)
 {
 rw [if_pos c8] at H
 have c8b0:=decide_eq_true c8
 clear c8
 by_cases c9:0≤(rd l0 x11_1)
 {
 rw [if_pos c9] at H
 have c9b0:=decide_eq_true c9
 clear c9
 by_cases c10:(rd l0 x11_1)<(x3_1.length:Int)
 {
 rw [if_pos c10] at H
 have c10b0:=decide_eq_true c10
 clear c10
 obtain ⟨y156,hy156⟩:∃ y_:List Int,y_=(x3_1.set ((rd l0 x11_1):Int).toNat x11_1):=⟨_,rfl⟩
 replace H:(spec_l02Inverse.l0 k1 y156 l0 (l0.length:Int) (wrap64 (x11_1+1)))=some r:=by first|(rw [hy156];with_reducible exact H)|(have H2_:=(Option.bind_some _ _).symm.trans H;rw [hy156];with_reducible exact H2_)|(have H2_:=(Option.bind_some _ _).symm.trans H;with_reducible exact H2_)|with_reducible exact H|(rw [hy156];exact H)|exact H
 have Ny156:=aM hy156
 clear hy156
 have H':=aM H
 clear H
 have p155:0≤(x11_1:Int):=dX
 have q155:x11_1<(l0.length:Int):=dX
 obtain ⟨ad155,e155,hx155_0⟩:=Kd.at_int HR0.out x11_1 p155 q155
 cases e155
 replace hx155_0:=(HB.out.cell (World.block_lt_of_cell? w _ hx155_0)).trans hx155_0
 replace p155:=eq_true p155
 replace q155:=eq_true q155
 have p11:0≤((rd l0 x11_1):Int):=dX
 have q11:((rd l0 x11_1):Int)<((x3_1.length:Int):Int):=dX
 obtain ⟨go11,co11,eo11,gb11,gl11,cl11,HG11⟩:=Kd.R_form HO_3.out (by omega)
 (first|cases eo11|(injection eo11 with ea_ en_ ec_;(first|subst ea_|(injection ea_ with ea_;subst ea_));subst ec_;clear en_))
 have GB11:=aM gb11
 have GG11:=aM HG11
 clear gb11 gl11 HG11
 obtain ⟨hx11_0,hf11_0⟩:=Kd.R_celln 0 HO_3.out ((rd l0 x11_1):Int) p11 q11
 replace p11:=eq_true p11
 replace q11:=eq_true q11
 have HP12:=Kd.R_putg HO_3.out ((rd l0 x11_1):Int) x11_1
 go_wp2_with (first|((with_reducible refine gate_store (t:=3) (p:=19) rfl ?_);refine store_event (t:=3) (p:=19) (v:=?vo_w13) (w1:=(wr.setCell ⟨go11,((rd l0 x11_1):Int).toNat,none⟩ (.int .i64 x11_1))) ?hg ?ho ?hn ?hr ?_;(case ho=>rfl);(case hg=>rfl);(case hn=>rfl);(case hr=>first|(go_simp;done)|(go_simp;rfl));intro w13 hw;have hg:wr.grownBy w13 (some go11):=(by rw [hw];exact HP12.2);have hp_:Kd.R (Kd.int .i64) 3 w13 w.heap.size (fun _=>True) (.slice (some ⟨go11,0,none⟩) x3_1.length co11) y156:=(by rw [hw,Ny156.out];exact HP12.1);clear HP12;replace HO_3:=aM (hp_);replace HB:=aM ((by rw [hw];exact below_set (HB.out) GB11.out:Below w.heap.size w w13));clear hg hw hp_))
 go_roundg k1
 case measure=>have:=HK1.out;omega
 case rel=>exact ⟨(y156),(wrap64 (x11_1+1)),vX,H',⟨by have:=HK1.out;omega⟩,⟨rX HO_3.out⟩,⟨bX HB.out⟩⟩
 }
 {
 rw [if_neg c10] at H
 exact absurd H (by simp)
 }
 }
 {
 rw [if_neg c9] at H
 exact absurd H (by simp)
 }
 }
 {
 rw [if_neg c8] at H
 exact absurd H (by simp)
 }
 }
 {
 rw [if_neg c7] at H
 exact absurd H (by simp)
 }
 }
 {
 rw [if_neg c6] at H
 have c6b0:=decide_eq_false c6
 clear c6
 obtain rfl:=Option.some.inj H
 go_wp2
 go_ret
 exact ⟨_,eX,by(with_reducible repeat(first|apply rA|apply rN|apply rD));exact HO_3.out,bX HB.out⟩
 }
 }
 {
 rw [if_neg c3] at H
 exact absurd H (by simp)
 }
 }
 {
 rw [if_neg c2] at H
 exact absurd H (by simp)
 }

/-! ### spec_l03Names: function 53 -/
def spec_l03Names.f (k:Nat) (l0_0:List Int) (l0_1:List Int) (a1:Int):Option (List Int):=(spec_l02Reach.f k l0_0 l0_1 a1).bind fun t158=>((spec_l02Inverse.f k t158).bind fun t161=>(some t161))
theorem spec_l03Names.calls (k:Nat) (A0_0:Option Addr) (c0_0:Nat) (l0_0:List Int) (A0_1:Option Addr) (c0_1:Nat) (l0_1:List Int) (a1:Int) (r:List Int) (w:World) (hr0_0:Kd.C (Kd.int .i64) w A0_0 l0_0.length l0_0) (hc0_0:l0_0.length≤c0_0) (hr0_1:Kd.C (Kd.int .i64) w A0_1 l0_1.length l0_1) (hc0_1:l0_1.length≤c0_1) (h:spec_l03Names.f k l0_0 l0_1 a1=some r) :
  Calls Tryz.prog 53 #[.agg #[.slice A0_0 l0_0.length c0_0,.slice A0_1 l0_1.length c0_1],.int .i64 a1] w fun e w'=>∃ v0_:Value,e = .returned (v0_)∧Kd.R (Kd.int .i64) 3 w' w.heap.size (fun _=>True) v0_ r∧Below w.heap.size w w':=by
 have hu27:=Tryz.underlying27
 have HR0_0:=aM hr0_0
 have HC0_0:=aM hc0_0
 clear hr0_0 hc0_0
 have HR0_1:=aM hr0_1
 have HC0_1:=aM hc0_1
 clear hr0_1 hc0_1
 have HB:=aM (Below.refl w.heap.size w)
 have H:((spec_l02Reach.f k l0_0 l0_1 a1).bind fun t158=>((spec_l02Inverse.f k t158).bind fun t161=>(some t161)))=some r:=h
 clear h
 replace H:=oB H
 obtain ⟨t158,A30,H⟩:=H
 have A3:=aM A30
 clear A30
 replace H:=oB H
 obtain ⟨t161,A40,H⟩:=H
 have A4:=aM A40
 clear A40
 obtain rfl:=Option.some.inj H
 go_enter Tryz.func53,Tryz.ntmps53
 go_wp2_with (first|((with_reducible refine gate_dst (N:=2) rfl ?_);refine bEv (cs:=#[.slice A0_0 l0_0.length c0_0,.slice A0_1 l0_1.length c0_1]) (t:=27) ?_;intro gb157 hg w5 hbox hb;have BK157:=aM (hbox);have GW157:=aM ((szX (below_size (bX HB.out)) hg:w.heap.size≤gb157));have GE157:=GW157;replace HB:=aM (below_step (bX HB.out) hb);clear hb hbox hg;obtain ⟨hcz6_0,hcz6_1,hfz6_0,hfz6_1⟩:=f2Z BK157.out)|((with_reducible refine gate_callee (f:=34) rfl ?_);refine goesL_ (some 10) rfl rfl Tryz.func34 (by kernel_rfl) rfl #[.slice A0_0 l0_0.length c0_0,.slice A0_1 l0_1.length c0_1,.int .i64 a1] rfl aX ?_;(with_reducible refine(spec_l02Reach.calls k _ _ l0_0 _ _ l0_1 a1 t158 _ ?side1 ?side2 ?side3 ?side4 A3.out).mono ?_);(case side1=>exact cX (Kd.C_below HR0_0.out HB.out));(case side2=>exact HC0_0.out);(case side3=>exact cX (Kd.C_below HR0_1.out HB.out));(case side4=>exact HC0_1.out);rintro e w7 ⟨v159,rfl,ho0,hb⟩;refine ⟨_,rfl,?_⟩;have HO160:=aM (Kd.R_lower ho0 (below_size (bX1 HB.out GE157.out)));replace BK157:=aM (bbX BK157.out hb);replace HB:=aM (below_step (bX1 HB.out GE157.out) hb);(try clear hb);(try clear hk);(try clear ho0);obtain ⟨Ao8,co8,eo8⟩:=Kd.R_slice HO160.out;subst eo8)|((with_reducible refine gate_callee (f:=56) rfl ?_);refine goesL_ (some 11) rfl rfl Tryz.func56 (by kernel_rfl) rfl #[.slice Ao8 t158.length co8] rfl aX ?_;(with_reducible refine(spec_l02Inverse.calls k _ _ t158 t161 _ ?side1 ?side2 A4.out).mono ?_);(case side1=>exact cX (Kd.R_reads' HO160.out).2.2);(case side2=>exact(Kd.R_reads' HO160.out).2.1);rintro e w9 ⟨v162,rfl,ho0,hb⟩;refine ⟨_,rfl,?_⟩;have HO163:=aM (Kd.R_lower (Kd.R_new' ho0 (Kd.R_lt (rX HO160.out))) (below_size (bX1 HB.out GE157.out)));replace HO160:=aM (Kd.R_elder' (rX HO160.out) (Kd.R_base ho0) hb);replace BK157:=aM (bbX BK157.out hb);replace HB:=aM (below_step (bX1 HB.out GE157.out) hb);(try clear hb);(try clear hk);(try clear ho0)))
 go_ret
 exact ⟨_,eX,by(with_reducible repeat(first|apply rA|apply rN|apply rD));exact Kd.R_mono HO163.out (fun _ hk=>trivial),bX1 HB.out GE157.out⟩

/-! ### spec_l03Less: function 84 -/
def spec_l03Less.l0 : Nat→List Int→List Int→Int→Int→Option (Bool)
 | 0,_,_,_,_=>none
 | k+1,x1,x7,x8,x9=>if x9<x8 then (if 0≤x9 then (if x9<(x7.length:Int) then (if x9<(x1.length:Int) then (if (rd x7 x9)=(rd x1 x9) then (spec_l03Less.l0 k x1 x7 x8 (wrap64 (x9+1))) else (some (decide ((rd x7 x9)<(rd x1 x9))))) else (none)) else (none)) else (none)) else (some false)
def spec_l03Less.f (k:Nat) (l0:List Int) (l1:List Int):Option (Bool):=spec_l03Less.l0 k l1 l0 (l0.length:Int) 0
theorem spec_l03Less.calls (k:Nat) (A0:Option Addr) (c0:Nat) (l0:List Int) (A1:Option Addr) (c1:Nat) (l1:List Int) (r:Bool) (w:World) (hr0:Kd.C (Kd.int .i64) w A0 l0.length l0) (hc0:l0.length≤c0) (hr1:Kd.C (Kd.int .i64) w A1 l1.length l1) (hc1:l1.length≤c1) (h:spec_l03Less.f k l0 l1=some r) :
  Calls Tryz.prog 84 #[.slice A0 l0.length c0,.slice A1 l1.length c1] w fun e w'=>e = .returned (.bool r)∧Drawn0 w w':=by
 have HR0:=aM hr0
 have HC0:=aM hc0
 clear hr0 hc0
 have HR1:=aM hr1
 have HC1:=aM hc1
 clear hr1 hc1
 have H:(spec_l03Less.l0 k l1 l0 (l0.length:Int) 0)=some r:=h
 clear h
 have H':=aM H
 clear H
 go_enter Tryz.func84,Tryz.ntmps84
 go_wp2
 go_loopg [9] k (fun kq v9 w'=>∃ (x9_1:Int),v9 = .int .i64 x9_1∧Aside0 (spec_l03Less.l0 kq l1 l0 (l0.length:Int) x9_1=some r)∧Aside0 (kq≤k)∧Drawn0 w w')
 case atStart=>exact ⟨(0),vX,H',⟨Nat.le_refl _⟩,by repeat(first|exact Drawn0.refl _|apply Drawn0.step)⟩
 case round =>
 clear H'
 try clear c1
 obtain ⟨x9_1,rfl,HA,HK1,⟨m1,rfl⟩⟩:=hrel
 cases gk with
 | zero=>exact absurd HA.out (by simp [spec_l03Less.l0])
 | succ k1 =>
 have H:=HA.out
 clear HA
 simp only [spec_l03Less.l0] at H
 by_cases c3:x9_1<(l0.length:Int)
 {
 rw [if_pos c3] at H
 have c3b0:=decide_eq_true c3
 clear c3
 by_cases c4:0≤x9_1
 {
 rw [if_pos c4] at H
 have c4b0:=decide_eq_true c4
 clear c4
 by_cases c5:x9_1<(l0.length:Int)
 {
 rw [if_pos c5] at H
 have c5b0:=decide_eq_true c5
 clear c5
 by_cases c6:x9_1<(l1.length:Int)
 {
 rw [if_pos c6] at H
 have c6b0:=decide_eq_true c6
 clear c6
 by_cases c7:(rd l0 x9_1)=(rd l1 x9_1)
 {
 rw [if_pos c7] at H
 have c7b0:((rd l0 x9_1) == (rd l1 x9_1))=true:=beq_iff_eq.mpr c7
 have c7b1:((rd l0 x9_1) != (rd l1 x9_1))=false:=bne_eq_false_iff_eq.mpr c7
 clear c7
 have H':=aM H
 clear H
 have p164:0≤(x9_1:Int):=dX
 have q164:x9_1<(l0.length:Int):=dX
 obtain ⟨ad164,e164,hx164_0⟩:=Kd.at_int HR0.out x9_1 p164 q164
 cases e164
 replace p164:=eq_true p164
 replace q164:=eq_true q164
 have p165:0≤(x9_1:Int):=dX
 have q165:x9_1<(l1.length:Int):=dX
 obtain ⟨ad165,e165,hx165_0⟩:=Kd.at_int HR1.out x9_1 p165 q165
 cases e165
 replace p165:=eq_true p165
 replace q165:=eq_true q165
 go_wp2
 go_roundg k1
 case measure=>have:=HK1.out;omega
 case rel=>exact ⟨(wrap64 (x9_1+1)),vX,H',⟨by have:=HK1.out;omega⟩,by repeat(first|exact Drawn0.refl _|apply Drawn0.step)⟩
 }
 {
 rw [if_neg c7] at H
 have c7b0:((rd l0 x9_1) == (rd l1 x9_1))=false:=beq_eq_false_iff_ne.mpr c7
 have c7b1:((rd l0 x9_1) != (rd l1 x9_1))=true:=bne_iff_ne.mpr c7
 obtain rfl:=Option.some.inj H
 have p164:0≤(x9_1:Int):=dX
 have q164:x9_1<(l0.length:Int):=dX
 obtain ⟨ad164,e164,hx164_0⟩:=Kd.at_int HR0.out x9_1 p164 q164
 cases e164
 replace p164:=eq_true p164
 replace q164:=eq_true q164
 have p165:0≤(x9_1:Int):=dX
 have q165:x9_1<(l1.length:Int):=dX
 obtain ⟨ad165,e165,hx165_0⟩:=Kd.at_int HR1.out x9_1 p165 q165
 cases e165
 replace p165:=eq_true p165
 replace q165:=eq_true q165
 have p166:0≤(x9_1:Int):=dX
 have q166:x9_1<(l1.length:Int):=dX
 obtain ⟨ad166,e166,hx166_0⟩:=Kd.at_int HR1.out x9_1 p166 q166
 obtain rfl:ad165=ad166:=(by injection e166)
 replace p166:=eq_true p166
 replace q166:=eq_true q166
 go_wp2
 go_ret
 exact ⟨by first|rfl|(simp;done)|(simp [*];done),by repeat(first|exact Drawn0.refl _|apply Drawn0.step)⟩
 }
 }
 {
 rw [if_neg c6] at H
 exact absurd H (by simp)
 }
 }
 {
 rw [if_neg c5] at H
 exact absurd H (by simp)
 }
 }
 {
 rw [if_neg c4] at H
 exact absurd H (by simp)
 }
 }
 {
 rw [if_neg c3] at H
 have c3b0:=decide_eq_false c3
 clear c3
 obtain rfl:=Option.some.inj H
 go_wp2
 go_ret
 exact ⟨by first|rfl|(simp;done)|(simp [*];done),by repeat(first|exact Drawn0.refl _|apply Drawn0.step)⟩
 }

/-! ### spec_l03Before: function 54 -/
def spec_l03Before.f (k:Nat) (l0_0:List Int) (l0_1:List Int) (l1_0:List Int) (l1_1:List Int):Option (Bool):=(spec_SameList.f k l0_0 l1_0).bind fun t169=>(if t169=true then ((spec_l03Less.f k l0_1 l1_1).bind fun t170=>(some t170)) else ((spec_l03Less.f k l0_0 l1_0).bind fun t171=>(some t171)))
theorem spec_l03Before.calls (k:Nat) (A0_0:Option Addr) (c0_0:Nat) (l0_0:List Int) (A0_1:Option Addr) (c0_1:Nat) (l0_1:List Int) (A1_0:Option Addr) (c1_0:Nat) (l1_0:List Int) (A1_1:Option Addr) (c1_1:Nat) (l1_1:List Int) (r:Bool) (w:World) (hr0_0:Kd.C (Kd.int .i64) w A0_0 l0_0.length l0_0) (hc0_0:l0_0.length≤c0_0) (hr0_1:Kd.C (Kd.int .i64) w A0_1 l0_1.length l0_1) (hc0_1:l0_1.length≤c0_1) (hr1_0:Kd.C (Kd.int .i64) w A1_0 l1_0.length l1_0) (hc1_0:l1_0.length≤c1_0) (hr1_1:Kd.C (Kd.int .i64) w A1_1 l1_1.length l1_1) (hc1_1:l1_1.length≤c1_1) (h:spec_l03Before.f k l0_0 l0_1 l1_0 l1_1=some r) :
  Calls Tryz.prog 54 #[.agg #[.slice A0_0 l0_0.length c0_0,.slice A0_1 l0_1.length c0_1],.agg #[.slice A1_0 l1_0.length c1_0,.slice A1_1 l1_1.length c1_1]] w fun e w'=>e = .returned (.bool r)∧Below w.heap.size w w':=by
 have hu27:=Tryz.underlying27
 have HR0_0:=aM hr0_0
 have HC0_0:=aM hc0_0
 clear hr0_0 hc0_0
 have HR0_1:=aM hr0_1
 have HC0_1:=aM hc0_1
 clear hr0_1 hc0_1
 have HR1_0:=aM hr1_0
 have HC1_0:=aM hc1_0
 clear hr1_0 hc1_0
 have HR1_1:=aM hr1_1
 have HC1_1:=aM hc1_1
 clear hr1_1 hc1_1
 have HB:=aM (Below.refl w.heap.size w)
 have H:((spec_SameList.f k l0_0 l1_0).bind fun t169=>(if t169=true then ((spec_l03Less.f k l0_1 l1_1).bind fun t170=>(some t170)) else ((spec_l03Less.f k l0_0 l1_0).bind fun t171=>(some t171))))=some r:=h
 clear h
 replace H:=oB H
 obtain ⟨t169,A30,H⟩:=H
 have A3:=aM A30
 clear A30
 by_cases c4:t169=true
 {
 subst c4
 have H1:((spec_l03Less.f k l0_1 l1_1).bind fun t170=>(some t170))=some r:=by rw [if_pos rfl] at H;exact H
 clear H
 have H:=H1
 clear H1
 replace H:=oB H
 obtain ⟨t170,A50,H⟩:=H
 have A5:=aM A50
 clear A50
 obtain rfl:=Option.some.inj H
 go_enter Tryz.func54,Tryz.ntmps54
 go_wp2_with (first|((with_reducible refine gate_dst (N:=2) rfl ?_);refine bEv (cs:=#[.slice A0_0 l0_0.length c0_0,.slice A0_1 l0_1.length c0_1]) (t:=27) ?_;intro gb167 hg w6 hbox hb;have BK167:=aM (hbox);have GW167:=aM ((szX (below_size (bX HB.out)) hg:w.heap.size≤gb167));have GE167:=GW167;replace HB:=aM (below_step (bX HB.out) hb);clear hb hbox hg)|((with_reducible refine gate_dst (N:=3) rfl ?_);refine bEv (cs:=#[.slice A1_0 l1_0.length c1_0,.slice A1_1 l1_1.length c1_1]) (t:=27) ?_;intro gb168 hg w7 hbox hb;have BK168:=aM (hbox);have GW168:=aM ((szX (below_size (bX1 HB.out GE167.out)) hg:w.heap.size≤gb168));have GE168:=GW168;replace HB:=aM (below_step (bX1 HB.out GE167.out) hb);have NB167_168:=aM (neX BK167.out hg);have NB168_167:=aM (nfX BK167.out hg);replace BK167:=aM (bbX BK167.out hb);clear hb hbox hg;have hnb8:=NB167_168.out;have hnc8:=NB168_167.out;obtain ⟨hcz9_0,hcz9_1,hfz9_0,hfz9_1⟩:=f2Z BK167.out;have hcz10_0:w7.cell? ⟨gb168,0,none⟩=some (.slice A1_0 l1_0.length c1_0):=(blk_cell BK168.out 0).trans rfl;have hcz10_1:w7.cell? ⟨gb168,1,none⟩=some (.slice A1_1 l1_1.length c1_1):=(blk_cell BK168.out 1).trans rfl;have hfz10_0:=blk_frozen BK168.out 0;have hfz10_1:=blk_frozen BK168.out 1)|((with_reducible refine gate_callee (f:=82) rfl ?_);refine goesL_ (some 9) rfl rfl Tryz.func82 (by kernel_rfl) rfl #[.slice A0_0 l0_0.length c0_0,.slice A1_0 l1_0.length c1_0] rfl aX ?_;(with_reducible refine(spec_SameList.calls k _ _ l0_0 _ _ l1_0 true _ ?side1 ?side2 ?side3 ?side4 A3.out).mono ?_);(case side1=>exact cX (Kd.C_below HR0_0.out HB.out));(case side2=>exact HC0_0.out);(case side3=>exact cX (Kd.C_below HR1_0.out HB.out));(case side4=>exact HC1_0.out);rintro e w' ⟨rfl,⟨nd,rfl⟩⟩;refine ⟨_,rfl,?_⟩)|((with_reducible refine gate_callee (f:=84) rfl ?_);refine goesL_ (some 14) rfl rfl Tryz.func84 (by kernel_rfl) rfl #[.slice A0_1 l0_1.length c0_1,.slice A1_1 l1_1.length c1_1] rfl aX ?_;(with_reducible refine(spec_l03Less.calls k _ _ l0_1 _ _ l1_1 t170 _ ?side1 ?side2 ?side3 ?side4 A5.out).mono ?_);(case side1=>exact cX (Kd.C_below HR0_1.out (bX2 HB.out GE167.out GE168.out)));(case side2=>exact HC0_1.out);(case side3=>exact cX (Kd.C_below HR1_1.out (bX2 HB.out GE167.out GE168.out)));(case side4=>exact HC1_1.out);rintro e w' ⟨rfl,⟨nd,rfl⟩⟩;refine ⟨_,rfl,?_⟩))
 go_ret
 exact ⟨eX,bX2 HB.out GE167.out GE168.out⟩
 }
 {
 replace c4:=Bool.eq_false_iff.mpr c4
 subst c4
 have H1:((spec_l03Less.f k l0_0 l1_0).bind fun t171=>(some t171))=some r:=by rw [if_neg (show ¬ (false=true) by decide)] at H;exact H
 clear H
 have H:=H1
 clear H1
 replace H:=oB H
 obtain ⟨t171,A110,H⟩:=H
 have A11:=aM A110
 clear A110
 obtain rfl:=Option.some.inj H
 go_enter Tryz.func54,Tryz.ntmps54
 go_wp2_with (first|((with_reducible refine gate_dst (N:=2) rfl ?_);refine bEv (cs:=#[.slice A0_0 l0_0.length c0_0,.slice A0_1 l0_1.length c0_1]) (t:=27) ?_;intro gb167 hg w12 hbox hb;have BK167:=aM (hbox);have GW167:=aM ((szX (below_size (bX HB.out)) hg:w.heap.size≤gb167));have GE167:=GW167;replace HB:=aM (below_step (bX HB.out) hb);clear hb hbox hg)|((with_reducible refine gate_dst (N:=3) rfl ?_);refine bEv (cs:=#[.slice A1_0 l1_0.length c1_0,.slice A1_1 l1_1.length c1_1]) (t:=27) ?_;intro gb168 hg w13 hbox hb;have BK168:=aM (hbox);have GW168:=aM ((szX (below_size (bX1 HB.out GE167.out)) hg:w.heap.size≤gb168));have GE168:=GW168;replace HB:=aM (below_step (bX1 HB.out GE167.out) hb);have NB167_168:=aM (neX BK167.out hg);have NB168_167:=aM (nfX BK167.out hg);replace BK167:=aM (bbX BK167.out hb);clear hb hbox hg;have hnb14:=NB167_168.out;have hnc14:=NB168_167.out;obtain ⟨hcz15_0,hcz15_1,hfz15_0,hfz15_1⟩:=f2Z BK167.out;have hcz16_0:w13.cell? ⟨gb168,0,none⟩=some (.slice A1_0 l1_0.length c1_0):=(blk_cell BK168.out 0).trans rfl;have hcz16_1:w13.cell? ⟨gb168,1,none⟩=some (.slice A1_1 l1_1.length c1_1):=(blk_cell BK168.out 1).trans rfl;have hfz16_0:=blk_frozen BK168.out 0;have hfz16_1:=blk_frozen BK168.out 1)|((with_reducible refine gate_callee (f:=82) rfl ?_);refine goesL_ (some 9) rfl rfl Tryz.func82 (by kernel_rfl) rfl #[.slice A0_0 l0_0.length c0_0,.slice A1_0 l1_0.length c1_0] rfl aX ?_;(with_reducible refine(spec_SameList.calls k _ _ l0_0 _ _ l1_0 false _ ?side1 ?side2 ?side3 ?side4 A3.out).mono ?_);(case side1=>exact cX (Kd.C_below HR0_0.out HB.out));(case side2=>exact HC0_0.out);(case side3=>exact cX (Kd.C_below HR1_0.out HB.out));(case side4=>exact HC1_0.out);rintro e w' ⟨rfl,⟨nd,rfl⟩⟩;refine ⟨_,rfl,?_⟩)|((with_reducible refine gate_callee (f:=84) rfl ?_);refine goesL_ (some 19) rfl rfl Tryz.func84 (by kernel_rfl) rfl #[.slice A0_0 l0_0.length c0_0,.slice A1_0 l1_0.length c1_0] rfl aX ?_;(with_reducible refine(spec_l03Less.calls k _ _ l0_0 _ _ l1_0 t171 _ ?side1 ?side2 ?side3 ?side4 A11.out).mono ?_);(case side1=>exact cX (Kd.C_below HR0_0.out (bX2 HB.out GE167.out GE168.out)));(case side2=>exact HC0_0.out);(case side3=>exact cX (Kd.C_below HR1_0.out (bX2 HB.out GE167.out GE168.out)));(case side4=>exact HC1_0.out);rintro e w' ⟨rfl,⟨nd,rfl⟩⟩;refine ⟨_,rfl,?_⟩))
 go_ret
 exact ⟨eX,bX2 HB.out GE167.out GE168.out⟩
 }

end Go.Proofs.YtpieaniigkgmoaaGreatDoor.S
