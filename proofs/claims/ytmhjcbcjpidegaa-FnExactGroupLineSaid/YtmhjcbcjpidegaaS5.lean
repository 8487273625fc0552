-- PRINTED by print.py (a twelfth state) out of the translation. Not trusted: Lean checks it.
import Derived.Test.YtmhjcbcjpidegaaS0
import Derived.Test.YtmhjcbcjpidegaaS4
namespace Go.Proofs.Ytmhjcbcjpidegaa.S
set_option maxHeartbeats 8000000
set_option maxRecDepth 100000
open Go.RowKit Go.Proofs.YtmhjcbcjpidegaaW.PrintWords Go.Proofs.YtmhjcbcjpidegaaW.PrintLast Go.Proofs.YtmhjcbcjpidegaaW.PrintMore
attribute [local go_sem] max2_int min2_int max_two min_two max_three min_three max_four min_four   -- for this text's walks alone
set_option linter.unusedVariables false
set_option linter.unusedSimpArgs false

/-! ### spec_PermOk: function 96 -/
/-! by hand -/
theorem hand_in01 (a b c:Int):spec_l01In.f a b c=some (decide (b≤a∧a≤c)):=by
  unfold spec_l01In.f
  split
  · rename_i h
    by_cases h2:a≤c
    · rw [decide_eq_true h2,decide_eq_true ⟨h,h2⟩]
    · rw [decide_eq_false h2,decide_eq_false (fun h=>h2 h.2)]
  · rename_i h
    rw [decide_eq_false (fun h2=>h h2.1)]
theorem hand_has_l0 (l:List Int) (hl:l.length≤4611686018427387904) (x:Int):∀ (suf pre:List Int),l=pre ++ suf →
    Ev (fun k=>spec_l02Has.l0 k x l (l.length:Int) (pre.length:Int)) (decide (x∈suf)):=by
  intro suf
  induction suf with
  | nil =>
    intro pre h
    subst h
    refine Ev.step (f:=fun _=>some false) (fun k => ?_) (by simpa using Ev.now false)
    simp only [spec_l02Has.l0]
    rw [if_neg (by simp)]
  | cons c suf ih =>
    intro pre h
    have:=ih (pre ++ [c]) (by simp [h])
    subst h
    have h1:((pre.length:Nat):Int)<((pre ++ c :: suf).length:Int):=by simp;omega
    have hr:rd (pre ++ c :: suf) (pre.length:Int)=c:=by simp [rd,List.getD]
    have hw:wrap64 ((pre.length:Int)+1)=((pre ++ [c]).length:Int):=by simp at hl ⊢;unfold wrap64;omega
    by_cases hc:c=x
    · refine Ev.step (f:=fun _=>some true) (fun k => ?_) (by simpa [hc] using Ev.now true)
      simp only [spec_l02Has.l0]
      rw [if_pos h1,if_pos (Int.natCast_nonneg _),if_pos h1,hr,if_pos hc]
    · rw [show decide (x∈c :: suf)=decide (x∈suf) by simp [Ne.symm hc]]
      refine Ev.step (fun k => ?_) this
      simp only [spec_l02Has.l0]
      rw [if_pos h1,if_pos (Int.natCast_nonneg _),if_pos h1,hr,if_neg hc,hw]
theorem hand_has (l:List Int) (hl:l.length≤4611686018427387904) (x:Int):∃ k,spec_l02Has.f k l x=some (decide (x∈l)):=by
 obtain ⟨k,hk⟩:=Ev.rounds (hand_has_l0 l hl x l [] rfl)
 exact ⟨k,by simpa [spec_l02Has.f] using hk⟩
/-- The reference's way: each is in range and none stands before. -/
def permSGo (n:Int):List Int→List Int→Bool
  | _,[]=>true
  | pre,x :: xs=>if 0≤x∧x≤n - 1 then (if x∈pre then false else permSGo n (pre ++ [x]) xs) else false
def permSB (p:List Int):Bool:=if p.length≤24 then permSGo p.length [] p else false
def spec_PermOk.f (l0:List Int):Option Bool:=some (permSB l0)
theorem spec_PermOk.calls_le (A0:Option Addr) (c0:Nat) (l0:List (Int)) (r:Bool) (w:World) (hr0:Kd.C (Kd.int .i64) w A0 l0.length l0) (hc0:l0.length≤c0) (hle:l0.length≤24) (hres:permSGo l0.length [] l0=r) :
    Calls Try.prog 96 #[.slice A0 l0.length c0] w fun e w'=>e = .returned (.bool r)∧Drawn0 w w':=by
  have HR0:=aM hr0
  have HC0:=aM hc0
  have HRES:=aM hres
  have HLE:=aM hle
  have hb24:decide (24<(l0.length:Int))=false:=decide_eq_false (by omega)
  clear hr0 hc0 hres hle
  go_enter Try.func96,Try.ntmps96
  go_wp2
  go_loopg [10] (l0.length+1) (fun kq v10 w'=>∃ (i:Int),v10 = .int .i64 i∧Aside0 (0≤i∧i≤l0.length∧(kq:Int)+i=l0.length+1∧permSGo l0.length (l0.take i.toNat) (l0.drop i.toNat)=r)∧Drawn0 w w')
  case atStart=>exact ⟨0,rfl,⟨by omega,by omega,by simp,by simpa using HRES.out⟩,by repeat(first|exact Drawn0.refl _|apply Drawn0.step)⟩
  case round =>
    obtain ⟨i,rfl,HI,⟨m1,rfl⟩⟩:=hrel
    obtain ⟨hi0,hi1,hik,hgo⟩:=HI.out
    clear HI
    have hle:=HLE.out
    obtain ⟨k1,rfl⟩:∃ m,gk=m+1:=⟨gk - 1,by omega⟩
    have HGO:=aM hgo
    have HK:=aM hik
    clear hgo hik
    by_cases hlt:i<(l0.length:Int)
    · have c1:decide (i<(l0.length:Int))=true:=decide_eq_true hlt
      have c1':decide (i≤(l0.length:Int))=true:=decide_eq_true hi1
      have p0:decide (0≤i)=true:=decide_eq_true hi0
      have HW:=aM (show wrap64 (i+1)=i+1 from by unfold wrap64;omega)
      have HW2:=aM (show wrap64 ((l0.length:Int) - 1)=(l0.length:Int) - 1 from by unfold wrap64;omega)
      have hlen:(l0.take i.toNat).length=i.toNat:=by simp;omega
      obtain ⟨ad,ead,hx⟩:=Kd.at_int HR0.out i hi0 hlt
      cases ead
      have hdrop:l0.drop i.toNat=rd l0 i :: l0.drop (i+1).toNat:=by
        have h1:i.toNat<l0.length:=by omega
        rw [show (i+1).toNat=i.toNat+1 by omega,List.drop_eq_getElem_cons h1]
        simp [rd,List.getD,h1]
      have htake:l0.take (i+1).toNat=l0.take i.toNat ++ [rd l0 i]:=by
        have h1:i.toNat<l0.length:=by omega
        rw [show (i+1).toNat=i.toNat+1 by omega,List.take_succ_eq_append_getElem h1]
        simp [rd,List.getD,h1]
      have HD:=aM hdrop
      have HT:=aM htake
      clear hdrop htake
      obtain ⟨i3,hi3,_,hsz3,_⟩:=info_parts (show (Try.prog.info? 3).map (fun i=>(i.zero,i.size,i.bytes))=some (some (.int .i64 0),1,8) by kernel_rfl)
      obtain ⟨hcut,hA,hC⟩:=print_take_of (P:=Try.prog) (Value.int .i64) 0 22 3 .i64 Try.underlying22 hi3 hsz3 (some ad) c0 l0 i hi0 hi1 HC0.out
      rw [hlen] at hcut hC
      have HR1:=aM (Kd.C_of_reads (h1:=fun _=>rfl) (hA _ (Kd.reads_of_C HR0.out)))
      have HC1:=aM hC
      have HL:=aM hlen
      clear hA hC hi3 hsz3 hlen
      generalize hX:rd l0 i=x at *
      clear hX
      replace hi0:=eq_true hi0
      replace hi1:=eq_true hi1
      replace hlt:=eq_true hlt
      clear hle
      have HIN:=aM (hand_in01 x 0 (wrap64 ((l0.length:Int) - 1)))
      by_cases h1:0≤x∧x≤(l0.length:Int) - 1
      · rw [HW2.out,decide_eq_true h1,← HW2.out] at HIN
        by_cases h2:x∈l0.take i.toNat
        · have hr:r=false:=by
            have:=HGO.out
            rw [HD.out] at this
            simp only [permSGo] at this
            rw [if_pos h1,if_pos h2] at this
            exact this.symm
          subst hr
          obtain ⟨kh,hkh⟩:=hand_has (l0.take i.toNat) (by have:=HL.out;have:=HLE.out;simp;omega) x
          rw [decide_eq_true h2] at hkh
          have HH:∀ W:World,Drawn0 w W→Calls Try.prog 119 #[.slice (some ad) i.toNat c0,.int .i64 x] W fun e w'=>e = .returned (.bool true)∧Drawn0 W w':=by
            intro W hW
            obtain ⟨n,rfl⟩:=hW.out
            have:=spec_l02Has.calls kh _ _ (l0.take i.toNat) x true (w.drewN n) (Kd.C_drewN HR1.out n) (by rw [HL.out];exact HC1.out) hkh
            rw [HL.out] at this
            exact this
          have HHA:=aM HH
          clear h1 h2 HH hkh
          go_wp2_with (first
            | (go_at_call 71;refine(spec_l01In.calls x 0 (wrap64 ((l0.length:Int) - 1)) true _ HIN.out).mono ?_;rintro e w' ⟨rfl,⟨nd,rfl⟩⟩)
            | (go_at_call 119;refine(HHA.out _ (by repeat(first|exact Drawn0.refl _|apply Drawn0.step))).mono ?_;rintro e w' ⟨rfl,⟨nd,rfl⟩⟩))
          go_ret
          exact ⟨rfl,by repeat(first|exact Drawn0.refl _|apply Drawn0.step)⟩
        · have hg2:permSGo l0.length (l0.take (i+1).toNat) (l0.drop (i+1).toNat)=r:=by
            have:=HGO.out
            rw [HD.out] at this
            simp only [permSGo] at this
            rw [if_pos h1,if_neg h2] at this
            rw [HT.out]
            exact this
          have HG2:=aM hg2
          clear hg2
          obtain ⟨kh,hkh⟩:=hand_has (l0.take i.toNat) (by have:=HL.out;have:=HLE.out;simp;omega) x
          rw [decide_eq_false h2] at hkh
          have HH:∀ W:World,Drawn0 w W→Calls Try.prog 119 #[.slice (some ad) i.toNat c0,.int .i64 x] W fun e w'=>e = .returned (.bool false)∧Drawn0 W w':=by
            intro W hW
            obtain ⟨n,rfl⟩:=hW.out
            have:=spec_l02Has.calls kh _ _ (l0.take i.toNat) x false (w.drewN n) (Kd.C_drewN HR1.out n) (by rw [HL.out];exact HC1.out) hkh
            rw [HL.out] at this
            exact this
          have HHA:=aM HH
          clear h1 h2 HH hkh
          go_wp2_with (first
            | (go_at_call 71;refine(spec_l01In.calls x 0 (wrap64 ((l0.length:Int) - 1)) true _ HIN.out).mono ?_;rintro e w' ⟨rfl,⟨nd,rfl⟩⟩)
            | (go_at_call 119;refine(HHA.out _ (by repeat(first|exact Drawn0.refl _|apply Drawn0.step))).mono ?_;rintro e w' ⟨rfl,⟨nd,rfl⟩⟩))
          go_roundg k1
          case measure=>omega
          case rel=>exact ⟨i+1,by rw [HW.out],⟨by simp at hi0;omega,by simp at hlt;omega,by have:=HK.out;simp at this ⊢;omega,HG2.out⟩,by repeat(first|exact Drawn0.refl _|apply Drawn0.step)⟩
      · rw [HW2.out,decide_eq_false h1,← HW2.out] at HIN
        have hr:r=false:=by
          have:=HGO.out
          rw [HD.out] at this
          simp only [permSGo] at this
          rw [if_neg h1] at this
          exact this.symm
        subst hr
        clear h1
        go_wp2_with (go_at_call 71;refine(spec_l01In.calls x 0 (wrap64 ((l0.length:Int) - 1)) false _ HIN.out).mono ?_;rintro e w' ⟨rfl,⟨nd,rfl⟩⟩)
        go_ret
        exact ⟨rfl,by repeat(first|exact Drawn0.refl _|apply Drawn0.step)⟩
    · have hie:i=l0.length:=by omega
      have hr:r=true:=by
        have:=HGO.out
        rw [show l0.drop i.toNat=[] from by rw [hie];simp] at this
        simp only [permSGo] at this
        exact this.symm
      subst hr
      have c1:decide (i<(l0.length:Int))=false:=decide_eq_false hlt
      clear hlt hie
      go_wp2
      go_ret
      exact ⟨rfl,by repeat(first|exact Drawn0.refl _|apply Drawn0.step)⟩
theorem spec_PermOk.calls (A0:Option Addr) (c0:Nat) (l0:List Int) (r:Bool) (w:World) (hr0:Kd.C (Kd.int .i64) w A0 l0.length l0) (hc0:l0.length≤c0) (h:spec_PermOk.f l0=some r) :
    Calls Try.prog 96 #[.slice A0 l0.length c0] w fun e w'=>e = .returned (.bool r)∧Drawn0 w w':=by
  unfold spec_PermOk.f permSB at h
  by_cases hle:l0.length≤24
  · rw [if_pos hle] at h
    exact spec_PermOk.calls_le A0 c0 l0 r w hr0 hc0 hle (Option.some.inj h)
  · rw [if_neg hle] at h
    obtain rfl:=Option.some.inj h
    have hb24:decide (24<(l0.length:Int))=true:=decide_eq_true (by omega)
    clear hle
    go_enter Try.func96,Try.ntmps96
    go_wp2
    go_ret
    exact ⟨rfl,by repeat(first|exact Drawn0.refl _|apply Drawn0.step)⟩

/-! ### spec_l02Reach: function 97 -/
mutual
def spec_l02Reach.l0 : Nat→List Int→List Int→List Int→Int→Option (List Int)
 | 0,_,_,_,_=>none
 | k+1,x0,x1,x7,x8=>if x8<(x7.length:Int) then (if 0≤x8 then (if 0≤(rd x7 x8) then (if (rd x7 x8)<(x0.length:Int) then (if (rd x7 x8)<(x1.length:Int) then ((some (([rd x0 (rd x7 x8),rd x1 (rd x7 x8)]:List Int):List Int)).bind fun y305=>(spec_l02Reach.l1 k x0 x1 x7 x8 y305 (y305.length:Int) 0)) else (none)) else (none)) else (none)) else (none)) else (some x7)
def spec_l02Reach.l1 : Nat→List Int→List Int→List Int→Int→List Int→Int→Int→Option (List Int)
 | 0,_,_,_,_,_,_,_=>none
 | k+1,x0,x1,x7,x8,x33,x34,x35=>if x35<x34 then (if 0≤x35 then (if x35<(x33.length:Int) then ((spec_l02Has.f k x7 (rd x33 x35)).bind fun t309=>(if t309=true then (spec_l02Reach.l1 k x0 x1 x7 x8 x33 x34 (wrap64 (x35+1))) else (if x7.length<17592186044416 then (spec_l02Reach.l1 k x0 x1 (x7 ++ [rd x33 x35]) x8 x33 x34 (wrap64 (x35+1))) else (none)))) else (none)) else (none)) else (spec_l02Reach.l0 k x0 x1 x7 (wrap64 (x8+1)))
end
def spec_l02Reach.f (k:Nat) (l0:List Int) (l1:List Int) (a2:Int):Option (List Int):=spec_l02Reach.l0 k l0 l1 (([a2]:List Int)) 0
def spec_l02Reach.T5 : Bool × List (List Nat × List Nat):=(true,[([],[]),([],[]),([],[]),([1,2],[1,2]),([3],[3]),([0,4],[0,4]),([5],[5]),([],[]),([],[]),([],[]),([8,9],[8,9]),([10],[10]),([7,11],[7,11]),([12],[12]),([6,13],[6,13]),([14],[14]),([],[])])
def spec_l02Reach.B5 : List Nat:=[0,0,0,6,14,31,63,0,0,0,768,1792,3968,8064,16383,32767,0]
theorem spec_l02Reach.tab5 : rtab .any (opsOf Try.f97 5)=spec_l02Reach.T5:=by kernel_rfl
theorem spec_l02Reach.bits5 : waitsOk spec_l02Reach.T5.2 spec_l02Reach.B5=true:=by kernel_rfl
theorem spec_l02Reach.calls (k:Nat) (A0:Option Addr) (c0:Nat) (l0:List Int) (A1:Option Addr) (c1:Nat) (l1:List Int) (a2:Int) (r:List Int) (w:World) (hr0:Kd.C (Kd.int .i64) w A0 l0.length l0) (hc0:l0.length≤c0) (hr1:Kd.C (Kd.int .i64) w A1 l1.length l1) (hc1:l1.length≤c1) (h:spec_l02Reach.f k l0 l1 a2=some r) :
  Calls Try.prog 97 #[.slice A0 l0.length c0,.slice A1 l1.length c1,.int .i64 a2] w fun e w'=>∃ v0_:Value,e = .returned (v0_)∧Kd.R (Kd.int .i64) 3 w' w.heap.size (fun _=>True) v0_ r∧Below w.heap.size w w':=by
 have HR0:=aM hr0
 have HC0:=aM hc0
 clear hr0 hc0
 have HR1:=aM hr1
 have HC1:=aM hc1
 clear hr1 hc1
 have HB:=aM (Below.refl w.heap.size w)
 have H:(spec_l02Reach.l0 k l0 l1 (([a2]:List Int)) 0)=some r:=h
 clear h
 obtain ⟨y298,hy298⟩:∃ y_:List Int,y_=(([a2]:List Int)):=⟨_,rfl⟩
 replace H:(spec_l02Reach.l0 k l0 l1 y298 0)=some r:=by first|(rw [hy298];with_reducible exact H)|(have H2_:=(Option.bind_some _ _).symm.trans H;rw [hy298];with_reducible exact H2_)|(have H2_:=(Option.bind_some _ _).symm.trans H;with_reducible exact H2_)|with_reducible exact H|(rw [hy298];exact H)|exact H
 have Ny298:=aM hy298
 clear hy298
 have H':=aM H
 clear H
 go_enter Try.func97,Try.ntmps97
 go_wp2_with (first|((with_reducible refine gate_dst (N:=12) rfl ?_);refine Kd.R_lit (Kd.int .i64) _ 3 ?hg (N:=12) ?hd (xs:=([a2]:List Int)) (inner:=[.int .i64 a2]) (ok:=fun _=>True) (okp:=fun _=>True) ?hr ?hp (fun _ hk=>hk) trivial (Below.refl _ _) (Nat.le_refl _) (by simp) ?_;(case hd=>rfl);(case hg=>rfl);(case hr=>first|(go_simp;done)|(go_simp;rfl));(case hp=>exact(Reps.one (show Kd.M (Kd.int .i64) _ _ _ a2 [.int .i64 a2] from rfl) (Reps.none _ _)));intro v299 w4 ho5 hb hg_ hnew_;clear hg_ hnew_;(first|rw [← Ny298.out] at ho5|(simp only [Int.reduceToNat] at ho5;rw [← Ny298.out] at ho5));have HO300:=aM (Kd.R_lower ho5 (below_size (bX HB.out)));replace HB:=aM (below_step (bX HB.out) hb);clear hb ho5))
 go_loopg [7,8] k (fun kq v7 v8 w'=>∃ (x7_1:List Int) (x8_1:Int),v8 = .int .i64 x8_1∧Aside0 (spec_l02Reach.l0 kq l0 l1 x7_1 x8_1=some r)∧Aside0 (kq≤k)∧Aside0 (Kd.R (Kd.int .i64) 3 w' w.heap.size (fun _=>True) v7 x7_1)∧Aside0 (Below w.heap.size w w'))
 case atStart=>exact ⟨(y298),(0),vX,H',⟨Nat.le_refl _⟩,⟨rX HO300.out⟩,⟨bX HB.out⟩⟩
 case round =>
 clear H'
 try clear c1
 obtain ⟨x7_1,x8_1,rfl,HA,HK1,HO_7,HB⟩:=hrel
 cases gk with
 | zero=>exact absurd HA.out (by simp [spec_l02Reach.l0])
 | succ k1 =>
 have H:=HA.out
 clear HA
 simp only [spec_l02Reach.l0] at H
 by_cases c6:x8_1<(x7_1.length:Int)
 {
 rw [if_pos c6] at H
 have c6b0:=decide_eq_true c6
 clear c6
 by_cases c7:0≤x8_1
 {
 rw [if_pos c7] at H
 have c7b0:=decide_eq_true c7
 clear c7
 by_cases c8:0≤(rd x7_1 x8_1)
 {
 rw [if_pos c8] at H
 have c8b0:=decide_eq_true c8
 clear c8
 by_cases c9:(rd x7_1 x8_1)<(l0.length:Int)
 {
 rw [if_pos c9] at H
 have c9b0:=decide_eq_true c9
 clear c9
 by_cases c10:(rd x7_1 x8_1)<(l1.length:Int)
 {
 rw [if_pos c10] at H
 have c10b0:=decide_eq_true c10
 clear c10
 obtain ⟨y305,hy305⟩:∃ y_:List Int,y_=(([rd l0 (rd x7_1 x8_1),rd l1 (rd x7_1 x8_1)]:List Int)):=⟨_,rfl⟩
 replace H:(spec_l02Reach.l1 k1 l0 l1 x7_1 x8_1 y305 (y305.length:Int) 0)=some r:=by first|(rw [hy305];with_reducible exact H)|(have H2_:=(Option.bind_some _ _).symm.trans H;rw [hy305];with_reducible exact H2_)|(have H2_:=(Option.bind_some _ _).symm.trans H;with_reducible exact H2_)|with_reducible exact H|(rw [hy305];exact H)|exact H
 have Ny305:=aM hy305
 clear hy305
 have H':=aM H
 clear H
 obtain ⟨Ao11,co11,eo11⟩:=Kd.R_slice HO_7.out
 subst eo11
 try go_wp2
 replace HO_7:=aM (Kd.R_drew HO_7.out)
 replace HB:=aM (below_drew1 HB.out)
 have p301:0≤(x8_1:Int):=dX
 have q301:x8_1<(x7_1.length:Int):=dX
 obtain ⟨ad301,e301,hx301_0⟩:=Kd.at_int (Kd.R_reads' HO_7.out).2.2 x8_1 p301 q301
 cases e301
 replace p301:=eq_true p301
 replace q301:=eq_true q301
 have p302:0≤((rd x7_1 x8_1):Int):=dX
 have q302:(rd x7_1 x8_1)<(l0.length:Int):=dX
 obtain ⟨ad302,e302,hx302_0⟩:=Kd.at_int HR0.out (rd x7_1 x8_1) p302 q302
 have hw302_0:=hx302_0
 cases e302
 replace hx302_0:=(HB.out.cell (World.block_lt_of_cell? w _ hx302_0)).trans hx302_0
 replace p302:=eq_true p302
 replace q302:=eq_true q302
 have p303:0≤(x8_1:Int):=dX
 have q303:x8_1<(x7_1.length:Int):=dX
 obtain ⟨ad303,e303,hx303_0⟩:=Kd.at_int (Kd.R_reads' HO_7.out).2.2 x8_1 p303 q303
 obtain rfl:ad301=ad303:=(by injection e303)
 replace p303:=eq_true p303
 replace q303:=eq_true q303
 have p304:0≤((rd x7_1 x8_1):Int):=dX
 have q304:(rd x7_1 x8_1)<(l1.length:Int):=dX
 obtain ⟨ad304,e304,hx304_0⟩:=Kd.at_int HR1.out (rd x7_1 x8_1) p304 q304
 have hw304_0:=hx304_0
 cases e304
 replace hx304_0:=(HB.out.cell (World.block_lt_of_cell? w _ hx304_0)).trans hx304_0
 replace p304:=eq_true p304
 replace q304:=eq_true q304
 refine start_ (n:=17) (S:=fun w'=>w'.cell? (ad301.add (x8_1).toNat)=some (.int .i64 (rd x7_1 x8_1))∧w'.cell? (ad302.add ((rd x7_1 x8_1)).toNat)=some (.int .i64 (rd l0 (rd x7_1 x8_1)))∧w'.cell? (ad301.add (x8_1).toNat)=some (.int .i64 (rd x7_1 x8_1))∧w'.cell? (ad304.add ((rd x7_1 x8_1)).toNat)=some (.int .i64 (rd l1 (rd x7_1 x8_1)))) (ds:=[]) #[ff,ff,ff,ff,ff,ff,ff,ff,ff,ff,ff,ff,ff,ff,ff,ff,ff] (by kernel_rfl) rfl rfl ⟨hx301_0,((HB.out.cell (World.block_lt_of_cell? w _ hw302_0)).trans hw302_0),hx303_0,((HB.out.cell (World.block_lt_of_cell? w _ hw304_0)).trans hw304_0)⟩ (fun hHeld => ?_);refine with_tabW spec_l02Reach.tab5 spec_l02Reach.bits5 (fun HT_ HW_ => ?_)
 generalize wr.drew=w12 at HO_7 HB hx301_0 hx302_0 hx303_0 hx304_0 hHeld ⊢
 refine pX 0 19 (fl 17 1) rfl rfl HT_.out ?_
 refine pX 1 20 (fl 17 3) rfl rfl HT_.out ?_
 refine pX 2 21 (fl 17 7) rfl rfl HT_.out ?_
 refine pX 3 22 (fl 17 15) rfl rfl HT_.out ?_
 refine pX 7 26 (fl 17 143) rfl rfl HT_.out ?_
 refine pX 8 27 (fl 17 399) rfl rfl HT_.out ?_
 refine pX 9 28 (fl 17 911) rfl rfl HT_.out ?_
 refine pX 10 29 (fl 17 1935) rfl rfl HT_.out ?_
 refine pX 16 35 (fl 17 67471) rfl rfl HT_.out ?_
 refine tX4 4 23 (fl 17 67487) rfl rfl HT_.out HW_.out hHeld ?_
 refine pX 5 24 (fl 17 67519) rfl rfl HT_.out ?_
 refine tX4 6 25 (fl 17 67583) rfl rfl HT_.out HW_.out hHeld ?_
 refine tX4 11 30 (fl 17 69631) rfl rfl HT_.out HW_.out hHeld ?_
 refine pX 12 31 (fl 17 73727) rfl rfl HT_.out ?_
 refine tX4 13 32 (fl 17 81919) rfl rfl HT_.out HW_.out hHeld ?_
 refine one_ (i:=14) (N:=some 33) #[tt,tt,tt,tt,tt,tt,tt,tt,tt,tt,tt,tt,tt,tt,tt,ff,tt] rfl rfl (one_of HT_.out (by kernel_rfl)) (by decide) (fun K hK => ?_)
 refine Kd.R_lit_step (Kd.int .i64) _ 3 ?hg (N:=33) ?hd (xs:=([rd l0 (rd x7_1 x8_1),rd l1 (rd x7_1 x8_1)]:List Int)) (inner:=[.int .i64 (rd l0 (rd x7_1 x8_1)),.int .i64 (rd l1 (rd x7_1 x8_1))]) (ok:=fun _=>True) (okp:=fun _=>True) ?hr ?hp (fun _ hk=>hk) trivial (Below.refl _ _) (Nat.le_refl _) (by simp) ?_;(case hd=>rfl);(case hg=>rfl);(case hr=>first|(go_simp;done)|(go_simp;rfl));(case hp=>exact(Reps.one (show Kd.M (Kd.int .i64) _ _ _ (rd l0 (rd x7_1 x8_1)) [.int .i64 (rd l0 (rd x7_1 x8_1))] from rfl) (Reps.one (show Kd.M (Kd.int .i64) _ _ _ (rd l1 (rd x7_1 x8_1)) [.int .i64 (rd l1 (rd x7_1 x8_1))] from rfl) (Reps.none _ _))))
 intro v306 w13 ho14 hb hg_ hnew_
 have HS0_:=(hb.cell (World.block_lt_of_cell? _ _ (hHeld.1))).trans (hHeld.1)
 have HS2_:=(hb.cell (World.block_lt_of_cell? _ _ (hHeld.2.2.1))).trans (hHeld.2.2.1)
 clear hg_ hnew_
 (first|rw [← Ny305.out] at ho14|(simp only [Int.reduceToNat] at ho14;rw [← Ny305.out] at ho14))
 have HO307:=aM (Kd.R_lower (Kd.R_new' ho14 (Kd.R_lt (rX HO_7.out))) (below_size (bX HB.out)))
 replace HO_7:=aM (Kd.R_elder' (rX HO_7.out) (Kd.R_base ho14) hb)
 replace HB:=aM (below_step (bX HB.out) hb)
 clear hb ho14
 obtain ⟨Ao15,co15,eo15⟩:=Kd.R_slice HO307.out
 (first|subst eo15|(injection eo15 with f1_ f2_ f3_;have f4_:=f1_.symm;have f5_:=f3_.symm;clear f1_ f2_ f3_;subst f4_;subst f5_))
 refine hK.out _ _ ⟨HS0_,((HB.out.cell (World.block_lt_of_cell? w _ hw302_0)).trans hw302_0),HS2_,((HB.out.cell (World.block_lt_of_cell? w _ hw304_0)).trans hw304_0)⟩ (fun hHeld => ?_)
 clear hK K
 refine norm_ (a':=?_) ?_ ?_
 rotate_left
 {
 show Act.put _ (some 33) _=_
 simp only [Act.put,zA,zB,zC,i64_w,i32_w]
 rfl
 }
 refine pX 15 34 (fl 17 131071) rfl rfl HT_.out ?_
 refine done_ (done_of HT_.out (by kernel_rfl)) ?_
 try go_wp2
 go_loopg [7,35] k1 (fun kq v7 v35 w'=>∃ (x7_2:List Int) (x35_2:Int),v35 = .int .i64 x35_2∧Aside0 (spec_l02Reach.l1 kq l0 l1 x7_2 x8_1 y305 (y305.length:Int) x35_2=some r)∧Aside0 (kq≤k1)∧Aside0 (Kd.R (Kd.int .i64) 3 w' w.heap.size (fun k_=>some k_≠((.slice Ao15 y305.length co15):Value).ownBlock) v7 x7_2)∧Aside0 (Kd.R (Kd.int .i64) 3 w' w.heap.size (fun k_=>some k_≠(v7:Value).ownBlock) (.slice Ao15 y305.length co15) y305)∧Aside0 (Below w.heap.size w w'))
 case atStart=>exact ⟨(x7_1),(0),vX,H',⟨Nat.le_refl _⟩,⟨rM HO_7.out (fun _ hk=>hk.2)⟩,⟨rM HO307.out (fun _ hk=>hk.2)⟩,⟨bX HB.out⟩⟩
 case round =>
 clear H'
 try clear c1
 try clear c6
 try clear c6b0
 try clear c7
 try clear c7b0
 try clear c8
 try clear c8b0
 try clear c9
 try clear c9b0
 try clear c10
 try clear c10b0
 try clear hx301_0
 try clear hx302_0
 try clear hx303_0
 try clear hx304_0
 try clear p301
 try clear p302
 try clear p303
 try clear p304
 try clear q301
 try clear q302
 try clear q303
 try clear q304
 obtain ⟨x7_2,x35_2,rfl,HA,HK2,HO_7,HO_33,HB⟩:=hrel
 cases gk with
 | zero=>exact absurd HA.out (by simp [spec_l02Reach.l1])
 | succ k2 =>
 have H:=HA.out
 clear HA
 simp only [spec_l02Reach.l1] at H
 by_cases c16:x35_2<(y305.length:Int)
 {
 rw [if_pos c16] at H
 have c16b0:=decide_eq_true c16
 clear c16
 by_cases c17:0≤x35_2
 {
 rw [if_pos c17] at H
 have c17b0:=decide_eq_true c17
 clear c17
 by_cases c18:x35_2<(y305.length:Int)
 {
 rw [if_pos c18] at H
 have c18b0:=decide_eq_true c18
 clear c18
 replace H:=oB H
 obtain ⟨t309,A190,H⟩:=H
 have A19:=aM A190
 clear A190
 by_cases c20:t309=true
 {
 subst c20
 have H1:(spec_l02Reach.l1 k2 l0 l1 x7_2 x8_1 y305 (y305.length:Int) (wrap64 (x35_2+1)))=some r:=by rw [if_pos rfl] at H;exact H
 clear H
 have H:=H1
 clear H1
 have H':=aM H
 clear H
 have p308:0≤(x35_2:Int):=dX
 have q308:x35_2<(y305.length:Int):=dX
 obtain ⟨ad308,e308,hx308_0⟩:=Kd.at_int (Kd.R_reads' HO_33.out).2.2 x35_2 p308 q308
 cases e308
 replace p308:=eq_true p308
 replace q308:=eq_true q308
 obtain ⟨Ao21,co21,eo21⟩:=Kd.R_slice HO_7.out
 subst eo21
 go_wp2_with (first|((with_reducible refine gate_callee (f:=119) rfl ?_);refine goesL_ (some 41) rfl rfl Try.func119 (by kernel_rfl) rfl #[.slice Ao21 x7_2.length co21,.int .i64 (rd y305 x35_2)] rfl aX ?_;(with_reducible refine(spec_l02Has.calls k2 _ _ x7_2 (rd y305 x35_2) true _ ?side1 ?side2 A19.out).mono ?_);(case side1=>exact cX (Kd.R_reads' HO_7.out).2.2);(case side2=>exact(Kd.R_reads' HO_7.out).2.1);rintro e w' ⟨rfl,⟨nd,rfl⟩⟩;refine ⟨_,rfl,?_⟩))
 go_roundg k2
 case measure=>have:=HK1.out;have:=HK2.out;omega
 case rel=>exact ⟨(x7_2),(wrap64 (x35_2+1)),vX,H',⟨by have:=HK1.out;have:=HK2.out;omega⟩,⟨rX HO_7.out⟩,⟨rX HO_33.out⟩,⟨bX HB.out⟩⟩
 }
 {
 replace c20:=Bool.eq_false_iff.mpr c20
 subst c20
 have H1:(if x7_2.length<17592186044416 then (spec_l02Reach.l1 k2 l0 l1 (x7_2 ++ [rd y305 x35_2]) x8_1 y305 (y305.length:Int) (wrap64 (x35_2+1))) else (none))=some r:=by rw [if_neg (show ¬ (false=true) by decide)] at H;exact H
 clear H
 have H:=H1
 clear H1
 by_cases c22:x7_2.length<17592186044416
 {
 rw [if_pos c22] at H
 have LMc22:=aM c22
 clear c22
 obtain ⟨y310,hy310⟩:∃ y_:List Int,y_=(x7_2 ++ [rd y305 x35_2]):=⟨_,rfl⟩
 replace H:(spec_l02Reach.l1 k2 l0 l1 y310 x8_1 y305 (y305.length:Int) (wrap64 (x35_2+1)))=some r:=by first|(rw [hy310];with_reducible exact H)|(have H2_:=(Option.bind_some _ _).symm.trans H;rw [hy310];with_reducible exact H2_)|(have H2_:=(Option.bind_some _ _).symm.trans H;with_reducible exact H2_)|with_reducible exact H|(rw [hy310];exact H)|exact H
 have Ny310:=aM hy310
 clear hy310
 have H':=aM H
 clear H
 have p308:0≤(x35_2:Int):=dX
 have q308:x35_2<(y305.length:Int):=dX
 obtain ⟨ad308,e308,hx308_0⟩:=Kd.at_int (Kd.R_reads' HO_33.out).2.2 x35_2 p308 q308
 cases e308
 replace p308:=eq_true p308
 replace q308:=eq_true q308
 obtain ⟨Ao23,co23,eo23⟩:=Kd.R_slice HO_7.out
 subst eo23
 go_wp2_with (first|((with_reducible refine gate_callee (f:=119) rfl ?_);refine goesL_ (some 41) rfl rfl Try.func119 (by kernel_rfl) rfl #[.slice Ao23 x7_2.length co23,.int .i64 (rd y305 x35_2)] rfl aX ?_;(with_reducible refine(spec_l02Has.calls k2 _ _ x7_2 (rd y305 x35_2) false _ ?side1 ?side2 A19.out).mono ?_);(case side1=>exact cX (Kd.R_reads' HO_7.out).2.2);(case side2=>exact(Kd.R_reads' HO_7.out).2.1);rintro e w' ⟨rfl,⟨nd,rfl⟩⟩;refine ⟨_,rfl,?_⟩)|((with_reducible refine gate_builtin (b:=.append) (xs:=#[.tmp 43,.tmp 45]) rfl ?_);at_builtin;refine Kd.R_append (Kd.int .i64) (w0:=w) w.heap.size rfl (.tmp 43) (.tmp 45) 22 3 (.int .i64 0) 8 rfl Try.underlying22 info3 rfl (by decide) (by omega) (.slice Ao23 x7_2.length co23) x7_2 (rd y305 x35_2) [.int .i64 (rd y305 x35_2)] (fun k_=>some k_≠(.slice (some ad308) y305.length co15:Value).ownBlock) (fun _=>False) rfl rfl ?aP (fun _ hk=>hk.elim) ?aF ?aO ?aB ?aS ?aL ?_;(case aP=>exact rfl);(case aB=>exact(bX HB.out));(case aF=>exact(fun k_ hk=>Kd.fresh' (Kd.R_lt (rX HO_33.out)) k_ hk));(case aO=>exact(rX HO_7.out));(case aS=>exact(below_size (bX HB.out)));(case aL=>have:=LMc22.out;omega);intro v311 w24 ho hb hg hat;rw [← Ny310.out] at ho;replace HO_33:=aM (Kd.R_after (ok:=(fun _=>True)) (rM HO_33.out (fun _ hk=>⟨trivial,hk⟩)) hg hat);replace HB:=aM (hb);have HO312:=aM (ho);clear HO_7 ho hb hg hat))
 go_roundg k2
 case measure=>have:=HK1.out;have:=HK2.out;omega
 case rel=>exact ⟨(y310),(wrap64 (x35_2+1)),vX,H',⟨by have:=HK1.out;have:=HK2.out;omega⟩,⟨rX HO312.out⟩,⟨rM HO_33.out (fun _ hk=>hk.2)⟩,⟨bX HB.out⟩⟩
 }
 {
 rw [if_neg c22] at H
 exact absurd H (by simp)
 }
 }
 }
 {
 rw [if_neg c18] at H
 exact absurd H (by simp)
 }
 }
 {
 rw [if_neg c17] at H
 exact absurd H (by simp)
 }
 }
 {
 rw [if_neg c16] at H
 have c16b0:=decide_eq_false c16
 clear c16
 have H':=aM H
 clear H
 go_wp2
 go_roundg k2
 case measure=>have:=HK1.out;have:=HK2.out;omega
 case rel=>exact ⟨(x7_2),(wrap64 (x8_1+1)),vX,H',⟨by have:=HK1.out;have:=HK2.out;omega⟩,⟨rM HO_7.out (fun _ hk=>trivial)⟩,⟨bX HB.out⟩⟩
 }
 }
 {
 rw [if_neg c10] at H
 exact absurd H (by simp)
 }
 }
 {
 rw [if_neg c9] at H
 exact absurd H (by simp)
 }
 }
 {
 rw [if_neg c8] at H
 exact absurd H (by simp)
 }
 }
 {
 rw [if_neg c7] at H
 exact absurd H (by simp)
 }
 }
 {
 rw [if_neg c6] at H
 have c6b0:=decide_eq_false c6
 clear c6
 obtain rfl:=Option.some.inj H
 obtain ⟨Ao25,co25,eo25⟩:=Kd.R_slice HO_7.out
 subst eo25
 go_wp2
 go_ret
 exact ⟨_,eX,by(with_reducible repeat(first|apply rA|apply rN|apply rD));exact HO_7.out,bX HB.out⟩
 }

/-! ### spec_IsTransitive: function 59 -/
def spec_IsTransitive.f (k:Nat) (l0:List Int) (l1:List Int):Option (Bool):=(spec_PermOk.f l0).bind fun t313=>(if t313=true then ((spec_PermOk.f l1).bind fun t314=>(if t314=true then (if (l0.length:Int)=(l1.length:Int) then (if (l0.length:Int) > 0 then ((spec_l02Reach.f k l0 l1 0).bind fun t315=>(some ((t315.length:Int) == (l0.length:Int)))) else (some false)) else (some false)) else (some false))) else (some false))
theorem spec_IsTransitive.calls (k:Nat) (A0:Option Addr) (c0:Nat) (l0:List Int) (A1:Option Addr) (c1:Nat) (l1:List Int) (r:Bool) (w:World) (hr0:Kd.C (Kd.int .i64) w A0 l0.length l0) (hc0:l0.length≤c0) (hr1:Kd.C (Kd.int .i64) w A1 l1.length l1) (hc1:l1.length≤c1) (h:spec_IsTransitive.f k l0 l1=some r) :
  Calls Try.prog 59 #[.slice A0 l0.length c0,.slice A1 l1.length c1] w fun e w'=>e = .returned (.bool r)∧Below w.heap.size w w':=by
 have HR0:=aM hr0
 have HC0:=aM hc0
 clear hr0 hc0
 have HR1:=aM hr1
 have HC1:=aM hc1
 clear hr1 hc1
 have HB:=aM (Below.refl w.heap.size w)
 have H:((spec_PermOk.f l0).bind fun t313=>(if t313=true then ((spec_PermOk.f l1).bind fun t314=>(if t314=true then (if (l0.length:Int)=(l1.length:Int) then (if (l0.length:Int) > 0 then ((spec_l02Reach.f k l0 l1 0).bind fun t315=>(some ((t315.length:Int) == (l0.length:Int)))) else (some false)) else (some false)) else (some false))) else (some false)))=some r:=h
 clear h
 replace H:=oB H
 obtain ⟨t313,A30,H⟩:=H
 have A3:=aM A30
 clear A30
 by_cases c4:t313=true
 {
 subst c4
 have H1:((spec_PermOk.f l1).bind fun t314=>(if t314=true then (if (l0.length:Int)=(l1.length:Int) then (if (l0.length:Int) > 0 then ((spec_l02Reach.f k l0 l1 0).bind fun t315=>(some ((t315.length:Int) == (l0.length:Int)))) else (some false)) else (some false)) else (some false)))=some r:=by rw [if_pos rfl] at H;exact H
 clear H
 have H:=H1
 clear H1
 replace H:=oB H
 obtain ⟨t314,A50,H⟩:=H
 have A5:=aM A50
 clear A50
 by_cases c6:t314=true
 {
 subst c6
 have H1:(if (l0.length:Int)=(l1.length:Int) then (if (l0.length:Int) > 0 then ((spec_l02Reach.f k l0 l1 0).bind fun t315=>(some ((t315.length:Int) == (l0.length:Int)))) else (some false)) else (some false))=some r:=by rw [if_pos rfl] at H;exact H
 clear H
 have H:=H1
 clear H1
 by_cases c7:(l0.length:Int)=(l1.length:Int)
 {
 rw [if_pos c7] at H
 have c7b0:((l0.length:Int) == (l1.length:Int))=true:=beq_iff_eq.mpr c7
 have c7b1:((l0.length:Int) != (l1.length:Int))=false:=bne_eq_false_iff_eq.mpr c7
 have c7b2:(l0.length == l1.length)=true:=by first|simpa using c7|(simp at c7 ⊢;omega)
 clear c7
 by_cases c8:(l0.length:Int) > 0
 {
 rw [if_pos c8] at H
 have c8b0:=decide_eq_true c8
 have c8b1:decide (0<l0.length)=true:=decide_eq_true (by omega)
 clear c8
 replace H:=oB H
 obtain ⟨t315,A90,H⟩:=H
 have A9:=aM A90
 clear A90
 obtain rfl:=Option.some.inj H
 go_enter Try.func59,Try.ntmps59
 go_wp2_with (first|((with_reducible refine gate_callee (f:=96) rfl ?_);refine goesL_ (some 6) rfl rfl Try.func96 (by kernel_rfl) rfl #[.slice A0 l0.length c0] rfl aX ?_;(with_reducible refine(spec_PermOk.calls _ _ l0 true _ ?side1 ?side2 A3.out).mono ?_);(case side1=>exact cX HR0.out);(case side2=>exact HC0.out);rintro e w' ⟨rfl,⟨nd,rfl⟩⟩;refine ⟨_,rfl,?_⟩)|(go_at_call 96;(with_reducible refine(spec_PermOk.calls _ _ l1 true _ ?side1 ?side2 A5.out).mono ?_);(case side1=>exact cX HR1.out);(case side2=>exact HC1.out);rintro e w' ⟨rfl,⟨nd,rfl⟩⟩)|(go_at_call 97;(with_reducible refine(spec_l02Reach.calls k _ _ l0 _ _ l1 0 t315 _ ?side1 ?side2 ?side3 ?side4 A9.out).mono ?_);(case side1=>exact cX HR0.out);(case side2=>exact HC0.out);(case side3=>exact cX HR1.out);(case side4=>exact HC1.out);rintro e w10 ⟨v316,rfl,ho0,hb⟩;have HO317:=aM (Kd.R_lower ho0 (below_size (bX HB.out)));replace HB:=aM (below_step (bX HB.out) hb);(try clear hb);(try clear ho0);obtain ⟨Ao11,co11,eo11⟩:=Kd.R_slice HO317.out;subst eo11))
 go_ret
 exact ⟨eX,bX HB.out⟩
 }
 {
 rw [if_neg c8] at H
 have c8b0:=decide_eq_false c8
 have c8b1:decide (0<l0.length)=false:=decide_eq_false (by omega)
 clear c8
 obtain rfl:=Option.some.inj H
 go_enter Try.func59,Try.ntmps59
 go_wp2_with (first|((with_reducible refine gate_callee (f:=96) rfl ?_);refine goesL_ (some 6) rfl rfl Try.func96 (by kernel_rfl) rfl #[.slice A0 l0.length c0] rfl aX ?_;(with_reducible refine(spec_PermOk.calls _ _ l0 true _ ?side1 ?side2 A3.out).mono ?_);(case side1=>exact cX HR0.out);(case side2=>exact HC0.out);rintro e w' ⟨rfl,⟨nd,rfl⟩⟩;refine ⟨_,rfl,?_⟩)|(go_at_call 96;(with_reducible refine(spec_PermOk.calls _ _ l1 true _ ?side1 ?side2 A5.out).mono ?_);(case side1=>exact cX HR1.out);(case side2=>exact HC1.out);rintro e w' ⟨rfl,⟨nd,rfl⟩⟩))
 go_ret
 exact ⟨eX,bX HB.out⟩
 }
 }
 {
 rw [if_neg c7] at H
 have c7b0:((l0.length:Int) == (l1.length:Int))=false:=beq_eq_false_iff_ne.mpr c7
 have c7b1:((l0.length:Int) != (l1.length:Int))=true:=bne_iff_ne.mpr c7
 have c7b2:(l0.length == l1.length)=false:=by first|simpa using c7|(simp at c7 ⊢;omega)
 obtain rfl:=Option.some.inj H
 go_enter Try.func59,Try.ntmps59
 go_wp2_with (first|((with_reducible refine gate_callee (f:=96) rfl ?_);refine goesL_ (some 6) rfl rfl Try.func96 (by kernel_rfl) rfl #[.slice A0 l0.length c0] rfl aX ?_;(with_reducible refine(spec_PermOk.calls _ _ l0 true _ ?side1 ?side2 A3.out).mono ?_);(case side1=>exact cX HR0.out);(case side2=>exact HC0.out);rintro e w' ⟨rfl,⟨nd,rfl⟩⟩;refine ⟨_,rfl,?_⟩)|(go_at_call 96;(with_reducible refine(spec_PermOk.calls _ _ l1 true _ ?side1 ?side2 A5.out).mono ?_);(case side1=>exact cX HR1.out);(case side2=>exact HC1.out);rintro e w' ⟨rfl,⟨nd,rfl⟩⟩))
 go_ret
 exact ⟨eX,bX HB.out⟩
 }
 }
 {
 replace c6:=Bool.eq_false_iff.mpr c6
 subst c6
 have H1:(some false)=some r:=by rw [if_neg (show ¬ (false=true) by decide)] at H;exact H
 clear H
 have H:=H1
 clear H1
 obtain rfl:=Option.some.inj H
 go_enter Try.func59,Try.ntmps59
 go_wp2_with (first|((with_reducible refine gate_callee (f:=96) rfl ?_);refine goesL_ (some 6) rfl rfl Try.func96 (by kernel_rfl) rfl #[.slice A0 l0.length c0] rfl aX ?_;(with_reducible refine(spec_PermOk.calls _ _ l0 true _ ?side1 ?side2 A3.out).mono ?_);(case side1=>exact cX HR0.out);(case side2=>exact HC0.out);rintro e w' ⟨rfl,⟨nd,rfl⟩⟩;refine ⟨_,rfl,?_⟩)|(go_at_call 96;(with_reducible refine(spec_PermOk.calls _ _ l1 false _ ?side1 ?side2 A5.out).mono ?_);(case side1=>exact cX HR1.out);(case side2=>exact HC1.out);rintro e w' ⟨rfl,⟨nd,rfl⟩⟩))
 go_ret
 exact ⟨eX,bX HB.out⟩
 }
 }
 {
 replace c4:=Bool.eq_false_iff.mpr c4
 subst c4
 have H1:(some false)=some r:=by rw [if_neg (show ¬ (false=true) by decide)] at H;exact H
 clear H
 have H:=H1
 clear H1
 obtain rfl:=Option.some.inj H
 go_enter Try.func59,Try.ntmps59
 go_wp2_with (first|((with_reducible refine gate_callee (f:=96) rfl ?_);refine goesL_ (some 6) rfl rfl Try.func96 (by kernel_rfl) rfl #[.slice A0 l0.length c0] rfl aX ?_;(with_reducible refine(spec_PermOk.calls _ _ l0 false _ ?side1 ?side2 A3.out).mono ?_);(case side1=>exact cX HR0.out);(case side2=>exact HC0.out);rintro e w' ⟨rfl,⟨nd,rfl⟩⟩;refine ⟨_,rfl,?_⟩))
 go_ret
 exact ⟨eX,bX HB.out⟩
 }

/-! ### spec_SurfaceOk: function 39 -/
def spec_SurfaceOk.f (k:Nat) (l0_0:List Int) (l0_1:List Int):Option (Bool):=(spec_IsTransitive.f k l0_0 l0_1).bind fun t319=>(some t319)
theorem spec_SurfaceOk.calls (k:Nat) (A0_0:Option Addr) (c0_0:Nat) (l0_0:List Int) (A0_1:Option Addr) (c0_1:Nat) (l0_1:List Int) (r:Bool) (w:World) (hr0_0:Kd.C (Kd.int .i64) w A0_0 l0_0.length l0_0) (hc0_0:l0_0.length≤c0_0) (hr0_1:Kd.C (Kd.int .i64) w A0_1 l0_1.length l0_1) (hc0_1:l0_1.length≤c0_1) (h:spec_SurfaceOk.f k l0_0 l0_1=some r) :
  Calls Try.prog 39 #[.agg #[.slice A0_0 l0_0.length c0_0,.slice A0_1 l0_1.length c0_1]] w fun e w'=>e = .returned (.bool r)∧Below w.heap.size w w':=by
 have hu27:=Try.underlying27
 have HR0_0:=aM hr0_0
 have HC0_0:=aM hc0_0
 clear hr0_0 hc0_0
 have HR0_1:=aM hr0_1
 have HC0_1:=aM hc0_1
 clear hr0_1 hc0_1
 have HB:=aM (Below.refl w.heap.size w)
 have H:((spec_IsTransitive.f k l0_0 l0_1).bind fun t319=>(some t319))=some r:=h
 clear h
 replace H:=oB H
 obtain ⟨t319,A20,H⟩:=H
 have A2:=aM A20
 clear A20
 obtain rfl:=Option.some.inj H
 go_enter Try.func39,Try.ntmps39
 go_wp2_with (first|((with_reducible refine gate_dst (N:=1) rfl ?_);refine bEv (cs:=#[.slice A0_0 l0_0.length c0_0,.slice A0_1 l0_1.length c0_1]) (t:=27) ?_;intro gb318 hg w3 hbox hb;have BK318:=aM (hbox);have GW318:=aM ((szX (below_size (bX HB.out)) hg:w.heap.size≤gb318));have GE318:=GW318;replace HB:=aM (below_step (bX HB.out) hb);clear hb hbox hg;obtain ⟨hcz4_0,hcz4_1,hfz4_0,hfz4_1⟩:=f2Z BK318.out)|((with_reducible refine gate_callee (f:=59) rfl ?_);refine goesL_ (some 7) rfl rfl Try.func59 (by kernel_rfl) rfl #[.slice A0_0 l0_0.length c0_0,.slice A0_1 l0_1.length c0_1] rfl aX ?_;(with_reducible refine(spec_IsTransitive.calls k _ _ l0_0 _ _ l0_1 t319 _ ?side1 ?side2 ?side3 ?side4 A2.out).mono ?_);(case side1=>exact cX (Kd.C_below HR0_0.out HB.out));(case side2=>exact HC0_0.out);(case side3=>exact cX (Kd.C_below HR0_1.out HB.out));(case side4=>exact HC0_1.out);rintro e w5 ⟨rfl,hb⟩;refine ⟨_,rfl,?_⟩;replace BK318:=aM (bbX BK318.out hb);replace HB:=aM (below_step (bX1 HB.out GE318.out) hb);(try clear hb)))
 go_ret
 exact ⟨eX,bX1 HB.out GE318.out⟩

/-! ### spec_SameList: function 98 -/
def spec_SameList.l0 : Nat→List Int→List Int→Int→Int→Option (Bool)
 | 0,_,_,_,_=>none
 | k+1,x1,x12,x13,x14=>if x14<x13 then (if 0≤x14 then (if x14<(x12.length:Int) then (if x14<(x1.length:Int) then (if (rd x12 x14)=(rd x1 x14) then (spec_SameList.l0 k x1 x12 x13 (wrap64 (x14+1))) else (some false)) else (none)) else (none)) else (none)) else (some true)
def spec_SameList.f (k:Nat) (l0:List Int) (l1:List Int):Option (Bool):=if (l0.length:Int)=(l1.length:Int) then (spec_SameList.l0 k l1 l0 (l0.length:Int) 0) else (some false)
theorem spec_SameList.calls (k:Nat) (A0:Option Addr) (c0:Nat) (l0:List Int) (A1:Option Addr) (c1:Nat) (l1:List Int) (r:Bool) (w:World) (hr0:Kd.C (Kd.int .i64) w A0 l0.length l0) (hc0:l0.length≤c0) (hr1:Kd.C (Kd.int .i64) w A1 l1.length l1) (hc1:l1.length≤c1) (h:spec_SameList.f k l0 l1=some r) :
  Calls Try.prog 98 #[.slice A0 l0.length c0,.slice A1 l1.length c1] w fun e w'=>e = .returned (.bool r)∧Drawn0 w w':=by
 have HR0:=aM hr0
 have HC0:=aM hc0
 clear hr0 hc0
 have HR1:=aM hr1
 have HC1:=aM hc1
 clear hr1 hc1
 have H:(if (l0.length:Int)=(l1.length:Int) then (spec_SameList.l0 k l1 l0 (l0.length:Int) 0) else (some false))=some r:=h
 clear h
 by_cases c3:(l0.length:Int)=(l1.length:Int)
 {
 rw [if_pos c3] at H
 have c3b0:((l0.length:Int) == (l1.length:Int))=true:=beq_iff_eq.mpr c3
 have c3b1:((l0.length:Int) != (l1.length:Int))=false:=bne_eq_false_iff_eq.mpr c3
 have c3b2:(l0.length == l1.length)=true:=by first|simpa using c3|(simp at c3 ⊢;omega)
 clear c3
 have H':=aM H
 clear H
 go_enter Try.func98,Try.ntmps98
 go_wp2
 go_loopg [14] k (fun kq v14 w'=>∃ (x14_1:Int),v14 = .int .i64 x14_1∧Aside0 (spec_SameList.l0 kq l1 l0 (l0.length:Int) x14_1=some r)∧Aside0 (kq≤k)∧Drawn0 w w')
 case atStart=>exact ⟨(0),vX,H',⟨Nat.le_refl _⟩,by repeat(first|exact Drawn0.refl _|apply Drawn0.step)⟩
 case round =>
 clear H'
 try clear c1
 try clear c3
 try clear c3b0
 try clear c3b1
 try clear c3b2
 obtain ⟨x14_1,rfl,HA,HK1,⟨m1,rfl⟩⟩:=hrel
 cases gk with
 | zero=>exact absurd HA.out (by simp [spec_SameList.l0])
 | succ k1 =>
 have H:=HA.out
 clear HA
 simp only [spec_SameList.l0] at H
 by_cases c4:x14_1<(l0.length:Int)
 {
 rw [if_pos c4] at H
 have c4b0:=decide_eq_true c4
 clear c4
 by_cases c5:0≤x14_1
 {
 rw [if_pos c5] at H
 have c5b0:=decide_eq_true c5
 clear c5
 by_cases c6:x14_1<(l0.length:Int)
 {
 rw [if_pos c6] at H
 have c6b0:=decide_eq_true c6
 clear c6
 by_cases c7:x14_1<(l1.length:Int)
 {
 rw [if_pos c7] at H
 have c7b0:=decide_eq_true c7
 clear c7
 by_cases c8:(rd l0 x14_1)=(rd l1 x14_1)
 {
 rw [if_pos c8] at H
 have c8b0:((rd l0 x14_1) == (rd l1 x14_1))=true:=beq_iff_eq.mpr c8
 have c8b1:((rd l0 x14_1) != (rd l1 x14_1))=false:=bne_eq_false_iff_eq.mpr c8
 clear c8
 have H':=aM H
 clear H
 have p320:0≤(x14_1:Int):=dX
 have q320:x14_1<(l0.length:Int):=dX
 obtain ⟨ad320,e320,hx320_0⟩:=Kd.at_int HR0.out x14_1 p320 q320
 cases e320
 replace p320:=eq_true p320
 replace q320:=eq_true q320
 have p321:0≤(x14_1:Int):=dX
 have q321:x14_1<(l1.length:Int):=dX
 obtain ⟨ad321,e321,hx321_0⟩:=Kd.at_int HR1.out x14_1 p321 q321
 cases e321
 replace p321:=eq_true p321
 replace q321:=eq_true q321
 go_wp2
 go_roundg k1
 case measure=>have:=HK1.out;omega
 case rel=>exact ⟨(wrap64 (x14_1+1)),vX,H',⟨by have:=HK1.out;omega⟩,by repeat(first|exact Drawn0.refl _|apply Drawn0.step)⟩
 }
 {
 rw [if_neg c8] at H
 have c8b0:((rd l0 x14_1) == (rd l1 x14_1))=false:=beq_eq_false_iff_ne.mpr c8
 have c8b1:((rd l0 x14_1) != (rd l1 x14_1))=true:=bne_iff_ne.mpr c8
 obtain rfl:=Option.some.inj H
 have p320:0≤(x14_1:Int):=dX
 have q320:x14_1<(l0.length:Int):=dX
 obtain ⟨ad320,e320,hx320_0⟩:=Kd.at_int HR0.out x14_1 p320 q320
 cases e320
 replace p320:=eq_true p320
 replace q320:=eq_true q320
 have p321:0≤(x14_1:Int):=dX
 have q321:x14_1<(l1.length:Int):=dX
 obtain ⟨ad321,e321,hx321_0⟩:=Kd.at_int HR1.out x14_1 p321 q321
 cases e321
 replace p321:=eq_true p321
 replace q321:=eq_true q321
 go_wp2
 go_ret
 exact ⟨by first|rfl|(simp;done)|(simp [*];done),by repeat(first|exact Drawn0.refl _|apply Drawn0.step)⟩
 }
 }
 {
 rw [if_neg c7] at H
 exact absurd H (by simp)
 }
 }
 {
 rw [if_neg c6] at H
 exact absurd H (by simp)
 }
 }
 {
 rw [if_neg c5] at H
 exact absurd H (by simp)
 }
 }
 {
 rw [if_neg c4] at H
 have c4b0:=decide_eq_false c4
 clear c4
 obtain rfl:=Option.some.inj H
 go_wp2
 go_ret
 exact ⟨by first|rfl|(simp;done)|(simp [*];done),by repeat(first|exact Drawn0.refl _|apply Drawn0.step)⟩
 }
 }
 {
 rw [if_neg c3] at H
 have c3b0:((l0.length:Int) == (l1.length:Int))=false:=beq_eq_false_iff_ne.mpr c3
 have c3b1:((l0.length:Int) != (l1.length:Int))=true:=bne_iff_ne.mpr c3
 have c3b2:(l0.length == l1.length)=false:=by first|simpa using c3|(simp at c3 ⊢;omega)
 obtain rfl:=Option.some.inj H
 go_enter Try.func98,Try.ntmps98
 go_wp2
 go_ret
 exact ⟨by first|rfl|(simp;done)|(simp [*];done),by repeat(first|exact Drawn0.refl _|apply Drawn0.step)⟩
 }

/-! ### spec_SameSurface: function 60 -/
def spec_SameSurface.f (k:Nat) (l0_0:List Int) (l0_1:List Int) (l1_0:List Int) (l1_1:List Int):Option (Bool):=(spec_SameList.f k l0_0 l1_0).bind fun t324=>(if t324=true then ((spec_SameList.f k l0_1 l1_1).bind fun t325=>(some t325)) else (some false))
theorem spec_SameSurface.calls (k:Nat) (A0_0:Option Addr) (c0_0:Nat) (l0_0:List Int) (A0_1:Option Addr) (c0_1:Nat) (l0_1:List Int) (A1_0:Option Addr) (c1_0:Nat) (l1_0:List Int) (A1_1:Option Addr) (c1_1:Nat) (l1_1:List Int) (r:Bool) (w:World) (hr0_0:Kd.C (Kd.int .i64) w A0_0 l0_0.length l0_0) (hc0_0:l0_0.length≤c0_0) (hr0_1:Kd.C (Kd.int .i64) w A0_1 l0_1.length l0_1) (hc0_1:l0_1.length≤c0_1) (hr1_0:Kd.C (Kd.int .i64) w A1_0 l1_0.length l1_0) (hc1_0:l1_0.length≤c1_0) (hr1_1:Kd.C (Kd.int .i64) w A1_1 l1_1.length l1_1) (hc1_1:l1_1.length≤c1_1) (h:spec_SameSurface.f k l0_0 l0_1 l1_0 l1_1=some r) :
  Calls Try.prog 60 #[.agg #[.slice A0_0 l0_0.length c0_0,.slice A0_1 l0_1.length c0_1],.agg #[.slice A1_0 l1_0.length c1_0,.slice A1_1 l1_1.length c1_1]] w fun e w'=>e = .returned (.bool r)∧Below w.heap.size w w':=by
 have hu27:=Try.underlying27
 have HR0_0:=aM hr0_0
 have HC0_0:=aM hc0_0
 clear hr0_0 hc0_0
 have HR0_1:=aM hr0_1
 have HC0_1:=aM hc0_1
 clear hr0_1 hc0_1
 have HR1_0:=aM hr1_0
 have HC1_0:=aM hc1_0
 clear hr1_0 hc1_0
 have HR1_1:=aM hr1_1
 have HC1_1:=aM hc1_1
 clear hr1_1 hc1_1
 have HB:=aM (Below.refl w.heap.size w)
 have H:((spec_SameList.f k l0_0 l1_0).bind fun t324=>(if t324=true then ((spec_SameList.f k l0_1 l1_1).bind fun t325=>(some t325)) else (some false)))=some r:=h
 clear h
 replace H:=oB H
 obtain ⟨t324,A30,H⟩:=H
 have A3:=aM A30
 clear A30
 by_cases c4:t324=true
 {
 subst c4
 have H1:((spec_SameList.f k l0_1 l1_1).bind fun t325=>(some t325))=some r:=by rw [if_pos rfl] at H;exact H
 clear H
 have H:=H1
 clear H1
 replace H:=oB H
 obtain ⟨t325,A50,H⟩:=H
 have A5:=aM A50
 clear A50
 obtain rfl:=Option.some.inj H
 go_enter Try.func60,Try.ntmps60
 go_wp2_with (first|((with_reducible refine gate_dst (N:=2) rfl ?_);refine bEv (cs:=#[.slice A0_0 l0_0.length c0_0,.slice A0_1 l0_1.length c0_1]) (t:=27) ?_;intro gb322 hg w6 hbox hb;have BK322:=aM (hbox);have GW322:=aM ((szX (below_size (bX HB.out)) hg:w.heap.size≤gb322));have GE322:=GW322;replace HB:=aM (below_step (bX HB.out) hb);clear hb hbox hg)|((with_reducible refine gate_dst (N:=3) rfl ?_);refine bEv (cs:=#[.slice A1_0 l1_0.length c1_0,.slice A1_1 l1_1.length c1_1]) (t:=27) ?_;intro gb323 hg w7 hbox hb;have BK323:=aM (hbox);have GW323:=aM ((szX (below_size (bX1 HB.out GE322.out)) hg:w.heap.size≤gb323));have GE323:=GW323;replace HB:=aM (below_step (bX1 HB.out GE322.out) hb);have NB322_323:=aM (neX BK322.out hg);have NB323_322:=aM (nfX BK322.out hg);replace BK322:=aM (bbX BK322.out hb);clear hb hbox hg;have hnb8:=NB322_323.out;have hnc8:=NB323_322.out;obtain ⟨hcz9_0,hcz9_1,hfz9_0,hfz9_1⟩:=f2Z BK322.out;have hcz10_0:w7.cell? ⟨gb323,0,none⟩=some (.slice A1_0 l1_0.length c1_0):=(blk_cell BK323.out 0).trans rfl;have hcz10_1:w7.cell? ⟨gb323,1,none⟩=some (.slice A1_1 l1_1.length c1_1):=(blk_cell BK323.out 1).trans rfl;have hfz10_0:=blk_frozen BK323.out 0;have hfz10_1:=blk_frozen BK323.out 1)|((with_reducible refine gate_callee (f:=98) rfl ?_);refine goesL_ (some 9) rfl rfl Try.func98 (by kernel_rfl) rfl #[.slice A0_0 l0_0.length c0_0,.slice A1_0 l1_0.length c1_0] rfl aX ?_;(with_reducible refine(spec_SameList.calls k _ _ l0_0 _ _ l1_0 true _ ?side1 ?side2 ?side3 ?side4 A3.out).mono ?_);(case side1=>exact cX (Kd.C_below HR0_0.out HB.out));(case side2=>exact HC0_0.out);(case side3=>exact cX (Kd.C_below HR1_0.out HB.out));(case side4=>exact HC1_0.out);rintro e w' ⟨rfl,⟨nd,rfl⟩⟩;refine ⟨_,rfl,?_⟩)|(go_at_call 98;(with_reducible refine(spec_SameList.calls k _ _ l0_1 _ _ l1_1 t325 _ ?side1 ?side2 ?side3 ?side4 A5.out).mono ?_);(case side1=>exact cX (Kd.C_below HR0_1.out (bX2 HB.out GE322.out GE323.out)));(case side2=>exact HC0_1.out);(case side3=>exact cX (Kd.C_below HR1_1.out (bX2 HB.out GE322.out GE323.out)));(case side4=>exact HC1_1.out);rintro e w' ⟨rfl,⟨nd,rfl⟩⟩))
 go_ret
 exact ⟨eX,bX2 HB.out GE322.out GE323.out⟩
 }
 {
 replace c4:=Bool.eq_false_iff.mpr c4
 subst c4
 have H1:(some false)=some r:=by rw [if_neg (show ¬ (false=true) by decide)] at H;exact H
 clear H
 have H:=H1
 clear H1
 obtain rfl:=Option.some.inj H
 go_enter Try.func60,Try.ntmps60
 go_wp2_with (first|((with_reducible refine gate_dst (N:=2) rfl ?_);refine bEv (cs:=#[.slice A0_0 l0_0.length c0_0,.slice A0_1 l0_1.length c0_1]) (t:=27) ?_;intro gb322 hg w11 hbox hb;have BK322:=aM (hbox);have GW322:=aM ((szX (below_size (bX HB.out)) hg:w.heap.size≤gb322));have GE322:=GW322;replace HB:=aM (below_step (bX HB.out) hb);clear hb hbox hg)|((with_reducible refine gate_dst (N:=3) rfl ?_);refine bEv (cs:=#[.slice A1_0 l1_0.length c1_0,.slice A1_1 l1_1.length c1_1]) (t:=27) ?_;intro gb323 hg w12 hbox hb;have BK323:=aM (hbox);have GW323:=aM ((szX (below_size (bX1 HB.out GE322.out)) hg:w.heap.size≤gb323));have GE323:=GW323;replace HB:=aM (below_step (bX1 HB.out GE322.out) hb);have NB322_323:=aM (neX BK322.out hg);have NB323_322:=aM (nfX BK322.out hg);replace BK322:=aM (bbX BK322.out hb);clear hb hbox hg;have hnb13:=NB322_323.out;have hnc13:=NB323_322.out;obtain ⟨hcz14_0,hcz14_1,hfz14_0,hfz14_1⟩:=f2Z BK322.out;have hcz15_0:w12.cell? ⟨gb323,0,none⟩=some (.slice A1_0 l1_0.length c1_0):=(blk_cell BK323.out 0).trans rfl;have hcz15_1:w12.cell? ⟨gb323,1,none⟩=some (.slice A1_1 l1_1.length c1_1):=(blk_cell BK323.out 1).trans rfl;have hfz15_0:=blk_frozen BK323.out 0;have hfz15_1:=blk_frozen BK323.out 1)|((with_reducible refine gate_callee (f:=98) rfl ?_);refine goesL_ (some 9) rfl rfl Try.func98 (by kernel_rfl) rfl #[.slice A0_0 l0_0.length c0_0,.slice A1_0 l1_0.length c1_0] rfl aX ?_;(with_reducible refine(spec_SameList.calls k _ _ l0_0 _ _ l1_0 false _ ?side1 ?side2 ?side3 ?side4 A3.out).mono ?_);(case side1=>exact cX (Kd.C_below HR0_0.out HB.out));(case side2=>exact HC0_0.out);(case side3=>exact cX (Kd.C_below HR1_0.out HB.out));(case side4=>exact HC1_0.out);rintro e w' ⟨rfl,⟨nd,rfl⟩⟩;refine ⟨_,rfl,?_⟩))
 go_ret
 exact ⟨eX,bX2 HB.out GE322.out GE323.out⟩
 }

/-! ### spec_l06Find: function 41 -/
def spec_l06Find.l0 : Nat→List (S27)→Int→Int→List Int→List Int→Option (Int)
 | 0,_,_,_,_,_=>none
 | k+1,x7,x8,x9,x327000,x327001=>if x9<x8 then (if 0≤x9 then (if x9<(x7.length:Int) then ((spec_SameSurface.f k ((rd_T27 x7 x9).f0) ((rd_T27 x7 x9).f1) x327000 x327001).bind fun t329=>(if t329=true then (some x9) else (spec_l06Find.l0 k x7 x8 (wrap64 (x9+1)) x327000 x327001))) else (none)) else (none)) else (some (-1))
def spec_l06Find.f (k:Nat) (l0:List (S27)) (l1_0:List Int) (l1_1:List Int):Option (Int):=spec_l06Find.l0 k l0 (l0.length:Int) 0 l1_0 l1_1
theorem spec_l06Find.calls (k:Nat) (A0:Option Addr) (c0:Nat) (l0:List (S27)) (A1_0:Option Addr) (c1_0:Nat) (l1_0:List Int) (A1_1:Option Addr) (c1_1:Nat) (l1_1:List Int) (r:Int) (w:World) (hr0:Kd.C k27 w A0 l0.length l0) (hc0:l0.length≤c0) (hr1_0:Kd.C (Kd.int .i64) w A1_0 l1_0.length l1_0) (hc1_0:l1_0.length≤c1_0) (hr1_1:Kd.C (Kd.int .i64) w A1_1 l1_1.length l1_1) (hc1_1:l1_1.length≤c1_1) (h:spec_l06Find.f k l0 l1_0 l1_1=some r) :
  Calls Try.prog 41 #[.slice A0 l0.length c0,.agg #[.slice A1_0 l1_0.length c1_0,.slice A1_1 l1_1.length c1_1]] w fun e w'=>e = .returned (.int .i64 r)∧Below w.heap.size w w':=by
 have hu27:=Try.underlying27
 have HR0:=aM hr0
 have HC0:=aM hc0
 clear hr0 hc0
 have HR1_0:=aM hr1_0
 have HC1_0:=aM hc1_0
 clear hr1_0 hc1_0
 have HR1_1:=aM hr1_1
 have HC1_1:=aM hc1_1
 clear hr1_1 hc1_1
 have HB:=aM (Below.refl w.heap.size w)
 have H:(spec_l06Find.l0 k l0 (l0.length:Int) 0 l1_0 l1_1)=some r:=h
 clear h
 have H':=aM H
 clear H
 go_enter Try.func41,Try.ntmps41
 go_wp2_with (first|((with_reducible refine gate_dst (N:=3) rfl ?_);refine bEv (cs:=#[.slice A1_0 l1_0.length c1_0,.slice A1_1 l1_1.length c1_1]) (t:=27) ?_;intro gb326 hg w3 hbox hb;have BK326:=aM (hbox);have GW326:=aM ((szX (below_size (bX HB.out)) hg:w.heap.size≤gb326));have GE326:=GW326;replace HB:=aM (below_step (bX HB.out) hb);clear hb hbox hg))
 go_loopg [9] k (fun kq v9 w'=>∃ (x9_1:Int),v9 = .int .i64 x9_1∧Aside0 (spec_l06Find.l0 kq l0 (l0.length:Int) x9_1 l1_0 l1_1=some r)∧Aside0 (kq≤k)∧Aside0 (w'.heap[gb326]? = some (.cells #[(.slice A1_0 l1_0.length c1_0),(.slice A1_1 l1_1.length c1_1)] 27 (0,0)))∧Aside0 (Below w.heap.size w w'))
 case atStart=>exact ⟨(0),vX,H',⟨Nat.le_refl _⟩,⟨kX BK326.out⟩,⟨bX1 HB.out GE326.out⟩⟩
 case round =>
 clear H'
 obtain ⟨x9_1,rfl,HA,HK1,BK326,HB⟩:=hrel
 cases gk with
 | zero=>exact absurd HA.out (by simp [spec_l06Find.l0])
 | succ k1 =>
 have H:=HA.out
 clear HA
 simp only [spec_l06Find.l0] at H
 by_cases c4:x9_1<(l0.length:Int)
 {
 rw [if_pos c4] at H
 have c4b0:=decide_eq_true c4
 clear c4
 by_cases c5:0≤x9_1
 {
 rw [if_pos c5] at H
 have c5b0:=decide_eq_true c5
 clear c5
 by_cases c6:x9_1<(l0.length:Int)
 {
 rw [if_pos c6] at H
 have c6b0:=decide_eq_true c6
 clear c6
 replace H:=oB H
 obtain ⟨t329,A70,H⟩:=H
 have A7:=aM A70
 clear A70
 by_cases c8:t329=true
 {
 subst c8
 have H1:(some x9_1)=some r:=by rw [if_pos rfl] at H;exact H
 clear H
 have H:=H1
 clear H1
 obtain rfl:=Option.some.inj H
 have p327:0≤(x9_1:Int):=dX
 have q327:x9_1<(l0.length:Int):=dX
 obtain ⟨ad327,A327_0,c327_0,A327_1,c327_1,e327,hx327_0,hx327_1,hl327_0,hi327_0,hl327_1,hi327_1⟩:=at_T27 HR0.out x9_1 p327 q327
 cases e327
 replace hx327_0:=(HB.out.cell (World.block_lt_of_cell? w _ hx327_0)).trans hx327_0
 replace hx327_1:=(HB.out.cell (World.block_lt_of_cell? w _ hx327_1)).trans hx327_1
 have HR327_0:=aM hi327_0
 have HC327_0:=aM hl327_0
 clear hi327_0 hl327_0
 have HR327_1:=aM hi327_1
 have HC327_1:=aM hl327_1
 clear hi327_1 hl327_1
 replace p327:=eq_true p327
 replace q327:=eq_true q327
 go_wp2_with (first|((with_reducible refine gate_dst (N:=6) rfl ?_);refine bEv (cs:=#[.slice none 0 0,.slice none 0 0]) (t:=27) ?_;intro gb328 hg w9 hbox hb;have BK328:=aM (hbox);have GW328:=aM ((szX (below_size (bX1 HB.out GE326.out)) hg:w.heap.size≤gb328));have GE328:=GW328;replace HB:=aM (below_step (bX1 HB.out GE326.out) hb);have NB326_328:=aM (neX BK326.out hg);have NB328_326:=aM (nfX BK326.out hg);replace BK326:=aM (bbX BK326.out hb);clear hb hbox hg;have hnb10:=NB328_326.out;have hnc10:=NB326_328.out;obtain ⟨hcz11_0,hcz11_1,hfz11_0,hfz11_1⟩:=f2Z BK328.out;obtain ⟨hcz12_0,hcz12_1,hfz12_0,hfz12_1⟩:=f2Z BK326.out)|((with_reducible refine gate_callee (f:=60) rfl ?_);refine goesL_ (some 16) rfl rfl Try.func60 (by kernel_rfl) rfl #[.agg #[.slice A327_0 ((rd_T27 l0 x9_1).f0).length c327_0,.slice A327_1 ((rd_T27 l0 x9_1).f1).length c327_1],.agg #[.slice A1_0 l1_0.length c1_0,.slice A1_1 l1_1.length c1_1]] rfl aX ?_;(with_reducible refine(spec_SameSurface.calls k1 _ _ ((rd_T27 l0 x9_1).f0) _ _ ((rd_T27 l0 x9_1).f1) _ _ l1_0 _ _ l1_1 true _ ?side1 ?side2 ?side3 ?side4 ?side5 ?side6 ?side7 ?side8 A7.out).mono ?_);(case side1=>exact Kd.C_below HR327_0.out (bX2 HB.out GE326.out GE328.out));(case side2=>exact HC327_0.out);(case side3=>exact Kd.C_below HR327_1.out (bX2 HB.out GE326.out GE328.out));(case side4=>exact HC327_1.out);(case side5=>exact Kd.C_below HR1_0.out (bX2 HB.out GE326.out GE328.out));(case side6=>exact HC1_0.out);(case side7=>exact Kd.C_below HR1_1.out (bX2 HB.out GE326.out GE328.out));(case side8=>exact HC1_1.out);rintro e w13 ⟨rfl,hb⟩;refine ⟨_,rfl,?_⟩;replace BK326:=aM (blk_below (g:=gb326) (o:=.cells #[.slice A1_0 l1_0.length c1_0,.slice A1_1 l1_1.length c1_1] 27 (0,0)) (by(with_reducible repeat(first|refine kN ?_ _|refine kD ?_|refine kA ?_ _));refine blk_far ?_ NB326_328.out _;(with_reducible repeat(first|refine kN ?_ _|refine kD ?_|refine kA ?_ _));refine blk_far ?_ NB326_328.out _;(with_reducible repeat(first|refine kN ?_ _|refine kD ?_|refine kA ?_ _));exact BK326.out) hb);replace BK328:=aM (blk_below (g:=gb328) (o:=.cells #[.slice A327_0 ((rd_T27 l0 x9_1).f0).length c327_0,.slice A327_1 ((rd_T27 l0 x9_1).f1).length c327_1] 27 (0,0)) (by(with_reducible repeat(first|refine kN ?_ _|refine kD ?_|refine kA ?_ _));refine blk_put (cs:=#[.slice A327_0 ((rd_T27 l0 x9_1).f0).length c327_0,.slice none 0 0]) ?_ 1 _ rfl;(with_reducible repeat(first|refine kN ?_ _|refine kD ?_|refine kA ?_ _));refine blk_put (cs:=#[.slice none 0 0,.slice none 0 0]) ?_ 0 _ rfl;(with_reducible repeat(first|refine kN ?_ _|refine kD ?_|refine kA ?_ _));exact BK328.out) hb);replace HB:=aM (below_step (bX2 HB.out GE326.out GE328.out) hb);(try clear hb)))
 go_ret
 exact ⟨eX,bX2 HB.out GE326.out GE328.out⟩
 }
 {
 replace c8:=Bool.eq_false_iff.mpr c8
 subst c8
 have H1:(spec_l06Find.l0 k1 l0 (l0.length:Int) (wrap64 (x9_1+1)) l1_0 l1_1)=some r:=by rw [if_neg (show ¬ (false=true) by decide)] at H;exact H
 clear H
 have H:=H1
 clear H1
 have H':=aM H
 clear H
 have p327:0≤(x9_1:Int):=dX
 have q327:x9_1<(l0.length:Int):=dX
 obtain ⟨ad327,A327_0,c327_0,A327_1,c327_1,e327,hx327_0,hx327_1,hl327_0,hi327_0,hl327_1,hi327_1⟩:=at_T27 HR0.out x9_1 p327 q327
 cases e327
 replace hx327_0:=(HB.out.cell (World.block_lt_of_cell? w _ hx327_0)).trans hx327_0
 replace hx327_1:=(HB.out.cell (World.block_lt_of_cell? w _ hx327_1)).trans hx327_1
 have HR327_0:=aM hi327_0
 have HC327_0:=aM hl327_0
 clear hi327_0 hl327_0
 have HR327_1:=aM hi327_1
 have HC327_1:=aM hl327_1
 clear hi327_1 hl327_1
 replace p327:=eq_true p327
 replace q327:=eq_true q327
 go_wp2_with (first|((with_reducible refine gate_dst (N:=6) rfl ?_);refine bEv (cs:=#[.slice none 0 0,.slice none 0 0]) (t:=27) ?_;intro gb328 hg w14 hbox hb;have BK328:=aM (hbox);have GW328:=aM ((szX (below_size (bX1 HB.out GE326.out)) hg:w.heap.size≤gb328));have GE328:=GW328;replace HB:=aM (below_step (bX1 HB.out GE326.out) hb);have NB326_328:=aM (neX BK326.out hg);have NB328_326:=aM (nfX BK326.out hg);replace BK326:=aM (bbX BK326.out hb);clear hb hbox hg;have hnb15:=NB328_326.out;have hnc15:=NB326_328.out;obtain ⟨hcz16_0,hcz16_1,hfz16_0,hfz16_1⟩:=f2Z BK328.out;obtain ⟨hcz17_0,hcz17_1,hfz17_0,hfz17_1⟩:=f2Z BK326.out)|((with_reducible refine gate_callee (f:=60) rfl ?_);refine goesL_ (some 16) rfl rfl Try.func60 (by kernel_rfl) rfl #[.agg #[.slice A327_0 ((rd_T27 l0 x9_1).f0).length c327_0,.slice A327_1 ((rd_T27 l0 x9_1).f1).length c327_1],.agg #[.slice A1_0 l1_0.length c1_0,.slice A1_1 l1_1.length c1_1]] rfl aX ?_;(with_reducible refine(spec_SameSurface.calls k1 _ _ ((rd_T27 l0 x9_1).f0) _ _ ((rd_T27 l0 x9_1).f1) _ _ l1_0 _ _ l1_1 false _ ?side1 ?side2 ?side3 ?side4 ?side5 ?side6 ?side7 ?side8 A7.out).mono ?_);(case side1=>exact Kd.C_below HR327_0.out (bX2 HB.out GE326.out GE328.out));(case side2=>exact HC327_0.out);(case side3=>exact Kd.C_below HR327_1.out (bX2 HB.out GE326.out GE328.out));(case side4=>exact HC327_1.out);(case side5=>exact Kd.C_below HR1_0.out (bX2 HB.out GE326.out GE328.out));(case side6=>exact HC1_0.out);(case side7=>exact Kd.C_below HR1_1.out (bX2 HB.out GE326.out GE328.out));(case side8=>exact HC1_1.out);rintro e w18 ⟨rfl,hb⟩;refine ⟨_,rfl,?_⟩;replace BK326:=aM (blk_below (g:=gb326) (o:=.cells #[.slice A1_0 l1_0.length c1_0,.slice A1_1 l1_1.length c1_1] 27 (0,0)) (by(with_reducible repeat(first|refine kN ?_ _|refine kD ?_|refine kA ?_ _));refine blk_far ?_ NB326_328.out _;(with_reducible repeat(first|refine kN ?_ _|refine kD ?_|refine kA ?_ _));refine blk_far ?_ NB326_328.out _;(with_reducible repeat(first|refine kN ?_ _|refine kD ?_|refine kA ?_ _));exact BK326.out) hb);replace BK328:=aM (blk_below (g:=gb328) (o:=.cells #[.slice A327_0 ((rd_T27 l0 x9_1).f0).length c327_0,.slice A327_1 ((rd_T27 l0 x9_1).f1).length c327_1] 27 (0,0)) (by(with_reducible repeat(first|refine kN ?_ _|refine kD ?_|refine kA ?_ _));refine blk_put (cs:=#[.slice A327_0 ((rd_T27 l0 x9_1).f0).length c327_0,.slice none 0 0]) ?_ 1 _ rfl;(with_reducible repeat(first|refine kN ?_ _|refine kD ?_|refine kA ?_ _));refine blk_put (cs:=#[.slice none 0 0,.slice none 0 0]) ?_ 0 _ rfl;(with_reducible repeat(first|refine kN ?_ _|refine kD ?_|refine kA ?_ _));exact BK328.out) hb);replace HB:=aM (below_step (bX2 HB.out GE326.out GE328.out) hb);(try clear hb)))
 go_roundg k1
 case measure=>have:=HK1.out;omega
 case rel=>exact ⟨(wrap64 (x9_1+1)),vX,H',⟨by have:=HK1.out;omega⟩,⟨kX BK326.out⟩,⟨bX2 HB.out GE326.out GE328.out⟩⟩
 }
 }
 {
 rw [if_neg c6] at H
 exact absurd H (by simp)
 }
 }
 {
 rw [if_neg c5] at H
 exact absurd H (by simp)
 }
 }
 {
 rw [if_neg c4] at H
 have c4b0:=decide_eq_false c4
 clear c4
 obtain rfl:=Option.some.inj H
 go_wp2
 go_ret
 exact ⟨eX,bX1 HB.out GE326.out⟩
 }

/-! ### spec_l02Rename: function 99 -/
def spec_l02Rename.l0 : Nat→List Int→List Int→List Int→Int→Int→Option (List Int)
 | 0,_,_,_,_,_=>none
 | k+1,x1,x5,x11,x12,x13=>if x13<x12 then (if 0≤x13 then (if x13<(x11.length:Int) then (if x13<(x1.length:Int) then (if 0≤(rd x11 x13) then (if (rd x11 x13)<(x1.length:Int) then (if 0≤(rd x1 x13) then (if (rd x1 x13)<(x5.length:Int) then (spec_l02Rename.l0 k x1 (x5.set ((rd x1 x13):Int).toNat (rd x1 (rd x11 x13))) x11 x12 (wrap64 (x13+1))) else (none)) else (none)) else (none)) else (none)) else (none)) else (none)) else (none)) else (some x5)
def spec_l02Rename.f (k:Nat) (l0:List Int) (l1:List Int):Option (List Int):=if 0≤(l0.length:Int) then (if ((l0.length:Int):Int).toNat≤35184372088832 then (spec_l02Rename.l0 k l1 (List.replicate ((l0.length:Int):Int).toNat 0) l0 (l0.length:Int) 0) else (none)) else (none)
def spec_l02Rename.T5 : Bool × List (List Nat × List Nat):=(true,[([],[]),([],[]),([],[]),([1,2],[1,2]),([3],[3]),([],[]),([],[]),([5,6],[5,6]),([7],[7]),([0,4,0,1,2,3,4,5,6,7,8],[0,4]),([9,8,0,1,2,3,4,5,6,7,8],[8,9])])
def spec_l02Rename.B5 : List Nat:=[0,0,0,6,14,0,0,96,224,511,1023]
theorem spec_l02Rename.tab5 : rtab .any (opsOf Try.f99 5)=spec_l02Rename.T5:=by kernel_rfl
theorem spec_l02Rename.bits5 : waitsOk spec_l02Rename.T5.2 spec_l02Rename.B5=true:=by kernel_rfl
theorem spec_l02Rename.calls (k:Nat) (A0:Option Addr) (c0:Nat) (l0:List Int) (A1:Option Addr) (c1:Nat) (l1:List Int) (r:List Int) (w:World) (hr0:Kd.C (Kd.int .i64) w A0 l0.length l0) (hc0:l0.length≤c0) (hr1:Kd.C (Kd.int .i64) w A1 l1.length l1) (hc1:l1.length≤c1) (h:spec_l02Rename.f k l0 l1=some r) :
  Calls Try.prog 99 #[.slice A0 l0.length c0,.slice A1 l1.length c1] w fun e w'=>∃ v0_:Value,e = .returned (v0_)∧Kd.R (Kd.int .i64) 3 w' w.heap.size (fun _=>True) v0_ r∧Below w.heap.size w w':=by
 have HR0:=aM hr0
 have HC0:=aM hc0
 clear hr0 hc0
 have HR1:=aM hr1
 have HC1:=aM hc1
 clear hr1 hc1
 have HB:=aM (Below.refl w.heap.size w)
 have H:(if 0≤(l0.length:Int) then (if ((l0.length:Int):Int).toNat≤35184372088832 then (spec_l02Rename.l0 k l1 (List.replicate ((l0.length:Int):Int).toNat 0) l0 (l0.length:Int) 0) else (none)) else (none))=some r:=h
 clear h
 by_cases c3:0≤(l0.length:Int)
 {
 rw [if_pos c3] at H
 have c3b0:=eq_true c3
 have c3b1:=decide_eq_true c3
 clear c3
 by_cases c4:((l0.length:Int):Int).toNat≤35184372088832
 {
 rw [if_pos c4] at H
 have c4b0:=eq_true c4
 have c4b1:=decide_eq_true c4
 clear c4
 obtain ⟨y330,hy330⟩:∃ y_:List Int,y_=(List.replicate ((l0.length:Int):Int).toNat 0):=⟨_,rfl⟩
 replace H:(spec_l02Rename.l0 k l1 y330 l0 (l0.length:Int) 0)=some r:=by first|(rw [hy330];with_reducible exact H)|(have H2_:=(Option.bind_some _ _).symm.trans H;rw [hy330];with_reducible exact H2_)|(have H2_:=(Option.bind_some _ _).symm.trans H;with_reducible exact H2_)|with_reducible exact H|(rw [hy330];exact H)|exact H
 have Ny330:=aM hy330
 clear hy330
 have H':=aM H
 clear H
 go_enter Try.func99,Try.ntmps99
 go_wp2_with (first|((with_reducible refine gate_dst (N:=10) rfl ?_);refine Kd.R_make (Kd.int .i64) _ 3 rfl (N:=10) rfl 22 _ _ rfl (l0.length:Int) rfl rfl Try.underlying22 (.int .i64 0) 8 info3 rfl (by decide) (by omega) 0 (ok:=fun _=>True) (okp:=fun _=>True) rfl (fun _ hk=>hk) trivial (dX) (Nat.le_trans (Nat.mul_le_mul_right _ (dX:(l0.length:Int).toNat≤35184372088832)) (by omega)) (Below.refl _ _) (Nat.le_refl _) ?_;intro v331 w5 ho6 hb hg_ hnew_;clear hg_ hnew_;(first|rw [← Ny330.out] at ho6|(simp only [Int.reduceToNat] at ho6;rw [← Ny330.out] at ho6));have HO332:=aM (Kd.R_lower ho6 (below_size (bX HB.out)));replace HB:=aM (below_step (bX HB.out) hb);clear hb ho6))
 go_loopg [13] k (fun kq v13 w'=>∃ (x5_1:List Int) (x13_1:Int),v13 = .int .i64 x13_1∧Aside0 (spec_l02Rename.l0 kq l1 x5_1 l0 (l0.length:Int) x13_1=some r)∧Aside0 (kq≤k)∧Aside0 (Kd.R (Kd.int .i64) 3 w' w.heap.size (fun _=>True) v331 x5_1)∧Aside0 (Below w.heap.size w w'))
 case atStart=>exact ⟨(y330),(0),vX,H',⟨Nat.le_refl _⟩,⟨rX HO332.out⟩,⟨bX HB.out⟩⟩
 case round =>
 clear H'
 try clear c1
 try clear c3
 try clear c3b0
 try clear c3b1
 try clear c4
 try clear c4b0
 try clear c4b1
 obtain ⟨x5_1,x13_1,rfl,HA,HK1,HO_5,HB⟩:=hrel
 cases gk with
 | zero=>exact absurd HA.out (by simp [spec_l02Rename.l0])
 | succ k1 =>
 have H:=HA.out
 clear HA
 simp only [spec_l02Rename.l0] at H
 by_cases c7:x13_1<(l0.length:Int)
 {
 rw [if_pos c7] at H
 have c7b0:=decide_eq_true c7
 clear c7
 by_cases c8:0≤x13_1
 {
 rw [if_pos c8] at H
 have c8b0:=decide_eq_true c8
 clear c8
 by_cases c9:x13_1<(l0.length:Int)
 {
 rw [if_pos c9] at H
 have c9b0:=decide_eq_true c9
 clear c9
 by_cases c10:x13_1<(l1.length:Int)
 {
 rw [if_pos c10] at H
 have c10b0:=decide_eq_true c10
 clear c10
 by_cases c11:0≤(rd l0 x13_1)
 {
 rw [if_pos c11] at H
 have c11b0:=decide_eq_true c11
 clear c11
 by_cases c12:(rd l0 x13_1)<(l1.length:Int)
 {
 rw [if_pos c12] at H
 have c12b0:=decide_eq_true c12
 clear c12
 by_cases c13:0≤(rd l1 x13_1)
 {
 rw [if_pos c13] at H
 have c13b0:=decide_eq_true c13
 clear c13
 by_cases c14:(rd l1 x13_1)<(x5_1.length:Int)
 {
 rw [if_pos c14] at H
 have c14b0:=decide_eq_true c14
 clear c14
 obtain ⟨y336,hy336⟩:∃ y_:List Int,y_=(x5_1.set ((rd l1 x13_1):Int).toNat (rd l1 (rd l0 x13_1))):=⟨_,rfl⟩
 replace H:(spec_l02Rename.l0 k1 l1 y336 l0 (l0.length:Int) (wrap64 (x13_1+1)))=some r:=by first|(rw [hy336];with_reducible exact H)|(have H2_:=(Option.bind_some _ _).symm.trans H;rw [hy336];with_reducible exact H2_)|(have H2_:=(Option.bind_some _ _).symm.trans H;with_reducible exact H2_)|with_reducible exact H|(rw [hy336];exact H)|exact H
 have Ny336:=aM hy336
 clear hy336
 have H':=aM H
 clear H
 have p333:0≤(x13_1:Int):=dX
 have q333:x13_1<(l0.length:Int):=dX
 obtain ⟨ad333,e333,hx333_0⟩:=Kd.at_int HR0.out x13_1 p333 q333
 cases e333
 replace hx333_0:=(HB.out.cell (World.block_lt_of_cell? w _ hx333_0)).trans hx333_0
 replace p333:=eq_true p333
 replace q333:=eq_true q333
 try go_wp2
 replace HO_5:=aM (Kd.R_drew HO_5.out)
 replace HB:=aM (below_drew1 HB.out)
 have p334:0≤(x13_1:Int):=dX
 have q334:x13_1<(l1.length:Int):=dX
 obtain ⟨ad334,e334,hx334_0⟩:=Kd.at_int HR1.out x13_1 p334 q334
 have hw334_0:=hx334_0
 cases e334
 replace hx334_0:=(HB.out.cell (World.block_lt_of_cell? w _ hx334_0)).trans hx334_0
 replace p334:=eq_true p334
 replace q334:=eq_true q334
 have p335:0≤((rd l0 x13_1):Int):=dX
 have q335:(rd l0 x13_1)<(l1.length:Int):=dX
 obtain ⟨ad335,e335,hx335_0⟩:=Kd.at_int HR1.out (rd l0 x13_1) p335 q335
 have hw335_0:=hx335_0
 obtain rfl:ad334=ad335:=(by injection e335)
 replace hx335_0:=(HB.out.cell (World.block_lt_of_cell? w _ hx335_0)).trans hx335_0
 replace p335:=eq_true p335
 replace q335:=eq_true q335
 have p15:0≤((rd l1 x13_1):Int):=dX
 have q15:((rd l1 x13_1):Int)<((x5_1.length:Int):Int):=dX
 obtain ⟨go15,co15,eo15,gb15,gl15,cl15,HG15⟩:=Kd.R_form HO_5.out (by omega)
 (first|cases eo15|(injection eo15 with ea_ en_ ec_;(first|subst ea_|(injection ea_ with ea_;subst ea_));subst ec_;clear en_))
 have GB15:=aM gb15
 have GG15:=aM HG15
 clear gb15 gl15 HG15
 obtain ⟨hx15_0,hf15_0⟩:=Kd.R_celln 0 HO_5.out ((rd l1 x13_1):Int) p15 q15
 replace p15:=eq_true p15
 replace q15:=eq_true q15
 have HP17:=Kd.R_putn HO_5.out ((rd l1 x13_1):Int) (rd l1 (rd l0 x13_1))
 rw [← Ny336.out] at HP17
 have HQ17:=aM HP17
 clear HP17
 refine start_ (n:=11) (S:=fun w'=>w'.cell? (ad334.add (x13_1).toNat)=some (.int .i64 (rd l1 x13_1))∧w'.cell? (ad334.add ((rd l0 x13_1)).toNat)=some (.int .i64 (rd l1 (rd l0 x13_1)))) (ds:=[10]) #[ff,ff,ff,ff,ff,ff,ff,ff,ff,ff,ff] (by kernel_rfl) rfl rfl ⟨((HB.out.cell (World.block_lt_of_cell? w _ hw334_0)).trans hw334_0),((HB.out.cell (World.block_lt_of_cell? w _ hw335_0)).trans hw335_0)⟩ (fun hHeld => ?_);refine with_tabW spec_l02Rename.tab5 spec_l02Rename.bits5 (fun HT_ HW_ => ?_)
 generalize wr.drew=w16 at HO_5 HB GG15 HQ17 hf15_0 hx15_0 hx334_0 hx335_0 hHeld ⊢
 refine pX 0 18 (fl 11 1) rfl rfl HT_.out ?_
 refine pX 1 19 (fl 11 3) rfl rfl HT_.out ?_
 refine pX 2 20 (fl 11 7) rfl rfl HT_.out ?_
 refine pX 3 21 (fl 11 15) rfl rfl HT_.out ?_
 refine pX 5 23 (fl 11 47) rfl rfl HT_.out ?_
 refine pX 6 24 (fl 11 111) rfl rfl HT_.out ?_
 refine pX 7 25 (fl 11 239) rfl rfl HT_.out ?_
 refine tX2 4 22 (fl 11 255) rfl rfl HT_.out HW_.out hHeld ?_
 refine tX2 8 26 (fl 11 511) rfl rfl HT_.out HW_.out hHeld ?_
 refine pX 9 27 (fl 11 1023) rfl rfl HT_.out ?_
 refine last_ (i:=10) (N:=none) #[tt,tt,tt,tt,tt,tt,tt,tt,tt,tt,tt] rfl rfl (one_of HT_.out (by kernel_rfl)) (by decide) (fun K hK => ?_)
 refine skip_ (w1:=?_) (by rfl) rfl ?_ ?_
 rotate_left
 {
 go_simp
 rfl
 }
 refine hK.out _ _ ?_
 clear hK K
 refine done_ (done_of HT_.out (by kernel_rfl)) ?_
 try go_wp2
 go_roundg k1
 case measure=>have:=HK1.out;omega
 case rel=>exact ⟨(y336),(wrap64 (x13_1+1)),vX,H',⟨by have:=HK1.out;omega⟩,⟨rX HQ17.out⟩,⟨bX1 HB.out GB15.out⟩⟩
 }
 {
 rw [if_neg c14] at H
 exact absurd H (by simp)
 }
 }
 {
 rw [if_neg c13] at H
 exact absurd H (by simp)
 }
 }
 {
 rw [if_neg c12] at H
 exact absurd H (by simp)
 }
 }
 {
 rw [if_neg c11] at H
 exact absurd H (by simp)
 }
 }
 {
 rw [if_neg c10] at H
 exact absurd H (by simp)
 }
 }
 {
 rw [if_neg c9] at H
 exact absurd H (by simp)
 }
 }
 {
 rw [if_neg c8] at H
 exact absurd H (by simp)
 }
 }
 {
 rw [if_neg c7] at H
 have c7b0:=decide_eq_false c7
 clear c7
 obtain rfl:=Option.some.inj H
 go_wp2
 go_ret
 exact ⟨_,eX,by(with_reducible repeat(first|apply rA|apply rN|apply rD));exact HO_5.out,bX HB.out⟩
 }
 }
 {
 rw [if_neg c4] at H
 exact absurd H (by simp)
 }
 }
 {
 rw [if_neg c3] at H
 exact absurd H (by simp)
 }

/-! ### spec_l03Rename: function 61 -/
def spec_l03Rename.f (k:Nat) (l0_0:List Int) (l0_1:List Int) (l1:List Int):Option (List Int × List Int):=(spec_l02Rename.f k l0_0 l1).bind fun t339=>((spec_l02Rename.f k l0_1 l1).bind fun t342=>(some (t339,t342)))
def spec_l03Rename.T1 : Bool × List (List Nat × List Nat):=(true,[([],[]),([0],[0]),([],[]),([1,2],[1,2]),([],[]),([4],[4]),([],[]),([5,6,3],[5,6]),([3,7],[3,7]),([8,7,0,1,2,3,4,5,6,7,8],[8])])
def spec_l03Rename.B1 : List Nat:=[0,1,0,7,0,16,0,127,255,511]
theorem spec_l03Rename.tab1 : rtab .any (opsOf Try.f61 1)=spec_l03Rename.T1:=by kernel_rfl
theorem spec_l03Rename.bits1 : waitsOk spec_l03Rename.T1.2 spec_l03Rename.B1=true:=by kernel_rfl
theorem spec_l03Rename.calls (k:Nat) (A0_0:Option Addr) (c0_0:Nat) (l0_0:List Int) (A0_1:Option Addr) (c0_1:Nat) (l0_1:List Int) (A1:Option Addr) (c1:Nat) (l1:List Int) (r1:List Int) (r2:List Int) (w:World) (hr0_0:Kd.C (Kd.int .i64) w A0_0 l0_0.length l0_0) (hc0_0:l0_0.length≤c0_0) (hr0_1:Kd.C (Kd.int .i64) w A0_1 l0_1.length l0_1) (hc0_1:l0_1.length≤c0_1) (hr1:Kd.C (Kd.int .i64) w A1 l1.length l1) (hc1:l1.length≤c1) (h:spec_l03Rename.f k l0_0 l0_1 l1=some (r1,r2)) :
  Calls Try.prog 61 #[.agg #[.slice A0_0 l0_0.length c0_0,.slice A0_1 l0_1.length c0_1],.slice A1 l1.length c1] w fun e w'=>∃ v0_ v1_:Value,e = .returned (.agg #[v0_,v1_])∧Kd.R (Kd.int .i64) 3 w' w.heap.size (fun k_=>some k_≠(v1_:Value).ownBlock) v0_ r1∧Kd.R (Kd.int .i64) 3 w' w.heap.size (fun k_=>some k_≠(v0_:Value).ownBlock) v1_ r2∧Below w.heap.size w w':=by
 have hu27:=Try.underlying27
 have HR0_0:=aM hr0_0
 have HC0_0:=aM hc0_0
 clear hr0_0 hc0_0
 have HR0_1:=aM hr0_1
 have HC0_1:=aM hc0_1
 clear hr0_1 hc0_1
 have HR1:=aM hr1
 have HC1:=aM hc1
 clear hr1 hc1
 have HB:=aM (Below.refl w.heap.size w)
 have H:((spec_l02Rename.f k l0_0 l1).bind fun t339=>((spec_l02Rename.f k l0_1 l1).bind fun t342=>(some (t339,t342))))=some (r1,r2):=h
 clear h
 replace H:=oB H
 obtain ⟨t339,A30,H⟩:=H
 have A3:=aM A30
 clear A30
 replace H:=oB H
 obtain ⟨t342,A40,H⟩:=H
 have A4:=aM A40
 clear A40
 simp only [Option.some.injEq,Prod.mk.injEq] at H
 obtain ⟨rfl,rfl⟩:=H
 go_enter Try.func61,Try.ntmps61
 try go_wp2_with (first|((with_reducible refine gate_dst (N:=2) rfl ?_);refine bEv (cs:=#[.slice A0_0 l0_0.length c0_0,.slice A0_1 l0_1.length c0_1]) (t:=27) ?_;intro gb337 hg w5 hbox hb;have BK337:=aM (hbox);have GW337:=aM ((szX (below_size (bX HB.out)) hg:w.heap.size≤gb337));have GE337:=GW337;replace HB:=aM (below_step (bX HB.out) hb);clear hb hbox hg)|((with_reducible refine gate_dst (N:=4) rfl ?_);refine bEv (cs:=#[.slice none 0 0,.slice none 0 0]) (t:=27) ?_;intro gb338 hg w6 hbox hb;have BK338:=aM (hbox);have GW338:=aM ((szX (below_size (bX1 HB.out GE337.out)) hg:w.heap.size≤gb338));have GE338:=GW338;replace HB:=aM (below_step (bX1 HB.out GE337.out) hb);have NB337_338:=aM (neX BK337.out hg);have NB338_337:=aM (nfX BK337.out hg);replace BK337:=aM (bbX BK337.out hb);clear hb hbox hg))
 replace BK337:=aM (blk_drew BK337.out)
 replace BK338:=aM (blk_drew BK338.out)
 replace HB:=aM (below_drew1 HB.out)
 refine start_ (n:=10) (S:=fun w'=>w'.cell? ⟨gb337,0,none⟩=some (.slice A0_0 l0_0.length c0_0)∧w'.cell? ⟨gb337,1,none⟩=some (.slice A0_1 l0_1.length c0_1)) (ds:=[]) #[ff,ff,ff,ff,ff,ff,ff,ff,ff,ff] (by kernel_rfl) rfl rfl ⟨cz20 BK337.out,cz21 BK337.out⟩ (fun hHeld => ?_);refine with_tabW spec_l03Rename.tab1 spec_l03Rename.bits1 (fun HT_ HW_ => ?_)
 generalize w6.drew=w7 at BK337 BK338 HB hHeld ⊢
 refine pX 0 5 (fl 10 1) rfl rfl HT_.out ?_
 refine pX 2 7 (fl 10 5) rfl rfl HT_.out ?_
 refine pX 4 9 (fl 10 21) rfl rfl HT_.out ?_
 refine pX 6 11 (fl 10 85) rfl rfl HT_.out ?_
 refine tX2 1 6 (fl 10 87) rfl rfl HT_.out HW_.out hHeld ?_
 refine tX2 5 10 (fl 10 119) rfl rfl HT_.out HW_.out hHeld ?_
 refine one_ (i:=3) (N:=some 8) #[tt,tt,tt,tt,tt,tt,tt,ff,ff,ff] rfl rfl (one_of HT_.out (by kernel_rfl)) (by decide) (fun K hK => ?_)
 refine goes_ Try.func99 (by kernel_rfl) rfl #[.slice A0_0 l0_0.length c0_0,.slice A1 l1.length c1] (by rfl) rfl rfl aX ?_
 with_reducible refine(spec_l02Rename.calls k _ _ l0_0 _ _ l1 t339 _ ?side1 ?side2 ?side3 ?side4 A3.out).mono ?_
 (case side1=>exact cX (Kd.C_below HR0_0.out HB.out))
 (case side2=>exact HC0_0.out)
 (case side3=>exact cX (Kd.C_below HR1.out HB.out))
 (case side4=>exact HC1.out)
 rintro e w8 ⟨v340,rfl,ho0,hb⟩
 refine ⟨_,rfl,?_⟩
 have HO341:=aM (Kd.R_lower ho0 (below_size (bX2 HB.out GE337.out GE338.out)))
 replace BK337:=aM (bbX BK337.out hb)
 replace BK338:=aM (bbX BK338.out hb)
 replace HB:=aM (below_step (bX2 HB.out GE337.out GE338.out) hb)
 (try clear hb)
 (try clear hk)
 (try clear ho0)
 refine hK.out _ _ ⟨cz20 BK337.out,cz21 BK337.out⟩ (fun hHeld => ?_)
 clear hK K
 refine norm_ (a':=?_) ?_ ?_
 rotate_left
 {
 show Act.put _ (some 8) _=_
 simp only [Act.put,zA,zB,zC,i64_w,i32_w]
 rfl
 }
 refine one_ (i:=7) (N:=some 12) #[tt,tt,tt,tt,tt,tt,tt,tt,ff,ff] rfl rfl (one_of HT_.out (by kernel_rfl)) (by decide) (fun K hK => ?_)
 refine goes_ Try.func99 (by kernel_rfl) rfl #[.slice A0_1 l0_1.length c0_1,.slice A1 l1.length c1] (by rfl) rfl rfl aX ?_
 with_reducible refine(spec_l02Rename.calls k _ _ l0_1 _ _ l1 t342 _ ?side1 ?side2 ?side3 ?side4 A4.out).mono ?_
 (case side1=>exact cX (Kd.C_below HR0_1.out HB.out))
 (case side2=>exact HC0_1.out)
 (case side3=>exact cX (Kd.C_below HR1.out HB.out))
 (case side4=>exact HC1.out)
 rintro e w9 ⟨v343,rfl,ho0,hb⟩
 refine ⟨_,rfl,?_⟩
 have HO344:=aM (Kd.R_lower (Kd.R_new' ho0 (Kd.R_lt (rX HO341.out))) (below_size (bX2 HB.out GE337.out GE338.out)))
 replace HO341:=aM (Kd.R_elder' (rX HO341.out) (Kd.R_base ho0) hb)
 replace BK337:=aM (bbX BK337.out hb)
 replace BK338:=aM (bbX BK338.out hb)
 replace HB:=aM (below_step (bX2 HB.out GE337.out GE338.out) hb)
 (try clear hb)
 (try clear hk)
 (try clear ho0)
 obtain ⟨Ao10,co10,eo10⟩:=Kd.R_slice HO344.out
 (first|subst eo10|(injection eo10 with f1_ f2_ f3_;have f4_:=f1_.symm;have f5_:=f3_.symm;clear f1_ f2_ f3_;subst f4_;subst f5_))
 obtain ⟨Ao11,co11,eo11⟩:=Kd.R_slice HO341.out
 (first|subst eo11|(injection eo11 with f1_ f2_ f3_;have f4_:=f1_.symm;have f5_:=f3_.symm;clear f1_ f2_ f3_;subst f4_;subst f5_))
 refine hK.out _ _ ⟨cz20 BK337.out,cz21 BK337.out⟩ (fun hHeld => ?_)
 clear hK K
 refine norm_ (a':=?_) ?_ ?_
 rotate_left
 {
 show Act.put _ (some 12) _=_
 simp only [Act.put,zA,zB,zC,i64_w,i32_w]
 rfl
 }
 refine pX 8 13 (fl 10 511) rfl rfl HT_.out ?_
 refine one_ (i:=9) (N:=none) #[tt,tt,tt,tt,tt,tt,tt,tt,tt,tt] rfl rfl (one_of HT_.out (by kernel_rfl)) (by decide) (fun K hK => ?_)
 have hs12:w9.cell? ⟨gb338,0,none⟩=some (.slice none 0 0):=cz20 BK338.out
 have hfs12:=blk_frozen BK338.out 0
 have hns12_0:=NB337_338.out
 have hms12_0:=NB338_337.out
 have hs13:w9.cell? ⟨gb338,1,none⟩=some (.slice none 0 0):=cz21 BK338.out
 have hfs13:=blk_frozen BK338.out 1
 have hns13_0:=NB337_338.out
 have hms13_0:=NB338_337.out
 refine skip_ (w1:=?_) (by rfl) rfl ?_ ?_
 rotate_left
 {
 go_simp
 rfl
 }
 refine hK.out _ _ ⟨((cell_far (p:=⟨gb338,_,none⟩) NB337_338.out _).trans (((cell_far (p:=⟨gb338,_,none⟩) NB337_338.out _).trans (hHeld.1)))),((cell_far (p:=⟨gb338,_,none⟩) NB337_338.out _).trans (((cell_far (p:=⟨gb338,_,none⟩) NB337_338.out _).trans (hHeld.2))))⟩ (fun hHeld => ?_)
 clear hK K
 refine done_ (done_of HT_.out (by kernel_rfl)) ?_
 try go_wp2
 refine bodyPost_ret (results_cell_row rfl _ _ gb338 27 #[.slice Ao11 t339.length co11,.slice Ao10 t342.length co10] (0,0) _ rfl (by(with_reducible repeat(first|refine kN ?_ _|refine kD ?_|refine kA ?_ _));refine blk_put (cs:=#[.slice Ao11 t339.length co11,.slice none 0 0]) ?_ 1 _ rfl;(with_reducible repeat(first|refine kN ?_ _|refine kD ?_|refine kA ?_ _));refine blk_put (cs:=#[.slice none 0 0,.slice none 0 0]) ?_ 0 _ rfl;(with_reducible repeat(first|refine kN ?_ _|refine kD ?_|refine kA ?_ _));exact BK338.out) Try.underlying27 rfl (by kernel_rfl)) rfl ?_
 exact ⟨_,_,eX,by(with_reducible repeat(first|apply rA|apply rN|apply rD));exact Kd.R_mono (Kd.R_far (p:=⟨gb338,1,none⟩) (Kd.R_far (p:=⟨gb338,0,none⟩) (Kd.R_types HO341.out BK338.out (by decide)) (fun _ hk=>hk.2) (.slice Ao11 t339.length co11)) (fun _ hk=>hk.2) (.slice Ao10 t342.length co10)) (fun _ hk=>hk.1.2),by(with_reducible repeat(first|apply rA|apply rN|apply rD));exact Kd.R_mono (Kd.R_far (p:=⟨gb338,1,none⟩) (Kd.R_far (p:=⟨gb338,0,none⟩) (Kd.R_types HO344.out BK338.out (by decide)) (fun _ hk=>hk.2) (.slice Ao11 t339.length co11)) (fun _ hk=>hk.2) (.slice Ao10 t342.length co10)) (fun _ hk=>hk.1.2),bX2 HB.out GE337.out GE338.out⟩

/-! ### spec_l02Inverse: function 100 -/
def spec_l02Inverse.l0 : Nat→List Int→List Int→Int→Int→Option (List Int)
 | 0,_,_,_,_=>none
 | k+1,x3,x9,x10,x11=>if x11<x10 then (if 0≤x11 then (if x11<(x9.length:Int) then (if 0≤(rd x9 x11) then (if (rd x9 x11)<(x3.length:Int) then (spec_l02Inverse.l0 k (x3.set ((rd x9 x11):Int).toNat x11) x9 x10 (wrap64 (x11+1))) else (none)) else (none)) else (none)) else (none)) else (some x3)
def spec_l02Inverse.f (k:Nat) (l0:List Int):Option (List Int):=if 0≤(l0.length:Int) then (if ((l0.length:Int):Int).toNat≤35184372088832 then (spec_l02Inverse.l0 k (List.replicate ((l0.length:Int):Int).toNat 0) l0 (l0.length:Int) 0) else (none)) else (none)
theorem spec_l02Inverse.calls (k:Nat) (A0:Option Addr) (c0:Nat) (l0:List Int) (r:List Int) (w:World) (hr0:Kd.C (Kd.int .i64) w A0 l0.length l0) (hc0:l0.length≤c0) (h:spec_l02Inverse.f k l0=some r) :
  Calls Try.prog 100 #[.slice A0 l0.length c0] w fun e w'=>∃ v0_:Value,e = .returned (v0_)∧Kd.R (Kd.int .i64) 3 w' w.heap.size (fun _=>True) v0_ r∧Below w.heap.size w w':=by
 have HR0:=aM hr0
 have HC0:=aM hc0
 clear hr0 hc0
 have HB:=aM (Below.refl w.heap.size w)
 have H:(if 0≤(l0.length:Int) then (if ((l0.length:Int):Int).toNat≤35184372088832 then (spec_l02Inverse.l0 k (List.replicate ((l0.length:Int):Int).toNat 0) l0 (l0.length:Int) 0) else (none)) else (none))=some r:=h
 clear h
 by_cases c2:0≤(l0.length:Int)
 {
 rw [if_pos c2] at H
 have c2b0:=eq_true c2
 have c2b1:=decide_eq_true c2
 clear c2
 by_cases c3:((l0.length:Int):Int).toNat≤35184372088832
 {
 rw [if_pos c3] at H
 have c3b0:=eq_true c3
 have c3b1:=decide_eq_true c3
 clear c3
 obtain ⟨y345,hy345⟩:∃ y_:List Int,y_=(List.replicate ((l0.length:Int):Int).toNat 0):=⟨_,rfl⟩
 replace H:(spec_l02Inverse.l0 k y345 l0 (l0.length:Int) 0)=some r:=by first|(rw [hy345];with_reducible exact H)|(have H2_:=(Option.bind_some _ _).symm.trans H;rw [hy345];with_reducible exact H2_)|(have H2_:=(Option.bind_some _ _).symm.trans H;with_reducible exact H2_)|with_reducible exact H|(rw [hy345];exact H)|exact H
 have Ny345:=aM hy345
 clear hy345
 have H':=aM H
 clear H
 go_enter Try.func100,Try.ntmps100
 go_wp2_with (first|((with_reducible refine gate_dst (N:=8) rfl ?_);refine Kd.R_make (Kd.int .i64) _ 3 rfl (N:=8) rfl 22 _ _ rfl (l0.length:Int) rfl rfl Try.underlying22 (.int .i64 0) 8 info3 rfl (by decide) (by omega) 0 (ok:=fun _=>True) (okp:=fun _=>True) rfl (fun _ hk=>hk) trivial (dX) (Nat.le_trans (Nat.mul_le_mul_right _ (dX:(l0.length:Int).toNat≤35184372088832)) (by omega)) (Below.refl _ _) (Nat.le_refl _) ?_;intro v346 w4 ho5 hb hg_ hnew_;clear hg_ hnew_;(first|rw [← Ny345.out] at ho5|(simp only [Int.reduceToNat] at ho5;rw [← Ny345.out] at ho5));have HO347:=aM (Kd.R_lower ho5 (below_size (bX HB.out)));replace HB:=aM (below_step (bX HB.out) hb);clear hb ho5))
 go_loopg [11] k (fun kq v11 w'=>∃ (x3_1:List Int) (x11_1:Int),v11 = .int .i64 x11_1∧Aside0 (spec_l02Inverse.l0 kq x3_1 l0 (l0.length:Int) x11_1=some r)∧Aside0 (kq≤k)∧Aside0 (Kd.R (Kd.int .i64) 3 w' w.heap.size (fun _=>True) v346 x3_1)∧Aside0 (Below w.heap.size w w'))
 case atStart=>exact ⟨(y345),(0),vX,H',⟨Nat.le_refl _⟩,⟨rX HO347.out⟩,⟨bX HB.out⟩⟩
 case round =>
 clear H'
 try clear c2
 try clear c2b0
 try clear c2b1
 try clear c3
 try clear c3b0
 try clear c3b1
 obtain ⟨x3_1,x11_1,rfl,HA,HK1,HO_3,HB⟩:=hrel
 cases gk with
 | zero=>exact absurd HA.out (by simp [spec_l02Inverse.l0])
 | succ k1 =>
 have H:=HA.out
 clear HA
 simp only [spec_l02Inverse.l0] at H
 by_cases c6:x11_1<(l0.length:Int)
 {
 rw [if_pos c6] at H
 have c6b0:=decide_eq_true c6
 clear c6
 by_cases c7:0≤x11_1
 {
 rw [if_pos c7] at H
 have c7b0:=decide_eq_true c7
 clear c7
 by_cases c8:x11_1<(l0.length:Int)
 {
 rw [if_pos c8] at H
 have c8b0:=decide_eq_true c8
 clear c8
 by_cases c9:0≤(rd l0 x11_1)
 {
 rw [if_pos c9] at H
 have c9b0:=decide_eq_true c9
 clear c9
 by_cases c10:(rd l0 x11_1)<(x3_1.length:Int)
 {
 rw [if_pos c10] at H
 have c10b0:=decide_eq_true c10
 clear c10
 obtain ⟨y349,hy349⟩:∃ y_:List Int,y_=(x3_1.set ((rd l0 x11_1):Int).toNat x11_1):=⟨_,rfl⟩
 replace H:(spec_l02Inverse.l0 k1 y349 l0 (l0.length:Int) (wrap64 (x11_1+1)))=some r:=by first|(rw [hy349];with_reducible exact H)|(have H2_:=(Option.bind_some _ _).symm.trans H;rw [hy349];with_reducible exact H2_)|(have H2_:=(Option.bind_some _ _).symm.trans H;with_reducible exact H2_)|with_reducible exact H|(rw [hy349];exact H)|exact H
 have Ny349:=aM hy349
 clear hy349
 have H':=aM H
 clear H
 have p348:0≤(x11_1:Int):=dX
 have q348:x11_1<(l0.length:Int):=dX
 obtain ⟨ad348,e348,hx348_0⟩:=Kd.at_int HR0.out x11_1 p348 q348
 cases e348
 replace hx348_0:=(HB.out.cell (World.block_lt_of_cell? w _ hx348_0)).trans hx348_0
 replace p348:=eq_true p348
 replace q348:=eq_true q348
 have p11:0≤((rd l0 x11_1):Int):=dX
 have q11:((rd l0 x11_1):Int)<((x3_1.length:Int):Int):=dX
 obtain ⟨go11,co11,eo11,gb11,gl11,cl11,HG11⟩:=Kd.R_form HO_3.out (by omega)
 (first|cases eo11|(injection eo11 with ea_ en_ ec_;(first|subst ea_|(injection ea_ with ea_;subst ea_));subst ec_;clear en_))
 have GB11:=aM gb11
 have GG11:=aM HG11
 clear gb11 gl11 HG11
 obtain ⟨hx11_0,hf11_0⟩:=Kd.R_celln 0 HO_3.out ((rd l0 x11_1):Int) p11 q11
 replace p11:=eq_true p11
 replace q11:=eq_true q11
 have HP12:=Kd.R_putg HO_3.out ((rd l0 x11_1):Int) x11_1
 go_wp2_with (first|((with_reducible refine gate_store (t:=3) (p:=19) rfl ?_);refine store_event (t:=3) (p:=19) (v:=?vo_w13) (w1:=(wr.setCell ⟨go11,((rd l0 x11_1):Int).toNat,none⟩ (.int .i64 x11_1))) ?hg ?ho ?hn ?hr ?_;(case ho=>rfl);(case hg=>rfl);(case hn=>rfl);(case hr=>first|(go_simp;done)|(go_simp;rfl));intro w13 hw;have hg:wr.grownBy w13 (some go11):=(by rw [hw];exact HP12.2);have hp_:Kd.R (Kd.int .i64) 3 w13 w.heap.size (fun _=>True) (.slice (some ⟨go11,0,none⟩) x3_1.length co11) y349:=(by rw [hw,Ny349.out];exact HP12.1);clear HP12;replace HO_3:=aM (hp_);replace HB:=aM ((by rw [hw];exact below_set (HB.out) GB11.out:Below w.heap.size w w13));clear hg hw hp_))
 go_roundg k1
 case measure=>have:=HK1.out;omega
 case rel=>exact ⟨(y349),(wrap64 (x11_1+1)),vX,H',⟨by have:=HK1.out;omega⟩,⟨rX HO_3.out⟩,⟨bX HB.out⟩⟩
 }
 {
 rw [if_neg c10] at H
 exact absurd H (by simp)
 }
 }
 {
 rw [if_neg c9] at H
 exact absurd H (by simp)
 }
 }
 {
 rw [if_neg c8] at H
 exact absurd H (by simp)
 }
 }
 {
 rw [if_neg c7] at H
 exact absurd H (by simp)
 }
 }
 {
 rw [if_neg c6] at H
 have c6b0:=decide_eq_false c6
 clear c6
 obtain rfl:=Option.some.inj H
 go_wp2
 go_ret
 exact ⟨_,eX,by(with_reducible repeat(first|apply rA|apply rN|apply rD));exact HO_3.out,bX HB.out⟩
 }
 }
 {
 rw [if_neg c3] at H
 exact absurd H (by simp)
 }
 }
 {
 rw [if_neg c2] at H
 exact absurd H (by simp)
 }

/-! ### spec_l03Names: function 62 -/
def spec_l03Names.f (k:Nat) (l0_0:List Int) (l0_1:List Int) (a1:Int):Option (List Int):=(spec_l02Reach.f k l0_0 l0_1 a1).bind fun t351=>((spec_l02Inverse.f k t351).bind fun t354=>(some t354))
theorem spec_l03Names.calls (k:Nat) (A0_0:Option Addr) (c0_0:Nat) (l0_0:List Int) (A0_1:Option Addr) (c0_1:Nat) (l0_1:List Int) (a1:Int) (r:List Int) (w:World) (hr0_0:Kd.C (Kd.int .i64) w A0_0 l0_0.length l0_0) (hc0_0:l0_0.length≤c0_0) (hr0_1:Kd.C (Kd.int .i64) w A0_1 l0_1.length l0_1) (hc0_1:l0_1.length≤c0_1) (h:spec_l03Names.f k l0_0 l0_1 a1=some r) :
  Calls Try.prog 62 #[.agg #[.slice A0_0 l0_0.length c0_0,.slice A0_1 l0_1.length c0_1],.int .i64 a1] w fun e w'=>∃ v0_:Value,e = .returned (v0_)∧Kd.R (Kd.int .i64) 3 w' w.heap.size (fun _=>True) v0_ r∧Below w.heap.size w w':=by
 have hu27:=Try.underlying27
 have HR0_0:=aM hr0_0
 have HC0_0:=aM hc0_0
 clear hr0_0 hc0_0
 have HR0_1:=aM hr0_1
 have HC0_1:=aM hc0_1
 clear hr0_1 hc0_1
 have HB:=aM (Below.refl w.heap.size w)
 have H:((spec_l02Reach.f k l0_0 l0_1 a1).bind fun t351=>((spec_l02Inverse.f k t351).bind fun t354=>(some t354)))=some r:=h
 clear h
 replace H:=oB H
 obtain ⟨t351,A30,H⟩:=H
 have A3:=aM A30
 clear A30
 replace H:=oB H
 obtain ⟨t354,A40,H⟩:=H
 have A4:=aM A40
 clear A40
 obtain rfl:=Option.some.inj H
 go_enter Try.func62,Try.ntmps62
 go_wp2_with (first|((with_reducible refine gate_dst (N:=2) rfl ?_);refine bEv (cs:=#[.slice A0_0 l0_0.length c0_0,.slice A0_1 l0_1.length c0_1]) (t:=27) ?_;intro gb350 hg w5 hbox hb;have BK350:=aM (hbox);have GW350:=aM ((szX (below_size (bX HB.out)) hg:w.heap.size≤gb350));have GE350:=GW350;replace HB:=aM (below_step (bX HB.out) hb);clear hb hbox hg;obtain ⟨hcz6_0,hcz6_1,hfz6_0,hfz6_1⟩:=f2Z BK350.out)|((with_reducible refine gate_callee (f:=97) rfl ?_);refine goesL_ (some 10) rfl rfl Try.func97 (by kernel_rfl) rfl #[.slice A0_0 l0_0.length c0_0,.slice A0_1 l0_1.length c0_1,.int .i64 a1] rfl aX ?_;(with_reducible refine(spec_l02Reach.calls k _ _ l0_0 _ _ l0_1 a1 t351 _ ?side1 ?side2 ?side3 ?side4 A3.out).mono ?_);(case side1=>exact cX (Kd.C_below HR0_0.out HB.out));(case side2=>exact HC0_0.out);(case side3=>exact cX (Kd.C_below HR0_1.out HB.out));(case side4=>exact HC0_1.out);rintro e w7 ⟨v352,rfl,ho0,hb⟩;refine ⟨_,rfl,?_⟩;have HO353:=aM (Kd.R_lower ho0 (below_size (bX1 HB.out GE350.out)));replace BK350:=aM (bbX BK350.out hb);replace HB:=aM (below_step (bX1 HB.out GE350.out) hb);(try clear hb);(try clear hk);(try clear ho0);obtain ⟨Ao8,co8,eo8⟩:=Kd.R_slice HO353.out;subst eo8)|((with_reducible refine gate_callee (f:=100) rfl ?_);refine goesL_ (some 11) rfl rfl Try.func100 (by kernel_rfl) rfl #[.slice Ao8 t351.length co8] rfl aX ?_;(with_reducible refine(spec_l02Inverse.calls k _ _ t351 t354 _ ?side1 ?side2 A4.out).mono ?_);(case side1=>exact cX (Kd.R_reads' HO353.out).2.2);(case side2=>exact(Kd.R_reads' HO353.out).2.1);rintro e w9 ⟨v355,rfl,ho0,hb⟩;refine ⟨_,rfl,?_⟩;have HO356:=aM (Kd.R_lower (Kd.R_new' ho0 (Kd.R_lt (rX HO353.out))) (below_size (bX1 HB.out GE350.out)));replace HO353:=aM (Kd.R_elder' (rX HO353.out) (Kd.R_base ho0) hb);replace BK350:=aM (bbX BK350.out hb);replace HB:=aM (below_step (bX1 HB.out GE350.out) hb);(try clear hb);(try clear hk);(try clear ho0)))
 go_ret
 exact ⟨_,eX,by(with_reducible repeat(first|apply rA|apply rN|apply rD));exact Kd.R_mono HO356.out (fun _ hk=>trivial),bX1 HB.out GE350.out⟩

/-! ### spec_l03Less: function 101 -/
def spec_l03Less.l0 : Nat→List Int→List Int→Int→Int→Option (Bool)
 | 0,_,_,_,_=>none
 | k+1,x1,x7,x8,x9=>if x9<x8 then (if 0≤x9 then (if x9<(x7.length:Int) then (if x9<(x1.length:Int) then (if (rd x7 x9)=(rd x1 x9) then (spec_l03Less.l0 k x1 x7 x8 (wrap64 (x9+1))) else (some (decide ((rd x7 x9)<(rd x1 x9))))) else (none)) else (none)) else (none)) else (some false)
def spec_l03Less.f (k:Nat) (l0:List Int) (l1:List Int):Option (Bool):=spec_l03Less.l0 k l1 l0 (l0.length:Int) 0
theorem spec_l03Less.calls (k:Nat) (A0:Option Addr) (c0:Nat) (l0:List Int) (A1:Option Addr) (c1:Nat) (l1:List Int) (r:Bool) (w:World) (hr0:Kd.C (Kd.int .i64) w A0 l0.length l0) (hc0:l0.length≤c0) (hr1:Kd.C (Kd.int .i64) w A1 l1.length l1) (hc1:l1.length≤c1) (h:spec_l03Less.f k l0 l1=some r) :
  Calls Try.prog 101 #[.slice A0 l0.length c0,.slice A1 l1.length c1] w fun e w'=>e = .returned (.bool r)∧Drawn0 w w':=by
 have HR0:=aM hr0
 have HC0:=aM hc0
 clear hr0 hc0
 have HR1:=aM hr1
 have HC1:=aM hc1
 clear hr1 hc1
 have H:(spec_l03Less.l0 k l1 l0 (l0.length:Int) 0)=some r:=h
 clear h
 have H':=aM H
 clear H
 go_enter Try.func101,Try.ntmps101
 go_wp2
 go_loopg [9] k (fun kq v9 w'=>∃ (x9_1:Int),v9 = .int .i64 x9_1∧Aside0 (spec_l03Less.l0 kq l1 l0 (l0.length:Int) x9_1=some r)∧Aside0 (kq≤k)∧Drawn0 w w')
 case atStart=>exact ⟨(0),vX,H',⟨Nat.le_refl _⟩,by repeat(first|exact Drawn0.refl _|apply Drawn0.step)⟩
 case round =>
 clear H'
 try clear c1
 obtain ⟨x9_1,rfl,HA,HK1,⟨m1,rfl⟩⟩:=hrel
 cases gk with
 | zero=>exact absurd HA.out (by simp [spec_l03Less.l0])
 | succ k1 =>
 have H:=HA.out
 clear HA
 simp only [spec_l03Less.l0] at H
 by_cases c3:x9_1<(l0.length:Int)
 {
 rw [if_pos c3] at H
 have c3b0:=decide_eq_true c3
 clear c3
 by_cases c4:0≤x9_1
 {
 rw [if_pos c4] at H
 have c4b0:=decide_eq_true c4
 clear c4
 by_cases c5:x9_1<(l0.length:Int)
 {
 rw [if_pos c5] at H
 have c5b0:=decide_eq_true c5
 clear c5
 by_cases c6:x9_1<(l1.length:Int)
 {
 rw [if_pos c6] at H
 have c6b0:=decide_eq_true c6
 clear c6
 by_cases c7:(rd l0 x9_1)=(rd l1 x9_1)
 {
 rw [if_pos c7] at H
 have c7b0:((rd l0 x9_1) == (rd l1 x9_1))=true:=beq_iff_eq.mpr c7
 have c7b1:((rd l0 x9_1) != (rd l1 x9_1))=false:=bne_eq_false_iff_eq.mpr c7
 clear c7
 have H':=aM H
 clear H
 have p357:0≤(x9_1:Int):=dX
 have q357:x9_1<(l0.length:Int):=dX
 obtain ⟨ad357,e357,hx357_0⟩:=Kd.at_int HR0.out x9_1 p357 q357
 cases e357
 replace p357:=eq_true p357
 replace q357:=eq_true q357
 have p358:0≤(x9_1:Int):=dX
 have q358:x9_1<(l1.length:Int):=dX
 obtain ⟨ad358,e358,hx358_0⟩:=Kd.at_int HR1.out x9_1 p358 q358
 cases e358
 replace p358:=eq_true p358
 replace q358:=eq_true q358
 go_wp2
 go_roundg k1
 case measure=>have:=HK1.out;omega
 case rel=>exact ⟨(wrap64 (x9_1+1)),vX,H',⟨by have:=HK1.out;omega⟩,by repeat(first|exact Drawn0.refl _|apply Drawn0.step)⟩
 }
 {
 rw [if_neg c7] at H
 have c7b0:((rd l0 x9_1) == (rd l1 x9_1))=false:=beq_eq_false_iff_ne.mpr c7
 have c7b1:((rd l0 x9_1) != (rd l1 x9_1))=true:=bne_iff_ne.mpr c7
 obtain rfl:=Option.some.inj H
 have p357:0≤(x9_1:Int):=dX
 have q357:x9_1<(l0.length:Int):=dX
 obtain ⟨ad357,e357,hx357_0⟩:=Kd.at_int HR0.out x9_1 p357 q357
 cases e357
 replace p357:=eq_true p357
 replace q357:=eq_true q357
 have p358:0≤(x9_1:Int):=dX
 have q358:x9_1<(l1.length:Int):=dX
 obtain ⟨ad358,e358,hx358_0⟩:=Kd.at_int HR1.out x9_1 p358 q358
 cases e358
 replace p358:=eq_true p358
 replace q358:=eq_true q358
 have p359:0≤(x9_1:Int):=dX
 have q359:x9_1<(l1.length:Int):=dX
 obtain ⟨ad359,e359,hx359_0⟩:=Kd.at_int HR1.out x9_1 p359 q359
 obtain rfl:ad358=ad359:=(by injection e359)
 replace p359:=eq_true p359
 replace q359:=eq_true q359
 go_wp2
 go_ret
 exact ⟨by first|rfl|(simp;done)|(simp [*];done),by repeat(first|exact Drawn0.refl _|apply Drawn0.step)⟩
 }
 }
 {
 rw [if_neg c6] at H
 exact absurd H (by simp)
 }
 }
 {
 rw [if_neg c5] at H
 exact absurd H (by simp)
 }
 }
 {
 rw [if_neg c4] at H
 exact absurd H (by simp)
 }
 }
 {
 rw [if_neg c3] at H
 have c3b0:=decide_eq_false c3
 clear c3
 obtain rfl:=Option.some.inj H
 go_wp2
 go_ret
 exact ⟨by first|rfl|(simp;done)|(simp [*];done),by repeat(first|exact Drawn0.refl _|apply Drawn0.step)⟩
 }

/-! ### spec_l03Before: function 63 -/
def spec_l03Before.f (k:Nat) (l0_0:List Int) (l0_1:List Int) (l1_0:List Int) (l1_1:List Int):Option (Bool):=(spec_SameList.f k l0_0 l1_0).bind fun t362=>(if t362=true then ((spec_l03Less.f k l0_1 l1_1).bind fun t363=>(some t363)) else ((spec_l03Less.f k l0_0 l1_0).bind fun t364=>(some t364)))
theorem spec_l03Before.calls (k:Nat) (A0_0:Option Addr) (c0_0:Nat) (l0_0:List Int) (A0_1:Option Addr) (c0_1:Nat) (l0_1:List Int) (A1_0:Option Addr) (c1_0:Nat) (l1_0:List Int) (A1_1:Option Addr) (c1_1:Nat) (l1_1:List Int) (r:Bool) (w:World) (hr0_0:Kd.C (Kd.int .i64) w A0_0 l0_0.length l0_0) (hc0_0:l0_0.length≤c0_0) (hr0_1:Kd.C (Kd.int .i64) w A0_1 l0_1.length l0_1) (hc0_1:l0_1.length≤c0_1) (hr1_0:Kd.C (Kd.int .i64) w A1_0 l1_0.length l1_0) (hc1_0:l1_0.length≤c1_0) (hr1_1:Kd.C (Kd.int .i64) w A1_1 l1_1.length l1_1) (hc1_1:l1_1.length≤c1_1) (h:spec_l03Before.f k l0_0 l0_1 l1_0 l1_1=some r) :
  Calls Try.prog 63 #[.agg #[.slice A0_0 l0_0.length c0_0,.slice A0_1 l0_1.length c0_1],.agg #[.slice A1_0 l1_0.length c1_0,.slice A1_1 l1_1.length c1_1]] w fun e w'=>e = .returned (.bool r)∧Below w.heap.size w w':=by
 have hu27:=Try.underlying27
 have HR0_0:=aM hr0_0
 have HC0_0:=aM hc0_0
 clear hr0_0 hc0_0
 have HR0_1:=aM hr0_1
 have HC0_1:=aM hc0_1
 clear hr0_1 hc0_1
 have HR1_0:=aM hr1_0
 have HC1_0:=aM hc1_0
 clear hr1_0 hc1_0
 have HR1_1:=aM hr1_1
 have HC1_1:=aM hc1_1
 clear hr1_1 hc1_1
 have HB:=aM (Below.refl w.heap.size w)
 have H:((spec_SameList.f k l0_0 l1_0).bind fun t362=>(if t362=true then ((spec_l03Less.f k l0_1 l1_1).bind fun t363=>(some t363)) else ((spec_l03Less.f k l0_0 l1_0).bind fun t364=>(some t364))))=some r:=h
 clear h
 replace H:=oB H
 obtain ⟨t362,A30,H⟩:=H
 have A3:=aM A30
 clear A30
 by_cases c4:t362=true
 {
 subst c4
 have H1:((spec_l03Less.f k l0_1 l1_1).bind fun t363=>(some t363))=some r:=by rw [if_pos rfl] at H;exact H
 clear H
 have H:=H1
 clear H1
 replace H:=oB H
 obtain ⟨t363,A50,H⟩:=H
 have A5:=aM A50
 clear A50
 obtain rfl:=Option.some.inj H
 go_enter Try.func63,Try.ntmps63
 go_wp2_with (first|((with_reducible refine gate_dst (N:=2) rfl ?_);refine bEv (cs:=#[.slice A0_0 l0_0.length c0_0,.slice A0_1 l0_1.length c0_1]) (t:=27) ?_;intro gb360 hg w6 hbox hb;have BK360:=aM (hbox);have GW360:=aM ((szX (below_size (bX HB.out)) hg:w.heap.size≤gb360));have GE360:=GW360;replace HB:=aM (below_step (bX HB.out) hb);clear hb hbox hg)|((with_reducible refine gate_dst (N:=3) rfl ?_);refine bEv (cs:=#[.slice A1_0 l1_0.length c1_0,.slice A1_1 l1_1.length c1_1]) (t:=27) ?_;intro gb361 hg w7 hbox hb;have BK361:=aM (hbox);have GW361:=aM ((szX (below_size (bX1 HB.out GE360.out)) hg:w.heap.size≤gb361));have GE361:=GW361;replace HB:=aM (below_step (bX1 HB.out GE360.out) hb);have NB360_361:=aM (neX BK360.out hg);have NB361_360:=aM (nfX BK360.out hg);replace BK360:=aM (bbX BK360.out hb);clear hb hbox hg;have hnb8:=NB360_361.out;have hnc8:=NB361_360.out;obtain ⟨hcz9_0,hcz9_1,hfz9_0,hfz9_1⟩:=f2Z BK360.out;have hcz10_0:w7.cell? ⟨gb361,0,none⟩=some (.slice A1_0 l1_0.length c1_0):=(blk_cell BK361.out 0).trans rfl;have hcz10_1:w7.cell? ⟨gb361,1,none⟩=some (.slice A1_1 l1_1.length c1_1):=(blk_cell BK361.out 1).trans rfl;have hfz10_0:=blk_frozen BK361.out 0;have hfz10_1:=blk_frozen BK361.out 1)|((with_reducible refine gate_callee (f:=98) rfl ?_);refine goesL_ (some 9) rfl rfl Try.func98 (by kernel_rfl) rfl #[.slice A0_0 l0_0.length c0_0,.slice A1_0 l1_0.length c1_0] rfl aX ?_;(with_reducible refine(spec_SameList.calls k _ _ l0_0 _ _ l1_0 true _ ?side1 ?side2 ?side3 ?side4 A3.out).mono ?_);(case side1=>exact cX (Kd.C_below HR0_0.out HB.out));(case side2=>exact HC0_0.out);(case side3=>exact cX (Kd.C_below HR1_0.out HB.out));(case side4=>exact HC1_0.out);rintro e w' ⟨rfl,⟨nd,rfl⟩⟩;refine ⟨_,rfl,?_⟩)|((with_reducible refine gate_callee (f:=101) rfl ?_);refine goesL_ (some 14) rfl rfl Try.func101 (by kernel_rfl) rfl #[.slice A0_1 l0_1.length c0_1,.slice A1_1 l1_1.length c1_1] rfl aX ?_;(with_reducible refine(spec_l03Less.calls k _ _ l0_1 _ _ l1_1 t363 _ ?side1 ?side2 ?side3 ?side4 A5.out).mono ?_);(case side1=>exact cX (Kd.C_below HR0_1.out (bX2 HB.out GE360.out GE361.out)));(case side2=>exact HC0_1.out);(case side3=>exact cX (Kd.C_below HR1_1.out (bX2 HB.out GE360.out GE361.out)));(case side4=>exact HC1_1.out);rintro e w' ⟨rfl,⟨nd,rfl⟩⟩;refine ⟨_,rfl,?_⟩))
 go_ret
 exact ⟨eX,bX2 HB.out GE360.out GE361.out⟩
 }
 {
 replace c4:=Bool.eq_false_iff.mpr c4
 subst c4
 have H1:((spec_l03Less.f k l0_0 l1_0).bind fun t364=>(some t364))=some r:=by rw [if_neg (show ¬ (false=true) by decide)] at H;exact H
 clear H
 have H:=H1
 clear H1
 replace H:=oB H
 obtain ⟨t364,A110,H⟩:=H
 have A11:=aM A110
 clear A110
 obtain rfl:=Option.some.inj H
 go_enter Try.func63,Try.ntmps63
 go_wp2_with (first|((with_reducible refine gate_dst (N:=2) rfl ?_);refine bEv (cs:=#[.slice A0_0 l0_0.length c0_0,.slice A0_1 l0_1.length c0_1]) (t:=27) ?_;intro gb360 hg w12 hbox hb;have BK360:=aM (hbox);have GW360:=aM ((szX (below_size (bX HB.out)) hg:w.heap.size≤gb360));have GE360:=GW360;replace HB:=aM (below_step (bX HB.out) hb);clear hb hbox hg)|((with_reducible refine gate_dst (N:=3) rfl ?_);refine bEv (cs:=#[.slice A1_0 l1_0.length c1_0,.slice A1_1 l1_1.length c1_1]) (t:=27) ?_;intro gb361 hg w13 hbox hb;have BK361:=aM (hbox);have GW361:=aM ((szX (below_size (bX1 HB.out GE360.out)) hg:w.heap.size≤gb361));have GE361:=GW361;replace HB:=aM (below_step (bX1 HB.out GE360.out) hb);have NB360_361:=aM (neX BK360.out hg);have NB361_360:=aM (nfX BK360.out hg);replace BK360:=aM (bbX BK360.out hb);clear hb hbox hg;have hnb14:=NB360_361.out;have hnc14:=NB361_360.out;obtain ⟨hcz15_0,hcz15_1,hfz15_0,hfz15_1⟩:=f2Z BK360.out;have hcz16_0:w13.cell? ⟨gb361,0,none⟩=some (.slice A1_0 l1_0.length c1_0):=(blk_cell BK361.out 0).trans rfl;have hcz16_1:w13.cell? ⟨gb361,1,none⟩=some (.slice A1_1 l1_1.length c1_1):=(blk_cell BK361.out 1).trans rfl;have hfz16_0:=blk_frozen BK361.out 0;have hfz16_1:=blk_frozen BK361.out 1)|((with_reducible refine gate_callee (f:=98) rfl ?_);refine goesL_ (some 9) rfl rfl Try.func98 (by kernel_rfl) rfl #[.slice A0_0 l0_0.length c0_0,.slice A1_0 l1_0.length c1_0] rfl aX ?_;(with_reducible refine(spec_SameList.calls k _ _ l0_0 _ _ l1_0 false _ ?side1 ?side2 ?side3 ?side4 A3.out).mono ?_);(case side1=>exact cX (Kd.C_below HR0_0.out HB.out));(case side2=>exact HC0_0.out);(case side3=>exact cX (Kd.C_below HR1_0.out HB.out));(case side4=>exact HC1_0.out);rintro e w' ⟨rfl,⟨nd,rfl⟩⟩;refine ⟨_,rfl,?_⟩)|((with_reducible refine gate_callee (f:=101) rfl ?_);refine goesL_ (some 19) rfl rfl Try.func101 (by kernel_rfl) rfl #[.slice A0_0 l0_0.length c0_0,.slice A1_0 l1_0.length c1_0] rfl aX ?_;(with_reducible refine(spec_l03Less.calls k _ _ l0_0 _ _ l1_0 t364 _ ?side1 ?side2 ?side3 ?side4 A11.out).mono ?_);(case side1=>exact cX (Kd.C_below HR0_0.out (bX2 HB.out GE360.out GE361.out)));(case side2=>exact HC0_0.out);(case side3=>exact cX (Kd.C_below HR1_0.out (bX2 HB.out GE360.out GE361.out)));(case side4=>exact HC1_0.out);rintro e w' ⟨rfl,⟨nd,rfl⟩⟩;refine ⟨_,rfl,?_⟩))
 go_ret
 exact ⟨eX,bX2 HB.out GE360.out GE361.out⟩
 }

end Go.Proofs.Ytmhjcbcjpidegaa.S
