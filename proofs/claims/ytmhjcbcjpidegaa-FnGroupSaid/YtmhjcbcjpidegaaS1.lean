-- PRINTED by print.py (a twelfth state) out of the translation. Not trusted: Lean checks it.
import Derived.Test.YtmhjcbcjpidegaaS0
namespace Go.Proofs.Ytmhjcbcjpidegaa.S
set_option maxHeartbeats 8000000
set_option maxRecDepth 100000
open Go.RowKit Go.Proofs.YtmhjcbcjpidegaaW.PrintWords Go.Proofs.YtmhjcbcjpidegaaW.PrintLast Go.Proofs.YtmhjcbcjpidegaaW.PrintMore
attribute [local go_sem] max2_int min2_int max_two min_two max_three min_three max_four min_four   -- for this text's walks alone
set_option linter.unusedVariables false
set_option linter.unusedSimpArgs false

/-! ### impl_PermOk: function 117 -/
/-! by hand -/
def permGo (n:Int):List Int→List Bool→Bool
  | [],_=>true
  | x :: xs,seen=>if x<0 then false else if n≤x then false else if seen.getD x.toNat false=true then false else permGo n xs (seen.set x.toNat true)
def no24 : List Bool:=List.replicate 24 false
theorem no24_len : no24.length=24:=rfl
def permB (p:List Int):Bool:=if p.length≤24 then permGo p.length p no24 else false
def impl_PermOk.f (l0:List Int):Option Bool:=some (permB l0)
def flags (l:List Bool):Array Value:=(bools l).toArray
theorem flags_size (l:List Bool):(flags l).size=l.length:=by simp [flags,bools]
theorem flags_one (l:List Bool):(flags l).all (·.oneCell')=true:=by
 simp [flags,bools,Value.oneCell']
theorem flags_get (l:List Bool) (i:Int) (h0:0≤i) (h:i<l.length):(flags l)[i.toNat]? = some (.bool (l.getD i.toNat false)):=by
 have:i.toNat<l.length:=by omega
 simp [flags,bools,this]
theorem flags_set (l:List Bool) (i:Nat) (b:Bool):(flags l).setIfInBounds i (.bool b)=flags (l.set i b):=by
 simp [flags,bools]
theorem impl_PermOk.calls_le (A0:Option Addr) (c0:Nat) (l0:List (Int)) (r:Bool) (w:World) (hr0:Kd.C (Kd.int .i64) w A0 l0.length l0) (hc0:l0.length≤c0) (hle:l0.length≤24) (hres:permGo l0.length l0 no24=r) :
    Calls Try.prog 117 #[.slice A0 l0.length c0] w fun e w'=>e = .returned (.bool r)∧Below w.heap.size w w':=by
  have HR0:=aM hr0
  clear hr0
  have HRES:=aM hres
  clear hres
  have hu:=Try.underlying130
  have hb24:decide (24<(l0.length:Int))=false:=decide_eq_false (by omega)
  have HF:Aside0 (flags no24=#[.bool false,.bool false,.bool false,.bool false,.bool false,.bool false,.bool false,.bool false,.bool false,.bool false,.bool false,.bool false,.bool false,.bool false,.bool false,.bool false,.bool false,.bool false,.bool false,.bool false,.bool false,.bool false,.bool false,.bool false]):=⟨rfl⟩
  go_enter Try.func117,Try.ntmps117
  go_wp2_with (first
    | ((with_reducible refine gate_dst (N:=6) rfl ?_);refine wpList_build rfl 130 #[] rfl (by kernel_rfl) ?_;rw [show (Value.agg ((Try.prog.built 130 ((#[]:Array (Nat × Operand)).map fun (i,x)=>(i,Act.eval _ x)).toList).getD #[])) = .agg (flags no24) from by kernel_rfl])
    | ((with_reducible refine gate_dst (N:=3) rfl ?_);refine box_event ?hg (N:=3) ?hd (cs:=flags no24) (t:=130) ?hr ?_;(case hd=>rfl);(case hg=>rfl);(case hr=>rw [HF.out];first|(go_simp;done)|(go_simp;rfl));intro gb hg w8 hbox hb;have BK:=aM hbox;have HB:=aM hb;have GB:=aM hg;clear hbox hb hg)
    | (refine wpList_store_row rfl 130 (.tmp 3) (.tmp 6) rfl gb (flags no24) rfl rfl 130 (flags no24) BK.out (by kernel_rfl) rfl (flags_one _) ?_))
  have HC:=aM (show (w8.setRow gb (flags no24)).heap[gb]? = some (.cells (flags no24) 130 (0,0)) from setRow_heap w8 gb (flags no24) (flags no24) 130 _ BK.out)
  have HB2:=aM (show Below w.heap.size w (w8.setRow gb (flags no24)) from below_setRow HB.out (by rw [GB.out];exact Nat.le_refl _) _)
  go_loopg [12] (l0.length+1) (fun kq v12 w'=>∃ (i:Int) (seen:List Bool),v12 = .int .i64 i∧Aside0 (0≤i∧i≤l0.length∧(kq:Int)+i=l0.length+1∧seen.length=24∧permGo l0.length (l0.drop i.toNat) seen=r)∧Aside0 (w'.heap[gb]? = some (.cells (flags seen) 130 (0,0)))∧Aside0 (Below w.heap.size w w'))
  case atStart=>exact ⟨0,no24,rfl,⟨by omega,by omega,by simp,no24_len,HRES.out⟩,HC,HB2⟩
  case round =>
    clear HC HB2 BK HB
    obtain ⟨i,seen,rfl,HI,HC,HB⟩:=hrel
    obtain ⟨hi0,hi1,hik,hsl,hgo⟩:=HI.out
    clear HI
    obtain ⟨k1,rfl⟩:∃ m,gk=m+1:=⟨gk - 1,by omega⟩
    have HGO:=aM hgo
    have HK:=aM hik
    clear hgo hik
    by_cases hlt:i<(l0.length:Int)
    · have c1:decide (i<(l0.length:Int))=true:=decide_eq_true hlt
      obtain ⟨ad,ead,hx⟩:=Kd.at_int (Kd.C_below HR0.out HB.out) i hi0 hlt
      cases ead
      have hdrop:l0.drop i.toNat=rd l0 i :: l0.drop (i+1).toNat:=by
        have h1:i.toNat<l0.length:=by omega
        rw [show (i+1).toNat=i.toNat+1 by omega,List.drop_eq_getElem_cons h1]
        simp [rd,List.getD,h1]
      have HD:=aM hdrop
      clear hdrop
      generalize hX:rd l0 i=x at *
      have HX:=aM hX
      clear hX
      have p0:decide (0≤i)=true:=decide_eq_true hi0
      have HW:=aM (show wrap64 (i+1)=i+1 from by unfold wrap64;omega)
      replace hi0:=eq_true hi0
      replace hlt:=eq_true hlt
      by_cases h1:x<0
      · have c2:decide (x<0)=true:=decide_eq_true h1
        have hr:r=false:=by
          have:=HGO.out
          rw [HD.out] at this
          simp only [permGo] at this
          rw [if_pos h1] at this
          exact this.symm
        subst hr
        clear h1
        go_wp2
        go_ret
        exact ⟨rfl,HB.out⟩
      · have c2:decide (x<0)=false:=decide_eq_false h1
        have h1':0≤x:=by omega
        by_cases h2:(l0.length:Int)≤x
        · have c3:decide ((l0.length:Int)≤x)=true:=decide_eq_true h2
          have hr:r=false:=by
            have:=HGO.out
            rw [HD.out] at this
            simp only [permGo] at this
            rw [if_neg h1,if_pos h2] at this
            exact this.symm
          subst hr
          clear h1 h2
          go_wp2
          go_ret
          exact ⟨rfl,HB.out⟩
        · have c3:decide ((l0.length:Int)≤x)=false:=decide_eq_false h2
          have hx24:x<24:=by omega
          have hcell:∀ b,seen.getD x.toNat false=b→wr.cell? ⟨gb,x.toNat,none⟩=some (.bool b):=by
            intro b hb
            rw [Go.Joins.cell_of_block HC.out,flags_get seen x h1' (by omega),hb]
          have hfro:=Go.Joins.unfrozen_of_block HC.out x.toNat
          have hsx:decide (0≤x)=true:=decide_eq_true h1'
          have hsx2:decide (x<24)=true:=decide_eq_true hx24
          by_cases h3:seen.getD x.toNat false=true
          · have hr:r=false:=by
              have:=HGO.out
              rw [HD.out] at this
              simp only [permGo] at this
              rw [if_neg h1,if_neg h2,if_pos h3] at this
              exact this.symm
            subst hr
            have hc2:=hcell true h3
            clear h1 h2 h3 hcell
            go_wp2
            go_ret
            exact ⟨rfl,HB.out⟩
          · have h3':seen.getD x.toNat false=false:=by simpa using h3
            have hg2:permGo l0.length (l0.drop (i+1).toNat) (seen.set x.toNat true)=r:=by
              have:=HGO.out
              rw [HD.out] at this
              simp only [permGo] at this
              rw [if_neg h1,if_neg h2,if_neg h3] at this
              exact this
            have HG2:=aM hg2
            have hc2:=hcell false h3'
            have HC2:Aside0 ((wr.setCell ⟨gb,x.toNat,none⟩ (.bool true)).heap[gb]? = some (.cells (flags (seen.set x.toNat true)) 130 (0,0))):=⟨by rw [Go.Joins.block_setCell HC.out,flags_set]⟩
            have HB2:Aside0 (Below w.heap.size w (wr.setCell ⟨gb,x.toNat,none⟩ (.bool true))):=⟨HB.out.setCell (by rw [GB.out];exact Nat.le_refl _) _⟩
            clear h1 h2 h3 h3' hg2 hcell
            go_wp2
            go_roundg k1
            case measure=>omega
            case rel=>exact ⟨i+1,_,by rw [HW.out],⟨by simp at hi0;omega,by simp at hlt;omega,by have:=HK.out;simp at this ⊢;omega,by simpa using hsl,HG2.out⟩,HC2,HB2⟩
    · have hie:i=l0.length:=by omega
      have hr:r=true:=by
        have:=HGO.out
        rw [show l0.drop i.toNat=[] from by rw [hie];simp] at this
        simp only [permGo] at this
        exact this.symm
      subst hr
      have c1:decide (i<(l0.length:Int))=false:=decide_eq_false hlt
      clear hlt hie
      go_wp2
      go_ret
      exact ⟨rfl,HB.out⟩
theorem impl_PermOk.calls (A0:Option Addr) (c0:Nat) (l0:List Int) (r:Bool) (w:World) (hr0:Kd.C (Kd.int .i64) w A0 l0.length l0) (hc0:l0.length≤c0) (h:impl_PermOk.f l0=some r) :
    Calls Try.prog 117 #[.slice A0 l0.length c0] w fun e w'=>e = .returned (.bool r)∧Below w.heap.size w w':=by
  unfold impl_PermOk.f permB at h
  by_cases hle:l0.length≤24
  · rw [if_pos hle] at h
    exact impl_PermOk.calls_le A0 c0 l0 r w hr0 hc0 hle (Option.some.inj h)
  · rw [if_neg hle] at h
    obtain rfl:=Option.some.inj h
    have HR0:=aM hr0
    clear hr0
    have hu:=Try.underlying130
    have hb24:decide (24<(l0.length:Int))=true:=decide_eq_true (by omega)
    have HF:Aside0 (flags no24=#[.bool false,.bool false,.bool false,.bool false,.bool false,.bool false,.bool false,.bool false,.bool false,.bool false,.bool false,.bool false,.bool false,.bool false,.bool false,.bool false,.bool false,.bool false,.bool false,.bool false,.bool false,.bool false,.bool false,.bool false]):=⟨rfl⟩
    clear hle
    go_enter Try.func117,Try.ntmps117
    go_wp2_with (first
      | ((with_reducible refine gate_dst (N:=6) rfl ?_);refine wpList_build rfl 130 #[] rfl (by kernel_rfl) ?_;rw [show (Value.agg ((Try.prog.built 130 ((#[]:Array (Nat × Operand)).map fun (i,x)=>(i,Act.eval _ x)).toList).getD #[])) = .agg (flags no24) from by kernel_rfl])
      | ((with_reducible refine gate_dst (N:=3) rfl ?_);refine box_event ?hg (N:=3) ?hd (cs:=flags no24) (t:=130) ?hr ?_;(case hd=>rfl);(case hg=>rfl);(case hr=>rw [HF.out];first|(go_simp;done)|(go_simp;rfl));intro gb hg w8 hbox hb;have BK:=aM hbox;have HB:=aM hb;have GB:=aM hg;clear hbox hb hg)
      | (refine wpList_store_row rfl 130 (.tmp 3) (.tmp 6) rfl gb (flags no24) rfl rfl 130 (flags no24) BK.out (by kernel_rfl) rfl (flags_one _) ?_))
    have HB2:=aM (show Below w.heap.size w (w8.setRow gb (flags no24)) from below_setRow HB.out (by rw [GB.out];exact Nat.le_refl _) _)
    go_ret
    exact ⟨rfl,HB2.out⟩

/-! ### impl_IsTransitive: function 93 -/
mutual
def impl_IsTransitive.j0 : Nat→List Int→List Int→Bool→Option (Bool)
 | 0,_,_,_=>none
 | k+1,x0,x1,x29=>if x29=true then (some false) else (if 0≤(x0.length:Int) then (if ((x0.length:Int):Int).toNat≤281474976710656 then ((some (List.replicate ((x0.length:Int):Int).toNat false:List Bool)).bind fun y103=>(if 0<(y103.length:Int) then (impl_IsTransitive.l0 k x0 x1 (y103.set (0:Int).toNat true) (([0]:List Int)) 0) else (none))) else (none)) else (none))
def impl_IsTransitive.l0 : Nat→List Int→List Int→List Bool→List Int→Int→Option (Bool)
 | 0,_,_,_,_,_=>none
 | k+1,x0,x1,x5,x6,x7=>if x7<(x6.length:Int) then (if 0≤x7 then (if 0≤(rd x6 x7) then (if (rd x6 x7)<(x0.length:Int) then (if (rd x6 x7)<(x1.length:Int) then ((some (([rd x0 (rd x6 x7),rd x1 (rd x6 x7)]:List Int):List Int)).bind fun y114=>(impl_IsTransitive.l1 k x0 x1 x5 x6 x7 y114 (y114.length:Int) 0)) else (none)) else (none)) else (none)) else (none)) else (some ((x6.length:Int) == (x0.length:Int)))
def impl_IsTransitive.l1 : Nat→List Int→List Int→List Bool→List Int→Int→List Int→Int→Int→Option (Bool)
 | 0,_,_,_,_,_,_,_,_=>none
 | k+1,x0,x1,x5,x6,x7,x56,x57,x58=>if x58<x57 then (if 0≤x58 then (if x58<(x56.length:Int) then (if 0≤(rd x56 x58) then (if (rd x56 x58)<(x5.length:Int) then (if (rdOf false x5 (rd x56 x58)=true) then (impl_IsTransitive.l1 k x0 x1 x5 x6 x7 x56 x57 (wrap64 (x58+1))) else (if x6.length<17592186044416 then (impl_IsTransitive.l1 k x0 x1 (x5.set ((rd x56 x58):Int).toNat true) (x6 ++ [rd x56 x58]) x7 x56 x57 (wrap64 (x58+1))) else (none))) else (none)) else (none)) else (none)) else (none)) else (impl_IsTransitive.l0 k x0 x1 x5 x6 (wrap64 (x7+1)))
end
def impl_IsTransitive.f (k:Nat) (l0:List Int) (l1:List Int):Option (Bool):=(impl_PermOk.f l0).bind fun t101=>(if t101=true then ((impl_PermOk.f l1).bind fun t102=>(if t102=true then (if (l0.length:Int)=(l1.length:Int) then (impl_IsTransitive.j0 k l0 l1 ((l0.length:Int) == 0)) else (impl_IsTransitive.j0 k l0 l1 true)) else (impl_IsTransitive.j0 k l0 l1 true))) else (impl_IsTransitive.j0 k l0 l1 true))
def impl_IsTransitive.T9 : Bool × List (List Nat × List Nat):=(true,[([],[]),([],[]),([],[]),([1,2],[1,2]),([3],[3]),([0,4],[0,4]),([5],[5]),([],[]),([],[]),([],[]),([8,9],[8,9]),([10],[10]),([7,11],[7,11]),([12],[12]),([6,13],[6,13]),([14],[14]),([],[])])
def impl_IsTransitive.B9 : List Nat:=[0,0,0,6,14,31,63,0,0,0,768,1792,3968,8064,16383,32767,0]
theorem impl_IsTransitive.tab9 : rtab .any (opsOf Try.f93 9)=impl_IsTransitive.T9:=by kernel_rfl
theorem impl_IsTransitive.bits9 : waitsOk impl_IsTransitive.T9.2 impl_IsTransitive.B9=true:=by kernel_rfl
theorem impl_IsTransitive.calls (k:Nat) (A0:Option Addr) (c0:Nat) (l0:List Int) (A1:Option Addr) (c1:Nat) (l1:List Int) (r:Bool) (w:World) (hr0:Kd.C (Kd.int .i64) w A0 l0.length l0) (hc0:l0.length≤c0) (hr1:Kd.C (Kd.int .i64) w A1 l1.length l1) (hc1:l1.length≤c1) (h:impl_IsTransitive.f k l0 l1=some r) :
  Calls Try.prog 93 #[.slice A0 l0.length c0,.slice A1 l1.length c1] w fun e w'=>e = .returned (.bool r)∧Below w.heap.size w w':=by
 have HR0:=aM hr0
 have HC0:=aM hc0
 clear hr0 hc0
 have HR1:=aM hr1
 have HC1:=aM hc1
 clear hr1 hc1
 have HB:=aM (Below.refl w.heap.size w)
 have H:((impl_PermOk.f l0).bind fun t101=>(if t101=true then ((impl_PermOk.f l1).bind fun t102=>(if t102=true then (if (l0.length:Int)=(l1.length:Int) then (impl_IsTransitive.j0 k l0 l1 ((l0.length:Int) == 0)) else (impl_IsTransitive.j0 k l0 l1 true)) else (impl_IsTransitive.j0 k l0 l1 true))) else (impl_IsTransitive.j0 k l0 l1 true)))=some r:=h
 clear h
 have HC3:=aM H
 clear H
 go_enter Try.func93,Try.ntmps93
 go_upto_region 1 with (fail)
 go_cut [29] (fun v29 wc=>∃ (kq:Nat) (x29_2:Bool),v29 = .bool x29_2∧Aside0 (impl_IsTransitive.j0 kq l0 l1 x29_2=some r)∧Aside0 (kq≤k)∧Aside0 (Below w.heap.size w wc))
 case first =>
  have H:=HC3.out
  clear HC3
  replace H:=oB H
  obtain ⟨t101,A40,H⟩:=H
  have A4:=aM A40
  clear A40
  by_cases c5:t101=true
  {
  subst c5
  have H1:((impl_PermOk.f l1).bind fun t102=>(if t102=true then (if (l0.length:Int)=(l1.length:Int) then (impl_IsTransitive.j0 k l0 l1 ((l0.length:Int) == 0)) else (impl_IsTransitive.j0 k l0 l1 true)) else (impl_IsTransitive.j0 k l0 l1 true)))=some r:=by rw [if_pos rfl] at H;exact H
  clear H
  have H:=H1
  clear H1
  replace H:=oB H
  obtain ⟨t102,A60,H⟩:=H
  have A6:=aM A60
  clear A60
  by_cases c7:t102=true
  {
  subst c7
  have H1:(if (l0.length:Int)=(l1.length:Int) then (impl_IsTransitive.j0 k l0 l1 ((l0.length:Int) == 0)) else (impl_IsTransitive.j0 k l0 l1 true))=some r:=by rw [if_pos rfl] at H;exact H
  clear H
  have H:=H1
  clear H1
  by_cases c8:(l0.length:Int)=(l1.length:Int)
  {
  rw [if_pos c8] at H
  have c8b0:((l0.length:Int) == (l1.length:Int))=true:=beq_iff_eq.mpr c8
  have c8b1:((l0.length:Int) != (l1.length:Int))=false:=bne_eq_false_iff_eq.mpr c8
  have c8b2:(l0.length == l1.length)=true:=by first|simpa using c8|(simp at c8 ⊢;omega)
  clear c8
  (first|rw [c8b0]|(simp only [i64_w,i32_w];rw [c8b0])|skip)
  have H':=aM H
  clear H
  go_wp2_with (first|((with_reducible refine gate_callee (f:=117) rfl ?_);refine goesL_ (some 11) rfl rfl Try.func117 (by kernel_rfl) rfl #[.slice A0 l0.length c0] rfl aX ?_;(with_reducible refine(impl_PermOk.calls _ _ l0 true _ ?side1 ?side2 A4.out).mono ?_);(case side1=>exact cX (Kd.C_below HR0.out HB.out));(case side2=>exact HC0.out);rintro e w9 ⟨rfl,hb⟩;refine ⟨_,rfl,?_⟩;replace HB:=aM (below_step (bX HB.out) hb);(try clear hb);(try clear hk))|(go_at_call 117;(with_reducible refine(impl_PermOk.calls _ _ l1 true _ ?side1 ?side2 A6.out).mono ?_);(case side1=>exact cX (Kd.C_below HR1.out HB.out));(case side2=>exact HC1.out);rintro e w10 ⟨rfl,hb⟩;replace HB:=aM (below_step (bX HB.out) hb);(try clear hb);(try clear hk)))
  go_meet
  case rel=>exact ⟨_,(((l0.length:Int) == 0)),vX,H',⟨by first|omega|exact Nat.le_refl _⟩,⟨bX HB.out⟩⟩
  }
  {
  rw [if_neg c8] at H
  have c8b0:((l0.length:Int) == (l1.length:Int))=false:=beq_eq_false_iff_ne.mpr c8
  have c8b1:((l0.length:Int) != (l1.length:Int))=true:=bne_iff_ne.mpr c8
  have c8b2:(l0.length == l1.length)=false:=by first|simpa using c8|(simp at c8 ⊢;omega)
  (first|rw [c8b0]|(simp only [i64_w,i32_w];rw [c8b0])|skip)
  have H':=aM H
  clear H
  go_wp2_with (first|((with_reducible refine gate_callee (f:=117) rfl ?_);refine goesL_ (some 11) rfl rfl Try.func117 (by kernel_rfl) rfl #[.slice A0 l0.length c0] rfl aX ?_;(with_reducible refine(impl_PermOk.calls _ _ l0 true _ ?side1 ?side2 A4.out).mono ?_);(case side1=>exact cX (Kd.C_below HR0.out HB.out));(case side2=>exact HC0.out);rintro e w11 ⟨rfl,hb⟩;refine ⟨_,rfl,?_⟩;replace HB:=aM (below_step (bX HB.out) hb);(try clear hb);(try clear hk))|(go_at_call 117;(with_reducible refine(impl_PermOk.calls _ _ l1 true _ ?side1 ?side2 A6.out).mono ?_);(case side1=>exact cX (Kd.C_below HR1.out HB.out));(case side2=>exact HC1.out);rintro e w12 ⟨rfl,hb⟩;replace HB:=aM (below_step (bX HB.out) hb);(try clear hb);(try clear hk)))
  go_meet
  case rel=>exact ⟨_,(true),vX,H',⟨by first|omega|exact Nat.le_refl _⟩,⟨bX HB.out⟩⟩
  }
  }
  {
  replace c7:=Bool.eq_false_iff.mpr c7
  subst c7
  have H1:(impl_IsTransitive.j0 k l0 l1 true)=some r:=by rw [if_neg (show ¬ (false=true) by decide)] at H;exact H
  clear H
  have H:=H1
  clear H1
  have H':=aM H
  clear H
  go_wp2_with (first|((with_reducible refine gate_callee (f:=117) rfl ?_);refine goesL_ (some 11) rfl rfl Try.func117 (by kernel_rfl) rfl #[.slice A0 l0.length c0] rfl aX ?_;(with_reducible refine(impl_PermOk.calls _ _ l0 true _ ?side1 ?side2 A4.out).mono ?_);(case side1=>exact cX (Kd.C_below HR0.out HB.out));(case side2=>exact HC0.out);rintro e w13 ⟨rfl,hb⟩;refine ⟨_,rfl,?_⟩;replace HB:=aM (below_step (bX HB.out) hb);(try clear hb);(try clear hk))|(go_at_call 117;(with_reducible refine(impl_PermOk.calls _ _ l1 false _ ?side1 ?side2 A6.out).mono ?_);(case side1=>exact cX (Kd.C_below HR1.out HB.out));(case side2=>exact HC1.out);rintro e w14 ⟨rfl,hb⟩;replace HB:=aM (below_step (bX HB.out) hb);(try clear hb);(try clear hk)))
  go_meet
  case rel=>exact ⟨_,(true),vX,H',⟨by first|omega|exact Nat.le_refl _⟩,⟨bX HB.out⟩⟩
  }
  }
  {
  replace c5:=Bool.eq_false_iff.mpr c5
  subst c5
  have H1:(impl_IsTransitive.j0 k l0 l1 true)=some r:=by rw [if_neg (show ¬ (false=true) by decide)] at H;exact H
  clear H
  have H:=H1
  clear H1
  have H':=aM H
  clear H
  go_wp2_with (first|((with_reducible refine gate_callee (f:=117) rfl ?_);refine goesL_ (some 11) rfl rfl Try.func117 (by kernel_rfl) rfl #[.slice A0 l0.length c0] rfl aX ?_;(with_reducible refine(impl_PermOk.calls _ _ l0 false _ ?side1 ?side2 A4.out).mono ?_);(case side1=>exact cX (Kd.C_below HR0.out HB.out));(case side2=>exact HC0.out);rintro e w15 ⟨rfl,hb⟩;refine ⟨_,rfl,?_⟩;replace HB:=aM (below_step (bX HB.out) hb);(try clear hb);(try clear hk)))
  go_meet
  case rel=>exact ⟨_,(true),vX,H',⟨by first|omega|exact Nat.le_refl _⟩,⟨bX HB.out⟩⟩
  }
 case rest =>
 clear HC3
 try clear c1
 try clear c5
 try clear c7
 try clear c8
 try clear c8b0
 try clear c8b1
 try clear c8b2
 obtain ⟨kq,x29_2,rfl,HA,HJ2,HB⟩:=hcut
 cases kq with
 | zero=>exact absurd HA.out (by simp [impl_IsTransitive.j0])
 | succ kj2 =>
 have H:=HA.out
 clear HA
 simp only [impl_IsTransitive.j0] at H
 by_cases c16:x29_2=true
 {
 subst c16
 have H1:(some false)=some r:=by rw [if_pos rfl] at H;exact H
 clear H
 have H:=H1
 clear H1
 obtain rfl:=Option.some.inj H
 go_wp2
 go_ret
 exact ⟨eX,bX HB.out⟩
 }
 {
 replace c16:=Bool.eq_false_iff.mpr c16
 subst c16
 have H1:(if 0≤(l0.length:Int) then (if ((l0.length:Int):Int).toNat≤281474976710656 then ((some (List.replicate ((l0.length:Int):Int).toNat false:List Bool)).bind fun y103=>(if 0<(y103.length:Int) then (impl_IsTransitive.l0 kj2 l0 l1 (y103.set (0:Int).toNat true) (([0]:List Int)) 0) else (none))) else (none)) else (none))=some r:=by rw [if_neg (show ¬ (false=true) by decide)] at H;exact H
 clear H
 have H:=H1
 clear H1
 by_cases c17:0≤(l0.length:Int)
 {
 rw [if_pos c17] at H
 have c17b0:=eq_true c17
 have c17b1:=decide_eq_true c17
 clear c17
 by_cases c18:((l0.length:Int):Int).toNat≤281474976710656
 {
 rw [if_pos c18] at H
 have c18b0:=eq_true c18
 have c18b1:=decide_eq_true c18
 clear c18
 obtain ⟨y103,hy103⟩:∃ y_:List Bool,y_=(List.replicate ((l0.length:Int):Int).toNat false):=⟨_,rfl⟩
 replace H:(if 0<(y103.length:Int) then (impl_IsTransitive.l0 kj2 l0 l1 (y103.set (0:Int).toNat true) (([0]:List Int)) 0) else (none))=some r:=by first|(rw [hy103];with_reducible exact H)|(have H2_:=(Option.bind_some _ _).symm.trans H;rw [hy103];with_reducible exact H2_)|(have H2_:=(Option.bind_some _ _).symm.trans H;with_reducible exact H2_)|with_reducible exact H|(rw [hy103];exact H)|exact H
 have Ny103:=aM hy103
 clear hy103
 by_cases c19:0<(y103.length:Int)
 {
 rw [if_pos c19] at H
 have c19b0:=decide_eq_true c19
 have c19b1:decide (0<y103.length)=true:=decide_eq_true (by omega)
 clear c19
 obtain ⟨y106,hy106⟩:∃ y_:List Bool,y_=(y103.set (0:Int).toNat true):=⟨_,rfl⟩
 replace H:(impl_IsTransitive.l0 kj2 l0 l1 y106 (([0]:List Int)) 0)=some r:=by first|(rw [hy106];with_reducible exact H)|(have H2_:=(Option.bind_some _ _).symm.trans H;rw [hy106];with_reducible exact H2_)|(have H2_:=(Option.bind_some _ _).symm.trans H;with_reducible exact H2_)|with_reducible exact H|(rw [hy106];exact H)|exact H
 have Ny106:=aM hy106
 clear hy106
 obtain ⟨y107,hy107⟩:∃ y_:List Int,y_=(([0]:List Int)):=⟨_,rfl⟩
 replace H:(impl_IsTransitive.l0 kj2 l0 l1 y106 y107 0)=some r:=by first|(rw [hy107];with_reducible exact H)|(have H2_:=(Option.bind_some _ _).symm.trans H;rw [hy107];with_reducible exact H2_)|(have H2_:=(Option.bind_some _ _).symm.trans H;with_reducible exact H2_)|with_reducible exact H|(rw [hy107];exact H)|exact H
 have Ny107:=aM hy107
 clear hy107
 have H':=aM H
 clear H
 go_wp2_with (first|((with_reducible refine gate_dst (N:=32) rfl ?_);(try(refine gate_guard (by rfl) ?_;dsimp only));refine Kd.R_make Kd.bool _ 4 rfl (N:=32) rfl 59 _ _ rfl (l0.length:Int) rfl rfl Try.underlying59 (.bool false) 1 info4 rfl (by decide) (by omega) false (ok:=fun _=>True) (okp:=fun _=>True) rfl (fun _ hk=>hk) trivial (dX) (Nat.le_trans (Nat.mul_le_mul_right _ (dX:(l0.length:Int).toNat≤281474976710656)) (by omega)) (Below.refl _ _) (Nat.le_refl _) ?_;intro v104 w21 ho22 hb hg_ hnew_;clear hg_ hnew_;(first|rw [← Ny103.out] at ho22|(simp only [Int.reduceToNat] at ho22;rw [← Ny103.out] at ho22));have HO105:=aM (Kd.R_lower ho22 (below_size (bX HB.out)));replace HB:=aM (below_step (bX HB.out) hb);clear hb ho22;have p20:0≤(0:Int):=(by omega);have q20:(0:Int)<((y103.length:Int):Int):=dX;have qi20:(0<y103.length)=True:=eq_true (by omega);obtain ⟨go20,co20,eo20,gb20,gl20,cl20,HG20⟩:=Kd.R_form HO105.out (by omega);(first|cases eo20|(injection eo20 with ea_ en_ ec_;(first|subst ea_|(injection ea_ with ea_;subst ea_));subst ec_;clear en_));have GB20:=aM gb20;have GG20:=aM HG20;clear gb20 gl20 HG20;obtain ⟨hx20_0,hf20_0⟩:=Kd.R_celln false HO105.out (0:Int) p20 q20;(try rw [show ((0:Int)).toNat=0 from rfl] at hx20_0);(try simp only [Nat.reduceMul,Nat.zero_mul,Nat.zero_add,Nat.reduceAdd] at hx20_0);(try rw [show ((0:Int)).toNat=0 from rfl] at hf20_0);(try simp only [Nat.reduceMul,Nat.zero_mul,Nat.zero_add,Nat.reduceAdd] at hf20_0);replace p20:=eq_true p20;replace q20:=eq_true q20;obtain ⟨hy23_,hz23_⟩:=Kd.R_celln false HO105.out (0:Int) (by omega) (dX);(try simp only [Int.reduceToNat,Int.toNat_zero,Int.toNat_ofNat,Nat.reduceMul,Nat.zero_mul,Nat.zero_add] at hy23_ hz23_);(try rw [show ((0:Int)).toNat=0 from rfl] at hy23_);(try rw [show ((0:Int)).toNat=0 from rfl] at hz23_);have HP23:=Kd.R_putg HO105.out (0:Int) true)|((with_reducible refine gate_store (t:=4) (p:=34) rfl ?_);refine store_event (t:=4) (p:=34) (v:=?vo_w24) (w1:=(w21.setCell ⟨go20,(0:Int).toNat,none⟩ (.bool true))) ?hg ?ho ?hn ?hr ?_;(case ho=>rfl);(case hg=>rfl);(case hn=>rfl);(case hr=>first|(go_simp;done)|(go_simp;rfl));intro w24 hw;have hg:w21.grownBy w24 (some go20):=(by rw [hw];exact HP23.2);have hp_:Kd.R Kd.bool 4 w24 w.heap.size (fun _=>True) (.slice (some ⟨go20,0,none⟩) y103.length co20) y106:=(by rw [hw,Ny106.out];exact HP23.1);clear HP23;replace HO105:=aM (hp_);replace HB:=aM ((by rw [hw];exact below_set (HB.out) GB20.out:Below w.heap.size w w24));clear hg hw hp_)|((with_reducible refine gate_dst (N:=35) rfl ?_);(try(refine gate_guard (by rfl) ?_;dsimp only));refine Kd.R_lit (Kd.int .i64) _ 3 ?hg (N:=35) ?hd (xs:=([0]:List Int)) (inner:=[.int .i64 0]) (ok:=fun _=>True) (okp:=fun _=>True) ?hr ?hp (fun _ hk=>hk) trivial (Below.refl _ _) (Nat.le_refl _) (by simp) ?_;(case hd=>rfl);(case hg=>rfl);(case hr=>first|(go_simp;done)|(go_simp;rfl));(case hp=>exact(Reps.one (show Kd.M (Kd.int .i64) _ _ _ 0 [.int .i64 0] from rfl) (Reps.none _ _)));intro v108 w25 ho26 hb hg_ hnew_;clear hg_ hnew_;(first|rw [← Ny107.out] at ho26|(simp only [Int.reduceToNat] at ho26;rw [← Ny107.out] at ho26));replace HO105:=aM (Kd.R_below (rX HO105.out) hb);have HO109:=aM (Kd.R_lower ho26 (below_size (bX HB.out)));replace HB:=aM (below_step (bX HB.out) hb);clear hb ho26))
 go_loopg [6,7] kj2 (fun kq v6 v7 w'=>∃ (x5_2:List Bool) (x6_2:List Int) (x7_2:Int),v7 = .int .i64 x7_2∧Aside0 (impl_IsTransitive.l0 kq l0 l1 x5_2 x6_2 x7_2=some r)∧Aside0 (kq≤kj2)∧Aside0 (Kd.R Kd.bool 4 w' w.heap.size (fun _=>True) (.slice (some ⟨go20,0,none⟩) y103.length co20) x5_2)∧Aside0 (Kd.R (Kd.int .i64) 3 w' w.heap.size (fun _=>True) v6 x6_2)∧Aside0 (Below w.heap.size w w'))
 case atStart=>exact ⟨(y106),(y107),(0),vX,H',⟨Nat.le_refl _⟩,⟨rX HO105.out⟩,⟨rX HO109.out⟩,⟨bX HB.out⟩⟩
 case round =>
 clear H'
 try clear c1
 try clear c5
 try clear c7
 try clear c8
 try clear c8b0
 try clear c8b1
 try clear c8b2
 try clear c16
 try clear c17
 try clear c17b0
 try clear c17b1
 try clear c18
 try clear c18b0
 try clear c18b1
 try clear c19
 try clear c19b0
 try clear c19b1
 try clear p20
 try clear q20
 try clear qi20
 try clear hx20_0
 try clear p20
 try clear q20
 obtain ⟨x5_2,x6_2,x7_2,rfl,HA,HK2,HO_5,HO_6,HB⟩:=hrel
 have hl5_2:=(Kd.R_reads' HO_5.out).1
 rw [hl5_2] at HO_5
 (try simp only [hl5_2])
 (try simp only [hl5_2] at HO_6)
 cases gk with
 | zero=>exact absurd HA.out (by simp [impl_IsTransitive.l0])
 | succ k2 =>
 have H:=HA.out
 clear HA
 simp only [impl_IsTransitive.l0] at H
 by_cases c27:x7_2<(x6_2.length:Int)
 {
 rw [if_pos c27] at H
 have c27b0:=decide_eq_true c27
 clear c27
 by_cases c28:0≤x7_2
 {
 rw [if_pos c28] at H
 have c28b0:=decide_eq_true c28
 clear c28
 by_cases c29:0≤(rd x6_2 x7_2)
 {
 rw [if_pos c29] at H
 have c29b0:=decide_eq_true c29
 clear c29
 by_cases c30:(rd x6_2 x7_2)<(l0.length:Int)
 {
 rw [if_pos c30] at H
 have c30b0:=decide_eq_true c30
 clear c30
 by_cases c31:(rd x6_2 x7_2)<(l1.length:Int)
 {
 rw [if_pos c31] at H
 have c31b0:=decide_eq_true c31
 clear c31
 obtain ⟨y114,hy114⟩:∃ y_:List Int,y_=(([rd l0 (rd x6_2 x7_2),rd l1 (rd x6_2 x7_2)]:List Int)):=⟨_,rfl⟩
 replace H:(impl_IsTransitive.l1 k2 l0 l1 x5_2 x6_2 x7_2 y114 (y114.length:Int) 0)=some r:=by first|(rw [hy114];with_reducible exact H)|(have H2_:=(Option.bind_some _ _).symm.trans H;rw [hy114];with_reducible exact H2_)|(have H2_:=(Option.bind_some _ _).symm.trans H;with_reducible exact H2_)|with_reducible exact H|(rw [hy114];exact H)|exact H
 have Ny114:=aM hy114
 clear hy114
 have H':=aM H
 clear H
 obtain ⟨Ao32,co32,eo32⟩:=Kd.R_slice HO_6.out
 subst eo32
 try go_wp2
 replace HO_5:=aM (Kd.R_drew HO_5.out)
 replace HO_6:=aM (Kd.R_drew HO_6.out)
 replace HB:=aM (below_drew1 HB.out)
 have p110:0≤(x7_2:Int):=dX
 have q110:x7_2<(x6_2.length:Int):=dX
 obtain ⟨ad110,e110,hx110_0⟩:=Kd.at_int (Kd.R_reads' HO_6.out).2.2 x7_2 p110 q110
 cases e110
 replace p110:=eq_true p110
 replace q110:=eq_true q110
 have p111:0≤((rd x6_2 x7_2):Int):=dX
 have q111:(rd x6_2 x7_2)<(l0.length:Int):=dX
 obtain ⟨ad111,e111,hx111_0⟩:=Kd.at_int HR0.out (rd x6_2 x7_2) p111 q111
 have hw111_0:=hx111_0
 cases e111
 replace hx111_0:=(HB.out.cell (World.block_lt_of_cell? w _ hx111_0)).trans hx111_0
 replace p111:=eq_true p111
 replace q111:=eq_true q111
 have p112:0≤(x7_2:Int):=dX
 have q112:x7_2<(x6_2.length:Int):=dX
 obtain ⟨ad112,e112,hx112_0⟩:=Kd.at_int (Kd.R_reads' HO_6.out).2.2 x7_2 p112 q112
 obtain rfl:ad110=ad112:=(by injection e112)
 replace p112:=eq_true p112
 replace q112:=eq_true q112
 have p113:0≤((rd x6_2 x7_2):Int):=dX
 have q113:(rd x6_2 x7_2)<(l1.length:Int):=dX
 obtain ⟨ad113,e113,hx113_0⟩:=Kd.at_int HR1.out (rd x6_2 x7_2) p113 q113
 have hw113_0:=hx113_0
 cases e113
 replace hx113_0:=(HB.out.cell (World.block_lt_of_cell? w _ hx113_0)).trans hx113_0
 replace p113:=eq_true p113
 replace q113:=eq_true q113
 refine start_ (n:=17) (S:=fun w'=>w'.cell? (ad110.add (x7_2).toNat)=some (.int .i64 (rd x6_2 x7_2))∧w'.cell? (ad111.add ((rd x6_2 x7_2)).toNat)=some (.int .i64 (rd l0 (rd x6_2 x7_2)))∧w'.cell? (ad110.add (x7_2).toNat)=some (.int .i64 (rd x6_2 x7_2))∧w'.cell? (ad113.add ((rd x6_2 x7_2)).toNat)=some (.int .i64 (rd l1 (rd x6_2 x7_2)))) (ds:=[]) #[ff,ff,ff,ff,ff,ff,ff,ff,ff,ff,ff,ff,ff,ff,ff,ff,ff] (by kernel_rfl) rfl rfl ⟨hx110_0,((HB.out.cell (World.block_lt_of_cell? w _ hw111_0)).trans hw111_0),hx112_0,((HB.out.cell (World.block_lt_of_cell? w _ hw113_0)).trans hw113_0)⟩ (fun hHeld => ?_);refine with_tabW impl_IsTransitive.tab9 impl_IsTransitive.bits9 (fun HT_ HW_ => ?_)
 generalize wr.drew=w33 at HO_5 HO_6 HB hx110_0 hx111_0 hx112_0 hx113_0 hHeld ⊢
 refine pX 0 42 (fl 17 1) rfl rfl HT_.out ?_
 refine pX 1 43 (fl 17 3) rfl rfl HT_.out ?_
 refine pX 2 44 (fl 17 7) rfl rfl HT_.out ?_
 refine pX 3 45 (fl 17 15) rfl rfl HT_.out ?_
 refine pX 7 49 (fl 17 143) rfl rfl HT_.out ?_
 refine pX 8 50 (fl 17 399) rfl rfl HT_.out ?_
 refine pX 9 51 (fl 17 911) rfl rfl HT_.out ?_
 refine pX 10 52 (fl 17 1935) rfl rfl HT_.out ?_
 refine pX 16 58 (fl 17 67471) rfl rfl HT_.out ?_
 refine tX4 4 46 (fl 17 67487) rfl rfl HT_.out HW_.out hHeld ?_
 refine pX 5 47 (fl 17 67519) rfl rfl HT_.out ?_
 refine tX4 6 48 (fl 17 67583) rfl rfl HT_.out HW_.out hHeld ?_
 refine tX4 11 53 (fl 17 69631) rfl rfl HT_.out HW_.out hHeld ?_
 refine pX 12 54 (fl 17 73727) rfl rfl HT_.out ?_
 refine tX4 13 55 (fl 17 81919) rfl rfl HT_.out HW_.out hHeld ?_
 refine one_ (i:=14) (N:=some 56) #[tt,tt,tt,tt,tt,tt,tt,tt,tt,tt,tt,tt,tt,tt,tt,ff,tt] rfl rfl (one_of HT_.out (by kernel_rfl)) (by decide) (fun K hK => ?_)
 refine Kd.R_lit_step (Kd.int .i64) _ 3 ?hg (N:=56) ?hd (xs:=([rd l0 (rd x6_2 x7_2),rd l1 (rd x6_2 x7_2)]:List Int)) (inner:=[.int .i64 (rd l0 (rd x6_2 x7_2)),.int .i64 (rd l1 (rd x6_2 x7_2))]) (ok:=fun _=>True) (okp:=fun _=>True) ?hr ?hp (fun _ hk=>hk) trivial (Below.refl _ _) (Nat.le_refl _) (by simp) ?_;(case hd=>rfl);(case hg=>rfl);(case hr=>first|(go_simp;done)|(go_simp;rfl));(case hp=>exact(Reps.one (show Kd.M (Kd.int .i64) _ _ _ (rd l0 (rd x6_2 x7_2)) [.int .i64 (rd l0 (rd x6_2 x7_2))] from rfl) (Reps.one (show Kd.M (Kd.int .i64) _ _ _ (rd l1 (rd x6_2 x7_2)) [.int .i64 (rd l1 (rd x6_2 x7_2))] from rfl) (Reps.none _ _))))
 intro v115 w34 ho35 hb hg_ hnew_
 have HS0_:=(hb.cell (World.block_lt_of_cell? _ _ (hHeld.1))).trans (hHeld.1)
 have HS2_:=(hb.cell (World.block_lt_of_cell? _ _ (hHeld.2.2.1))).trans (hHeld.2.2.1)
 clear hg_ hnew_
 (first|rw [← Ny114.out] at ho35|(simp only [Int.reduceToNat] at ho35;rw [← Ny114.out] at ho35))
 replace HO_5:=aM (Kd.R_below (rX HO_5.out) hb)
 have HO116:=aM (Kd.R_lower (Kd.R_new' ho35 (Kd.R_lt (rX HO_6.out))) (below_size (bX HB.out)))
 replace HO_6:=aM (Kd.R_elder' (rX HO_6.out) (Kd.R_base ho35) hb)
 replace HB:=aM (below_step (bX HB.out) hb)
 clear hb ho35
 obtain ⟨Ao36,co36,eo36⟩:=Kd.R_slice HO116.out
 (first|subst eo36|(injection eo36 with f1_ f2_ f3_;have f4_:=f1_.symm;have f5_:=f3_.symm;clear f1_ f2_ f3_;subst f4_;subst f5_))
 refine hK.out _ _ ⟨HS0_,((HB.out.cell (World.block_lt_of_cell? w _ hw111_0)).trans hw111_0),HS2_,((HB.out.cell (World.block_lt_of_cell? w _ hw113_0)).trans hw113_0)⟩ (fun hHeld => ?_)
 clear hK K
 refine norm_ (a':=?_) ?_ ?_
 rotate_left
 {
 show Act.put _ (some 56) _=_
 simp only [Act.put,zA,zB,zC,i64_w,i32_w]
 rfl
 }
 refine pX 15 57 (fl 17 131071) rfl rfl HT_.out ?_
 refine done_ (done_of HT_.out (by kernel_rfl)) ?_
 try go_wp2
 go_loopg [6,58] k2 (fun kq v6 v58 w'=>∃ (x5_3:List Bool) (x6_3:List Int) (x58_3:Int),v58 = .int .i64 x58_3∧Aside0 (impl_IsTransitive.l1 kq l0 l1 x5_3 x6_3 x7_2 y114 (y114.length:Int) x58_3=some r)∧Aside0 (kq≤k2)∧Aside0 (Kd.R Kd.bool 4 w' w.heap.size (fun _=>True) (.slice (some ⟨go20,0,none⟩) x5_2.length co20) x5_3)∧Aside0 (Kd.R (Kd.int .i64) 3 w' w.heap.size (fun k_=>some k_≠((.slice Ao36 y114.length co36):Value).ownBlock) v6 x6_3)∧Aside0 (Kd.R (Kd.int .i64) 3 w' w.heap.size (fun k_=>some k_≠(v6:Value).ownBlock) (.slice Ao36 y114.length co36) y114)∧Aside0 (Below w.heap.size w w'))
 case atStart=>exact ⟨(x5_2),(x6_2),(0),vX,H',⟨Nat.le_refl _⟩,⟨by(try simp only [hl5_2]);(with_reducible repeat(first|apply rA|apply rN|apply rD));exact HO_5.out⟩,⟨by(try simp only [hl5_2]);(with_reducible repeat(first|apply rA|apply rN|apply rD));exact Kd.R_mono HO_6.out (fun _ hk=>hk.2)⟩,⟨by(try simp only [hl5_2]);(with_reducible repeat(first|apply rA|apply rN|apply rD));exact Kd.R_mono HO116.out (fun _ hk=>hk.2)⟩,⟨bX HB.out⟩⟩
 case round =>
 clear H'
 try clear c1
 try clear c5
 try clear c7
 try clear c8
 try clear c8b0
 try clear c8b1
 try clear c8b2
 try clear c16
 try clear c17
 try clear c17b0
 try clear c17b1
 try clear c18
 try clear c18b0
 try clear c18b1
 try clear c19
 try clear c19b0
 try clear c19b1
 try clear p20
 try clear q20
 try clear qi20
 try clear c27
 try clear c27b0
 try clear c28
 try clear c28b0
 try clear c29
 try clear c29b0
 try clear c30
 try clear c30b0
 try clear c31
 try clear c31b0
 try clear hx110_0
 try clear hx111_0
 try clear hx112_0
 try clear hx113_0
 try clear hx20_0
 try clear p110
 try clear p111
 try clear p112
 try clear p113
 try clear p20
 try clear q110
 try clear q111
 try clear q112
 try clear q113
 try clear q20
 obtain ⟨x5_3,x6_3,x58_3,rfl,HA,HK3,HO_5,HO_6,HO_56,HB⟩:=hrel
 have hl5_3:=(Kd.R_reads' HO_5.out).1
 rw [hl5_3] at HO_5
 (try simp only [hl5_3])
 (try simp only [hl5_3] at HO_6)
 (try simp only [hl5_3] at HO_56)
 cases gk with
 | zero=>exact absurd HA.out (by simp [impl_IsTransitive.l1])
 | succ k3 =>
 have H:=HA.out
 clear HA
 simp only [impl_IsTransitive.l1] at H
 by_cases c37:x58_3<(y114.length:Int)
 {
 rw [if_pos c37] at H
 have c37b0:=decide_eq_true c37
 clear c37
 by_cases c38:0≤x58_3
 {
 rw [if_pos c38] at H
 have c38b0:=decide_eq_true c38
 clear c38
 by_cases c39:x58_3<(y114.length:Int)
 {
 rw [if_pos c39] at H
 have c39b0:=decide_eq_true c39
 clear c39
 by_cases c40:0≤(rd y114 x58_3)
 {
 rw [if_pos c40] at H
 have c40b0:=decide_eq_true c40
 clear c40
 by_cases c41:(rd y114 x58_3)<(x5_3.length:Int)
 {
 rw [if_pos c41] at H
 have c41b0:=decide_eq_true c41
 clear c41
 obtain ⟨bq42,hbq42⟩:∃ b_:Bool,b_=(rdOf false x5_3 (rd y114 x58_3)):=⟨_,rfl⟩
 replace H:(if (bq42=true) then (impl_IsTransitive.l1 k3 l0 l1 x5_3 x6_3 x7_2 y114 (y114.length:Int) (wrap64 (x58_3+1))) else (if x6_3.length<17592186044416 then (impl_IsTransitive.l1 k3 l0 l1 (x5_3.set ((rd y114 x58_3):Int).toNat true) (x6_3 ++ [rd y114 x58_3]) x7_2 y114 (y114.length:Int) (wrap64 (x58_3+1))) else (none)))=some r:=by rw [← hbq42] at H;exact H
 have Nbq42:=aM hbq42
 clear hbq42
 by_cases c43:(bq42=true)
 {
 subst c43
 have H1:(impl_IsTransitive.l1 k3 l0 l1 x5_3 x6_3 x7_2 y114 (y114.length:Int) (wrap64 (x58_3+1)))=some r:=by rw [if_pos rfl] at H;exact H
 clear H
 have H:=H1
 clear H1
 have H':=aM H
 clear H
 have p117:0≤(x58_3:Int):=dX
 have q117:x58_3<(y114.length:Int):=dX
 obtain ⟨ad117,e117,hx117_0⟩:=Kd.at_int (Kd.R_reads' HO_56.out).2.2 x58_3 p117 q117
 cases e117
 replace p117:=eq_true p117
 replace q117:=eq_true q117
 have p118:0≤((rd y114 x58_3):Int):=dX
 have q118:(rd y114 x58_3)<(x5_3.length:Int):=dX
 obtain ⟨ad118,e118,hx118_0⟩:=Kd.at_bool (Kd.R_reads' HO_5.out).2.2 (rd y114 x58_3) p118 q118
 (try rw [← Nbq42.out] at hx118_0)
 obtain rfl:(⟨go20,0,none⟩:Addr)=ad118:=(by injection e118)
 (first|simp only [add_plain] at hx118_0|simp only [add_at] at hx118_0|simp only [Addr.add,Nat.zero_add] at hx118_0|skip)
 replace p118:=eq_true p118
 replace q118:=eq_true q118
 go_wp2
 (try simp only [← hl5_3])
 go_roundg k3
 case measure=>have:=HJ2.out;have:=HK2.out;have:=HK3.out;omega
 case rel=>exact ⟨(x5_3),(x6_3),(wrap64 (x58_3+1)),vX,H',⟨by have:=HJ2.out;have:=HK2.out;have:=HK3.out;omega⟩,⟨by(try simp only [hl5_2]);(try simp only [hl5_3]);(with_reducible repeat(first|apply rA|apply rN|apply rD));exact HO_5.out⟩,⟨by(try simp only [hl5_2]);(try simp only [hl5_3]);(with_reducible repeat(first|apply rA|apply rN|apply rD));exact HO_6.out⟩,⟨by(try simp only [hl5_2]);(try simp only [hl5_3]);(with_reducible repeat(first|apply rA|apply rN|apply rD));exact HO_56.out⟩,⟨bX HB.out⟩⟩
 }
 {
 replace c43:=Bool.eq_false_iff.mpr c43
 subst c43
 have H1:(if x6_3.length<17592186044416 then (impl_IsTransitive.l1 k3 l0 l1 (x5_3.set ((rd y114 x58_3):Int).toNat true) (x6_3 ++ [rd y114 x58_3]) x7_2 y114 (y114.length:Int) (wrap64 (x58_3+1))) else (none))=some r:=by rw [if_neg (show ¬ (false=true) by decide)] at H;exact H
 clear H
 have H:=H1
 clear H1
 obtain ⟨y119,hy119⟩:∃ y_:List Bool,y_=(x5_3.set ((rd y114 x58_3):Int).toNat true):=⟨_,rfl⟩
 replace H:(if x6_3.length<17592186044416 then (impl_IsTransitive.l1 k3 l0 l1 y119 (x6_3 ++ [rd y114 x58_3]) x7_2 y114 (y114.length:Int) (wrap64 (x58_3+1))) else (none))=some r:=by first|(rw [hy119];with_reducible exact H)|(have H2_:=(Option.bind_some _ _).symm.trans H;rw [hy119];with_reducible exact H2_)|(have H2_:=(Option.bind_some _ _).symm.trans H;with_reducible exact H2_)|with_reducible exact H|(rw [hy119];exact H)|exact H
 have Ny119:=aM hy119
 clear hy119
 by_cases c45:x6_3.length<17592186044416
 {
 rw [if_pos c45] at H
 have LMc45:=aM c45
 clear c45
 obtain ⟨y120,hy120⟩:∃ y_:List Int,y_=(x6_3 ++ [rd y114 x58_3]):=⟨_,rfl⟩
 replace H:(impl_IsTransitive.l1 k3 l0 l1 y119 y120 x7_2 y114 (y114.length:Int) (wrap64 (x58_3+1)))=some r:=by first|(rw [hy120];with_reducible exact H)|(have H2_:=(Option.bind_some _ _).symm.trans H;rw [hy120];with_reducible exact H2_)|(have H2_:=(Option.bind_some _ _).symm.trans H;with_reducible exact H2_)|with_reducible exact H|(rw [hy120];exact H)|exact H
 have Ny120:=aM hy120
 clear hy120
 have H':=aM H
 clear H
 have p117:0≤(x58_3:Int):=dX
 have q117:x58_3<(y114.length:Int):=dX
 obtain ⟨ad117,e117,hx117_0⟩:=Kd.at_int (Kd.R_reads' HO_56.out).2.2 x58_3 p117 q117
 cases e117
 replace p117:=eq_true p117
 replace q117:=eq_true q117
 have p118:0≤((rd y114 x58_3):Int):=dX
 have q118:(rd y114 x58_3)<(x5_3.length:Int):=dX
 obtain ⟨ad118,e118,hx118_0⟩:=Kd.at_bool (Kd.R_reads' HO_5.out).2.2 (rd y114 x58_3) p118 q118
 (try rw [← Nbq42.out] at hx118_0)
 obtain rfl:(⟨go20,0,none⟩:Addr)=ad118:=(by injection e118)
 (first|simp only [add_plain] at hx118_0|simp only [add_at] at hx118_0|simp only [Addr.add,Nat.zero_add] at hx118_0|skip)
 replace p118:=eq_true p118
 replace q118:=eq_true q118
 have p44:0≤((rd y114 x58_3):Int):=dX
 have q44:((rd y114 x58_3):Int)<((x5_3.length:Int):Int):=dX
 obtain ⟨hx44_0,hf44_0⟩:=Kd.R_celln false HO_5.out ((rd y114 x58_3):Int) p44 q44
 replace p44:=eq_true p44
 replace q44:=eq_true q44
 have HP46:=Kd.R_putg HO_5.out ((rd y114 x58_3):Int) true
 go_wp2_with (first|((with_reducible refine gate_store (t:=4) (p:=69) rfl ?_);refine store_event (t:=4) (p:=69) (v:=?vo_w47) (w1:=(wr.setCell ⟨go20,((rd y114 x58_3):Int).toNat,none⟩ (.bool true))) ?hg ?ho ?hn ?hr ?_;(case ho=>rfl);(case hg=>rfl);(case hn=>rfl);(case hr=>first|(go_simp;done)|(go_simp;rfl));intro w47 hw;have hg:wr.grownBy w47 (some go20):=(by rw [hw];exact HP46.2);have hp_:Kd.R Kd.bool 4 w47 w.heap.size (fun _=>True) (.slice (some ⟨go20,0,none⟩) x5_3.length co20) y119:=(by rw [hw,Ny119.out];exact HP46.1);clear HP46;replace HO_6:=aM (Kd.R_over' (v:=(.slice (some ⟨go20,0,none⟩) x5_3.length co20)) (rX HO_6.out) (Kd.R_typed HO_5.out) (by decide) hg);replace HO_56:=aM (Kd.R_over' (v:=(.slice (some ⟨go20,0,none⟩) x5_3.length co20)) (rX HO_56.out) (Kd.R_typed HO_5.out) (by decide) hg);replace HO_5:=aM (hp_);replace HB:=aM ((by rw [hw];exact below_set (HB.out) GB20.out:Below w.heap.size w w47));clear hg hw hp_)|((with_reducible refine gate_builtin (b:=.append) (xs:=#[.tmp 70,.tmp 72]) rfl ?_);(try(refine gate_guard (by rfl) ?_;dsimp only));at_builtin;refine Kd.R_append (Kd.int .i64) (w0:=w) w.heap.size rfl (.tmp 70) (.tmp 72) 22 3 (.int .i64 0) 8 rfl Try.underlying22 info3 rfl (by decide) (by omega) u6 x6_3 (rd y114 x58_3) [.int .i64 (rd y114 x58_3)] (fun k_=>some k_≠(.slice (some ad117) y114.length co36:Value).ownBlock) (fun _=>False) rfl rfl ?aP (fun _ hk=>hk.elim) ?aF ?aO ?aB ?aS ?aL ?_;(case aP=>exact rfl);(case aB=>exact(bX HB.out));(case aF=>exact(fun k_ hk=>Kd.fresh' (Kd.R_lt (rX HO_56.out)) k_ hk));(case aO=>exact(rX HO_6.out));(case aS=>exact(below_size (bX HB.out)));(case aL=>have:=LMc45.out;omega);intro v121 w48 ho hb hg hat;rw [← Ny120.out] at ho;replace HO_5:=aM (Kd.R_over' (rX HO_5.out) (Kd.R_typed (rX HO_6.out)) (by decide) hg);replace HO_56:=aM (Kd.R_after (ok:=(fun _=>True)) (rM HO_56.out (fun _ hk=>⟨trivial,hk⟩)) hg hat);replace HB:=aM (hb);have HO122:=aM (ho);clear HO_6 ho hb hg hat))
 (try simp only [← hl5_3])
 go_roundg k3
 case measure=>have:=HJ2.out;have:=HK2.out;have:=HK3.out;omega
 case rel=>exact ⟨(y119),(y120),(wrap64 (x58_3+1)),vX,H',⟨by have:=HJ2.out;have:=HK2.out;have:=HK3.out;omega⟩,⟨by(try simp only [hl5_2]);(try simp only [hl5_3]);(with_reducible repeat(first|apply rA|apply rN|apply rD));exact HO_5.out⟩,⟨by(try simp only [hl5_2]);(try simp only [hl5_3]);(with_reducible repeat(first|apply rA|apply rN|apply rD));exact HO122.out⟩,⟨by(try simp only [hl5_2]);(try simp only [hl5_3]);(with_reducible repeat(first|apply rA|apply rN|apply rD));exact Kd.R_mono HO_56.out (fun _ hk=>hk.2)⟩,⟨bX HB.out⟩⟩
 }
 {
 rw [if_neg c45] at H
 exact absurd H (by simp)
 }
 }
 }
 {
 rw [if_neg c41] at H
 exact absurd H (by simp)
 }
 }
 {
 rw [if_neg c40] at H
 exact absurd H (by simp)
 }
 }
 {
 rw [if_neg c39] at H
 exact absurd H (by simp)
 }
 }
 {
 rw [if_neg c38] at H
 exact absurd H (by simp)
 }
 }
 {
 rw [if_neg c37] at H
 have c37b0:=decide_eq_false c37
 clear c37
 have H':=aM H
 clear H
 go_wp2
 (try simp only [← hl5_2,← hl5_3])
 go_roundg k3
 case measure=>have:=HJ2.out;have:=HK2.out;have:=HK3.out;omega
 case rel=>exact ⟨(x5_3),(x6_3),(wrap64 (x7_2+1)),vX,H',⟨by have:=HJ2.out;have:=HK2.out;have:=HK3.out;omega⟩,⟨by(try simp only [hl5_2]);(try simp only [hl5_3]);(with_reducible repeat(first|apply rA|apply rN|apply rD));exact HO_5.out⟩,⟨by(try simp only [hl5_2]);(try simp only [hl5_3]);(with_reducible repeat(first|apply rA|apply rN|apply rD));exact Kd.R_mono HO_6.out (fun _ hk=>trivial)⟩,⟨bX HB.out⟩⟩
 }
 }
 {
 rw [if_neg c31] at H
 exact absurd H (by simp)
 }
 }
 {
 rw [if_neg c30] at H
 exact absurd H (by simp)
 }
 }
 {
 rw [if_neg c29] at H
 exact absurd H (by simp)
 }
 }
 {
 rw [if_neg c28] at H
 exact absurd H (by simp)
 }
 }
 {
 rw [if_neg c27] at H
 have c27b0:=decide_eq_false c27
 clear c27
 obtain rfl:=Option.some.inj H
 obtain ⟨Ao49,co49,eo49⟩:=Kd.R_slice HO_6.out
 subst eo49
 go_wp2
 go_ret
 exact ⟨eX,bX HB.out⟩
 }
 }
 {
 rw [if_neg c19] at H
 exact absurd H (by simp)
 }
 }
 {
 rw [if_neg c18] at H
 exact absurd H (by simp)
 }
 }
 {
 rw [if_neg c17] at H
 exact absurd H (by simp)
 }
 }

/-! ### impl_SurfaceOk: function 56 -/
def impl_SurfaceOk.f (k:Nat) (l0_0:List Int) (l0_1:List Int):Option (Bool):=(impl_IsTransitive.f k l0_0 l0_1).bind fun t124=>(some t124)
theorem impl_SurfaceOk.calls (k:Nat) (A0_0:Option Addr) (c0_0:Nat) (l0_0:List Int) (A0_1:Option Addr) (c0_1:Nat) (l0_1:List Int) (r:Bool) (w:World) (hr0_0:Kd.C (Kd.int .i64) w A0_0 l0_0.length l0_0) (hc0_0:l0_0.length≤c0_0) (hr0_1:Kd.C (Kd.int .i64) w A0_1 l0_1.length l0_1) (hc0_1:l0_1.length≤c0_1) (h:impl_SurfaceOk.f k l0_0 l0_1=some r) :
  Calls Try.prog 56 #[.agg #[.slice A0_0 l0_0.length c0_0,.slice A0_1 l0_1.length c0_1]] w fun e w'=>e = .returned (.bool r)∧Below w.heap.size w w':=by
 have hu27:=Try.underlying27
 have HR0_0:=aM hr0_0
 have HC0_0:=aM hc0_0
 clear hr0_0 hc0_0
 have HR0_1:=aM hr0_1
 have HC0_1:=aM hc0_1
 clear hr0_1 hc0_1
 have HB:=aM (Below.refl w.heap.size w)
 have H:((impl_IsTransitive.f k l0_0 l0_1).bind fun t124=>(some t124))=some r:=h
 clear h
 replace H:=oB H
 obtain ⟨t124,A20,H⟩:=H
 have A2:=aM A20
 clear A20
 obtain rfl:=Option.some.inj H
 go_enter Try.func56,Try.ntmps56
 go_wp2_with (first|((with_reducible refine gate_dst (N:=1) rfl ?_);refine bEv (cs:=#[.slice A0_0 l0_0.length c0_0,.slice A0_1 l0_1.length c0_1]) (t:=27) ?_;intro gb123 hg w3 hbox hb;have BK123:=aM (hbox);have GW123:=aM ((szX (below_size (bX HB.out)) hg:w.heap.size≤gb123));have GE123:=GW123;replace HB:=aM (below_step (bX HB.out) hb);clear hb hbox hg;obtain ⟨hcz4_0,hcz4_1,hfz4_0,hfz4_1⟩:=f2Z BK123.out)|((with_reducible refine gate_callee (f:=93) rfl ?_);refine goesL_ (some 7) rfl rfl Try.func93 (by kernel_rfl) rfl #[.slice A0_0 l0_0.length c0_0,.slice A0_1 l0_1.length c0_1] rfl aX ?_;(with_reducible refine(impl_IsTransitive.calls k _ _ l0_0 _ _ l0_1 t124 _ ?side1 ?side2 ?side3 ?side4 A2.out).mono ?_);(case side1=>exact cX (Kd.C_below HR0_0.out HB.out));(case side2=>exact HC0_0.out);(case side3=>exact cX (Kd.C_below HR0_1.out HB.out));(case side4=>exact HC0_1.out);rintro e w5 ⟨rfl,hb⟩;refine ⟨_,rfl,?_⟩;replace BK123:=aM (bbX BK123.out hb);replace HB:=aM (below_step (bX1 HB.out GE123.out) hb);(try clear hb)))
 go_ret
 exact ⟨eX,bX1 HB.out GE123.out⟩

/-! ### impl_CountSquares: function 105 -/
def impl_CountSquares.f (k:Nat) (l0_0:List Int) (l0_1:List Int):Option (Int):=(impl_SurfaceOk.f k l0_0 l0_1).bind fun t126=>(if t126=true then (some (l0_0.length:Int)) else (some 0))
theorem impl_CountSquares.calls (k:Nat) (A0_0:Option Addr) (c0_0:Nat) (l0_0:List Int) (A0_1:Option Addr) (c0_1:Nat) (l0_1:List Int) (r:Int) (w:World) (hr0_0:Kd.C (Kd.int .i64) w A0_0 l0_0.length l0_0) (hc0_0:l0_0.length≤c0_0) (hr0_1:Kd.C (Kd.int .i64) w A0_1 l0_1.length l0_1) (hc0_1:l0_1.length≤c0_1) (h:impl_CountSquares.f k l0_0 l0_1=some r) :
  Calls Try.prog 105 #[.agg #[.slice A0_0 l0_0.length c0_0,.slice A0_1 l0_1.length c0_1]] w fun e w'=>e = .returned (.int .i64 r)∧Below w.heap.size w w':=by
 have hu27:=Try.underlying27
 have HR0_0:=aM hr0_0
 have HC0_0:=aM hc0_0
 clear hr0_0 hc0_0
 have HR0_1:=aM hr0_1
 have HC0_1:=aM hc0_1
 clear hr0_1 hc0_1
 have HB:=aM (Below.refl w.heap.size w)
 have H:((impl_SurfaceOk.f k l0_0 l0_1).bind fun t126=>(if t126=true then (some (l0_0.length:Int)) else (some 0)))=some r:=h
 clear h
 replace H:=oB H
 obtain ⟨t126,A20,H⟩:=H
 have A2:=aM A20
 clear A20
 by_cases c3:t126=true
 {
 subst c3
 have H1:(some (l0_0.length:Int))=some r:=by rw [if_pos rfl] at H;exact H
 clear H
 have H:=H1
 clear H1
 obtain rfl:=Option.some.inj H
 go_enter Try.func105,Try.ntmps105
 go_wp2_with (first|((with_reducible refine gate_dst (N:=1) rfl ?_);refine bEv (cs:=#[.slice A0_0 l0_0.length c0_0,.slice A0_1 l0_1.length c0_1]) (t:=27) ?_;intro gb125 hg w4 hbox hb;have BK125:=aM (hbox);have GW125:=aM ((szX (below_size (bX HB.out)) hg:w.heap.size≤gb125));have GE125:=GW125;replace HB:=aM (below_step (bX HB.out) hb);clear hb hbox hg;obtain ⟨hcz5_0,hcz5_1,hfz5_0,hfz5_1⟩:=f2Z BK125.out)|((with_reducible refine gate_callee (f:=56) rfl ?_);refine goesL_ (some 4) rfl rfl Try.func56 (by kernel_rfl) rfl #[.agg #[.slice A0_0 l0_0.length c0_0,.slice A0_1 l0_1.length c0_1]] rfl aX ?_;(with_reducible refine(impl_SurfaceOk.calls k _ _ l0_0 _ _ l0_1 true _ ?side1 ?side2 ?side3 ?side4 A2.out).mono ?_);(case side1=>exact cX (Kd.C_below HR0_0.out HB.out));(case side2=>exact HC0_0.out);(case side3=>exact cX (Kd.C_below HR0_1.out HB.out));(case side4=>exact HC0_1.out);rintro e w6 ⟨rfl,hb⟩;refine ⟨_,rfl,?_⟩;replace BK125:=aM (bbX BK125.out hb);replace HB:=aM (below_step (bX1 HB.out GE125.out) hb);(try clear hb);obtain ⟨hcz7_0,hcz7_1,hfz7_0,hfz7_1⟩:=f2Z BK125.out))
 go_ret
 exact ⟨eX,bX1 HB.out GE125.out⟩
 }
 {
 replace c3:=Bool.eq_false_iff.mpr c3
 subst c3
 have H1:(some 0)=some r:=by rw [if_neg (show ¬ (false=true) by decide)] at H;exact H
 clear H
 have H:=H1
 clear H1
 obtain rfl:=Option.some.inj H
 go_enter Try.func105,Try.ntmps105
 go_wp2_with (first|((with_reducible refine gate_dst (N:=1) rfl ?_);refine bEv (cs:=#[.slice A0_0 l0_0.length c0_0,.slice A0_1 l0_1.length c0_1]) (t:=27) ?_;intro gb125 hg w8 hbox hb;have BK125:=aM (hbox);have GW125:=aM ((szX (below_size (bX HB.out)) hg:w.heap.size≤gb125));have GE125:=GW125;replace HB:=aM (below_step (bX HB.out) hb);clear hb hbox hg;obtain ⟨hcz9_0,hcz9_1,hfz9_0,hfz9_1⟩:=f2Z BK125.out)|((with_reducible refine gate_callee (f:=56) rfl ?_);refine goesL_ (some 4) rfl rfl Try.func56 (by kernel_rfl) rfl #[.agg #[.slice A0_0 l0_0.length c0_0,.slice A0_1 l0_1.length c0_1]] rfl aX ?_;(with_reducible refine(impl_SurfaceOk.calls k _ _ l0_0 _ _ l0_1 false _ ?side1 ?side2 ?side3 ?side4 A2.out).mono ?_);(case side1=>exact cX (Kd.C_below HR0_0.out HB.out));(case side2=>exact HC0_0.out);(case side3=>exact cX (Kd.C_below HR0_1.out HB.out));(case side4=>exact HC0_1.out);rintro e w10 ⟨rfl,hb⟩;refine ⟨_,rfl,?_⟩;replace BK125:=aM (bbX BK125.out hb);replace HB:=aM (below_step (bX1 HB.out GE125.out) hb);(try clear hb)))
 go_ret
 exact ⟨eX,bX1 HB.out GE125.out⟩
 }

/-! ### impl_RenamePerm: function 122 -/
mutual
def impl_RenamePerm.j0 : Nat→List Int→List Int→Bool→Option (List Int)
 | 0,_,_,_=>none
 | k+1,x0,x1,x22=>if x22=true then (some ([]:List Int)) else (if 0≤(x0.length:Int) then (if ((x0.length:Int):Int).toNat≤35184372088832 then (impl_RenamePerm.l0 k x1 (List.replicate ((x0.length:Int):Int).toNat 0) x0 (x0.length:Int) 0) else (none)) else (none))
def impl_RenamePerm.l0 : Nat→List Int→List Int→List Int→Int→Int→Option (List Int)
 | 0,_,_,_,_,_=>none
 | k+1,x1,x5,x26,x27,x28=>if x28<x27 then (if 0≤x28 then (if x28<(x26.length:Int) then (if x28<(x1.length:Int) then (if 0≤(rd x26 x28) then (if (rd x26 x28)<(x1.length:Int) then (if 0≤(rd x1 x28) then (if (rd x1 x28)<(x5.length:Int) then (impl_RenamePerm.l0 k x1 (x5.set ((rd x1 x28):Int).toNat (rd x1 (rd x26 x28))) x26 x27 (wrap64 (x28+1))) else (none)) else (none)) else (none)) else (none)) else (none)) else (none)) else (none)) else (some x5)
end
def impl_RenamePerm.f (k:Nat) (l0:List Int) (l1:List Int):Option (List Int):=(impl_PermOk.f l0).bind fun t127=>(if t127=true then ((impl_PermOk.f l1).bind fun t128=>(if t128=true then (impl_RenamePerm.j0 k l0 l1 ((l0.length:Int) != (l1.length:Int))) else (impl_RenamePerm.j0 k l0 l1 true))) else (impl_RenamePerm.j0 k l0 l1 true))
def impl_RenamePerm.T7 : Bool × List (List Nat × List Nat):=(true,[([],[]),([],[]),([],[]),([1,2],[1,2]),([3],[3]),([],[]),([],[]),([5,6],[5,6]),([7],[7]),([0,4,0,1,2,3,4,5,6,7,8],[0,4]),([9,8,0,1,2,3,4,5,6,7,8],[8,9])])
def impl_RenamePerm.B7 : List Nat:=[0,0,0,6,14,0,0,96,224,511,1023]
theorem impl_RenamePerm.tab7 : rtab .any (opsOf Try.f122 7)=impl_RenamePerm.T7:=by kernel_rfl
theorem impl_RenamePerm.bits7 : waitsOk impl_RenamePerm.T7.2 impl_RenamePerm.B7=true:=by kernel_rfl
theorem impl_RenamePerm.calls (k:Nat) (A0:Option Addr) (c0:Nat) (l0:List Int) (A1:Option Addr) (c1:Nat) (l1:List Int) (r:List Int) (w:World) (hr0:Kd.C (Kd.int .i64) w A0 l0.length l0) (hc0:l0.length≤c0) (hr1:Kd.C (Kd.int .i64) w A1 l1.length l1) (hc1:l1.length≤c1) (h:impl_RenamePerm.f k l0 l1=some r) :
  Calls Try.prog 122 #[.slice A0 l0.length c0,.slice A1 l1.length c1] w fun e w'=>∃ v0_:Value,e = .returned (v0_)∧Kd.R (Kd.int .i64) 3 w' w.heap.size (fun _=>True) v0_ r∧Below w.heap.size w w':=by
 have HR0:=aM hr0
 have HC0:=aM hc0
 clear hr0 hc0
 have HR1:=aM hr1
 have HC1:=aM hc1
 clear hr1 hc1
 have HB:=aM (Below.refl w.heap.size w)
 have H:((impl_PermOk.f l0).bind fun t127=>(if t127=true then ((impl_PermOk.f l1).bind fun t128=>(if t128=true then (impl_RenamePerm.j0 k l0 l1 ((l0.length:Int) != (l1.length:Int))) else (impl_RenamePerm.j0 k l0 l1 true))) else (impl_RenamePerm.j0 k l0 l1 true)))=some r:=h
 clear h
 have HC3:=aM H
 clear H
 go_enter Try.func122,Try.ntmps122
 go_upto_region 1 with (fail)
 go_cut [22] (fun v22 wc=>∃ (kq:Nat) (x22_2:Bool),v22 = .bool x22_2∧Aside0 (impl_RenamePerm.j0 kq l0 l1 x22_2=some r)∧Aside0 (kq≤k)∧Aside0 (Below w.heap.size w wc))
 case first =>
  have H:=HC3.out
  clear HC3
  replace H:=oB H
  obtain ⟨t127,A40,H⟩:=H
  have A4:=aM A40
  clear A40
  by_cases c5:t127=true
  {
  subst c5
  have H1:((impl_PermOk.f l1).bind fun t128=>(if t128=true then (impl_RenamePerm.j0 k l0 l1 ((l0.length:Int) != (l1.length:Int))) else (impl_RenamePerm.j0 k l0 l1 true)))=some r:=by rw [if_pos rfl] at H;exact H
  clear H
  have H:=H1
  clear H1
  replace H:=oB H
  obtain ⟨t128,A60,H⟩:=H
  have A6:=aM A60
  clear A60
  by_cases c7:t128=true
  {
  subst c7
  have H1:(impl_RenamePerm.j0 k l0 l1 ((l0.length:Int) != (l1.length:Int)))=some r:=by rw [if_pos rfl] at H;exact H
  clear H
  have H:=H1
  clear H1
  have H':=aM H
  clear H
  go_wp2_with (first|((with_reducible refine gate_callee (f:=117) rfl ?_);refine goesL_ (some 9) rfl rfl Try.func117 (by kernel_rfl) rfl #[.slice A0 l0.length c0] rfl aX ?_;(with_reducible refine(impl_PermOk.calls _ _ l0 true _ ?side1 ?side2 A4.out).mono ?_);(case side1=>exact cX (Kd.C_below HR0.out HB.out));(case side2=>exact HC0.out);rintro e w8 ⟨rfl,hb⟩;refine ⟨_,rfl,?_⟩;replace HB:=aM (below_step (bX HB.out) hb);(try clear hb);(try clear hk))|(go_at_call 117;(with_reducible refine(impl_PermOk.calls _ _ l1 true _ ?side1 ?side2 A6.out).mono ?_);(case side1=>exact cX (Kd.C_below HR1.out HB.out));(case side2=>exact HC1.out);rintro e w9 ⟨rfl,hb⟩;replace HB:=aM (below_step (bX HB.out) hb);(try clear hb);(try clear hk)))
  go_meet
  case rel=>exact ⟨_,(((l0.length:Int) != (l1.length:Int))),vX,H',⟨by first|omega|exact Nat.le_refl _⟩,⟨bX HB.out⟩⟩
  }
  {
  replace c7:=Bool.eq_false_iff.mpr c7
  subst c7
  have H1:(impl_RenamePerm.j0 k l0 l1 true)=some r:=by rw [if_neg (show ¬ (false=true) by decide)] at H;exact H
  clear H
  have H:=H1
  clear H1
  have H':=aM H
  clear H
  go_wp2_with (first|((with_reducible refine gate_callee (f:=117) rfl ?_);refine goesL_ (some 9) rfl rfl Try.func117 (by kernel_rfl) rfl #[.slice A0 l0.length c0] rfl aX ?_;(with_reducible refine(impl_PermOk.calls _ _ l0 true _ ?side1 ?side2 A4.out).mono ?_);(case side1=>exact cX (Kd.C_below HR0.out HB.out));(case side2=>exact HC0.out);rintro e w10 ⟨rfl,hb⟩;refine ⟨_,rfl,?_⟩;replace HB:=aM (below_step (bX HB.out) hb);(try clear hb);(try clear hk))|(go_at_call 117;(with_reducible refine(impl_PermOk.calls _ _ l1 false _ ?side1 ?side2 A6.out).mono ?_);(case side1=>exact cX (Kd.C_below HR1.out HB.out));(case side2=>exact HC1.out);rintro e w11 ⟨rfl,hb⟩;replace HB:=aM (below_step (bX HB.out) hb);(try clear hb);(try clear hk)))
  go_meet
  case rel=>exact ⟨_,(true),vX,H',⟨by first|omega|exact Nat.le_refl _⟩,⟨bX HB.out⟩⟩
  }
  }
  {
  replace c5:=Bool.eq_false_iff.mpr c5
  subst c5
  have H1:(impl_RenamePerm.j0 k l0 l1 true)=some r:=by rw [if_neg (show ¬ (false=true) by decide)] at H;exact H
  clear H
  have H:=H1
  clear H1
  have H':=aM H
  clear H
  go_wp2_with (first|((with_reducible refine gate_callee (f:=117) rfl ?_);refine goesL_ (some 9) rfl rfl Try.func117 (by kernel_rfl) rfl #[.slice A0 l0.length c0] rfl aX ?_;(with_reducible refine(impl_PermOk.calls _ _ l0 false _ ?side1 ?side2 A4.out).mono ?_);(case side1=>exact cX (Kd.C_below HR0.out HB.out));(case side2=>exact HC0.out);rintro e w12 ⟨rfl,hb⟩;refine ⟨_,rfl,?_⟩;replace HB:=aM (below_step (bX HB.out) hb);(try clear hb);(try clear hk)))
  go_meet
  case rel=>exact ⟨_,(true),vX,H',⟨by first|omega|exact Nat.le_refl _⟩,⟨bX HB.out⟩⟩
  }
 case rest =>
 clear HC3
 try clear c1
 try clear c5
 try clear c7
 obtain ⟨kq,x22_2,rfl,HA,HJ2,HB⟩:=hcut
 cases kq with
 | zero=>exact absurd HA.out (by simp [impl_RenamePerm.j0])
 | succ kj2 =>
 have H:=HA.out
 clear HA
 simp only [impl_RenamePerm.j0] at H
 by_cases c13:x22_2=true
 {
 subst c13
 have H1:(some ([]:List Int))=some r:=by rw [if_pos rfl] at H;exact H
 clear H
 have H:=H1
 clear H1
 obtain rfl:=Option.some.inj H
 go_wp2
 go_ret
 exact ⟨_,eX,by first|exact Kd.R_nil _ _ _ _ _|exact Kd.N_nil _ _ _ _ _|exact Kd.V_nil _ _ _ _ _|exact Kd.Q_nil _ _ _ _ _|exact Kd.S_nil _ _ _ _ _,bX HB.out⟩
 }
 {
 replace c13:=Bool.eq_false_iff.mpr c13
 subst c13
 have H1:(if 0≤(l0.length:Int) then (if ((l0.length:Int):Int).toNat≤35184372088832 then (impl_RenamePerm.l0 kj2 l1 (List.replicate ((l0.length:Int):Int).toNat 0) l0 (l0.length:Int) 0) else (none)) else (none))=some r:=by rw [if_neg (show ¬ (false=true) by decide)] at H;exact H
 clear H
 have H:=H1
 clear H1
 by_cases c14:0≤(l0.length:Int)
 {
 rw [if_pos c14] at H
 have c14b0:=eq_true c14
 have c14b1:=decide_eq_true c14
 clear c14
 by_cases c15:((l0.length:Int):Int).toNat≤35184372088832
 {
 rw [if_pos c15] at H
 have c15b0:=eq_true c15
 have c15b1:=decide_eq_true c15
 clear c15
 obtain ⟨y129,hy129⟩:∃ y_:List Int,y_=(List.replicate ((l0.length:Int):Int).toNat 0):=⟨_,rfl⟩
 replace H:(impl_RenamePerm.l0 kj2 l1 y129 l0 (l0.length:Int) 0)=some r:=by first|(rw [hy129];with_reducible exact H)|(have H2_:=(Option.bind_some _ _).symm.trans H;rw [hy129];with_reducible exact H2_)|(have H2_:=(Option.bind_some _ _).symm.trans H;with_reducible exact H2_)|with_reducible exact H|(rw [hy129];exact H)|exact H
 have Ny129:=aM hy129
 clear hy129
 have H':=aM H
 clear H
 go_wp2_with (first|((with_reducible refine gate_dst (N:=25) rfl ?_);(try(refine gate_guard (by rfl) ?_;dsimp only));refine Kd.R_make (Kd.int .i64) _ 3 rfl (N:=25) rfl 22 _ _ rfl (l0.length:Int) rfl rfl Try.underlying22 (.int .i64 0) 8 info3 rfl (by decide) (by omega) 0 (ok:=fun _=>True) (okp:=fun _=>True) rfl (fun _ hk=>hk) trivial (dX) (Nat.le_trans (Nat.mul_le_mul_right _ (dX:(l0.length:Int).toNat≤35184372088832)) (by omega)) (Below.refl _ _) (Nat.le_refl _) ?_;intro v130 w16 ho17 hb hg_ hnew_;clear hg_ hnew_;(first|rw [← Ny129.out] at ho17|(simp only [Int.reduceToNat] at ho17;rw [← Ny129.out] at ho17));have HO131:=aM (Kd.R_lower ho17 (below_size (bX HB.out)));replace HB:=aM (below_step (bX HB.out) hb);clear hb ho17))
 go_loopg [28] kj2 (fun kq v28 w'=>∃ (x5_2:List Int) (x28_2:Int),v28 = .int .i64 x28_2∧Aside0 (impl_RenamePerm.l0 kq l1 x5_2 l0 (l0.length:Int) x28_2=some r)∧Aside0 (kq≤kj2)∧Aside0 (Kd.R (Kd.int .i64) 3 w' w.heap.size (fun _=>True) v130 x5_2)∧Aside0 (Below w.heap.size w w'))
 case atStart=>exact ⟨(y129),(0),vX,H',⟨Nat.le_refl _⟩,⟨rX HO131.out⟩,⟨bX HB.out⟩⟩
 case round =>
 clear H'
 try clear c1
 try clear c5
 try clear c7
 try clear c13
 try clear c14
 try clear c14b0
 try clear c14b1
 try clear c15
 try clear c15b0
 try clear c15b1
 obtain ⟨x5_2,x28_2,rfl,HA,HK2,HO_5,HB⟩:=hrel
 cases gk with
 | zero=>exact absurd HA.out (by simp [impl_RenamePerm.l0])
 | succ k2 =>
 have H:=HA.out
 clear HA
 simp only [impl_RenamePerm.l0] at H
 by_cases c18:x28_2<(l0.length:Int)
 {
 rw [if_pos c18] at H
 have c18b0:=decide_eq_true c18
 clear c18
 by_cases c19:0≤x28_2
 {
 rw [if_pos c19] at H
 have c19b0:=decide_eq_true c19
 clear c19
 by_cases c20:x28_2<(l0.length:Int)
 {
 rw [if_pos c20] at H
 have c20b0:=decide_eq_true c20
 clear c20
 by_cases c21:x28_2<(l1.length:Int)
 {
 rw [if_pos c21] at H
 have c21b0:=decide_eq_true c21
 clear c21
 by_cases c22:0≤(rd l0 x28_2)
 {
 rw [if_pos c22] at H
 have c22b0:=decide_eq_true c22
 clear c22
 by_cases c23:(rd l0 x28_2)<(l1.length:Int)
 {
 rw [if_pos c23] at H
 have c23b0:=decide_eq_true c23
 clear c23
 by_cases c24:0≤(rd l1 x28_2)
 {
 rw [if_pos c24] at H
 have c24b0:=decide_eq_true c24
 clear c24
 by_cases c25:(rd l1 x28_2)<(x5_2.length:Int)
 {
 rw [if_pos c25] at H
 have c25b0:=decide_eq_true c25
 clear c25
 obtain ⟨y135,hy135⟩:∃ y_:List Int,y_=(x5_2.set ((rd l1 x28_2):Int).toNat (rd l1 (rd l0 x28_2))):=⟨_,rfl⟩
 replace H:(impl_RenamePerm.l0 k2 l1 y135 l0 (l0.length:Int) (wrap64 (x28_2+1)))=some r:=by first|(rw [hy135];with_reducible exact H)|(have H2_:=(Option.bind_some _ _).symm.trans H;rw [hy135];with_reducible exact H2_)|(have H2_:=(Option.bind_some _ _).symm.trans H;with_reducible exact H2_)|with_reducible exact H|(rw [hy135];exact H)|exact H
 have Ny135:=aM hy135
 clear hy135
 have H':=aM H
 clear H
 have p132:0≤(x28_2:Int):=dX
 have q132:x28_2<(l0.length:Int):=dX
 obtain ⟨ad132,e132,hx132_0⟩:=Kd.at_int HR0.out x28_2 p132 q132
 cases e132
 replace hx132_0:=(HB.out.cell (World.block_lt_of_cell? w _ hx132_0)).trans hx132_0
 replace p132:=eq_true p132
 replace q132:=eq_true q132
 try go_wp2
 replace HO_5:=aM (Kd.R_drew HO_5.out)
 replace HB:=aM (below_drew1 HB.out)
 have p133:0≤(x28_2:Int):=dX
 have q133:x28_2<(l1.length:Int):=dX
 obtain ⟨ad133,e133,hx133_0⟩:=Kd.at_int HR1.out x28_2 p133 q133
 have hw133_0:=hx133_0
 cases e133
 replace hx133_0:=(HB.out.cell (World.block_lt_of_cell? w _ hx133_0)).trans hx133_0
 replace p133:=eq_true p133
 replace q133:=eq_true q133
 have p134:0≤((rd l0 x28_2):Int):=dX
 have q134:(rd l0 x28_2)<(l1.length:Int):=dX
 obtain ⟨ad134,e134,hx134_0⟩:=Kd.at_int HR1.out (rd l0 x28_2) p134 q134
 have hw134_0:=hx134_0
 obtain rfl:ad133=ad134:=(by injection e134)
 replace hx134_0:=(HB.out.cell (World.block_lt_of_cell? w _ hx134_0)).trans hx134_0
 replace p134:=eq_true p134
 replace q134:=eq_true q134
 have p26:0≤((rd l1 x28_2):Int):=dX
 have q26:((rd l1 x28_2):Int)<((x5_2.length:Int):Int):=dX
 obtain ⟨go26,co26,eo26,gb26,gl26,cl26,HG26⟩:=Kd.R_form HO_5.out (by omega)
 (first|cases eo26|(injection eo26 with ea_ en_ ec_;(first|subst ea_|(injection ea_ with ea_;subst ea_));subst ec_;clear en_))
 have GB26:=aM gb26
 have GG26:=aM HG26
 clear gb26 gl26 HG26
 obtain ⟨hx26_0,hf26_0⟩:=Kd.R_celln 0 HO_5.out ((rd l1 x28_2):Int) p26 q26
 replace p26:=eq_true p26
 replace q26:=eq_true q26
 have HP28:=Kd.R_putn HO_5.out ((rd l1 x28_2):Int) (rd l1 (rd l0 x28_2))
 rw [← Ny135.out] at HP28
 have HQ28:=aM HP28
 clear HP28
 refine start_ (n:=11) (S:=fun w'=>w'.cell? (ad133.add (x28_2).toNat)=some (.int .i64 (rd l1 x28_2))∧w'.cell? (ad133.add ((rd l0 x28_2)).toNat)=some (.int .i64 (rd l1 (rd l0 x28_2)))) (ds:=[10]) #[ff,ff,ff,ff,ff,ff,ff,ff,ff,ff,ff] (by kernel_rfl) rfl rfl ⟨((HB.out.cell (World.block_lt_of_cell? w _ hw133_0)).trans hw133_0),((HB.out.cell (World.block_lt_of_cell? w _ hw134_0)).trans hw134_0)⟩ (fun hHeld => ?_);refine with_tabW impl_RenamePerm.tab7 impl_RenamePerm.bits7 (fun HT_ HW_ => ?_)
 generalize wr.drew=w27 at HO_5 HB GG26 HQ28 hf26_0 hx133_0 hx134_0 hx26_0 hHeld ⊢
 refine pX 0 33 (fl 11 1) rfl rfl HT_.out ?_
 refine pX 1 34 (fl 11 3) rfl rfl HT_.out ?_
 refine pX 2 35 (fl 11 7) rfl rfl HT_.out ?_
 refine pX 3 36 (fl 11 15) rfl rfl HT_.out ?_
 refine pX 5 38 (fl 11 47) rfl rfl HT_.out ?_
 refine pX 6 39 (fl 11 111) rfl rfl HT_.out ?_
 refine pX 7 40 (fl 11 239) rfl rfl HT_.out ?_
 refine tX2 4 37 (fl 11 255) rfl rfl HT_.out HW_.out hHeld ?_
 refine tX2 8 41 (fl 11 511) rfl rfl HT_.out HW_.out hHeld ?_
 refine pX 9 42 (fl 11 1023) rfl rfl HT_.out ?_
 refine last_ (i:=10) (N:=none) #[tt,tt,tt,tt,tt,tt,tt,tt,tt,tt,tt] rfl rfl (one_of HT_.out (by kernel_rfl)) (by decide) (fun K hK => ?_)
 refine skip_ (w1:=?_) (by rfl) rfl ?_ ?_
 rotate_left
 {
 go_simp
 rfl
 }
 refine hK.out _ _ ?_
 clear hK K
 refine done_ (done_of HT_.out (by kernel_rfl)) ?_
 try go_wp2
 go_roundg k2
 case measure=>have:=HJ2.out;have:=HK2.out;omega
 case rel=>exact ⟨(y135),(wrap64 (x28_2+1)),vX,H',⟨by have:=HJ2.out;have:=HK2.out;omega⟩,⟨rX HQ28.out⟩,⟨bX1 HB.out GB26.out⟩⟩
 }
 {
 rw [if_neg c25] at H
 exact absurd H (by simp)
 }
 }
 {
 rw [if_neg c24] at H
 exact absurd H (by simp)
 }
 }
 {
 rw [if_neg c23] at H
 exact absurd H (by simp)
 }
 }
 {
 rw [if_neg c22] at H
 exact absurd H (by simp)
 }
 }
 {
 rw [if_neg c21] at H
 exact absurd H (by simp)
 }
 }
 {
 rw [if_neg c20] at H
 exact absurd H (by simp)
 }
 }
 {
 rw [if_neg c19] at H
 exact absurd H (by simp)
 }
 }
 {
 rw [if_neg c18] at H
 have c18b0:=decide_eq_false c18
 clear c18
 obtain rfl:=Option.some.inj H
 go_wp2
 go_ret
 exact ⟨_,eX,by(with_reducible repeat(first|apply rA|apply rN|apply rD));exact HO_5.out,bX HB.out⟩
 }
 }
 {
 rw [if_neg c15] at H
 exact absurd H (by simp)
 }
 }
 {
 rw [if_neg c14] at H
 exact absurd H (by simp)
 }
 }

/-! ### impl_RenameSurface: function 106 -/
def impl_RenameSurface.j0 : Nat→List Int→Bool→List Int→List Int→Option (List Int × List Int × Bool)
 | 0,_,_,_,_=>none
 | k+1,x1,x21,x137000,x137001=>if x21=true then (some (([]:List Int),([]:List Int),false)) else ((impl_RenamePerm.f k x137000 x1).bind fun t140=>((impl_RenamePerm.f k x137001 x1).bind fun t143=>(some (t140,t143,true))))
def impl_RenameSurface.f (k:Nat) (l0_0:List Int) (l0_1:List Int) (l1:List Int):Option (List Int × List Int × Bool):=(impl_SurfaceOk.f k l0_0 l0_1).bind fun t138=>(if t138=true then ((impl_PermOk.f l1).bind fun t139=>(if t139=true then (impl_RenameSurface.j0 k l1 ((l1.length:Int) != (l0_0.length:Int)) l0_0 l0_1) else (impl_RenameSurface.j0 k l1 true l0_0 l0_1))) else (impl_RenameSurface.j0 k l1 true l0_0 l0_1))
def impl_RenameSurface.T3 : Bool × List (List Nat × List Nat):=(true,[([],[]),([0],[0]),([],[]),([1,2],[1,2]),([],[]),([4],[4]),([],[]),([5,6,3],[5,6]),([3,7],[3,7]),([8,7,0,1,2,3,4,5,6,7,8],[8]),([9,0,1,2,3,4,5,6,7,8,9],[])])
def impl_RenameSurface.B3 : List Nat:=[0,1,0,7,0,16,0,127,255,511,1023]
theorem impl_RenameSurface.tab3 : rtab .any (opsOf Try.f106 3)=impl_RenameSurface.T3:=by kernel_rfl
theorem impl_RenameSurface.bits3 : waitsOk impl_RenameSurface.T3.2 impl_RenameSurface.B3=true:=by kernel_rfl
theorem impl_RenameSurface.calls (k:Nat) (A0_0:Option Addr) (c0_0:Nat) (l0_0:List Int) (A0_1:Option Addr) (c0_1:Nat) (l0_1:List Int) (A1:Option Addr) (c1:Nat) (l1:List Int) (r1:List Int) (r2:List Int) (r3:Bool) (w:World) (hr0_0:Kd.C (Kd.int .i64) w A0_0 l0_0.length l0_0) (hc0_0:l0_0.length≤c0_0) (hr0_1:Kd.C (Kd.int .i64) w A0_1 l0_1.length l0_1) (hc0_1:l0_1.length≤c0_1) (hr1:Kd.C (Kd.int .i64) w A1 l1.length l1) (hc1:l1.length≤c1) (h:impl_RenameSurface.f k l0_0 l0_1 l1=some (r1,r2,r3)) :
  Calls Try.prog 106 #[.agg #[.slice A0_0 l0_0.length c0_0,.slice A0_1 l0_1.length c0_1],.slice A1 l1.length c1] w fun e w'=>∃ v0_ v1_:Value,e = .returned (.tuple #[.agg #[v0_,v1_],.bool r3])∧Kd.R (Kd.int .i64) 3 w' w.heap.size (fun k_=>some k_≠(v1_:Value).ownBlock) v0_ r1∧Kd.R (Kd.int .i64) 3 w' w.heap.size (fun k_=>some k_≠(v0_:Value).ownBlock) v1_ r2∧Below w.heap.size w w':=by
 have hu27:=Try.underlying27
 have HR0_0:=aM hr0_0
 have HC0_0:=aM hc0_0
 clear hr0_0 hc0_0
 have HR0_1:=aM hr0_1
 have HC0_1:=aM hc0_1
 clear hr0_1 hc0_1
 have HR1:=aM hr1
 have HC1:=aM hc1
 clear hr1 hc1
 have HB:=aM (Below.refl w.heap.size w)
 have H:((impl_SurfaceOk.f k l0_0 l0_1).bind fun t138=>(if t138=true then ((impl_PermOk.f l1).bind fun t139=>(if t139=true then (impl_RenameSurface.j0 k l1 ((l1.length:Int) != (l0_0.length:Int)) l0_0 l0_1) else (impl_RenameSurface.j0 k l1 true l0_0 l0_1))) else (impl_RenameSurface.j0 k l1 true l0_0 l0_1)))=some (r1,r2,r3):=h
 clear h
 have HC3:=aM H
 clear H
 go_enter Try.func106,Try.ntmps106
 go_upto_region 1 with (first|((with_reducible refine gate_dst (N:=2) rfl ?_);(try(refine gate_guard (by rfl) ?_;dsimp only));refine bEv (cs:=#[.slice A0_0 l0_0.length c0_0,.slice A0_1 l0_1.length c0_1]) (t:=27) ?_;intro gb136 hg w4 hbox hb;have BK136:=aM (hbox);have GW136:=aM ((szX (below_size (bX HB.out)) hg:w.heap.size≤gb136));have GE136:=GW136;replace HB:=aM (below_step (bX HB.out) hb);clear hb hbox hg)|((with_reducible refine gate_dst (N:=4) rfl ?_);(try(refine gate_guard (by rfl) ?_;dsimp only));refine bEv (cs:=#[.slice none 0 0,.slice none 0 0]) (t:=27) ?_;intro gb137 hg w5 hbox hb;have BK137:=aM (hbox);have GW137:=aM ((szX (below_size (bX1 HB.out GE136.out)) hg:w.heap.size≤gb137));have GE137:=GW137;replace HB:=aM (below_step (bX1 HB.out GE136.out) hb);have NB136_137:=aM (neX BK136.out hg);have NB137_136:=aM (nfX BK136.out hg);replace BK136:=aM (bbX BK136.out hb);clear hb hbox hg))
 (try simp only [Act.put,List.setIfInBounds_toArray,List.set_cons_zero,List.set_cons_succ])
 go_cut [21] (fun v21 wc=>∃ (kq:Nat) (x21_2:Bool),v21 = .bool x21_2∧Aside0 (impl_RenameSurface.j0 kq l1 x21_2 l0_0 l0_1=some (r1,r2,r3))∧Aside0 (kq≤k)∧Aside0 (wc.heap[gb136]? = some (.cells #[(.slice A0_0 l0_0.length c0_0),(.slice A0_1 l0_1.length c0_1)] 27 (0,0)))∧Aside0 (wc.heap[gb137]? = some (.cells #[(.slice none 0 0),(.slice none 0 0)] 27 (0,0)))∧Aside0 (Below w.heap.size w wc))
 case first =>
  have H:=HC3.out
  clear HC3
  replace H:=oB H
  obtain ⟨t138,A60,H⟩:=H
  have A6:=aM A60
  clear A60
  by_cases c7:t138=true
  {
  subst c7
  have H1:((impl_PermOk.f l1).bind fun t139=>(if t139=true then (impl_RenameSurface.j0 k l1 ((l1.length:Int) != (l0_0.length:Int)) l0_0 l0_1) else (impl_RenameSurface.j0 k l1 true l0_0 l0_1)))=some (r1,r2,r3):=by rw [if_pos rfl] at H;exact H
  clear H
  have H:=H1
  clear H1
  replace H:=oB H
  obtain ⟨t139,A80,H⟩:=H
  have A8:=aM A80
  clear A80
  by_cases c9:t139=true
  {
  subst c9
  have H1:(impl_RenameSurface.j0 k l1 ((l1.length:Int) != (l0_0.length:Int)) l0_0 l0_1)=some (r1,r2,r3):=by rw [if_pos rfl] at H;exact H
  clear H
  have H:=H1
  clear H1
  have H':=aM H
  clear H
  have hnb10:=NB136_137.out
  have hnc10:=NB137_136.out
  obtain ⟨hcz11_0,hcz11_1,hfz11_0,hfz11_1⟩:=f2Z BK136.out
  go_wp2_with (first|((with_reducible refine gate_callee (f:=56) rfl ?_);refine goesL_ (some 7) rfl rfl Try.func56 (by kernel_rfl) rfl #[.agg #[.slice A0_0 l0_0.length c0_0,.slice A0_1 l0_1.length c0_1]] rfl aX ?_;(with_reducible refine(impl_SurfaceOk.calls k _ _ l0_0 _ _ l0_1 true _ ?side1 ?side2 ?side3 ?side4 A6.out).mono ?_);(case side1=>exact cX (Kd.C_below HR0_0.out HB.out));(case side2=>exact HC0_0.out);(case side3=>exact cX (Kd.C_below HR0_1.out HB.out));(case side4=>exact HC0_1.out);rintro e w12 ⟨rfl,hb⟩;refine ⟨_,rfl,?_⟩;replace BK136:=aM (bbX BK136.out hb);replace BK137:=aM (bbX BK137.out hb);replace HB:=aM (below_step (bX2 HB.out GE136.out GE137.out) hb);(try clear hb);(try clear hk))|(go_at_call 117;(with_reducible refine(impl_PermOk.calls _ _ l1 true _ ?side1 ?side2 A8.out).mono ?_);(case side1=>exact cX (Kd.C_below HR1.out HB.out));(case side2=>exact HC1.out);rintro e w13 ⟨rfl,hb⟩;replace BK136:=aM (bbX BK136.out hb);replace BK137:=aM (bbX BK137.out hb);replace HB:=aM (below_step (bX2 HB.out GE136.out GE137.out) hb);(try clear hb);(try clear hk);obtain ⟨hcz14_0,hcz14_1,hfz14_0,hfz14_1⟩:=f2Z BK136.out))
  go_meet
  case rel=>exact ⟨_,(((l1.length:Int) != (l0_0.length:Int))),vX,H',⟨by first|omega|exact Nat.le_refl _⟩,⟨kX BK136.out⟩,⟨kX BK137.out⟩,⟨bX2 HB.out GE136.out GE137.out⟩⟩
  }
  {
  replace c9:=Bool.eq_false_iff.mpr c9
  subst c9
  have H1:(impl_RenameSurface.j0 k l1 true l0_0 l0_1)=some (r1,r2,r3):=by rw [if_neg (show ¬ (false=true) by decide)] at H;exact H
  clear H
  have H:=H1
  clear H1
  have H':=aM H
  clear H
  have hnb15:=NB136_137.out
  have hnc15:=NB137_136.out
  obtain ⟨hcz16_0,hcz16_1,hfz16_0,hfz16_1⟩:=f2Z BK136.out
  go_wp2_with (first|((with_reducible refine gate_callee (f:=56) rfl ?_);refine goesL_ (some 7) rfl rfl Try.func56 (by kernel_rfl) rfl #[.agg #[.slice A0_0 l0_0.length c0_0,.slice A0_1 l0_1.length c0_1]] rfl aX ?_;(with_reducible refine(impl_SurfaceOk.calls k _ _ l0_0 _ _ l0_1 true _ ?side1 ?side2 ?side3 ?side4 A6.out).mono ?_);(case side1=>exact cX (Kd.C_below HR0_0.out HB.out));(case side2=>exact HC0_0.out);(case side3=>exact cX (Kd.C_below HR0_1.out HB.out));(case side4=>exact HC0_1.out);rintro e w17 ⟨rfl,hb⟩;refine ⟨_,rfl,?_⟩;replace BK136:=aM (bbX BK136.out hb);replace BK137:=aM (bbX BK137.out hb);replace HB:=aM (below_step (bX2 HB.out GE136.out GE137.out) hb);(try clear hb);(try clear hk))|(go_at_call 117;(with_reducible refine(impl_PermOk.calls _ _ l1 false _ ?side1 ?side2 A8.out).mono ?_);(case side1=>exact cX (Kd.C_below HR1.out HB.out));(case side2=>exact HC1.out);rintro e w18 ⟨rfl,hb⟩;replace BK136:=aM (bbX BK136.out hb);replace BK137:=aM (bbX BK137.out hb);replace HB:=aM (below_step (bX2 HB.out GE136.out GE137.out) hb);(try clear hb);(try clear hk)))
  go_meet
  case rel=>exact ⟨_,(true),vX,H',⟨by first|omega|exact Nat.le_refl _⟩,⟨kX BK136.out⟩,⟨kX BK137.out⟩,⟨bX2 HB.out GE136.out GE137.out⟩⟩
  }
  }
  {
  replace c7:=Bool.eq_false_iff.mpr c7
  subst c7
  have H1:(impl_RenameSurface.j0 k l1 true l0_0 l0_1)=some (r1,r2,r3):=by rw [if_neg (show ¬ (false=true) by decide)] at H;exact H
  clear H
  have H:=H1
  clear H1
  have H':=aM H
  clear H
  have hnb19:=NB136_137.out
  have hnc19:=NB137_136.out
  obtain ⟨hcz20_0,hcz20_1,hfz20_0,hfz20_1⟩:=f2Z BK136.out
  go_wp2_with (first|((with_reducible refine gate_callee (f:=56) rfl ?_);refine goesL_ (some 7) rfl rfl Try.func56 (by kernel_rfl) rfl #[.agg #[.slice A0_0 l0_0.length c0_0,.slice A0_1 l0_1.length c0_1]] rfl aX ?_;(with_reducible refine(impl_SurfaceOk.calls k _ _ l0_0 _ _ l0_1 false _ ?side1 ?side2 ?side3 ?side4 A6.out).mono ?_);(case side1=>exact cX (Kd.C_below HR0_0.out HB.out));(case side2=>exact HC0_0.out);(case side3=>exact cX (Kd.C_below HR0_1.out HB.out));(case side4=>exact HC0_1.out);rintro e w21 ⟨rfl,hb⟩;refine ⟨_,rfl,?_⟩;replace BK136:=aM (bbX BK136.out hb);replace BK137:=aM (bbX BK137.out hb);replace HB:=aM (below_step (bX2 HB.out GE136.out GE137.out) hb);(try clear hb);(try clear hk)))
  go_meet
  case rel=>exact ⟨_,(true),vX,H',⟨by first|omega|exact Nat.le_refl _⟩,⟨kX BK136.out⟩,⟨kX BK137.out⟩,⟨bX2 HB.out GE136.out GE137.out⟩⟩
  }
 case rest =>
 clear HC3
 try clear c1
 try clear c7
 try clear c9
 try clear hcz11_0
 try clear hcz11_1
 try clear hcz14_0
 try clear hcz14_1
 try clear hcz16_0
 try clear hcz16_1
 try clear hcz20_0
 try clear hcz20_1
 try clear hfz11_0
 try clear hfz11_1
 try clear hfz14_0
 try clear hfz14_1
 try clear hfz16_0
 try clear hfz16_1
 try clear hfz20_0
 try clear hfz20_1
 obtain ⟨kq,x21_2,rfl,HA,HJ2,BK136,BK137,HB⟩:=hcut
 cases kq with
 | zero=>exact absurd HA.out (by simp [impl_RenameSurface.j0])
 | succ kj2 =>
 have H:=HA.out
 clear HA
 simp only [impl_RenameSurface.j0] at H
 by_cases c22:x21_2=true
 {
 subst c22
 have H1:(some (([]:List Int),([]:List Int),false))=some (r1,r2,r3):=by rw [if_pos rfl] at H;exact H
 clear H
 have H:=H1
 clear H1
 simp only [Option.some.injEq,Prod.mk.injEq] at H
 obtain ⟨rfl,rfl,rfl⟩:=H
 have hnb23:=NB137_136.out
 have hnc23:=NB136_137.out
 obtain ⟨hcz24_0,hcz24_1,hfz24_0,hfz24_1⟩:=f2Z BK137.out
 go_wp2
 refine bodyPost_ret (results_ct rfl _ _ gb137 27 #[.slice none 0 0,.slice none 0 0] (0,0) _ rfl (by(with_reducible repeat(first|refine kN ?_ _|refine kD ?_|refine kA ?_ _));refine blk_put (cs:=#[.slice none 0 0,.slice none 0 0]) ?_ 1 _ rfl;(with_reducible repeat(first|refine kN ?_ _|refine kD ?_|refine kA ?_ _));refine blk_put (cs:=#[.slice none 0 0,.slice none 0 0]) ?_ 0 _ rfl;(with_reducible repeat(first|refine kN ?_ _|refine kD ?_|refine kA ?_ _));exact BK137.out) Try.underlying27 rfl (by kernel_rfl)) rfl ?_
 exact ⟨_,_,eX,by first|exact Kd.R_nil _ _ _ _ _|exact Kd.N_nil _ _ _ _ _|exact Kd.V_nil _ _ _ _ _|exact Kd.Q_nil _ _ _ _ _|exact Kd.S_nil _ _ _ _ _,by first|exact Kd.R_nil _ _ _ _ _|exact Kd.N_nil _ _ _ _ _|exact Kd.V_nil _ _ _ _ _|exact Kd.Q_nil _ _ _ _ _|exact Kd.S_nil _ _ _ _ _,bX2 HB.out GE136.out GE137.out⟩
 }
 {
 replace c22:=Bool.eq_false_iff.mpr c22
 subst c22
 have H1:((impl_RenamePerm.f kj2 l0_0 l1).bind fun t140=>((impl_RenamePerm.f kj2 l0_1 l1).bind fun t143=>(some (t140,t143,true))))=some (r1,r2,r3):=by rw [if_neg (show ¬ (false=true) by decide)] at H;exact H
 clear H
 have H:=H1
 clear H1
 replace H:=oB H
 obtain ⟨t140,A250,H⟩:=H
 have A25:=aM A250
 clear A250
 replace H:=oB H
 obtain ⟨t143,A260,H⟩:=H
 have A26:=aM A260
 clear A260
 simp only [Option.some.injEq,Prod.mk.injEq] at H
 obtain ⟨rfl,rfl,rfl⟩:=H
 try go_wp2
 replace BK136:=aM (blk_drew BK136.out)
 replace BK137:=aM (blk_drew BK137.out)
 replace HB:=aM (below_drew1 HB.out)
 refine start_ (n:=11) (S:=fun w'=>w'.cell? ⟨gb136,0,none⟩=some (.slice A0_0 l0_0.length c0_0)∧w'.cell? ⟨gb136,1,none⟩=some (.slice A0_1 l0_1.length c0_1)) (ds:=[]) #[ff,ff,ff,ff,ff,ff,ff,ff,ff,ff,ff] (by kernel_rfl) rfl rfl ⟨cz20 BK136.out,cz21 BK136.out⟩ (fun hHeld => ?_);refine with_tabW impl_RenameSurface.tab3 impl_RenameSurface.bits3 (fun HT_ HW_ => ?_)
 generalize wc.drew=w27 at BK136 BK137 HB hHeld ⊢
 refine pX 0 23 (fl 11 1) rfl rfl HT_.out ?_
 refine pX 2 25 (fl 11 5) rfl rfl HT_.out ?_
 refine pX 4 27 (fl 11 21) rfl rfl HT_.out ?_
 refine pX 6 29 (fl 11 85) rfl rfl HT_.out ?_
 refine tX2 1 24 (fl 11 87) rfl rfl HT_.out HW_.out hHeld ?_
 refine tX2 5 28 (fl 11 119) rfl rfl HT_.out HW_.out hHeld ?_
 refine one_ (i:=3) (N:=some 26) #[tt,tt,tt,tt,tt,tt,tt,ff,ff,ff,ff] rfl rfl (one_of HT_.out (by kernel_rfl)) (by decide) (fun K hK => ?_)
 refine goes_ Try.func122 (by kernel_rfl) rfl #[.slice A0_0 l0_0.length c0_0,.slice A1 l1.length c1] (by rfl) rfl rfl aX ?_
 with_reducible refine(impl_RenamePerm.calls kj2 _ _ l0_0 _ _ l1 t140 _ ?side1 ?side2 ?side3 ?side4 A25.out).mono ?_
 (case side1=>exact cX (Kd.C_below HR0_0.out HB.out))
 (case side2=>exact HC0_0.out)
 (case side3=>exact cX (Kd.C_below HR1.out HB.out))
 (case side4=>exact HC1.out)
 rintro e w28 ⟨v141,rfl,ho0,hb⟩
 refine ⟨_,rfl,?_⟩
 have HO142:=aM (Kd.R_lower ho0 (below_size (bX2 HB.out GE136.out GE137.out)))
 replace BK136:=aM (bbX BK136.out hb)
 replace BK137:=aM (bbX BK137.out hb)
 replace HB:=aM (below_step (bX2 HB.out GE136.out GE137.out) hb)
 (try clear hb)
 (try clear hk)
 (try clear ho0)
 refine hK.out _ _ ⟨cz20 BK136.out,cz21 BK136.out⟩ (fun hHeld => ?_)
 clear hK K
 refine norm_ (a':=?_) ?_ ?_
 rotate_left
 {
 show Act.put _ (some 26) _=_
 simp only [Act.put,zA,zB,zC,i64_w,i32_w]
 rfl
 }
 refine one_ (i:=7) (N:=some 30) #[tt,tt,tt,tt,tt,tt,tt,tt,ff,ff,ff] rfl rfl (one_of HT_.out (by kernel_rfl)) (by decide) (fun K hK => ?_)
 refine goes_ Try.func122 (by kernel_rfl) rfl #[.slice A0_1 l0_1.length c0_1,.slice A1 l1.length c1] (by rfl) rfl rfl aX ?_
 with_reducible refine(impl_RenamePerm.calls kj2 _ _ l0_1 _ _ l1 t143 _ ?side1 ?side2 ?side3 ?side4 A26.out).mono ?_
 (case side1=>exact cX (Kd.C_below HR0_1.out HB.out))
 (case side2=>exact HC0_1.out)
 (case side3=>exact cX (Kd.C_below HR1.out HB.out))
 (case side4=>exact HC1.out)
 rintro e w29 ⟨v144,rfl,ho0,hb⟩
 refine ⟨_,rfl,?_⟩
 have HO145:=aM (Kd.R_lower (Kd.R_new' ho0 (Kd.R_lt (rX HO142.out))) (below_size (bX2 HB.out GE136.out GE137.out)))
 replace HO142:=aM (Kd.R_elder' (rX HO142.out) (Kd.R_base ho0) hb)
 replace BK136:=aM (bbX BK136.out hb)
 replace BK137:=aM (bbX BK137.out hb)
 replace HB:=aM (below_step (bX2 HB.out GE136.out GE137.out) hb)
 (try clear hb)
 (try clear hk)
 (try clear ho0)
 obtain ⟨Ao30,co30,eo30⟩:=Kd.R_slice HO145.out
 (first|subst eo30|(injection eo30 with f1_ f2_ f3_;have f4_:=f1_.symm;have f5_:=f3_.symm;clear f1_ f2_ f3_;subst f4_;subst f5_))
 obtain ⟨Ao31,co31,eo31⟩:=Kd.R_slice HO142.out
 (first|subst eo31|(injection eo31 with f1_ f2_ f3_;have f4_:=f1_.symm;have f5_:=f3_.symm;clear f1_ f2_ f3_;subst f4_;subst f5_))
 refine hK.out _ _ ⟨cz20 BK136.out,cz21 BK136.out⟩ (fun hHeld => ?_)
 clear hK K
 refine norm_ (a':=?_) ?_ ?_
 rotate_left
 {
 show Act.put _ (some 30) _=_
 simp only [Act.put,zA,zB,zC,i64_w,i32_w]
 rfl
 }
 refine pX 8 31 (fl 11 511) rfl rfl HT_.out ?_
 refine one_ (i:=9) (N:=none) #[tt,tt,tt,tt,tt,tt,tt,tt,tt,tt,ff] rfl rfl (one_of HT_.out (by kernel_rfl)) (by decide) (fun K hK => ?_)
 have hs32:w29.cell? ⟨gb137,0,none⟩=some (.slice none 0 0):=cz20 BK137.out
 have hfs32:=blk_frozen BK137.out 0
 have hns32_0:=NB136_137.out
 have hms32_0:=NB137_136.out
 have hs33:w29.cell? ⟨gb137,1,none⟩=some (.slice none 0 0):=cz21 BK137.out
 have hfs33:=blk_frozen BK137.out 1
 have hns33_0:=NB136_137.out
 have hms33_0:=NB137_136.out
 refine skip_ (w1:=?_) (by rfl) rfl ?_ ?_
 rotate_left
 {
 go_simp
 rfl
 }
 refine hK.out _ _ ⟨((cell_far (p:=⟨gb137,_,none⟩) NB136_137.out _).trans (((cell_far (p:=⟨gb137,_,none⟩) NB136_137.out _).trans (hHeld.1)))),((cell_far (p:=⟨gb137,_,none⟩) NB136_137.out _).trans (((cell_far (p:=⟨gb137,_,none⟩) NB136_137.out _).trans (hHeld.2))))⟩ (fun hHeld => ?_)
 clear hK K
 refine pX 10 5 (fl 11 2047) rfl rfl HT_.out ?_
 refine done_ (done_of HT_.out (by kernel_rfl)) ?_
 try go_wp2
 refine bodyPost_ret (results_ct rfl _ _ gb137 27 #[.slice Ao31 t140.length co31,.slice Ao30 t143.length co30] (0,0) _ rfl (by(with_reducible repeat(first|refine kN ?_ _|refine kD ?_|refine kA ?_ _));refine blk_put (cs:=#[.slice Ao31 t140.length co31,.slice none 0 0]) ?_ 1 _ rfl;(with_reducible repeat(first|refine kN ?_ _|refine kD ?_|refine kA ?_ _));refine blk_put (cs:=#[.slice none 0 0,.slice none 0 0]) ?_ 0 _ rfl;(with_reducible repeat(first|refine kN ?_ _|refine kD ?_|refine kA ?_ _));exact BK137.out) Try.underlying27 rfl (by kernel_rfl)) rfl ?_
 exact ⟨_,_,eX,by(with_reducible repeat(first|apply rA|apply rN|apply rD));exact Kd.R_mono (Kd.R_far (p:=⟨gb137,1,none⟩) (Kd.R_far (p:=⟨gb137,0,none⟩) (Kd.R_types HO142.out BK137.out (by decide)) (fun _ hk=>hk.2) (.slice Ao31 t140.length co31)) (fun _ hk=>hk.2) (.slice Ao30 t143.length co30)) (fun _ hk=>hk.1.2),by(with_reducible repeat(first|apply rA|apply rN|apply rD));exact Kd.R_mono (Kd.R_far (p:=⟨gb137,1,none⟩) (Kd.R_far (p:=⟨gb137,0,none⟩) (Kd.R_types HO145.out BK137.out (by decide)) (fun _ hk=>hk.2) (.slice Ao31 t140.length co31)) (fun _ hk=>hk.2) (.slice Ao30 t143.length co30)) (fun _ hk=>hk.1.2),bX2 HB.out GE136.out GE137.out⟩
 }

end Go.Proofs.Ytmhjcbcjpidegaa.S
