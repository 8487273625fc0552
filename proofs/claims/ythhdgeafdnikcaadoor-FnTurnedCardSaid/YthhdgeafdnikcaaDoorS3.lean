-- PRINTED by print.py (a twelfth state) out of the translation. Not trusted: Lean checks it.
import Derived.Test.YthhdgeafdnikcaaDoorS0
import Derived.Test.YthhdgeafdnikcaaDoorS2
namespace Go.Proofs.YthhdgeafdnikcaaDoor.S
set_option maxHeartbeats 8000000
set_option maxRecDepth 100000
open Go.RowKit Go.Proofs.YthhdgeafdnikcaaDoorW.PrintWords Go.Proofs.YthhdgeafdnikcaaDoorW.PrintLast Go.Proofs.YthhdgeafdnikcaaDoorW.PrintMore
attribute [local go_sem] max2_int min2_int max_two min_two max_three min_three max_four min_four   -- for this text's walks alone
set_option linter.unusedVariables false
set_option linter.unusedSimpArgs false

/-! ### i_IsTransitive: function 41 -/
mutual
def i_IsTransitive.j0 : Nat→List Int→List Int→Bool→Option (Bool)
 | 0,_,_,_=>none
 | k+1,x0,x1,x29=>if x29=true then (some false) else (if 0≤(x0.length:Int) then (if ((x0.length:Int):Int).toNat≤281474976710656 then ((some (List.replicate ((x0.length:Int):Int).toNat false:List Bool)).bind fun y290=>(if 0<(y290.length:Int) then (i_IsTransitive.l0 k x0 x1 (y290.set (0:Int).toNat true) (([0]:List Int)) 0) else (none))) else (none)) else (none))
def i_IsTransitive.l0 : Nat→List Int→List Int→List Bool→List Int→Int→Option (Bool)
 | 0,_,_,_,_,_=>none
 | k+1,x0,x1,x5,x6,x7=>if x7<(x6.length:Int) then (if 0≤x7 then (if 0≤(rd x6 x7) then (if (rd x6 x7)<(x0.length:Int) then (if (rd x6 x7)<(x1.length:Int) then ((some (([rd x0 (rd x6 x7),rd x1 (rd x6 x7)]:List Int):List Int)).bind fun y301=>(i_IsTransitive.l1 k x0 x1 x5 x6 x7 y301 (y301.length:Int) 0)) else (none)) else (none)) else (none)) else (none)) else (some ((x6.length:Int) == (x0.length:Int)))
def i_IsTransitive.l1 : Nat→List Int→List Int→List Bool→List Int→Int→List Int→Int→Int→Option (Bool)
 | 0,_,_,_,_,_,_,_,_=>none
 | k+1,x0,x1,x5,x6,x7,x56,x57,x58=>if x58<x57 then (if 0≤x58 then (if x58<(x56.length:Int) then (if 0≤(rd x56 x58) then (if (rd x56 x58)<(x5.length:Int) then (if (rdOf false x5 (rd x56 x58)=true) then (i_IsTransitive.l1 k x0 x1 x5 x6 x7 x56 x57 (wrap64 (x58+1))) else (if x6.length<17592186044416 then (i_IsTransitive.l1 k x0 x1 (x5.set ((rd x56 x58):Int).toNat true) (x6 ++ [rd x56 x58]) x7 x56 x57 (wrap64 (x58+1))) else (none))) else (none)) else (none)) else (none)) else (none)) else (i_IsTransitive.l0 k x0 x1 x5 x6 (wrap64 (x7+1)))
end
def i_IsTransitive.f (k:Nat) (l0:List Int) (l1:List Int):Option (Bool):=(i_PermOk.f l0).bind fun t288=>(if t288=true then ((i_PermOk.f l1).bind fun t289=>(if t289=true then (if (l0.length:Int)=(l1.length:Int) then (i_IsTransitive.j0 k l0 l1 ((l0.length:Int) == 0)) else (i_IsTransitive.j0 k l0 l1 true)) else (i_IsTransitive.j0 k l0 l1 true))) else (i_IsTransitive.j0 k l0 l1 true))
def i_IsTransitive.T9 : Bool × List (List Nat × List Nat):=(true,[([],[]),([],[]),([],[]),([1,2],[1,2]),([3],[3]),([0,4],[0,4]),([5],[5]),([],[]),([],[]),([],[]),([8,9],[8,9]),([10],[10]),([7,11],[7,11]),([12],[12]),([6,13],[6,13]),([14],[14]),([],[])])
def i_IsTransitive.B9 : List Nat:=[0,0,0,6,14,31,63,0,0,0,768,1792,3968,8064,16383,32767,0]
theorem i_IsTransitive.tab9 : rtab .any (opsOf Tryd.f41 9)=i_IsTransitive.T9:=by kernel_rfl
theorem i_IsTransitive.bits9 : waitsOk i_IsTransitive.T9.2 i_IsTransitive.B9=true:=by kernel_rfl
theorem i_IsTransitive.calls (k:Nat) (A0:Option Addr) (c0:Nat) (l0:List Int) (A1:Option Addr) (c1:Nat) (l1:List Int) (r:Bool) (w:World) (hr0:Kd.C (Kd.int .i64) w A0 l0.length l0) (hc0:l0.length≤c0) (hr1:Kd.C (Kd.int .i64) w A1 l1.length l1) (hc1:l1.length≤c1) (h:i_IsTransitive.f k l0 l1=some r) :
  Calls Tryd.prog 41 #[.slice A0 l0.length c0,.slice A1 l1.length c1] w fun e w'=>e = .returned (.bool r)∧Below w.heap.size w w':=by
 have HR0:=aM hr0
 have HC0:=aM hc0
 clear hr0 hc0
 have HR1:=aM hr1
 have HC1:=aM hc1
 clear hr1 hc1
 have HB:=aM (Below.refl w.heap.size w)
 have H:((i_PermOk.f l0).bind fun t288=>(if t288=true then ((i_PermOk.f l1).bind fun t289=>(if t289=true then (if (l0.length:Int)=(l1.length:Int) then (i_IsTransitive.j0 k l0 l1 ((l0.length:Int) == 0)) else (i_IsTransitive.j0 k l0 l1 true)) else (i_IsTransitive.j0 k l0 l1 true))) else (i_IsTransitive.j0 k l0 l1 true)))=some r:=h
 clear h
 have HC3:=aM H
 clear H
 go_enter Tryd.func41,Tryd.ntmps41
 go_upto_region 1 with (fail)
 go_cut [29] (fun v29 wc=>∃ (kq:Nat) (x29_2:Bool),v29 = .bool x29_2∧Aside0 (i_IsTransitive.j0 kq l0 l1 x29_2=some r)∧Aside0 (kq≤k)∧Aside0 (Below w.heap.size w wc))
 case first =>
  have H:=HC3.out
  clear HC3
  replace H:=oB H
  obtain ⟨t288,A40,H⟩:=H
  have A4:=aM A40
  clear A40
  by_cases c5:t288=true
  {
  subst c5
  have H1:((i_PermOk.f l1).bind fun t289=>(if t289=true then (if (l0.length:Int)=(l1.length:Int) then (i_IsTransitive.j0 k l0 l1 ((l0.length:Int) == 0)) else (i_IsTransitive.j0 k l0 l1 true)) else (i_IsTransitive.j0 k l0 l1 true)))=some r:=by rw [if_pos rfl] at H;exact H
  clear H
  have H:=H1
  clear H1
  replace H:=oB H
  obtain ⟨t289,A60,H⟩:=H
  have A6:=aM A60
  clear A60
  by_cases c7:t289=true
  {
  subst c7
  have H1:(if (l0.length:Int)=(l1.length:Int) then (i_IsTransitive.j0 k l0 l1 ((l0.length:Int) == 0)) else (i_IsTransitive.j0 k l0 l1 true))=some r:=by rw [if_pos rfl] at H;exact H
  clear H
  have H:=H1
  clear H1
  by_cases c8:(l0.length:Int)=(l1.length:Int)
  {
  rw [if_pos c8] at H
  have c8b0:((l0.length:Int) == (l1.length:Int))=true:=beq_iff_eq.mpr c8
  have c8b1:((l0.length:Int) != (l1.length:Int))=false:=bne_eq_false_iff_eq.mpr c8
  have c8b2:(l0.length == l1.length)=true:=by first|simpa using c8|(simp at c8 ⊢;omega)
  clear c8
  (first|rw [c8b0]|(simp only [i64_w,i32_w];rw [c8b0])|skip)
  have H':=aM H
  clear H
  go_wp2_with (first|((with_reducible refine gate_callee (f:=31) rfl ?_);refine goesL_ (some 11) rfl rfl Tryd.func31 (by kernel_rfl) rfl #[.slice A0 l0.length c0] rfl aX ?_;(with_reducible refine(i_PermOk.calls _ _ l0 true _ ?side1 ?side2 A4.out).mono ?_);(case side1=>exact cX (Kd.C_below HR0.out HB.out));(case side2=>exact HC0.out);rintro e w9 ⟨rfl,hb⟩;refine ⟨_,rfl,?_⟩;replace HB:=aM (below_step (bX HB.out) hb);(try clear hb);(try clear hk))|(go_at_call 31;(with_reducible refine(i_PermOk.calls _ _ l1 true _ ?side1 ?side2 A6.out).mono ?_);(case side1=>exact cX (Kd.C_below HR1.out HB.out));(case side2=>exact HC1.out);rintro e w10 ⟨rfl,hb⟩;replace HB:=aM (below_step (bX HB.out) hb);(try clear hb);(try clear hk)))
  go_meet
  case rel=>exact ⟨_,(((l0.length:Int) == 0)),vX,H',⟨by first|omega|exact Nat.le_refl _⟩,⟨bX HB.out⟩⟩
  }
  {
  rw [if_neg c8] at H
  have c8b0:((l0.length:Int) == (l1.length:Int))=false:=beq_eq_false_iff_ne.mpr c8
  have c8b1:((l0.length:Int) != (l1.length:Int))=true:=bne_iff_ne.mpr c8
  have c8b2:(l0.length == l1.length)=false:=by first|simpa using c8|(simp at c8 ⊢;omega)
  (first|rw [c8b0]|(simp only [i64_w,i32_w];rw [c8b0])|skip)
  have H':=aM H
  clear H
  go_wp2_with (first|((with_reducible refine gate_callee (f:=31) rfl ?_);refine goesL_ (some 11) rfl rfl Tryd.func31 (by kernel_rfl) rfl #[.slice A0 l0.length c0] rfl aX ?_;(with_reducible refine(i_PermOk.calls _ _ l0 true _ ?side1 ?side2 A4.out).mono ?_);(case side1=>exact cX (Kd.C_below HR0.out HB.out));(case side2=>exact HC0.out);rintro e w11 ⟨rfl,hb⟩;refine ⟨_,rfl,?_⟩;replace HB:=aM (below_step (bX HB.out) hb);(try clear hb);(try clear hk))|(go_at_call 31;(with_reducible refine(i_PermOk.calls _ _ l1 true _ ?side1 ?side2 A6.out).mono ?_);(case side1=>exact cX (Kd.C_below HR1.out HB.out));(case side2=>exact HC1.out);rintro e w12 ⟨rfl,hb⟩;replace HB:=aM (below_step (bX HB.out) hb);(try clear hb);(try clear hk)))
  go_meet
  case rel=>exact ⟨_,(true),vX,H',⟨by first|omega|exact Nat.le_refl _⟩,⟨bX HB.out⟩⟩
  }
  }
  {
  replace c7:=Bool.eq_false_iff.mpr c7
  subst c7
  have H1:(i_IsTransitive.j0 k l0 l1 true)=some r:=by rw [if_neg (show ¬ (false=true) by decide)] at H;exact H
  clear H
  have H:=H1
  clear H1
  have H':=aM H
  clear H
  go_wp2_with (first|((with_reducible refine gate_callee (f:=31) rfl ?_);refine goesL_ (some 11) rfl rfl Tryd.func31 (by kernel_rfl) rfl #[.slice A0 l0.length c0] rfl aX ?_;(with_reducible refine(i_PermOk.calls _ _ l0 true _ ?side1 ?side2 A4.out).mono ?_);(case side1=>exact cX (Kd.C_below HR0.out HB.out));(case side2=>exact HC0.out);rintro e w13 ⟨rfl,hb⟩;refine ⟨_,rfl,?_⟩;replace HB:=aM (below_step (bX HB.out) hb);(try clear hb);(try clear hk))|(go_at_call 31;(with_reducible refine(i_PermOk.calls _ _ l1 false _ ?side1 ?side2 A6.out).mono ?_);(case side1=>exact cX (Kd.C_below HR1.out HB.out));(case side2=>exact HC1.out);rintro e w14 ⟨rfl,hb⟩;replace HB:=aM (below_step (bX HB.out) hb);(try clear hb);(try clear hk)))
  go_meet
  case rel=>exact ⟨_,(true),vX,H',⟨by first|omega|exact Nat.le_refl _⟩,⟨bX HB.out⟩⟩
  }
  }
  {
  replace c5:=Bool.eq_false_iff.mpr c5
  subst c5
  have H1:(i_IsTransitive.j0 k l0 l1 true)=some r:=by rw [if_neg (show ¬ (false=true) by decide)] at H;exact H
  clear H
  have H:=H1
  clear H1
  have H':=aM H
  clear H
  go_wp2_with (first|((with_reducible refine gate_callee (f:=31) rfl ?_);refine goesL_ (some 11) rfl rfl Tryd.func31 (by kernel_rfl) rfl #[.slice A0 l0.length c0] rfl aX ?_;(with_reducible refine(i_PermOk.calls _ _ l0 false _ ?side1 ?side2 A4.out).mono ?_);(case side1=>exact cX (Kd.C_below HR0.out HB.out));(case side2=>exact HC0.out);rintro e w15 ⟨rfl,hb⟩;refine ⟨_,rfl,?_⟩;replace HB:=aM (below_step (bX HB.out) hb);(try clear hb);(try clear hk)))
  go_meet
  case rel=>exact ⟨_,(true),vX,H',⟨by first|omega|exact Nat.le_refl _⟩,⟨bX HB.out⟩⟩
  }
 case rest =>
 clear HC3
 try clear c1
 try clear c5
 try clear c7
 try clear c8
 try clear c8b0
 try clear c8b1
 try clear c8b2
 obtain ⟨kq,x29_2,rfl,HA,HJ2,HB⟩:=hcut
 cases kq with
 | zero=>exact absurd HA.out (by simp [i_IsTransitive.j0])
 | succ kj2 =>
 have H:=HA.out
 clear HA
 simp only [i_IsTransitive.j0] at H
 by_cases c16:x29_2=true
 {
 subst c16
 have H1:(some false)=some r:=by rw [if_pos rfl] at H;exact H
 clear H
 have H:=H1
 clear H1
 obtain rfl:=Option.some.inj H
 go_wp2
 go_ret
 exact ⟨eX,bX HB.out⟩
 }
 {
 replace c16:=Bool.eq_false_iff.mpr c16
 subst c16
 have H1:(if 0≤(l0.length:Int) then (if ((l0.length:Int):Int).toNat≤281474976710656 then ((some (List.replicate ((l0.length:Int):Int).toNat false:List Bool)).bind fun y290=>(if 0<(y290.length:Int) then (i_IsTransitive.l0 kj2 l0 l1 (y290.set (0:Int).toNat true) (([0]:List Int)) 0) else (none))) else (none)) else (none))=some r:=by rw [if_neg (show ¬ (false=true) by decide)] at H;exact H
 clear H
 have H:=H1
 clear H1
 by_cases c17:0≤(l0.length:Int)
 {
 rw [if_pos c17] at H
 have c17b0:=eq_true c17
 have c17b1:=decide_eq_true c17
 clear c17
 by_cases c18:((l0.length:Int):Int).toNat≤281474976710656
 {
 rw [if_pos c18] at H
 have c18b0:=eq_true c18
 have c18b1:=decide_eq_true c18
 clear c18
 obtain ⟨y290,hy290⟩:∃ y_:List Bool,y_=(List.replicate ((l0.length:Int):Int).toNat false):=⟨_,rfl⟩
 replace H:(if 0<(y290.length:Int) then (i_IsTransitive.l0 kj2 l0 l1 (y290.set (0:Int).toNat true) (([0]:List Int)) 0) else (none))=some r:=by first|(rw [hy290];with_reducible exact H)|(have H2_:=(Option.bind_some _ _).symm.trans H;rw [hy290];with_reducible exact H2_)|(have H2_:=(Option.bind_some _ _).symm.trans H;with_reducible exact H2_)|with_reducible exact H|(rw [hy290];exact H)|exact H
 have Ny290:=aM hy290
 clear hy290
 by_cases c19:0<(y290.length:Int)
 {
 rw [if_pos c19] at H
 have c19b0:=decide_eq_true c19
 have c19b1:decide (0<y290.length)=true:=decide_eq_true (by omega)
 clear c19
 obtain ⟨y293,hy293⟩:∃ y_:List Bool,y_=(y290.set (0:Int).toNat true):=⟨_,rfl⟩
 replace H:(i_IsTransitive.l0 kj2 l0 l1 y293 (([0]:List Int)) 0)=some r:=by first|(rw [hy293];with_reducible exact H)|(have H2_:=(Option.bind_some _ _).symm.trans H;rw [hy293];with_reducible exact H2_)|(have H2_:=(Option.bind_some _ _).symm.trans H;with_reducible exact H2_)|with_reducible exact H|(rw [hy293];exact H)|exact H
 have Ny293:=aM hy293
 clear hy293
 obtain ⟨y294,hy294⟩:∃ y_:List Int,y_=(([0]:List Int)):=⟨_,rfl⟩
 replace H:(i_IsTransitive.l0 kj2 l0 l1 y293 y294 0)=some r:=by first|(rw [hy294];with_reducible exact H)|(have H2_:=(Option.bind_some _ _).symm.trans H;rw [hy294];with_reducible exact H2_)|(have H2_:=(Option.bind_some _ _).symm.trans H;with_reducible exact H2_)|with_reducible exact H|(rw [hy294];exact H)|exact H
 have Ny294:=aM hy294
 clear hy294
 have H':=aM H
 clear H
 go_wp2_with (first|((with_reducible refine gate_dst (N:=32) rfl ?_);(try(refine gate_guard (by rfl) ?_;dsimp only));refine Kd.R_make Kd.bool _ 4 rfl (N:=32) rfl 76 _ _ rfl (l0.length:Int) rfl rfl Tryd.underlying76 (.bool false) 1 info4 rfl (by decide) (by omega) false (ok:=fun _=>True) (okp:=fun _=>True) rfl (fun _ hk=>hk) trivial (dX) (Nat.le_trans (Nat.mul_le_mul_right _ (dX:(l0.length:Int).toNat≤281474976710656)) (by omega)) (Below.refl _ _) (Nat.le_refl _) ?_;intro v291 w21 ho22 hb hg_ hnew_;clear hg_ hnew_;(first|rw [← Ny290.out] at ho22|(simp only [Int.reduceToNat] at ho22;rw [← Ny290.out] at ho22));have HO292:=aM (Kd.R_lower ho22 (below_size (bX HB.out)));replace HB:=aM (below_step (bX HB.out) hb);clear hb ho22;have p20:0≤(0:Int):=(by omega);have q20:(0:Int)<((y290.length:Int):Int):=dX;have qi20:(0<y290.length)=True:=eq_true (by omega);obtain ⟨go20,co20,eo20,gb20,gl20,cl20,HG20⟩:=Kd.R_form HO292.out (by omega);(first|cases eo20|(injection eo20 with ea_ en_ ec_;(first|subst ea_|(injection ea_ with ea_;subst ea_));subst ec_;clear en_));have GB20:=aM gb20;have GG20:=aM HG20;clear gb20 gl20 HG20;obtain ⟨hx20_0,hf20_0⟩:=Kd.R_celln false HO292.out (0:Int) p20 q20;(try rw [show ((0:Int)).toNat=0 from rfl] at hx20_0);(try simp only [Nat.reduceMul,Nat.zero_mul,Nat.zero_add,Nat.reduceAdd] at hx20_0);(try rw [show ((0:Int)).toNat=0 from rfl] at hf20_0);(try simp only [Nat.reduceMul,Nat.zero_mul,Nat.zero_add,Nat.reduceAdd] at hf20_0);replace p20:=eq_true p20;replace q20:=eq_true q20;obtain ⟨hy23_,hz23_⟩:=Kd.R_celln false HO292.out (0:Int) (by omega) (dX);(try simp only [Int.reduceToNat,Int.toNat_zero,Int.toNat_ofNat,Nat.reduceMul,Nat.zero_mul,Nat.zero_add] at hy23_ hz23_);(try rw [show ((0:Int)).toNat=0 from rfl] at hy23_);(try rw [show ((0:Int)).toNat=0 from rfl] at hz23_);have HP23:=Kd.R_putg HO292.out (0:Int) true)|((with_reducible refine gate_store (t:=4) (p:=34) rfl ?_);refine store_event (t:=4) (p:=34) (v:=?vo_w24) (w1:=(w21.setCell ⟨go20,(0:Int).toNat,none⟩ (.bool true))) ?hg ?ho ?hn ?hr ?_;(case ho=>rfl);(case hg=>rfl);(case hn=>rfl);(case hr=>first|(go_simp;done)|(go_simp;rfl));intro w24 hw;have hg:w21.grownBy w24 (some go20):=(by rw [hw];exact HP23.2);have hp_:Kd.R Kd.bool 4 w24 w.heap.size (fun _=>True) (.slice (some ⟨go20,0,none⟩) y290.length co20) y293:=(by rw [hw,Ny293.out];exact HP23.1);clear HP23;replace HO292:=aM (hp_);replace HB:=aM ((by rw [hw];exact below_set (HB.out) GB20.out:Below w.heap.size w w24));clear hg hw hp_)|((with_reducible refine gate_dst (N:=35) rfl ?_);(try(refine gate_guard (by rfl) ?_;dsimp only));refine Kd.R_lit (Kd.int .i64) _ 3 ?hg (N:=35) ?hd (xs:=([0]:List Int)) (inner:=[.int .i64 0]) (ok:=fun _=>True) (okp:=fun _=>True) ?hr ?hp (fun _ hk=>hk) trivial (Below.refl _ _) (Nat.le_refl _) (by simp) ?_;(case hd=>rfl);(case hg=>rfl);(case hr=>first|(go_simp;done)|(go_simp;rfl));(case hp=>exact(Reps.one (show Kd.M (Kd.int .i64) _ _ _ 0 [.int .i64 0] from rfl) (Reps.none _ _)));intro v295 w25 ho26 hb hg_ hnew_;clear hg_ hnew_;(first|rw [← Ny294.out] at ho26|(simp only [Int.reduceToNat] at ho26;rw [← Ny294.out] at ho26));replace HO292:=aM (Kd.R_below (rX HO292.out) hb);have HO296:=aM (Kd.R_lower ho26 (below_size (bX HB.out)));replace HB:=aM (below_step (bX HB.out) hb);clear hb ho26))
 go_loopg [6,7] kj2 (fun kq v6 v7 w'=>∃ (x5_2:List Bool) (x6_2:List Int) (x7_2:Int),v7 = .int .i64 x7_2∧Aside0 (i_IsTransitive.l0 kq l0 l1 x5_2 x6_2 x7_2=some r)∧Aside0 (kq≤kj2)∧Aside0 (Kd.R Kd.bool 4 w' w.heap.size (fun _=>True) (.slice (some ⟨go20,0,none⟩) y290.length co20) x5_2)∧Aside0 (Kd.R (Kd.int .i64) 3 w' w.heap.size (fun _=>True) v6 x6_2)∧Aside0 (Below w.heap.size w w'))
 case atStart=>exact ⟨(y293),(y294),(0),vX,H',⟨Nat.le_refl _⟩,⟨rX HO292.out⟩,⟨rX HO296.out⟩,⟨bX HB.out⟩⟩
 case round =>
 clear H'
 try clear c1
 try clear c5
 try clear c7
 try clear c8
 try clear c8b0
 try clear c8b1
 try clear c8b2
 try clear c16
 try clear c17
 try clear c17b0
 try clear c17b1
 try clear c18
 try clear c18b0
 try clear c18b1
 try clear c19
 try clear c19b0
 try clear c19b1
 try clear p20
 try clear q20
 try clear qi20
 try clear hx20_0
 try clear p20
 try clear q20
 obtain ⟨x5_2,x6_2,x7_2,rfl,HA,HK2,HO_5,HO_6,HB⟩:=hrel
 have hl5_2:=(Kd.R_reads' HO_5.out).1
 rw [hl5_2] at HO_5
 (try simp only [hl5_2])
 (try simp only [hl5_2] at HO_6)
 cases gk with
 | zero=>exact absurd HA.out (by simp [i_IsTransitive.l0])
 | succ k2 =>
 have H:=HA.out
 clear HA
 simp only [i_IsTransitive.l0] at H
 by_cases c27:x7_2<(x6_2.length:Int)
 {
 rw [if_pos c27] at H
 have c27b0:=decide_eq_true c27
 clear c27
 by_cases c28:0≤x7_2
 {
 rw [if_pos c28] at H
 have c28b0:=decide_eq_true c28
 clear c28
 by_cases c29:0≤(rd x6_2 x7_2)
 {
 rw [if_pos c29] at H
 have c29b0:=decide_eq_true c29
 clear c29
 by_cases c30:(rd x6_2 x7_2)<(l0.length:Int)
 {
 rw [if_pos c30] at H
 have c30b0:=decide_eq_true c30
 clear c30
 by_cases c31:(rd x6_2 x7_2)<(l1.length:Int)
 {
 rw [if_pos c31] at H
 have c31b0:=decide_eq_true c31
 clear c31
 obtain ⟨y301,hy301⟩:∃ y_:List Int,y_=(([rd l0 (rd x6_2 x7_2),rd l1 (rd x6_2 x7_2)]:List Int)):=⟨_,rfl⟩
 replace H:(i_IsTransitive.l1 k2 l0 l1 x5_2 x6_2 x7_2 y301 (y301.length:Int) 0)=some r:=by first|(rw [hy301];with_reducible exact H)|(have H2_:=(Option.bind_some _ _).symm.trans H;rw [hy301];with_reducible exact H2_)|(have H2_:=(Option.bind_some _ _).symm.trans H;with_reducible exact H2_)|with_reducible exact H|(rw [hy301];exact H)|exact H
 have Ny301:=aM hy301
 clear hy301
 have H':=aM H
 clear H
 obtain ⟨Ao32,co32,eo32⟩:=Kd.R_slice HO_6.out
 subst eo32
 try go_wp2
 replace HO_5:=aM (Kd.R_drew HO_5.out)
 replace HO_6:=aM (Kd.R_drew HO_6.out)
 replace HB:=aM (below_drew1 HB.out)
 have p297:0≤(x7_2:Int):=dX
 have q297:x7_2<(x6_2.length:Int):=dX
 obtain ⟨ad297,e297,hx297_0⟩:=Kd.at_int (Kd.R_reads' HO_6.out).2.2 x7_2 p297 q297
 cases e297
 replace p297:=eq_true p297
 replace q297:=eq_true q297
 have p298:0≤((rd x6_2 x7_2):Int):=dX
 have q298:(rd x6_2 x7_2)<(l0.length:Int):=dX
 obtain ⟨ad298,e298,hx298_0⟩:=Kd.at_int HR0.out (rd x6_2 x7_2) p298 q298
 have hw298_0:=hx298_0
 cases e298
 replace hx298_0:=(HB.out.cell (World.block_lt_of_cell? w _ hx298_0)).trans hx298_0
 replace p298:=eq_true p298
 replace q298:=eq_true q298
 have p299:0≤(x7_2:Int):=dX
 have q299:x7_2<(x6_2.length:Int):=dX
 obtain ⟨ad299,e299,hx299_0⟩:=Kd.at_int (Kd.R_reads' HO_6.out).2.2 x7_2 p299 q299
 obtain rfl:ad297=ad299:=(by injection e299)
 replace p299:=eq_true p299
 replace q299:=eq_true q299
 have p300:0≤((rd x6_2 x7_2):Int):=dX
 have q300:(rd x6_2 x7_2)<(l1.length:Int):=dX
 obtain ⟨ad300,e300,hx300_0⟩:=Kd.at_int HR1.out (rd x6_2 x7_2) p300 q300
 have hw300_0:=hx300_0
 cases e300
 replace hx300_0:=(HB.out.cell (World.block_lt_of_cell? w _ hx300_0)).trans hx300_0
 replace p300:=eq_true p300
 replace q300:=eq_true q300
 refine start_ (n:=17) (S:=fun w'=>w'.cell? (ad297.add (x7_2).toNat)=some (.int .i64 (rd x6_2 x7_2))∧w'.cell? (ad298.add ((rd x6_2 x7_2)).toNat)=some (.int .i64 (rd l0 (rd x6_2 x7_2)))∧w'.cell? (ad297.add (x7_2).toNat)=some (.int .i64 (rd x6_2 x7_2))∧w'.cell? (ad300.add ((rd x6_2 x7_2)).toNat)=some (.int .i64 (rd l1 (rd x6_2 x7_2)))) (ds:=[]) #[ff,ff,ff,ff,ff,ff,ff,ff,ff,ff,ff,ff,ff,ff,ff,ff,ff] (by kernel_rfl) rfl rfl ⟨hx297_0,((HB.out.cell (World.block_lt_of_cell? w _ hw298_0)).trans hw298_0),hx299_0,((HB.out.cell (World.block_lt_of_cell? w _ hw300_0)).trans hw300_0)⟩ (fun hHeld => ?_);refine with_tabW i_IsTransitive.tab9 i_IsTransitive.bits9 (fun HT_ HW_ => ?_)
 generalize wr.drew=w33 at HO_5 HO_6 HB hx297_0 hx298_0 hx299_0 hx300_0 hHeld ⊢
 refine pX 0 42 (fl 17 1) rfl rfl HT_.out ?_
 refine pX 1 43 (fl 17 3) rfl rfl HT_.out ?_
 refine pX 2 44 (fl 17 7) rfl rfl HT_.out ?_
 refine pX 3 45 (fl 17 15) rfl rfl HT_.out ?_
 refine pX 7 49 (fl 17 143) rfl rfl HT_.out ?_
 refine pX 8 50 (fl 17 399) rfl rfl HT_.out ?_
 refine pX 9 51 (fl 17 911) rfl rfl HT_.out ?_
 refine pX 10 52 (fl 17 1935) rfl rfl HT_.out ?_
 refine pX 16 58 (fl 17 67471) rfl rfl HT_.out ?_
 refine tX4 4 46 (fl 17 67487) rfl rfl HT_.out HW_.out hHeld ?_
 refine pX 5 47 (fl 17 67519) rfl rfl HT_.out ?_
 refine tX4 6 48 (fl 17 67583) rfl rfl HT_.out HW_.out hHeld ?_
 refine tX4 11 53 (fl 17 69631) rfl rfl HT_.out HW_.out hHeld ?_
 refine pX 12 54 (fl 17 73727) rfl rfl HT_.out ?_
 refine tX4 13 55 (fl 17 81919) rfl rfl HT_.out HW_.out hHeld ?_
 refine one_ (i:=14) (N:=some 56) #[tt,tt,tt,tt,tt,tt,tt,tt,tt,tt,tt,tt,tt,tt,tt,ff,tt] rfl rfl (one_of HT_.out (by kernel_rfl)) (by decide) (fun K hK => ?_)
 refine Kd.R_lit_step (Kd.int .i64) _ 3 ?hg (N:=56) ?hd (xs:=([rd l0 (rd x6_2 x7_2),rd l1 (rd x6_2 x7_2)]:List Int)) (inner:=[.int .i64 (rd l0 (rd x6_2 x7_2)),.int .i64 (rd l1 (rd x6_2 x7_2))]) (ok:=fun _=>True) (okp:=fun _=>True) ?hr ?hp (fun _ hk=>hk) trivial (Below.refl _ _) (Nat.le_refl _) (by simp) ?_;(case hd=>rfl);(case hg=>rfl);(case hr=>first|(go_simp;done)|(go_simp;rfl));(case hp=>exact(Reps.one (show Kd.M (Kd.int .i64) _ _ _ (rd l0 (rd x6_2 x7_2)) [.int .i64 (rd l0 (rd x6_2 x7_2))] from rfl) (Reps.one (show Kd.M (Kd.int .i64) _ _ _ (rd l1 (rd x6_2 x7_2)) [.int .i64 (rd l1 (rd x6_2 x7_2))] from rfl) (Reps.none _ _))))
 intro v302 w34 ho35 hb hg_ hnew_
 have HS0_:=(hb.cell (World.block_lt_of_cell? _ _ (hHeld.1))).trans (hHeld.1)
 have HS2_:=(hb.cell (World.block_lt_of_cell? _ _ (hHeld.2.2.1))).trans (hHeld.2.2.1)
 clear hg_ hnew_
 (first|rw [← Ny301.out] at ho35|(simp only [Int.reduceToNat] at ho35;rw [← Ny301.out] at ho35))
 replace HO_5:=aM (Kd.R_below (rX HO_5.out) hb)
 have HO303:=aM (Kd.R_lower (Kd.R_new' ho35 (Kd.R_lt (rX HO_6.out))) (below_size (bX HB.out)))
 replace HO_6:=aM (Kd.R_elder' (rX HO_6.out) (Kd.R_base ho35) hb)
 replace HB:=aM (below_step (bX HB.out) hb)
 clear hb ho35
 obtain ⟨Ao36,co36,eo36⟩:=Kd.R_slice HO303.out
 (first|subst eo36|(injection eo36 with f1_ f2_ f3_;have f4_:=f1_.symm;have f5_:=f3_.symm;clear f1_ f2_ f3_;subst f4_;subst f5_))
 refine hK.out _ _ ⟨HS0_,((HB.out.cell (World.block_lt_of_cell? w _ hw298_0)).trans hw298_0),HS2_,((HB.out.cell (World.block_lt_of_cell? w _ hw300_0)).trans hw300_0)⟩ (fun hHeld => ?_)
 clear hK K
 refine norm_ (a':=?_) ?_ ?_
 rotate_left
 {
 show Act.put _ (some 56) _=_
 simp only [Act.put,zA,zB,zC,i64_w,i32_w]
 rfl
 }
 refine pX 15 57 (fl 17 131071) rfl rfl HT_.out ?_
 refine done_ (done_of HT_.out (by kernel_rfl)) ?_
 try go_wp2
 go_loopg [6,58] k2 (fun kq v6 v58 w'=>∃ (x5_3:List Bool) (x6_3:List Int) (x58_3:Int),v58 = .int .i64 x58_3∧Aside0 (i_IsTransitive.l1 kq l0 l1 x5_3 x6_3 x7_2 y301 (y301.length:Int) x58_3=some r)∧Aside0 (kq≤k2)∧Aside0 (Kd.R Kd.bool 4 w' w.heap.size (fun _=>True) (.slice (some ⟨go20,0,none⟩) x5_2.length co20) x5_3)∧Aside0 (Kd.R (Kd.int .i64) 3 w' w.heap.size (fun k_=>some k_≠((.slice Ao36 y301.length co36):Value).ownBlock) v6 x6_3)∧Aside0 (Kd.R (Kd.int .i64) 3 w' w.heap.size (fun k_=>some k_≠(v6:Value).ownBlock) (.slice Ao36 y301.length co36) y301)∧Aside0 (Below w.heap.size w w'))
 case atStart=>exact ⟨(x5_2),(x6_2),(0),vX,H',⟨Nat.le_refl _⟩,⟨by(try simp only [hl5_2]);(with_reducible repeat(first|apply rA|apply rN|apply rD));exact HO_5.out⟩,⟨by(try simp only [hl5_2]);(with_reducible repeat(first|apply rA|apply rN|apply rD));exact Kd.R_mono HO_6.out (fun _ hk=>hk.2)⟩,⟨by(try simp only [hl5_2]);(with_reducible repeat(first|apply rA|apply rN|apply rD));exact Kd.R_mono HO303.out (fun _ hk=>hk.2)⟩,⟨bX HB.out⟩⟩
 case round =>
 clear H'
 try clear c1
 try clear c5
 try clear c7
 try clear c8
 try clear c8b0
 try clear c8b1
 try clear c8b2
 try clear c16
 try clear c17
 try clear c17b0
 try clear c17b1
 try clear c18
 try clear c18b0
 try clear c18b1
 try clear c19
 try clear c19b0
 try clear c19b1
 try clear p20
 try clear q20
 try clear qi20
 try clear c27
 try clear c27b0
 try clear c28
 try clear c28b0
 try clear c29
 try clear c29b0
 try clear c30
 try clear c30b0
 try clear c31
 try clear c31b0
 try clear hx20_0
 try clear hx297_0
 try clear hx298_0
 try clear hx299_0
 try clear hx300_0
 try clear p20
 try clear p297
 try clear p298
 try clear p299
 try clear p300
 try clear q20
 try clear q297
 try clear q298
 try clear q299
 try clear q300
 obtain ⟨x5_3,x6_3,x58_3,rfl,HA,HK3,HO_5,HO_6,HO_56,HB⟩:=hrel
 have hl5_3:=(Kd.R_reads' HO_5.out).1
 rw [hl5_3] at HO_5
 (try simp only [hl5_3])
 (try simp only [hl5_3] at HO_6)
 (try simp only [hl5_3] at HO_56)
 cases gk with
 | zero=>exact absurd HA.out (by simp [i_IsTransitive.l1])
 | succ k3 =>
 have H:=HA.out
 clear HA
 simp only [i_IsTransitive.l1] at H
 by_cases c37:x58_3<(y301.length:Int)
 {
 rw [if_pos c37] at H
 have c37b0:=decide_eq_true c37
 clear c37
 by_cases c38:0≤x58_3
 {
 rw [if_pos c38] at H
 have c38b0:=decide_eq_true c38
 clear c38
 by_cases c39:x58_3<(y301.length:Int)
 {
 rw [if_pos c39] at H
 have c39b0:=decide_eq_true c39
 clear c39
 by_cases c40:0≤(rd y301 x58_3)
 {
 rw [if_pos c40] at H
 have c40b0:=decide_eq_true c40
 clear c40
 by_cases c41:(rd y301 x58_3)<(x5_3.length:Int)
 {
 rw [if_pos c41] at H
 have c41b0:=decide_eq_true c41
 clear c41
 obtain ⟨bq42,hbq42⟩:∃ b_:Bool,b_=(rdOf false x5_3 (rd y301 x58_3)):=⟨_,rfl⟩
 replace H:(if (bq42=true) then (i_IsTransitive.l1 k3 l0 l1 x5_3 x6_3 x7_2 y301 (y301.length:Int) (wrap64 (x58_3+1))) else (if x6_3.length<17592186044416 then (i_IsTransitive.l1 k3 l0 l1 (x5_3.set ((rd y301 x58_3):Int).toNat true) (x6_3 ++ [rd y301 x58_3]) x7_2 y301 (y301.length:Int) (wrap64 (x58_3+1))) else (none)))=some r:=by rw [← hbq42] at H;exact H
 have Nbq42:=aM hbq42
 clear hbq42
 by_cases c43:(bq42=true)
 {
 subst c43
 have H1:(i_IsTransitive.l1 k3 l0 l1 x5_3 x6_3 x7_2 y301 (y301.length:Int) (wrap64 (x58_3+1)))=some r:=by rw [if_pos rfl] at H;exact H
 clear H
 have H:=H1
 clear H1
 have H':=aM H
 clear H
 have p304:0≤(x58_3:Int):=dX
 have q304:x58_3<(y301.length:Int):=dX
 obtain ⟨ad304,e304,hx304_0⟩:=Kd.at_int (Kd.R_reads' HO_56.out).2.2 x58_3 p304 q304
 cases e304
 replace p304:=eq_true p304
 replace q304:=eq_true q304
 have p305:0≤((rd y301 x58_3):Int):=dX
 have q305:(rd y301 x58_3)<(x5_3.length:Int):=dX
 obtain ⟨ad305,e305,hx305_0⟩:=Kd.at_bool (Kd.R_reads' HO_5.out).2.2 (rd y301 x58_3) p305 q305
 (try rw [← Nbq42.out] at hx305_0)
 obtain rfl:(⟨go20,0,none⟩:Addr)=ad305:=(by injection e305)
 (first|simp only [add_plain] at hx305_0|simp only [add_at] at hx305_0|simp only [Addr.add,Nat.zero_add] at hx305_0|skip)
 replace p305:=eq_true p305
 replace q305:=eq_true q305
 go_wp2
 (try simp only [← hl5_3])
 go_roundg k3
 case measure=>have:=HJ2.out;have:=HK2.out;have:=HK3.out;omega
 case rel=>exact ⟨(x5_3),(x6_3),(wrap64 (x58_3+1)),vX,H',⟨by have:=HJ2.out;have:=HK2.out;have:=HK3.out;omega⟩,⟨by(try simp only [hl5_2]);(try simp only [hl5_3]);(with_reducible repeat(first|apply rA|apply rN|apply rD));exact HO_5.out⟩,⟨by(try simp only [hl5_2]);(try simp only [hl5_3]);(with_reducible repeat(first|apply rA|apply rN|apply rD));exact HO_6.out⟩,⟨by(try simp only [hl5_2]);(try simp only [hl5_3]);(with_reducible repeat(first|apply rA|apply rN|apply rD));exact HO_56.out⟩,⟨bX HB.out⟩⟩
 }
 {
 replace c43:=Bool.eq_false_iff.mpr c43
 subst c43
 have H1:(if x6_3.length<17592186044416 then (i_IsTransitive.l1 k3 l0 l1 (x5_3.set ((rd y301 x58_3):Int).toNat true) (x6_3 ++ [rd y301 x58_3]) x7_2 y301 (y301.length:Int) (wrap64 (x58_3+1))) else (none))=some r:=by rw [if_neg (show ¬ (false=true) by decide)] at H;exact H
 clear H
 have H:=H1
 clear H1
 obtain ⟨y306,hy306⟩:∃ y_:List Bool,y_=(x5_3.set ((rd y301 x58_3):Int).toNat true):=⟨_,rfl⟩
 replace H:(if x6_3.length<17592186044416 then (i_IsTransitive.l1 k3 l0 l1 y306 (x6_3 ++ [rd y301 x58_3]) x7_2 y301 (y301.length:Int) (wrap64 (x58_3+1))) else (none))=some r:=by first|(rw [hy306];with_reducible exact H)|(have H2_:=(Option.bind_some _ _).symm.trans H;rw [hy306];with_reducible exact H2_)|(have H2_:=(Option.bind_some _ _).symm.trans H;with_reducible exact H2_)|with_reducible exact H|(rw [hy306];exact H)|exact H
 have Ny306:=aM hy306
 clear hy306
 by_cases c45:x6_3.length<17592186044416
 {
 rw [if_pos c45] at H
 have LMc45:=aM c45
 clear c45
 obtain ⟨y307,hy307⟩:∃ y_:List Int,y_=(x6_3 ++ [rd y301 x58_3]):=⟨_,rfl⟩
 replace H:(i_IsTransitive.l1 k3 l0 l1 y306 y307 x7_2 y301 (y301.length:Int) (wrap64 (x58_3+1)))=some r:=by first|(rw [hy307];with_reducible exact H)|(have H2_:=(Option.bind_some _ _).symm.trans H;rw [hy307];with_reducible exact H2_)|(have H2_:=(Option.bind_some _ _).symm.trans H;with_reducible exact H2_)|with_reducible exact H|(rw [hy307];exact H)|exact H
 have Ny307:=aM hy307
 clear hy307
 have H':=aM H
 clear H
 have p304:0≤(x58_3:Int):=dX
 have q304:x58_3<(y301.length:Int):=dX
 obtain ⟨ad304,e304,hx304_0⟩:=Kd.at_int (Kd.R_reads' HO_56.out).2.2 x58_3 p304 q304
 cases e304
 replace p304:=eq_true p304
 replace q304:=eq_true q304
 have p305:0≤((rd y301 x58_3):Int):=dX
 have q305:(rd y301 x58_3)<(x5_3.length:Int):=dX
 obtain ⟨ad305,e305,hx305_0⟩:=Kd.at_bool (Kd.R_reads' HO_5.out).2.2 (rd y301 x58_3) p305 q305
 (try rw [← Nbq42.out] at hx305_0)
 obtain rfl:(⟨go20,0,none⟩:Addr)=ad305:=(by injection e305)
 (first|simp only [add_plain] at hx305_0|simp only [add_at] at hx305_0|simp only [Addr.add,Nat.zero_add] at hx305_0|skip)
 replace p305:=eq_true p305
 replace q305:=eq_true q305
 have p44:0≤((rd y301 x58_3):Int):=dX
 have q44:((rd y301 x58_3):Int)<((x5_3.length:Int):Int):=dX
 obtain ⟨hx44_0,hf44_0⟩:=Kd.R_celln false HO_5.out ((rd y301 x58_3):Int) p44 q44
 replace p44:=eq_true p44
 replace q44:=eq_true q44
 have HP46:=Kd.R_putg HO_5.out ((rd y301 x58_3):Int) true
 go_wp2_with (first|((with_reducible refine gate_store (t:=4) (p:=69) rfl ?_);refine store_event (t:=4) (p:=69) (v:=?vo_w47) (w1:=(wr.setCell ⟨go20,((rd y301 x58_3):Int).toNat,none⟩ (.bool true))) ?hg ?ho ?hn ?hr ?_;(case ho=>rfl);(case hg=>rfl);(case hn=>rfl);(case hr=>first|(go_simp;done)|(go_simp;rfl));intro w47 hw;have hg:wr.grownBy w47 (some go20):=(by rw [hw];exact HP46.2);have hp_:Kd.R Kd.bool 4 w47 w.heap.size (fun _=>True) (.slice (some ⟨go20,0,none⟩) x5_3.length co20) y306:=(by rw [hw,Ny306.out];exact HP46.1);clear HP46;replace HO_6:=aM (Kd.R_over' (v:=(.slice (some ⟨go20,0,none⟩) x5_3.length co20)) (rX HO_6.out) (Kd.R_typed HO_5.out) (by decide) hg);replace HO_56:=aM (Kd.R_over' (v:=(.slice (some ⟨go20,0,none⟩) x5_3.length co20)) (rX HO_56.out) (Kd.R_typed HO_5.out) (by decide) hg);replace HO_5:=aM (hp_);replace HB:=aM ((by rw [hw];exact below_set (HB.out) GB20.out:Below w.heap.size w w47));clear hg hw hp_)|((with_reducible refine gate_builtin (b:=.append) (xs:=#[.tmp 70,.tmp 72]) rfl ?_);(try(refine gate_guard (by rfl) ?_;dsimp only));at_builtin;refine Kd.R_append (Kd.int .i64) (w0:=w) w.heap.size rfl (.tmp 70) (.tmp 72) 23 3 (.int .i64 0) 8 rfl Tryd.underlying23 info3 rfl (by decide) (by omega) u6 x6_3 (rd y301 x58_3) [.int .i64 (rd y301 x58_3)] (fun k_=>some k_≠(.slice (some ad304) y301.length co36:Value).ownBlock) (fun _=>False) rfl rfl ?aP (fun _ hk=>hk.elim) ?aF ?aO ?aB ?aS ?aL ?_;(case aP=>exact rfl);(case aB=>exact(bX HB.out));(case aF=>exact(fun k_ hk=>Kd.fresh' (Kd.R_lt (rX HO_56.out)) k_ hk));(case aO=>exact(rX HO_6.out));(case aS=>exact(below_size (bX HB.out)));(case aL=>have:=LMc45.out;omega);intro v308 w48 ho hb hg hat;rw [← Ny307.out] at ho;replace HO_5:=aM (Kd.R_over' (rX HO_5.out) (Kd.R_typed (rX HO_6.out)) (by decide) hg);replace HO_56:=aM (Kd.R_after (ok:=(fun _=>True)) (rM HO_56.out (fun _ hk=>⟨trivial,hk⟩)) hg hat);replace HB:=aM (hb);have HO309:=aM (ho);clear HO_6 ho hb hg hat))
 (try simp only [← hl5_3])
 go_roundg k3
 case measure=>have:=HJ2.out;have:=HK2.out;have:=HK3.out;omega
 case rel=>exact ⟨(y306),(y307),(wrap64 (x58_3+1)),vX,H',⟨by have:=HJ2.out;have:=HK2.out;have:=HK3.out;omega⟩,⟨by(try simp only [hl5_2]);(try simp only [hl5_3]);(with_reducible repeat(first|apply rA|apply rN|apply rD));exact HO_5.out⟩,⟨by(try simp only [hl5_2]);(try simp only [hl5_3]);(with_reducible repeat(first|apply rA|apply rN|apply rD));exact HO309.out⟩,⟨by(try simp only [hl5_2]);(try simp only [hl5_3]);(with_reducible repeat(first|apply rA|apply rN|apply rD));exact Kd.R_mono HO_56.out (fun _ hk=>hk.2)⟩,⟨bX HB.out⟩⟩
 }
 {
 rw [if_neg c45] at H
 exact absurd H (by simp)
 }
 }
 }
 {
 rw [if_neg c41] at H
 exact absurd H (by simp)
 }
 }
 {
 rw [if_neg c40] at H
 exact absurd H (by simp)
 }
 }
 {
 rw [if_neg c39] at H
 exact absurd H (by simp)
 }
 }
 {
 rw [if_neg c38] at H
 exact absurd H (by simp)
 }
 }
 {
 rw [if_neg c37] at H
 have c37b0:=decide_eq_false c37
 clear c37
 have H':=aM H
 clear H
 go_wp2
 (try simp only [← hl5_2,← hl5_3])
 go_roundg k3
 case measure=>have:=HJ2.out;have:=HK2.out;have:=HK3.out;omega
 case rel=>exact ⟨(x5_3),(x6_3),(wrap64 (x7_2+1)),vX,H',⟨by have:=HJ2.out;have:=HK2.out;have:=HK3.out;omega⟩,⟨by(try simp only [hl5_2]);(try simp only [hl5_3]);(with_reducible repeat(first|apply rA|apply rN|apply rD));exact HO_5.out⟩,⟨by(try simp only [hl5_2]);(try simp only [hl5_3]);(with_reducible repeat(first|apply rA|apply rN|apply rD));exact Kd.R_mono HO_6.out (fun _ hk=>trivial)⟩,⟨bX HB.out⟩⟩
 }
 }
 {
 rw [if_neg c31] at H
 exact absurd H (by simp)
 }
 }
 {
 rw [if_neg c30] at H
 exact absurd H (by simp)
 }
 }
 {
 rw [if_neg c29] at H
 exact absurd H (by simp)
 }
 }
 {
 rw [if_neg c28] at H
 exact absurd H (by simp)
 }
 }
 {
 rw [if_neg c27] at H
 have c27b0:=decide_eq_false c27
 clear c27
 obtain rfl:=Option.some.inj H
 obtain ⟨Ao49,co49,eo49⟩:=Kd.R_slice HO_6.out
 subst eo49
 go_wp2
 go_ret
 exact ⟨eX,bX HB.out⟩
 }
 }
 {
 rw [if_neg c19] at H
 exact absurd H (by simp)
 }
 }
 {
 rw [if_neg c18] at H
 exact absurd H (by simp)
 }
 }
 {
 rw [if_neg c17] at H
 exact absurd H (by simp)
 }
 }

/-! ### i_SurfaceOk: function 22 -/
def i_SurfaceOk.f (k:Nat) (l0_0:List Int) (l0_1:List Int):Option (Bool):=(i_IsTransitive.f k l0_0 l0_1).bind fun t311=>(some t311)
theorem i_SurfaceOk.calls (k:Nat) (A0_0:Option Addr) (c0_0:Nat) (l0_0:List Int) (A0_1:Option Addr) (c0_1:Nat) (l0_1:List Int) (r:Bool) (w:World) (hr0_0:Kd.C (Kd.int .i64) w A0_0 l0_0.length l0_0) (hc0_0:l0_0.length≤c0_0) (hr0_1:Kd.C (Kd.int .i64) w A0_1 l0_1.length l0_1) (hc0_1:l0_1.length≤c0_1) (h:i_SurfaceOk.f k l0_0 l0_1=some r) :
  Calls Tryd.prog 22 #[.agg #[.slice A0_0 l0_0.length c0_0,.slice A0_1 l0_1.length c0_1]] w fun e w'=>e = .returned (.bool r)∧Below w.heap.size w w':=by
 have hu25:=Tryd.underlying25
 have HR0_0:=aM hr0_0
 have HC0_0:=aM hc0_0
 clear hr0_0 hc0_0
 have HR0_1:=aM hr0_1
 have HC0_1:=aM hc0_1
 clear hr0_1 hc0_1
 have HB:=aM (Below.refl w.heap.size w)
 have H:((i_IsTransitive.f k l0_0 l0_1).bind fun t311=>(some t311))=some r:=h
 clear h
 replace H:=oB H
 obtain ⟨t311,A20,H⟩:=H
 have A2:=aM A20
 clear A20
 obtain rfl:=Option.some.inj H
 go_enter Tryd.func22,Tryd.ntmps22
 go_wp2_with (first|((with_reducible refine gate_dst (N:=1) rfl ?_);refine bEv (cs:=#[.slice A0_0 l0_0.length c0_0,.slice A0_1 l0_1.length c0_1]) (t:=25) ?_;intro gb310 hg w3 hbox hb;have BK310:=aM (hbox);have GW310:=aM ((szX (below_size (bX HB.out)) hg:w.heap.size≤gb310));have GE310:=GW310;replace HB:=aM (below_step (bX HB.out) hb);clear hb hbox hg;obtain ⟨hcz4_0,hcz4_1,hfz4_0,hfz4_1⟩:=f2Z BK310.out)|((with_reducible refine gate_callee (f:=41) rfl ?_);refine goesL_ (some 7) rfl rfl Tryd.func41 (by kernel_rfl) rfl #[.slice A0_0 l0_0.length c0_0,.slice A0_1 l0_1.length c0_1] rfl aX ?_;(with_reducible refine(i_IsTransitive.calls k _ _ l0_0 _ _ l0_1 t311 _ ?side1 ?side2 ?side3 ?side4 A2.out).mono ?_);(case side1=>exact cX (Kd.C_below HR0_0.out HB.out));(case side2=>exact HC0_0.out);(case side3=>exact cX (Kd.C_below HR0_1.out HB.out));(case side4=>exact HC0_1.out);rintro e w5 ⟨rfl,hb⟩;refine ⟨_,rfl,?_⟩;replace BK310:=aM (bbX BK310.out hb);replace HB:=aM (below_step (bX1 HB.out GE310.out) hb);(try clear hb)))
 go_ret
 exact ⟨eX,bX1 HB.out GE310.out⟩

/-! ### i_InversePerm: function 30 -/
def i_InversePerm.l0 : Nat→List Int→List Int→Int→Int→Option (List Int)
 | 0,_,_,_,_=>none
 | k+1,x3,x12,x13,x14=>if x14<x13 then (if 0≤x14 then (if x14<(x12.length:Int) then (if 0≤(rd x12 x14) then (if (rd x12 x14)<(x3.length:Int) then (i_InversePerm.l0 k (x3.set ((rd x12 x14):Int).toNat x14) x12 x13 (wrap64 (x14+1))) else (none)) else (none)) else (none)) else (none)) else (some x3)
def i_InversePerm.f (k:Nat) (l0:List Int):Option (List Int):=(i_PermOk.f l0).bind fun t312=>(if t312=true then (if 0≤(l0.length:Int) then (if ((l0.length:Int):Int).toNat≤35184372088832 then (i_InversePerm.l0 k (List.replicate ((l0.length:Int):Int).toNat 0) l0 (l0.length:Int) 0) else (none)) else (none)) else (some ([]:List Int)))
theorem i_InversePerm.calls (k:Nat) (A0:Option Addr) (c0:Nat) (l0:List Int) (r:List Int) (w:World) (hr0:Kd.C (Kd.int .i64) w A0 l0.length l0) (hc0:l0.length≤c0) (h:i_InversePerm.f k l0=some r) :
  Calls Tryd.prog 30 #[.slice A0 l0.length c0] w fun e w'=>∃ v0_:Value,e = .returned (v0_)∧Kd.R (Kd.int .i64) 3 w' w.heap.size (fun _=>True) v0_ r∧Below w.heap.size w w':=by
 have HR0:=aM hr0
 have HC0:=aM hc0
 clear hr0 hc0
 have HB:=aM (Below.refl w.heap.size w)
 have H:((i_PermOk.f l0).bind fun t312=>(if t312=true then (if 0≤(l0.length:Int) then (if ((l0.length:Int):Int).toNat≤35184372088832 then (i_InversePerm.l0 k (List.replicate ((l0.length:Int):Int).toNat 0) l0 (l0.length:Int) 0) else (none)) else (none)) else (some ([]:List Int))))=some r:=h
 clear h
 replace H:=oB H
 obtain ⟨t312,A20,H⟩:=H
 have A2:=aM A20
 clear A20
 by_cases c3:t312=true
 {
 subst c3
 have H1:(if 0≤(l0.length:Int) then (if ((l0.length:Int):Int).toNat≤35184372088832 then (i_InversePerm.l0 k (List.replicate ((l0.length:Int):Int).toNat 0) l0 (l0.length:Int) 0) else (none)) else (none))=some r:=by rw [if_pos rfl] at H;exact H
 clear H
 have H:=H1
 clear H1
 by_cases c4:0≤(l0.length:Int)
 {
 rw [if_pos c4] at H
 have c4b0:=eq_true c4
 have c4b1:=decide_eq_true c4
 clear c4
 by_cases c5:((l0.length:Int):Int).toNat≤35184372088832
 {
 rw [if_pos c5] at H
 have c5b0:=eq_true c5
 have c5b1:=decide_eq_true c5
 clear c5
 obtain ⟨y313,hy313⟩:∃ y_:List Int,y_=(List.replicate ((l0.length:Int):Int).toNat 0):=⟨_,rfl⟩
 replace H:(i_InversePerm.l0 k y313 l0 (l0.length:Int) 0)=some r:=by first|(rw [hy313];with_reducible exact H)|(have H2_:=(Option.bind_some _ _).symm.trans H;rw [hy313];with_reducible exact H2_)|(have H2_:=(Option.bind_some _ _).symm.trans H;with_reducible exact H2_)|with_reducible exact H|(rw [hy313];exact H)|exact H
 have Ny313:=aM hy313
 clear hy313
 have H':=aM H
 clear H
 go_enter Tryd.func30,Tryd.ntmps30
 go_wp2_with (first|((with_reducible refine gate_callee (f:=31) rfl ?_);refine goesL_ (some 7) rfl rfl Tryd.func31 (by kernel_rfl) rfl #[.slice A0 l0.length c0] rfl aX ?_;(with_reducible refine(i_PermOk.calls _ _ l0 true _ ?side1 ?side2 A2.out).mono ?_);(case side1=>exact cX HR0.out);(case side2=>exact HC0.out);rintro e w6 ⟨rfl,hb⟩;refine ⟨_,rfl,?_⟩;replace HB:=aM (below_step (bX HB.out) hb);(try clear hb);(try clear hk))|((with_reducible refine gate_dst (N:=11) rfl ?_);refine Kd.R_make (Kd.int .i64) _ 3 rfl (N:=11) rfl 23 _ _ rfl (l0.length:Int) rfl rfl Tryd.underlying23 (.int .i64 0) 8 info3 rfl (by decide) (by omega) 0 (ok:=fun _=>True) (okp:=fun _=>True) rfl (fun _ hk=>hk) trivial (dX) (Nat.le_trans (Nat.mul_le_mul_right _ (dX:(l0.length:Int).toNat≤35184372088832)) (by omega)) (Below.refl _ _) (Nat.le_refl _) ?_;intro v314 w7 ho8 hb hg_ hnew_;clear hg_ hnew_;(first|rw [← Ny313.out] at ho8|(simp only [Int.reduceToNat] at ho8;rw [← Ny313.out] at ho8));have HO315:=aM (Kd.R_lower ho8 (below_size (bX HB.out)));replace HB:=aM (below_step (bX HB.out) hb);clear hb ho8))
 go_loopg [14] k (fun kq v14 w'=>∃ (x3_1:List Int) (x14_1:Int),v14 = .int .i64 x14_1∧Aside0 (i_InversePerm.l0 kq x3_1 l0 (l0.length:Int) x14_1=some r)∧Aside0 (kq≤k)∧Aside0 (Kd.R (Kd.int .i64) 3 w' w.heap.size (fun _=>True) v314 x3_1)∧Aside0 (Below w.heap.size w w'))
 case atStart=>exact ⟨(y313),(0),vX,H',⟨Nat.le_refl _⟩,⟨rX HO315.out⟩,⟨bX HB.out⟩⟩
 case round =>
 clear H'
 try clear c3
 try clear c4
 try clear c4b0
 try clear c4b1
 try clear c5
 try clear c5b0
 try clear c5b1
 obtain ⟨x3_1,x14_1,rfl,HA,HK1,HO_3,HB⟩:=hrel
 cases gk with
 | zero=>exact absurd HA.out (by simp [i_InversePerm.l0])
 | succ k1 =>
 have H:=HA.out
 clear HA
 simp only [i_InversePerm.l0] at H
 by_cases c9:x14_1<(l0.length:Int)
 {
 rw [if_pos c9] at H
 have c9b0:=decide_eq_true c9
 clear c9
 by_cases c10:0≤x14_1
 {
 rw [if_pos c10] at H
 have c10b0:=decide_eq_true c10
 clear c10
 by_cases c11:x14_1<(l0.length:Int)
 {
 rw [if_pos c11] at H
 have c11b0:=decide_eq_true c11
 clear c11
 by_cases c12:0≤(rd l0 x14_1)
 {
 rw [if_pos c12] at H
 have c12b0:=decide_eq_true c12
 clear c12
 by_cases c13:(rd l0 x14_1)<(x3_1.length:Int)
 {
 rw [if_pos c13] at H
 have c13b0:=decide_eq_true c13
 clear c13
 obtain ⟨y317,hy317⟩:∃ y_:List Int,y_=(x3_1.set ((rd l0 x14_1):Int).toNat x14_1):=⟨_,rfl⟩
 replace H:(i_InversePerm.l0 k1 y317 l0 (l0.length:Int) (wrap64 (x14_1+1)))=some r:=by first|(rw [hy317];with_reducible exact H)|(have H2_:=(Option.bind_some _ _).symm.trans H;rw [hy317];with_reducible exact H2_)|(have H2_:=(Option.bind_some _ _).symm.trans H;with_reducible exact H2_)|with_reducible exact H|(rw [hy317];exact H)|exact H
 have Ny317:=aM hy317
 clear hy317
 have H':=aM H
 clear H
 have p316:0≤(x14_1:Int):=dX
 have q316:x14_1<(l0.length:Int):=dX
 obtain ⟨ad316,e316,hx316_0⟩:=Kd.at_int HR0.out x14_1 p316 q316
 cases e316
 replace hx316_0:=(HB.out.cell (World.block_lt_of_cell? w _ hx316_0)).trans hx316_0
 replace p316:=eq_true p316
 replace q316:=eq_true q316
 have p14:0≤((rd l0 x14_1):Int):=dX
 have q14:((rd l0 x14_1):Int)<((x3_1.length:Int):Int):=dX
 obtain ⟨go14,co14,eo14,gb14,gl14,cl14,HG14⟩:=Kd.R_form HO_3.out (by omega)
 (first|cases eo14|(injection eo14 with ea_ en_ ec_;(first|subst ea_|(injection ea_ with ea_;subst ea_));subst ec_;clear en_))
 have GB14:=aM gb14
 have GG14:=aM HG14
 clear gb14 gl14 HG14
 obtain ⟨hx14_0,hf14_0⟩:=Kd.R_celln 0 HO_3.out ((rd l0 x14_1):Int) p14 q14
 replace p14:=eq_true p14
 replace q14:=eq_true q14
 have HP15:=Kd.R_putg HO_3.out ((rd l0 x14_1):Int) x14_1
 go_wp2_with (first|((with_reducible refine gate_store (t:=3) (p:=22) rfl ?_);refine store_event (t:=3) (p:=22) (v:=?vo_w16) (w1:=(wr.setCell ⟨go14,((rd l0 x14_1):Int).toNat,none⟩ (.int .i64 x14_1))) ?hg ?ho ?hn ?hr ?_;(case ho=>rfl);(case hg=>rfl);(case hn=>rfl);(case hr=>first|(go_simp;done)|(go_simp;rfl));intro w16 hw;have hg:wr.grownBy w16 (some go14):=(by rw [hw];exact HP15.2);have hp_:Kd.R (Kd.int .i64) 3 w16 w.heap.size (fun _=>True) (.slice (some ⟨go14,0,none⟩) x3_1.length co14) y317:=(by rw [hw,Ny317.out];exact HP15.1);clear HP15;replace HO_3:=aM (hp_);replace HB:=aM ((by rw [hw];exact below_set (HB.out) GB14.out:Below w.heap.size w w16));clear hg hw hp_))
 go_roundg k1
 case measure=>have:=HK1.out;omega
 case rel=>exact ⟨(y317),(wrap64 (x14_1+1)),vX,H',⟨by have:=HK1.out;omega⟩,⟨rX HO_3.out⟩,⟨bX HB.out⟩⟩
 }
 {
 rw [if_neg c13] at H
 exact absurd H (by simp)
 }
 }
 {
 rw [if_neg c12] at H
 exact absurd H (by simp)
 }
 }
 {
 rw [if_neg c11] at H
 exact absurd H (by simp)
 }
 }
 {
 rw [if_neg c10] at H
 exact absurd H (by simp)
 }
 }
 {
 rw [if_neg c9] at H
 have c9b0:=decide_eq_false c9
 clear c9
 obtain rfl:=Option.some.inj H
 go_wp2
 go_ret
 exact ⟨_,eX,by(with_reducible repeat(first|apply rA|apply rN|apply rD));exact HO_3.out,bX HB.out⟩
 }
 }
 {
 rw [if_neg c5] at H
 exact absurd H (by simp)
 }
 }
 {
 rw [if_neg c4] at H
 exact absurd H (by simp)
 }
 }
 {
 replace c3:=Bool.eq_false_iff.mpr c3
 subst c3
 have H1:(some ([]:List Int))=some r:=by rw [if_neg (show ¬ (false=true) by decide)] at H;exact H
 clear H
 have H:=H1
 clear H1
 obtain rfl:=Option.some.inj H
 go_enter Tryd.func30,Tryd.ntmps30
 go_wp2_with (first|((with_reducible refine gate_callee (f:=31) rfl ?_);refine goesL_ (some 7) rfl rfl Tryd.func31 (by kernel_rfl) rfl #[.slice A0 l0.length c0] rfl aX ?_;(with_reducible refine(i_PermOk.calls _ _ l0 false _ ?side1 ?side2 A2.out).mono ?_);(case side1=>exact cX HR0.out);(case side2=>exact HC0.out);rintro e w17 ⟨rfl,hb⟩;refine ⟨_,rfl,?_⟩;replace HB:=aM (below_step (bX HB.out) hb);(try clear hb);(try clear hk)))
 go_ret
 exact ⟨_,eX,by first|exact Kd.R_nil _ _ _ _ _|exact Kd.N_nil _ _ _ _ _|exact Kd.V_nil _ _ _ _ _|exact Kd.Q_nil _ _ _ _ _|exact Kd.S_nil _ _ _ _ _,bX HB.out⟩
 }

/-! ### i_IsTurn: function 13 -/
mutual
def i_IsTurn.j0 : Nat→List Int→Bool→List Int→List Int→Option (Bool)
 | 0,_,_,_,_=>none
 | k+1,x1,x23,x319000,x319001=>if x23=true then (some false) else ((i_InversePerm.f k x319000).bind fun t321=>((i_InversePerm.f k x319001).bind fun t324=>(i_IsTurn.l0 k x1 t321 t324 (x1.length:Int) 0 x319000 x319001)))
def i_IsTurn.l0 : Nat→List Int→List Int→List Int→Int→Int→List Int→List Int→Option (Bool)
 | 0,_,_,_,_,_,_,_=>none
 | k+1,x1,x5,x6,x31,x32,x319000,x319001=>if x32<x31 then (if 0≤x32 then (if x32<(x319000.length:Int) then (if 0≤(rd x319000 x32) then (if (rd x319000 x32)<(x1.length:Int) then (if x32<(x1.length:Int) then (if 0≤(rd x1 x32) then (if (rd x1 x32)<(x5.length:Int) then (if (rd x1 (rd x319000 x32))=(rd x5 (rd x1 x32)) then (if x32<(x319001.length:Int) then (if 0≤(rd x319001 x32) then (if (rd x319001 x32)<(x1.length:Int) then (if (rd x1 x32)<(x6.length:Int) then (if (rd x1 (rd x319001 x32))=(rd x6 (rd x1 x32)) then (i_IsTurn.l0 k x1 x5 x6 x31 (wrap64 (x32+1)) x319000 x319001) else (some false)) else (none)) else (none)) else (none)) else (none)) else (some false)) else (none)) else (none)) else (none)) else (none)) else (none)) else (none)) else (none)) else (some true)
end
def i_IsTurn.f (k:Nat) (l0_0:List Int) (l0_1:List Int) (l1:List Int):Option (Bool):=(i_SurfaceOk.f k l0_0 l0_1).bind fun t319=>(if t319=true then ((i_PermOk.f l1).bind fun t320=>(if t320=true then (i_IsTurn.j0 k l1 ((l1.length:Int) != (l0_0.length:Int)) l0_0 l0_1) else (i_IsTurn.j0 k l1 true l0_0 l0_1))) else (i_IsTurn.j0 k l1 true l0_0 l0_1))
theorem i_IsTurn.calls (k:Nat) (A0_0:Option Addr) (c0_0:Nat) (l0_0:List Int) (A0_1:Option Addr) (c0_1:Nat) (l0_1:List Int) (A1:Option Addr) (c1:Nat) (l1:List Int) (r:Bool) (w:World) (hr0_0:Kd.C (Kd.int .i64) w A0_0 l0_0.length l0_0) (hc0_0:l0_0.length≤c0_0) (hr0_1:Kd.C (Kd.int .i64) w A0_1 l0_1.length l0_1) (hc0_1:l0_1.length≤c0_1) (hr1:Kd.C (Kd.int .i64) w A1 l1.length l1) (hc1:l1.length≤c1) (h:i_IsTurn.f k l0_0 l0_1 l1=some r) :
  Calls Tryd.prog 13 #[.agg #[.slice A0_0 l0_0.length c0_0,.slice A0_1 l0_1.length c0_1],.slice A1 l1.length c1] w fun e w'=>e = .returned (.bool r)∧Below w.heap.size w w':=by
 have hu25:=Tryd.underlying25
 have HR0_0:=aM hr0_0
 have HC0_0:=aM hc0_0
 clear hr0_0 hc0_0
 have HR0_1:=aM hr0_1
 have HC0_1:=aM hc0_1
 clear hr0_1 hc0_1
 have HR1:=aM hr1
 have HC1:=aM hc1
 clear hr1 hc1
 have HB:=aM (Below.refl w.heap.size w)
 have H:((i_SurfaceOk.f k l0_0 l0_1).bind fun t319=>(if t319=true then ((i_PermOk.f l1).bind fun t320=>(if t320=true then (i_IsTurn.j0 k l1 ((l1.length:Int) != (l0_0.length:Int)) l0_0 l0_1) else (i_IsTurn.j0 k l1 true l0_0 l0_1))) else (i_IsTurn.j0 k l1 true l0_0 l0_1)))=some r:=h
 clear h
 have HC3:=aM H
 clear H
 go_enter Tryd.func13,Tryd.ntmps13
 go_upto_region 1 with (first|((with_reducible refine gate_dst (N:=2) rfl ?_);(try(refine gate_guard (by rfl) ?_;dsimp only));refine bEv (cs:=#[.slice A0_0 l0_0.length c0_0,.slice A0_1 l0_1.length c0_1]) (t:=25) ?_;intro gb318 hg w4 hbox hb;have BK318:=aM (hbox);have GW318:=aM ((szX (below_size (bX HB.out)) hg:w.heap.size≤gb318));have GE318:=GW318;replace HB:=aM (below_step (bX HB.out) hb);clear hb hbox hg))
 repeat(go_quiet (first|((with_reducible refine gate_dst (N:=2) rfl ?_);(try(refine gate_guard (by rfl) ?_;dsimp only));refine bEv (cs:=#[.slice A0_0 l0_0.length c0_0,.slice A0_1 l0_1.length c0_1]) (t:=25) ?_;intro gb318 hg w4 hbox hb;have BK318:=aM (hbox);have GW318:=aM ((szX (below_size (bX HB.out)) hg:w.heap.size≤gb318));have GE318:=GW318;replace HB:=aM (below_step (bX HB.out) hb);clear hb hbox hg));go_upto_region 1 with (first|((with_reducible refine gate_dst (N:=2) rfl ?_);(try(refine gate_guard (by rfl) ?_;dsimp only));refine bEv (cs:=#[.slice A0_0 l0_0.length c0_0,.slice A0_1 l0_1.length c0_1]) (t:=25) ?_;intro gb318 hg w4 hbox hb;have BK318:=aM (hbox);have GW318:=aM ((szX (below_size (bX HB.out)) hg:w.heap.size≤gb318));have GE318:=GW318;replace HB:=aM (below_step (bX HB.out) hb);clear hb hbox hg)))
 (try simp only [Act.put,List.setIfInBounds_toArray,List.set_cons_zero,List.set_cons_succ])
 go_cut [23] (fun v23 wc=>∃ (kq:Nat) (x23_2:Bool),v23 = .bool x23_2∧Aside0 (i_IsTurn.j0 kq l1 x23_2 l0_0 l0_1=some r)∧Aside0 (kq≤k)∧Aside0 (wc.heap[gb318]? = some (.cells #[(.slice A0_0 l0_0.length c0_0),(.slice A0_1 l0_1.length c0_1)] 25 (0,0)))∧Aside0 (Below w.heap.size w wc))
 case first =>
  have H:=HC3.out
  clear HC3
  replace H:=oB H
  obtain ⟨t319,A50,H⟩:=H
  have A5:=aM A50
  clear A50
  by_cases c6:t319=true
  {
  subst c6
  have H1:((i_PermOk.f l1).bind fun t320=>(if t320=true then (i_IsTurn.j0 k l1 ((l1.length:Int) != (l0_0.length:Int)) l0_0 l0_1) else (i_IsTurn.j0 k l1 true l0_0 l0_1)))=some r:=by rw [if_pos rfl] at H;exact H
  clear H
  have H:=H1
  clear H1
  replace H:=oB H
  obtain ⟨t320,A70,H⟩:=H
  have A7:=aM A70
  clear A70
  by_cases c8:t320=true
  {
  subst c8
  have H1:(i_IsTurn.j0 k l1 ((l1.length:Int) != (l0_0.length:Int)) l0_0 l0_1)=some r:=by rw [if_pos rfl] at H;exact H
  clear H
  have H:=H1
  clear H1
  have H':=aM H
  clear H
  obtain ⟨hcz9_0,hcz9_1,hfz9_0,hfz9_1⟩:=f2Z BK318.out
  go_wp2_with (first|(go_at_call 22;(with_reducible refine(i_SurfaceOk.calls k _ _ l0_0 _ _ l0_1 true _ ?side1 ?side2 ?side3 ?side4 A5.out).mono ?_);(case side1=>exact cX (Kd.C_below HR0_0.out HB.out));(case side2=>exact HC0_0.out);(case side3=>exact cX (Kd.C_below HR0_1.out HB.out));(case side4=>exact HC0_1.out);rintro e w10 ⟨rfl,hb⟩;replace BK318:=aM (bbX BK318.out hb);replace HB:=aM (below_step (bX1 HB.out GE318.out) hb);(try clear hb);(try clear hk))|(go_at_call 31;(with_reducible refine(i_PermOk.calls _ _ l1 true _ ?side1 ?side2 A7.out).mono ?_);(case side1=>exact cX (Kd.C_below HR1.out HB.out));(case side2=>exact HC1.out);rintro e w11 ⟨rfl,hb⟩;replace BK318:=aM (bbX BK318.out hb);replace HB:=aM (below_step (bX1 HB.out GE318.out) hb);(try clear hb);(try clear hk);obtain ⟨hcz12_0,hcz12_1,hfz12_0,hfz12_1⟩:=f2Z BK318.out))
  repeat(go_quiet (first|(go_at_call 22;(with_reducible refine(i_SurfaceOk.calls k _ _ l0_0 _ _ l0_1 true _ ?side1 ?side2 ?side3 ?side4 A5.out).mono ?_);(case side1=>exact cX (Kd.C_below HR0_0.out HB.out));(case side2=>exact HC0_0.out);(case side3=>exact cX (Kd.C_below HR0_1.out HB.out));(case side4=>exact HC0_1.out);rintro e w10 ⟨rfl,hb⟩;replace BK318:=aM (bbX BK318.out hb);replace HB:=aM (below_step (bX1 HB.out GE318.out) hb);(try clear hb);(try clear hk))|(go_at_call 31;(with_reducible refine(i_PermOk.calls _ _ l1 true _ ?side1 ?side2 A7.out).mono ?_);(case side1=>exact cX (Kd.C_below HR1.out HB.out));(case side2=>exact HC1.out);rintro e w11 ⟨rfl,hb⟩;replace BK318:=aM (bbX BK318.out hb);replace HB:=aM (below_step (bX1 HB.out GE318.out) hb);(try clear hb);(try clear hk);obtain ⟨hcz12_0,hcz12_1,hfz12_0,hfz12_1⟩:=f2Z BK318.out));try go_wp2_with (first|(go_at_call 22;(with_reducible refine(i_SurfaceOk.calls k _ _ l0_0 _ _ l0_1 true _ ?side1 ?side2 ?side3 ?side4 A5.out).mono ?_);(case side1=>exact cX (Kd.C_below HR0_0.out HB.out));(case side2=>exact HC0_0.out);(case side3=>exact cX (Kd.C_below HR0_1.out HB.out));(case side4=>exact HC0_1.out);rintro e w10 ⟨rfl,hb⟩;replace BK318:=aM (bbX BK318.out hb);replace HB:=aM (below_step (bX1 HB.out GE318.out) hb);(try clear hb);(try clear hk))|(go_at_call 31;(with_reducible refine(i_PermOk.calls _ _ l1 true _ ?side1 ?side2 A7.out).mono ?_);(case side1=>exact cX (Kd.C_below HR1.out HB.out));(case side2=>exact HC1.out);rintro e w11 ⟨rfl,hb⟩;replace BK318:=aM (bbX BK318.out hb);replace HB:=aM (below_step (bX1 HB.out GE318.out) hb);(try clear hb);(try clear hk);obtain ⟨hcz12_0,hcz12_1,hfz12_0,hfz12_1⟩:=f2Z BK318.out)))
  go_meet
  case rel=>exact ⟨_,(((l1.length:Int) != (l0_0.length:Int))),vX,H',⟨by first|omega|exact Nat.le_refl _⟩,⟨kX BK318.out⟩,⟨bX1 HB.out GE318.out⟩⟩
  }
  {
  replace c8:=Bool.eq_false_iff.mpr c8
  subst c8
  have H1:(i_IsTurn.j0 k l1 true l0_0 l0_1)=some r:=by rw [if_neg (show ¬ (false=true) by decide)] at H;exact H
  clear H
  have H:=H1
  clear H1
  have H':=aM H
  clear H
  obtain ⟨hcz13_0,hcz13_1,hfz13_0,hfz13_1⟩:=f2Z BK318.out
  go_wp2_with (first|(go_at_call 22;(with_reducible refine(i_SurfaceOk.calls k _ _ l0_0 _ _ l0_1 true _ ?side1 ?side2 ?side3 ?side4 A5.out).mono ?_);(case side1=>exact cX (Kd.C_below HR0_0.out HB.out));(case side2=>exact HC0_0.out);(case side3=>exact cX (Kd.C_below HR0_1.out HB.out));(case side4=>exact HC0_1.out);rintro e w14 ⟨rfl,hb⟩;replace BK318:=aM (bbX BK318.out hb);replace HB:=aM (below_step (bX1 HB.out GE318.out) hb);(try clear hb);(try clear hk))|(go_at_call 31;(with_reducible refine(i_PermOk.calls _ _ l1 false _ ?side1 ?side2 A7.out).mono ?_);(case side1=>exact cX (Kd.C_below HR1.out HB.out));(case side2=>exact HC1.out);rintro e w15 ⟨rfl,hb⟩;replace BK318:=aM (bbX BK318.out hb);replace HB:=aM (below_step (bX1 HB.out GE318.out) hb);(try clear hb);(try clear hk)))
  repeat(go_quiet (first|(go_at_call 22;(with_reducible refine(i_SurfaceOk.calls k _ _ l0_0 _ _ l0_1 true _ ?side1 ?side2 ?side3 ?side4 A5.out).mono ?_);(case side1=>exact cX (Kd.C_below HR0_0.out HB.out));(case side2=>exact HC0_0.out);(case side3=>exact cX (Kd.C_below HR0_1.out HB.out));(case side4=>exact HC0_1.out);rintro e w14 ⟨rfl,hb⟩;replace BK318:=aM (bbX BK318.out hb);replace HB:=aM (below_step (bX1 HB.out GE318.out) hb);(try clear hb);(try clear hk))|(go_at_call 31;(with_reducible refine(i_PermOk.calls _ _ l1 false _ ?side1 ?side2 A7.out).mono ?_);(case side1=>exact cX (Kd.C_below HR1.out HB.out));(case side2=>exact HC1.out);rintro e w15 ⟨rfl,hb⟩;replace BK318:=aM (bbX BK318.out hb);replace HB:=aM (below_step (bX1 HB.out GE318.out) hb);(try clear hb);(try clear hk)));try go_wp2_with (first|(go_at_call 22;(with_reducible refine(i_SurfaceOk.calls k _ _ l0_0 _ _ l0_1 true _ ?side1 ?side2 ?side3 ?side4 A5.out).mono ?_);(case side1=>exact cX (Kd.C_below HR0_0.out HB.out));(case side2=>exact HC0_0.out);(case side3=>exact cX (Kd.C_below HR0_1.out HB.out));(case side4=>exact HC0_1.out);rintro e w14 ⟨rfl,hb⟩;replace BK318:=aM (bbX BK318.out hb);replace HB:=aM (below_step (bX1 HB.out GE318.out) hb);(try clear hb);(try clear hk))|(go_at_call 31;(with_reducible refine(i_PermOk.calls _ _ l1 false _ ?side1 ?side2 A7.out).mono ?_);(case side1=>exact cX (Kd.C_below HR1.out HB.out));(case side2=>exact HC1.out);rintro e w15 ⟨rfl,hb⟩;replace BK318:=aM (bbX BK318.out hb);replace HB:=aM (below_step (bX1 HB.out GE318.out) hb);(try clear hb);(try clear hk))))
  go_meet
  case rel=>exact ⟨_,(true),vX,H',⟨by first|omega|exact Nat.le_refl _⟩,⟨kX BK318.out⟩,⟨bX1 HB.out GE318.out⟩⟩
  }
  }
  {
  replace c6:=Bool.eq_false_iff.mpr c6
  subst c6
  have H1:(i_IsTurn.j0 k l1 true l0_0 l0_1)=some r:=by rw [if_neg (show ¬ (false=true) by decide)] at H;exact H
  clear H
  have H:=H1
  clear H1
  have H':=aM H
  clear H
  obtain ⟨hcz16_0,hcz16_1,hfz16_0,hfz16_1⟩:=f2Z BK318.out
  go_wp2_with (first|(go_at_call 22;(with_reducible refine(i_SurfaceOk.calls k _ _ l0_0 _ _ l0_1 false _ ?side1 ?side2 ?side3 ?side4 A5.out).mono ?_);(case side1=>exact cX (Kd.C_below HR0_0.out HB.out));(case side2=>exact HC0_0.out);(case side3=>exact cX (Kd.C_below HR0_1.out HB.out));(case side4=>exact HC0_1.out);rintro e w17 ⟨rfl,hb⟩;replace BK318:=aM (bbX BK318.out hb);replace HB:=aM (below_step (bX1 HB.out GE318.out) hb);(try clear hb);(try clear hk)))
  repeat(go_quiet (first|(go_at_call 22;(with_reducible refine(i_SurfaceOk.calls k _ _ l0_0 _ _ l0_1 false _ ?side1 ?side2 ?side3 ?side4 A5.out).mono ?_);(case side1=>exact cX (Kd.C_below HR0_0.out HB.out));(case side2=>exact HC0_0.out);(case side3=>exact cX (Kd.C_below HR0_1.out HB.out));(case side4=>exact HC0_1.out);rintro e w17 ⟨rfl,hb⟩;replace BK318:=aM (bbX BK318.out hb);replace HB:=aM (below_step (bX1 HB.out GE318.out) hb);(try clear hb);(try clear hk)));try go_wp2_with (first|(go_at_call 22;(with_reducible refine(i_SurfaceOk.calls k _ _ l0_0 _ _ l0_1 false _ ?side1 ?side2 ?side3 ?side4 A5.out).mono ?_);(case side1=>exact cX (Kd.C_below HR0_0.out HB.out));(case side2=>exact HC0_0.out);(case side3=>exact cX (Kd.C_below HR0_1.out HB.out));(case side4=>exact HC0_1.out);rintro e w17 ⟨rfl,hb⟩;replace BK318:=aM (bbX BK318.out hb);replace HB:=aM (below_step (bX1 HB.out GE318.out) hb);(try clear hb);(try clear hk))))
  go_meet
  case rel=>exact ⟨_,(true),vX,H',⟨by first|omega|exact Nat.le_refl _⟩,⟨kX BK318.out⟩,⟨bX1 HB.out GE318.out⟩⟩
  }
 case rest =>
 clear HC3
 try clear c1
 try clear c6
 try clear c8
 try clear hcz12_0
 try clear hcz12_1
 try clear hcz13_0
 try clear hcz13_1
 try clear hcz16_0
 try clear hcz16_1
 try clear hcz9_0
 try clear hcz9_1
 try clear hfz12_0
 try clear hfz12_1
 try clear hfz13_0
 try clear hfz13_1
 try clear hfz16_0
 try clear hfz16_1
 try clear hfz9_0
 try clear hfz9_1
 obtain ⟨kq,x23_2,rfl,HA,HJ2,BK318,HB⟩:=hcut
 cases kq with
 | zero=>exact absurd HA.out (by simp [i_IsTurn.j0])
 | succ kj2 =>
 have H:=HA.out
 clear HA
 simp only [i_IsTurn.j0] at H
 by_cases c18:x23_2=true
 {
 subst c18
 have H1:(some false)=some r:=by rw [if_pos rfl] at H;exact H
 clear H
 have H:=H1
 clear H1
 obtain rfl:=Option.some.inj H
 go_wp2
 repeat(go_quiet (fail);try go_wp2)
 go_ret
 exact ⟨eX,bX1 HB.out GE318.out⟩
 }
 {
 replace c18:=Bool.eq_false_iff.mpr c18
 subst c18
 have H1:((i_InversePerm.f kj2 l0_0).bind fun t321=>((i_InversePerm.f kj2 l0_1).bind fun t324=>(i_IsTurn.l0 kj2 l1 t321 t324 (l1.length:Int) 0 l0_0 l0_1)))=some r:=by rw [if_neg (show ¬ (false=true) by decide)] at H;exact H
 clear H
 have H:=H1
 clear H1
 replace H:=oB H
 obtain ⟨t321,A190,H⟩:=H
 have A19:=aM A190
 clear A190
 replace H:=oB H
 obtain ⟨t324,A200,H⟩:=H
 have A20:=aM A200
 clear A200
 have H':=aM H
 clear H
 obtain ⟨hcz21_0,hcz21_1,hfz21_0,hfz21_1⟩:=f2Z BK318.out
 go_wp2_with (first|(go_at_call 30;(with_reducible refine(i_InversePerm.calls kj2 _ _ l0_0 t321 _ ?side1 ?side2 A19.out).mono ?_);(case side1=>exact cX (Kd.C_below HR0_0.out HB.out));(case side2=>exact HC0_0.out);rintro e w22 ⟨v322,rfl,ho0,hb⟩;have HO323:=aM (Kd.R_lower ho0 (below_size (bX1 HB.out GE318.out)));replace BK318:=aM (bbX BK318.out hb);replace HB:=aM (below_step (bX1 HB.out GE318.out) hb);(try clear hb);(try clear hk);(try clear ho0);obtain ⟨hcz23_0,hcz23_1,hfz23_0,hfz23_1⟩:=f2Z BK318.out)|(go_at_call 30;(with_reducible refine(i_InversePerm.calls kj2 _ _ l0_1 t324 _ ?side1 ?side2 A20.out).mono ?_);(case side1=>exact cX (Kd.C_below HR0_1.out HB.out));(case side2=>exact HC0_1.out);rintro e w24 ⟨v325,rfl,ho0,hb⟩;have HO326:=aM (Kd.R_lower (Kd.R_new' ho0 (Kd.R_lt (rX HO323.out))) (below_size (bX1 HB.out GE318.out)));replace HO323:=aM (Kd.R_elder' (rX HO323.out) (Kd.R_base ho0) hb);replace BK318:=aM (bbX BK318.out hb);replace HB:=aM (below_step (bX1 HB.out GE318.out) hb);(try clear hb);(try clear hk);(try clear ho0)))
 repeat(go_quiet (first|(go_at_call 30;(with_reducible refine(i_InversePerm.calls kj2 _ _ l0_0 t321 _ ?side1 ?side2 A19.out).mono ?_);(case side1=>exact cX (Kd.C_below HR0_0.out HB.out));(case side2=>exact HC0_0.out);rintro e w22 ⟨v322,rfl,ho0,hb⟩;have HO323:=aM (Kd.R_lower ho0 (below_size (bX1 HB.out GE318.out)));replace BK318:=aM (bbX BK318.out hb);replace HB:=aM (below_step (bX1 HB.out GE318.out) hb);(try clear hb);(try clear hk);(try clear ho0);obtain ⟨hcz23_0,hcz23_1,hfz23_0,hfz23_1⟩:=f2Z BK318.out)|(go_at_call 30;(with_reducible refine(i_InversePerm.calls kj2 _ _ l0_1 t324 _ ?side1 ?side2 A20.out).mono ?_);(case side1=>exact cX (Kd.C_below HR0_1.out HB.out));(case side2=>exact HC0_1.out);rintro e w24 ⟨v325,rfl,ho0,hb⟩;have HO326:=aM (Kd.R_lower (Kd.R_new' ho0 (Kd.R_lt (rX HO323.out))) (below_size (bX1 HB.out GE318.out)));replace HO323:=aM (Kd.R_elder' (rX HO323.out) (Kd.R_base ho0) hb);replace BK318:=aM (bbX BK318.out hb);replace HB:=aM (below_step (bX1 HB.out GE318.out) hb);(try clear hb);(try clear hk);(try clear ho0)));try go_wp2_with (first|(go_at_call 30;(with_reducible refine(i_InversePerm.calls kj2 _ _ l0_0 t321 _ ?side1 ?side2 A19.out).mono ?_);(case side1=>exact cX (Kd.C_below HR0_0.out HB.out));(case side2=>exact HC0_0.out);rintro e w22 ⟨v322,rfl,ho0,hb⟩;have HO323:=aM (Kd.R_lower ho0 (below_size (bX1 HB.out GE318.out)));replace BK318:=aM (bbX BK318.out hb);replace HB:=aM (below_step (bX1 HB.out GE318.out) hb);(try clear hb);(try clear hk);(try clear ho0);obtain ⟨hcz23_0,hcz23_1,hfz23_0,hfz23_1⟩:=f2Z BK318.out)|(go_at_call 30;(with_reducible refine(i_InversePerm.calls kj2 _ _ l0_1 t324 _ ?side1 ?side2 A20.out).mono ?_);(case side1=>exact cX (Kd.C_below HR0_1.out HB.out));(case side2=>exact HC0_1.out);rintro e w24 ⟨v325,rfl,ho0,hb⟩;have HO326:=aM (Kd.R_lower (Kd.R_new' ho0 (Kd.R_lt (rX HO323.out))) (below_size (bX1 HB.out GE318.out)));replace HO323:=aM (Kd.R_elder' (rX HO323.out) (Kd.R_base ho0) hb);replace BK318:=aM (bbX BK318.out hb);replace HB:=aM (below_step (bX1 HB.out GE318.out) hb);(try clear hb);(try clear hk);(try clear ho0))))
 go_loopg [32] kj2 (fun kq v32 w'=>∃ (x32_2:Int),v32 = .int .i64 x32_2∧Aside0 (i_IsTurn.l0 kq l1 t321 t324 (l1.length:Int) x32_2 l0_0 l0_1=some r)∧Aside0 (kq≤kj2)∧Aside0 (Kd.R (Kd.int .i64) 3 w' w.heap.size (fun k_=>some k_≠(v325:Value).ownBlock) v322 t321)∧Aside0 (Kd.R (Kd.int .i64) 3 w' w.heap.size (fun k_=>some k_≠(v322:Value).ownBlock) v325 t324)∧Aside0 (w'.heap[gb318]? = some (.cells #[(.slice A0_0 l0_0.length c0_0),(.slice A0_1 l0_1.length c0_1)] 25 (0,0)))∧Aside0 (Below w.heap.size w w'))
 case atStart=>exact ⟨(0),vX,H',⟨Nat.le_refl _⟩,⟨rM HO323.out (fun _ hk=>hk.2)⟩,⟨rM HO326.out (fun _ hk=>hk.2)⟩,⟨kX BK318.out⟩,⟨bX1 HB.out GE318.out⟩⟩
 case round =>
 clear H'
 try clear c1
 try clear c6
 try clear c8
 try clear c18
 try clear hcz12_0
 try clear hcz12_1
 try clear hcz13_0
 try clear hcz13_1
 try clear hcz16_0
 try clear hcz16_1
 try clear hcz21_0
 try clear hcz21_1
 try clear hcz23_0
 try clear hcz23_1
 try clear hcz9_0
 try clear hcz9_1
 try clear hfz12_0
 try clear hfz12_1
 try clear hfz13_0
 try clear hfz13_1
 try clear hfz16_0
 try clear hfz16_1
 try clear hfz21_0
 try clear hfz21_1
 try clear hfz23_0
 try clear hfz23_1
 try clear hfz9_0
 try clear hfz9_1
 obtain ⟨x32_2,rfl,HA,HK2,HO_5,HO_6,BK318,HB⟩:=hrel
 cases gk with
 | zero=>exact absurd HA.out (by simp [i_IsTurn.l0])
 | succ k2 =>
 have H:=HA.out
 clear HA
 simp only [i_IsTurn.l0] at H
 by_cases c25:x32_2<(l1.length:Int)
 {
 rw [if_pos c25] at H
 have c25b0:=decide_eq_true c25
 clear c25
 by_cases c26:0≤x32_2
 {
 rw [if_pos c26] at H
 have c26b0:=decide_eq_true c26
 clear c26
 by_cases c27:x32_2<(l0_0.length:Int)
 {
 rw [if_pos c27] at H
 have c27b0:=decide_eq_true c27
 clear c27
 by_cases c28:0≤(rd l0_0 x32_2)
 {
 rw [if_pos c28] at H
 have c28b0:=decide_eq_true c28
 clear c28
 by_cases c29:(rd l0_0 x32_2)<(l1.length:Int)
 {
 rw [if_pos c29] at H
 have c29b0:=decide_eq_true c29
 clear c29
 by_cases c30:x32_2<(l1.length:Int)
 {
 rw [if_pos c30] at H
 have c30b0:=decide_eq_true c30
 clear c30
 by_cases c31:0≤(rd l1 x32_2)
 {
 rw [if_pos c31] at H
 have c31b0:=decide_eq_true c31
 clear c31
 by_cases c32:(rd l1 x32_2)<(t321.length:Int)
 {
 rw [if_pos c32] at H
 have c32b0:=decide_eq_true c32
 clear c32
 by_cases c33:(rd l1 (rd l0_0 x32_2))=(rd t321 (rd l1 x32_2))
 {
 rw [if_pos c33] at H
 have c33b0:((rd l1 (rd l0_0 x32_2)) == (rd t321 (rd l1 x32_2)))=true:=beq_iff_eq.mpr c33
 have c33b1:((rd l1 (rd l0_0 x32_2)) != (rd t321 (rd l1 x32_2)))=false:=bne_eq_false_iff_eq.mpr c33
 clear c33
 by_cases c34:x32_2<(l0_1.length:Int)
 {
 rw [if_pos c34] at H
 have c34b0:=decide_eq_true c34
 clear c34
 by_cases c35:0≤(rd l0_1 x32_2)
 {
 rw [if_pos c35] at H
 have c35b0:=decide_eq_true c35
 clear c35
 by_cases c36:(rd l0_1 x32_2)<(l1.length:Int)
 {
 rw [if_pos c36] at H
 have c36b0:=decide_eq_true c36
 clear c36
 by_cases c37:(rd l1 x32_2)<(t324.length:Int)
 {
 rw [if_pos c37] at H
 have c37b0:=decide_eq_true c37
 clear c37
 by_cases c38:(rd l1 (rd l0_1 x32_2))=(rd t324 (rd l1 x32_2))
 {
 rw [if_pos c38] at H
 have c38b0:((rd l1 (rd l0_1 x32_2)) == (rd t324 (rd l1 x32_2)))=true:=beq_iff_eq.mpr c38
 have c38b1:((rd l1 (rd l0_1 x32_2)) != (rd t324 (rd l1 x32_2)))=false:=bne_eq_false_iff_eq.mpr c38
 clear c38
 have H':=aM H
 clear H
 obtain ⟨hcz39_0,hcz39_1,hfz39_0,hfz39_1⟩:=f2Z BK318.out
 have p327:0≤(x32_2:Int):=dX
 have q327:x32_2<(l0_0.length:Int):=dX
 obtain ⟨ad327,e327,hx327_0⟩:=Kd.at_int HR0_0.out x32_2 p327 q327
 cases e327
 replace hx327_0:=(HB.out.cell (World.block_lt_of_cell? w _ hx327_0)).trans hx327_0
 replace p327:=eq_true p327
 replace q327:=eq_true q327
 have p328:0≤((rd l0_0 x32_2):Int):=dX
 have q328:(rd l0_0 x32_2)<(l1.length:Int):=dX
 obtain ⟨ad328,e328,hx328_0⟩:=Kd.at_int HR1.out (rd l0_0 x32_2) p328 q328
 cases e328
 replace hx328_0:=(HB.out.cell (World.block_lt_of_cell? w _ hx328_0)).trans hx328_0
 replace p328:=eq_true p328
 replace q328:=eq_true q328
 have p329:0≤(x32_2:Int):=dX
 have q329:x32_2<(l1.length:Int):=dX
 obtain ⟨ad329,e329,hx329_0⟩:=Kd.at_int HR1.out x32_2 p329 q329
 obtain rfl:ad328=ad329:=(by injection e329)
 replace hx329_0:=(HB.out.cell (World.block_lt_of_cell? w _ hx329_0)).trans hx329_0
 replace p329:=eq_true p329
 replace q329:=eq_true q329
 obtain ⟨Ao40,co40,eo40⟩:=Kd.R_slice HO_5.out
 subst eo40
 have p330:0≤((rd l1 x32_2):Int):=dX
 have q330:(rd l1 x32_2)<(t321.length:Int):=dX
 obtain ⟨ad330,e330,hx330_0⟩:=Kd.at_int (Kd.R_reads' HO_5.out).2.2 (rd l1 x32_2) p330 q330
 cases e330
 replace p330:=eq_true p330
 replace q330:=eq_true q330
 have p331:0≤(x32_2:Int):=dX
 have q331:x32_2<(l0_1.length:Int):=dX
 obtain ⟨ad331,e331,hx331_0⟩:=Kd.at_int HR0_1.out x32_2 p331 q331
 cases e331
 replace hx331_0:=(HB.out.cell (World.block_lt_of_cell? w _ hx331_0)).trans hx331_0
 replace p331:=eq_true p331
 replace q331:=eq_true q331
 have p332:0≤((rd l0_1 x32_2):Int):=dX
 have q332:(rd l0_1 x32_2)<(l1.length:Int):=dX
 obtain ⟨ad332,e332,hx332_0⟩:=Kd.at_int HR1.out (rd l0_1 x32_2) p332 q332
 obtain rfl:ad328=ad332:=(by injection e332)
 replace hx332_0:=(HB.out.cell (World.block_lt_of_cell? w _ hx332_0)).trans hx332_0
 replace p332:=eq_true p332
 replace q332:=eq_true q332
 have p333:0≤(x32_2:Int):=dX
 have q333:x32_2<(l1.length:Int):=dX
 obtain ⟨ad333,e333,hx333_0⟩:=Kd.at_int HR1.out x32_2 p333 q333
 obtain rfl:ad328=ad333:=(by injection e333)
 replace hx333_0:=(HB.out.cell (World.block_lt_of_cell? w _ hx333_0)).trans hx333_0
 replace p333:=eq_true p333
 replace q333:=eq_true q333
 obtain ⟨Ao41,co41,eo41⟩:=Kd.R_slice HO_6.out
 subst eo41
 have p334:0≤((rd l1 x32_2):Int):=dX
 have q334:(rd l1 x32_2)<(t324.length:Int):=dX
 obtain ⟨ad334,e334,hx334_0⟩:=Kd.at_int (Kd.R_reads' HO_6.out).2.2 (rd l1 x32_2) p334 q334
 cases e334
 replace p334:=eq_true p334
 replace q334:=eq_true q334
 go_wp2
 repeat(go_quiet (fail);try go_wp2)
 go_roundg k2
 case measure=>have:=HJ2.out;have:=HK2.out;omega
 case rel=>exact ⟨(wrap64 (x32_2+1)),vX,H',⟨by have:=HJ2.out;have:=HK2.out;omega⟩,⟨rX HO_5.out⟩,⟨rX HO_6.out⟩,⟨kX BK318.out⟩,⟨bX1 HB.out GE318.out⟩⟩
 }
 {
 rw [if_neg c38] at H
 have c38b0:((rd l1 (rd l0_1 x32_2)) == (rd t324 (rd l1 x32_2)))=false:=beq_eq_false_iff_ne.mpr c38
 have c38b1:((rd l1 (rd l0_1 x32_2)) != (rd t324 (rd l1 x32_2)))=true:=bne_iff_ne.mpr c38
 obtain rfl:=Option.some.inj H
 obtain ⟨hcz42_0,hcz42_1,hfz42_0,hfz42_1⟩:=f2Z BK318.out
 have p327:0≤(x32_2:Int):=dX
 have q327:x32_2<(l0_0.length:Int):=dX
 obtain ⟨ad327,e327,hx327_0⟩:=Kd.at_int HR0_0.out x32_2 p327 q327
 cases e327
 replace hx327_0:=(HB.out.cell (World.block_lt_of_cell? w _ hx327_0)).trans hx327_0
 replace p327:=eq_true p327
 replace q327:=eq_true q327
 have p328:0≤((rd l0_0 x32_2):Int):=dX
 have q328:(rd l0_0 x32_2)<(l1.length:Int):=dX
 obtain ⟨ad328,e328,hx328_0⟩:=Kd.at_int HR1.out (rd l0_0 x32_2) p328 q328
 cases e328
 replace hx328_0:=(HB.out.cell (World.block_lt_of_cell? w _ hx328_0)).trans hx328_0
 replace p328:=eq_true p328
 replace q328:=eq_true q328
 have p329:0≤(x32_2:Int):=dX
 have q329:x32_2<(l1.length:Int):=dX
 obtain ⟨ad329,e329,hx329_0⟩:=Kd.at_int HR1.out x32_2 p329 q329
 obtain rfl:ad328=ad329:=(by injection e329)
 replace hx329_0:=(HB.out.cell (World.block_lt_of_cell? w _ hx329_0)).trans hx329_0
 replace p329:=eq_true p329
 replace q329:=eq_true q329
 obtain ⟨Ao43,co43,eo43⟩:=Kd.R_slice HO_5.out
 subst eo43
 have p330:0≤((rd l1 x32_2):Int):=dX
 have q330:(rd l1 x32_2)<(t321.length:Int):=dX
 obtain ⟨ad330,e330,hx330_0⟩:=Kd.at_int (Kd.R_reads' HO_5.out).2.2 (rd l1 x32_2) p330 q330
 cases e330
 replace p330:=eq_true p330
 replace q330:=eq_true q330
 have p331:0≤(x32_2:Int):=dX
 have q331:x32_2<(l0_1.length:Int):=dX
 obtain ⟨ad331,e331,hx331_0⟩:=Kd.at_int HR0_1.out x32_2 p331 q331
 cases e331
 replace hx331_0:=(HB.out.cell (World.block_lt_of_cell? w _ hx331_0)).trans hx331_0
 replace p331:=eq_true p331
 replace q331:=eq_true q331
 have p332:0≤((rd l0_1 x32_2):Int):=dX
 have q332:(rd l0_1 x32_2)<(l1.length:Int):=dX
 obtain ⟨ad332,e332,hx332_0⟩:=Kd.at_int HR1.out (rd l0_1 x32_2) p332 q332
 obtain rfl:ad328=ad332:=(by injection e332)
 replace hx332_0:=(HB.out.cell (World.block_lt_of_cell? w _ hx332_0)).trans hx332_0
 replace p332:=eq_true p332
 replace q332:=eq_true q332
 have p333:0≤(x32_2:Int):=dX
 have q333:x32_2<(l1.length:Int):=dX
 obtain ⟨ad333,e333,hx333_0⟩:=Kd.at_int HR1.out x32_2 p333 q333
 obtain rfl:ad328=ad333:=(by injection e333)
 replace hx333_0:=(HB.out.cell (World.block_lt_of_cell? w _ hx333_0)).trans hx333_0
 replace p333:=eq_true p333
 replace q333:=eq_true q333
 obtain ⟨Ao44,co44,eo44⟩:=Kd.R_slice HO_6.out
 subst eo44
 have p334:0≤((rd l1 x32_2):Int):=dX
 have q334:(rd l1 x32_2)<(t324.length:Int):=dX
 obtain ⟨ad334,e334,hx334_0⟩:=Kd.at_int (Kd.R_reads' HO_6.out).2.2 (rd l1 x32_2) p334 q334
 cases e334
 replace p334:=eq_true p334
 replace q334:=eq_true q334
 go_wp2
 repeat(go_quiet (fail);try go_wp2)
 go_ret
 exact ⟨eX,bX1 HB.out GE318.out⟩
 }
 }
 {
 rw [if_neg c37] at H
 exact absurd H (by simp)
 }
 }
 {
 rw [if_neg c36] at H
 exact absurd H (by simp)
 }
 }
 {
 rw [if_neg c35] at H
 exact absurd H (by simp)
 }
 }
 {
 rw [if_neg c34] at H
 exact absurd H (by simp)
 }
 }
 {
 rw [if_neg c33] at H
 have c33b0:((rd l1 (rd l0_0 x32_2)) == (rd t321 (rd l1 x32_2)))=false:=beq_eq_false_iff_ne.mpr c33
 have c33b1:((rd l1 (rd l0_0 x32_2)) != (rd t321 (rd l1 x32_2)))=true:=bne_iff_ne.mpr c33
 obtain rfl:=Option.some.inj H
 obtain ⟨hcz45_0,hcz45_1,hfz45_0,hfz45_1⟩:=f2Z BK318.out
 have p327:0≤(x32_2:Int):=dX
 have q327:x32_2<(l0_0.length:Int):=dX
 obtain ⟨ad327,e327,hx327_0⟩:=Kd.at_int HR0_0.out x32_2 p327 q327
 cases e327
 replace hx327_0:=(HB.out.cell (World.block_lt_of_cell? w _ hx327_0)).trans hx327_0
 replace p327:=eq_true p327
 replace q327:=eq_true q327
 have p328:0≤((rd l0_0 x32_2):Int):=dX
 have q328:(rd l0_0 x32_2)<(l1.length:Int):=dX
 obtain ⟨ad328,e328,hx328_0⟩:=Kd.at_int HR1.out (rd l0_0 x32_2) p328 q328
 cases e328
 replace hx328_0:=(HB.out.cell (World.block_lt_of_cell? w _ hx328_0)).trans hx328_0
 replace p328:=eq_true p328
 replace q328:=eq_true q328
 have p329:0≤(x32_2:Int):=dX
 have q329:x32_2<(l1.length:Int):=dX
 obtain ⟨ad329,e329,hx329_0⟩:=Kd.at_int HR1.out x32_2 p329 q329
 obtain rfl:ad328=ad329:=(by injection e329)
 replace hx329_0:=(HB.out.cell (World.block_lt_of_cell? w _ hx329_0)).trans hx329_0
 replace p329:=eq_true p329
 replace q329:=eq_true q329
 obtain ⟨Ao46,co46,eo46⟩:=Kd.R_slice HO_5.out
 subst eo46
 have p330:0≤((rd l1 x32_2):Int):=dX
 have q330:(rd l1 x32_2)<(t321.length:Int):=dX
 obtain ⟨ad330,e330,hx330_0⟩:=Kd.at_int (Kd.R_reads' HO_5.out).2.2 (rd l1 x32_2) p330 q330
 cases e330
 replace p330:=eq_true p330
 replace q330:=eq_true q330
 go_wp2
 repeat(go_quiet (fail);try go_wp2)
 go_ret
 exact ⟨eX,bX1 HB.out GE318.out⟩
 }
 }
 {
 rw [if_neg c32] at H
 exact absurd H (by simp)
 }
 }
 {
 rw [if_neg c31] at H
 exact absurd H (by simp)
 }
 }
 {
 rw [if_neg c30] at H
 exact absurd H (by simp)
 }
 }
 {
 rw [if_neg c29] at H
 exact absurd H (by simp)
 }
 }
 {
 rw [if_neg c28] at H
 exact absurd H (by simp)
 }
 }
 {
 rw [if_neg c27] at H
 exact absurd H (by simp)
 }
 }
 {
 rw [if_neg c26] at H
 exact absurd H (by simp)
 }
 }
 {
 rw [if_neg c25] at H
 have c25b0:=decide_eq_false c25
 clear c25
 obtain rfl:=Option.some.inj H
 go_wp2
 repeat(go_quiet (fail);try go_wp2)
 go_ret
 exact ⟨eX,bX1 HB.out GE318.out⟩
 }
 }

end Go.Proofs.YthhdgeafdnikcaaDoor.S
