-- PRINTED by print.py (a twelfth state) out of the translation. Not trusted: Lean checks it.
import Derived.Test.YthhdgeafdnikcaaDoorS0
import Derived.Test.YthhdgeafdnikcaaDoorS1
namespace Go.Proofs.YthhdgeafdnikcaaDoor.S
set_option maxHeartbeats 8000000
set_option maxRecDepth 100000
open Go.RowKit Go.Proofs.YthhdgeafdnikcaaDoorW.PrintWords Go.Proofs.YthhdgeafdnikcaaDoorW.PrintLast Go.Proofs.YthhdgeafdnikcaaDoorW.PrintMore
attribute [local go_sem] max2_int min2_int max_two min_two max_three min_three max_four min_four   -- for this text's walks alone
set_option linter.unusedVariables false
set_option linter.unusedSimpArgs false

/-! ### s_l02Draw: function 39 -/
def s_l02Draw.l0 : Nat→Int→List Int→Int→List Int→Int→Int→Option (List Int × Int × Int)
 | 0,_,_,_,_,_,_=>none
 | k+1,x1,x5,x6,x1000,x1001,x1002=>if x6<x1 then ((s_l01Below.f x1000 x1001 x1002 (wrap64 (x6+1))).bind fun bt179=>(if x5.length<17592186044416 then ((some (x5 ++ [x6]:List Int)).bind fun y182=>(if 0≤bt179.1 then (if bt179.1<(y182.length:Int) then (if 0≤x6 then (if x6<(y182.length:Int) then (s_l02Draw.l0 k x1 ((y182.set (x6:Int).toNat (rd y182 bt179.1)).set (bt179.1:Int).toNat x6) (wrap64 (x6+1)) x1000 bt179.2.1 bt179.2.2) else (none)) else (none)) else (none)) else (none))) else (none))) else (some (x5,x1001,x1002))
def s_l02Draw.f (k:Nat) (s0_0:List Int) (s0_1:Int) (s0_2:Int) (a1:Int):Option (List Int × Int × Int):=s_l02Draw.l0 k a1 (([]:List Int)) 0 s0_0 s0_1 s0_2
theorem s_l02Draw.calls (k:Nat) (g:Nat) (s0_0:List Int) (s0_1:Int) (s0_2:Int) (a1:Int) (r1:List Int) (r2:Int) (r3:Int) (w0 w:World) (hI:IsS56 w0 w g s0_0 s0_1 s0_2) (hB:Below w0.heap.size w0 w) (h:s_l02Draw.f k s0_0 s0_1 s0_2 a1=some (r1,r2,r3)) :
  Calls Tryd.prog 39 #[.pointer (some ⟨g,0,none⟩),.int .i64 a1] w fun e w'=>∃ v0_:Value,e = .returned (v0_)∧Kd.R (Kd.int .i64) 3 w' w.heap.size (fun _=>True) v0_ r1∧IsS56 w0 w' g s0_0 r2 r3∧Below w0.heap.size w0 w'∧KeepBut w w' g none:=by
 have HI0:=aM hI
 have HK:=aM (KeepBut.refl w g none)
 have HL:=aM hB.size
 clear hI
 have HW0:=aM hB.size
 have HB:=aM hB
 clear hB
 have H:(s_l02Draw.l0 k a1 (([]:List Int)) 0 s0_0 s0_1 s0_2)=some (r1,r2,r3):=h
 clear h
 obtain ⟨y176,hy176⟩:∃ y_:List Int,y_=(([]:List Int)):=⟨_,rfl⟩
 replace H:(s_l02Draw.l0 k a1 y176 0 s0_0 s0_1 s0_2)=some (r1,r2,r3):=by first|(rw [hy176];with_reducible exact H)|(have H2_:=(Option.bind_some _ _).symm.trans H;rw [hy176];with_reducible exact H2_)|(have H2_:=(Option.bind_some _ _).symm.trans H;with_reducible exact H2_)|with_reducible exact H|(rw [hy176];exact H)|exact H
 have Ny176:=aM hy176
 clear hy176
 have H':=aM H
 clear H
 go_enter Tryd.func39,Tryd.ntmps39
 go_wp2_with (first|((with_reducible refine gate_dst (N:=8) rfl ?_);refine Kd.R_lit (Kd.int .i64) _ 3 ?hg (N:=8) ?hd (xs:=([]:List Int)) (inner:=[]) (ok:=fun _=>True) (okp:=fun _=>True) ?hr ?hp (fun _ hk=>hk) trivial (Below.refl _ _) (Nat.le_refl _) (by simp) ?_;(case hd=>rfl);(case hg=>rfl);(case hr=>first|(go_simp;done)|(go_simp;rfl));(case hp=>exact(Reps.none _ _));intro v177 w3 ho4 hb hg_ hnew_;clear hg_ hnew_;(first|rw [← Ny176.out] at ho4|(simp only [Int.reduceToNat] at ho4;rw [← Ny176.out] at ho4));have HO178:=aM (Kd.R_lower ho4 (keep_size (w:=w) (g:=g) (row:=none) (by repeat(first|(with_reducible first|exact HK.out|apply KeepBut.set_|apply keep_drewN|apply keep_drew|apply keep_alloc)|exact HK.out))));replace HK:=aM (KeepBut.trans (by repeat(first|(with_reducible first|exact HK.out|apply KeepBut.set_|apply keep_drewN|apply keep_drew|apply keep_alloc)|exact HK.out)) (KeepBut.of_below hb g none) (.inl rfl));replace HB:=aM (below_step (bX1 HB.out (IsS56.ge HI0.out)) hb);replace HI0:=aM (IsS56.below (by repeat(first|(with_reducible first|exact HI0.out|apply IsS56.alloc|apply IsS56.drewN|apply IsS56.drew|apply IsS56.set_1|apply IsS56.set_2)|exact HI0.out)) hb);clear hb ho4))
 go_loopg [5,6] k (fun kq v5 v6 w'=>∃ (x5_1:List Int) (x6_1:Int) (x1001_1:Int) (x1002_1:Int),v6 = .int .i64 x6_1∧Aside0 (s_l02Draw.l0 kq a1 x5_1 x6_1 s0_0 x1001_1 x1002_1=some (r1,r2,r3))∧Aside0 (kq≤k)∧Aside0 (Kd.R (Kd.int .i64) 3 w' w.heap.size (fun _=>True) v5 x5_1)∧Aside0 (IsS56 w0 w' g s0_0 x1001_1 x1002_1)∧Aside0 (KeepBut w w' g none)∧Aside0 (Below w0.heap.size w0 w'))
 case atStart=>exact ⟨(y176),(0),(s0_1),(s0_2),vX,H',⟨Nat.le_refl _⟩,⟨rX HO178.out⟩,⟨by repeat(first|(with_reducible first|exact HI0.out|apply IsS56.alloc|apply IsS56.drewN|apply IsS56.drew|apply IsS56.set_1|apply IsS56.set_2)|exact HI0.out)⟩,⟨by repeat(first|(with_reducible first|exact HK.out|apply KeepBut.set_|apply keep_drewN|apply keep_drew|apply keep_alloc)|exact HK.out)⟩,⟨bX1 HB.out (IsS56.ge HI0.out)⟩⟩
 case round =>
 clear H'
 obtain ⟨x5_1,x6_1,x1001_1,x1002_1,rfl,HA,HK1,HO_5,HI0,HK,HB⟩:=hrel
 cases gk with
 | zero=>exact absurd HA.out (by simp [s_l02Draw.l0])
 | succ k1 =>
 have H:=HA.out
 clear HA
 simp only [s_l02Draw.l0] at H
 by_cases c5:x6_1<a1
 {
 rw [if_pos c5] at H
 have c5b0:=decide_eq_true c5
 clear c5
 replace H:=oB H
 obtain ⟨⟨t179,t180,t181⟩,A60,H⟩:=H
 replace H:(if x5_1.length<17592186044416 then ((some (x5_1 ++ [x6_1]:List Int)).bind fun y182=>(if 0≤t179 then (if t179<(y182.length:Int) then (if 0≤x6_1 then (if x6_1<(y182.length:Int) then (s_l02Draw.l0 k1 a1 ((y182.set (x6_1:Int).toNat (rd y182 t179)).set (t179:Int).toNat x6_1) (wrap64 (x6_1+1)) s0_0 t180 t181) else (none)) else (none)) else (none)) else (none))) else (none))=some (r1,r2,r3):=H
 have A6:=aM A60
 clear A60
 by_cases c7:x5_1.length<17592186044416
 {
 rw [if_pos c7] at H
 have LMc7:=aM c7
 clear c7
 obtain ⟨y182,hy182⟩:∃ y_:List Int,y_=(x5_1 ++ [x6_1]):=⟨_,rfl⟩
 replace H:(if 0≤t179 then (if t179<(y182.length:Int) then (if 0≤x6_1 then (if x6_1<(y182.length:Int) then (s_l02Draw.l0 k1 a1 ((y182.set (x6_1:Int).toNat (rd y182 t179)).set (t179:Int).toNat x6_1) (wrap64 (x6_1+1)) s0_0 t180 t181) else (none)) else (none)) else (none)) else (none))=some (r1,r2,r3):=by first|(rw [hy182];with_reducible exact H)|(have H2_:=(Option.bind_some _ _).symm.trans H;rw [hy182];with_reducible exact H2_)|(have H2_:=(Option.bind_some _ _).symm.trans H;with_reducible exact H2_)|with_reducible exact H|(rw [hy182];exact H)|exact H
 have Ny182:=aM hy182
 clear hy182
 by_cases c8:0≤t179
 {
 rw [if_pos c8] at H
 have c8b0:=decide_eq_true c8
 clear c8
 by_cases c9:t179<(y182.length:Int)
 {
 rw [if_pos c9] at H
 have c9b0:=decide_eq_true c9
 clear c9
 by_cases c10:0≤x6_1
 {
 rw [if_pos c10] at H
 have c10b0:=decide_eq_true c10
 clear c10
 by_cases c11:x6_1<(y182.length:Int)
 {
 rw [if_pos c11] at H
 have c11b0:=decide_eq_true c11
 clear c11
 obtain ⟨y186,hy186⟩:∃ y_:List Int,y_=(y182.set (x6_1:Int).toNat (rd y182 t179)):=⟨_,rfl⟩
 replace H:(s_l02Draw.l0 k1 a1 (y186.set (t179:Int).toNat x6_1) (wrap64 (x6_1+1)) s0_0 t180 t181)=some (r1,r2,r3):=by first|(rw [hy186];with_reducible exact H)|(have H2_:=(Option.bind_some _ _).symm.trans H;rw [hy186];with_reducible exact H2_)|(have H2_:=(Option.bind_some _ _).symm.trans H;with_reducible exact H2_)|with_reducible exact H|(rw [hy186];exact H)|exact H
 have Ny186:=aM hy186
 clear hy186
 obtain ⟨y187,hy187⟩:∃ y_:List Int,y_=(y186.set (t179:Int).toNat x6_1):=⟨_,rfl⟩
 replace H:(s_l02Draw.l0 k1 a1 y187 (wrap64 (x6_1+1)) s0_0 t180 t181)=some (r1,r2,r3):=by first|(rw [hy187];with_reducible exact H)|(have H2_:=(Option.bind_some _ _).symm.trans H;rw [hy187];with_reducible exact H2_)|(have H2_:=(Option.bind_some _ _).symm.trans H;with_reducible exact H2_)|with_reducible exact H|(rw [hy187];exact H)|exact H
 have Ny187:=aM hy187
 clear hy187
 have H':=aM H
 clear H
 go_wp2_with (first|((with_reducible refine gate_callee (f:=17) rfl ?_);refine goesL_ (some 17) rfl rfl Tryd.func17 (by kernel_rfl) rfl #[.pointer (some ⟨g,0,none⟩),.int .i64 (wrap64 (x6_1+1))] rfl aX ?_;(with_reducible refine(s_l01Below.calls g s0_0 x1001_1 x1002_1 (wrap64 (x6_1+1)) t179 t180 t181 w0 _ ?side1 ?side2 A6.out).mono ?_);(case side1=>repeat(first|(with_reducible first|exact HI0.out|apply IsS56.alloc|apply IsS56.drewN|apply IsS56.drew|apply IsS56.set_1|apply IsS56.set_2)|exact HI0.out));(case side2=>repeat(first|(with_reducible first|exact HB.out|apply bA|apply bN|apply bD|refine below_set ?_ (IsS56.ge HI0.out))|exact HB.out));rintro e w14 ⟨rfl,hi,hb,hk⟩;refine ⟨_,rfl,?_⟩;replace HO_5:=aM (Kd.R_mono (Kd.R_keep (IsS56.apart (show IsS56 w0 _ g s0_0 x1001_1 x1002_1 from by repeat(first|(with_reducible first|exact HI0.out|apply IsS56.alloc|apply IsS56.drewN|apply IsS56.drew|apply IsS56.set_1|apply IsS56.set_2)|exact HI0.out)) (rX HO_5.out) (by decide)) hk (fun _ h=>h.2)) (fun _ h=>h.1));replace HK:=aM (KeepBut.trans (by repeat(first|(with_reducible first|exact HK.out|apply KeepBut.set_|apply keep_drewN|apply keep_drew|apply keep_alloc)|exact HK.out)) hk (.inl rfl));replace HB:=aM (hb);replace HI0:=aM (hi);(try clear hb);(try clear hk);(try clear hi))|((with_reducible refine gate_builtin (b:=.append) (xs:=#[.tmp 18,.tmp 20]) rfl ?_);at_builtin;refine Kd.R_append (Kd.int .i64) w.heap.size rfl (.tmp 18) (.tmp 20) 23 3 (.int .i64 0) 8 rfl Tryd.underlying23 info3 rfl (by decide) (by omega) u5 x5_1 x6_1 [.int .i64 x6_1] (fun _=>True) (fun _=>False) rfl rfl ?aP (fun _ hk=>hk.elim) ?aF ?aO (Below.refl _ _) ?aS ?aL ?_;(case aP=>exact rfl);(case aF=>exact(fun _ _=>trivial));(case aO=>exact(rX HO_5.out));(case aS=>exact(keep_size (w:=w) (g:=g) (row:=none) (by repeat(first|(with_reducible first|exact HK.out|apply KeepBut.set_|apply keep_drewN|apply keep_drew|apply keep_alloc)|exact HK.out))));(case aL=>have:=LMc7.out;omega);intro v183 w15 ho hb hg hat;rw [← Ny182.out] at ho;replace HB:=aM (below_weaken (bX1 HB.out (IsS56.ge HI0.out)) HL.out hb);replace HI0:=aM (IsS56.grown (by repeat(first|(with_reducible first|exact HI0.out|apply IsS56.alloc|apply IsS56.drewN|apply IsS56.drew|apply IsS56.set_1|apply IsS56.set_2)|exact HI0.out)) hg (IsS56.own_ne HI0.out HO_5.out (by decide)));replace HK:=aM (KeepBut.trans (by repeat(first|(with_reducible first|exact HK.out|apply KeepBut.set_|apply keep_drewN|apply keep_drew|apply keep_alloc)|exact HK.out)) (KeepBut.of_grown hg g) (Kd.R_base2 HO_5.out));have HO184:=aM (ho);clear HO_5 ho hb hg hat;obtain ⟨Ao16,co16,eo16⟩:=Kd.R_slice HO184.out;subst eo16;have p185:0≤(t179:Int):=dX;have q185:t179<(y182.length:Int):=dX;obtain ⟨ad185,e185,hx185_0⟩:=Kd.at_int (Kd.R_reads' HO184.out).2.2 t179 p185 q185;cases e185;replace p185:=eq_true p185;replace q185:=eq_true q185;have p12:0≤(x6_1:Int):=dX;have q12:(x6_1:Int)<((y182.length:Int):Int):=dX;obtain ⟨go12,co12,eo12,gb12,gl12,cl12,HG12⟩:=Kd.R_form HO184.out (by omega);(first|cases eo12|(injection eo12 with ea_ en_ ec_;(first|subst ea_|(injection ea_ with ea_;subst ea_));subst ec_;clear en_));have GB12:=aM gb12;have GG12:=aM HG12;clear gb12 gl12 HG12;(first|simp only [add_plain] at hx185_0|skip);obtain ⟨hx12_0,hf12_0⟩:=Kd.R_celln 0 HO184.out (x6_1:Int) p12 q12;replace p12:=eq_true p12;replace q12:=eq_true q12;obtain ⟨hy17_,hz17_⟩:=Kd.R_celln 0 HO184.out (x6_1:Int) (dX) (dX);have HP17:=Kd.R_putg HO184.out (x6_1:Int) (rd y182 t179))|((with_reducible refine gate_store (t:=3) (p:=28) rfl ?_);refine store_event (t:=3) (p:=28) (v:=?vo_w18) (w1:=(w15.setCell ⟨go12,(x6_1:Int).toNat,none⟩ (.int .i64 (rd y182 t179)))) ?hg ?ho ?hn ?hr ?_;(case ho=>rfl);(case hg=>rfl);(case hn=>rfl);(case hr=>first|(go_simp;done)|(go_simp;rfl));intro w18 hw;have hg:w15.grownBy w18 (some go12):=(by rw [hw];exact HP17.2);have hp_:Kd.R (Kd.int .i64) 3 w18 w.heap.size (fun _=>True) (.slice (some ⟨go12,0,none⟩) y182.length co16) y186:=(by rw [hw,Ny186.out];exact HP17.1);clear HP17;replace HI0:=aM (IsS56.grown (by repeat(first|(with_reducible first|exact HI0.out|apply IsS56.alloc|apply IsS56.drewN|apply IsS56.drew|apply IsS56.set_1|apply IsS56.set_2)|exact HI0.out)) hg (IsS56.own_ne HI0.out HO184.out (by decide)));replace HB:=aM ((by rw [hw];exact below_set (HB.out) (Nat.le_trans HL.out GB12.out):Below w0.heap.size w0 w18));replace HK:=aM (KeepBut.trans (by repeat(first|(with_reducible first|exact HK.out|apply KeepBut.set_|apply keep_drewN|apply keep_drew|apply keep_alloc)|exact HK.out)) (KeepBut.of_grown hg g) (Kd.R_base2 HO184.out));replace HO184:=aM (hp_);clear hg hw hp_;have p13:0≤(t179:Int):=dX;have q13:(t179:Int)<((y182.length:Int):Int):=dX;obtain ⟨hx13_0,hf13_0⟩:=Kd.R_celln 0 HO184.out (t179:Int) p13 q13;replace p13:=eq_true p13;replace q13:=eq_true q13;obtain ⟨hy19_,hz19_⟩:=Kd.R_celln 0 HO184.out (t179:Int) (dX) (dX);have HP19:=Kd.R_putg HO184.out (t179:Int) x6_1)|((with_reducible refine gate_store (t:=3) (p:=32) rfl ?_);refine store_event (t:=3) (p:=32) (v:=?vo_w20) (w1:=(w18.setCell ⟨go12,(t179:Int).toNat,none⟩ (.int .i64 x6_1))) ?hg ?ho ?hn ?hr ?_;(case ho=>rfl);(case hg=>rfl);(case hn=>rfl);(case hr=>first|(go_simp;done)|(go_simp;rfl));intro w20 hw;have hg:w18.grownBy w20 (some go12):=(by rw [hw];exact HP19.2);have hp_:Kd.R (Kd.int .i64) 3 w20 w.heap.size (fun _=>True) (.slice (some ⟨go12,0,none⟩) y182.length co16) y187:=(by rw [hw,Ny187.out];exact HP19.1);clear HP19;replace HI0:=aM (IsS56.grown (by repeat(first|(with_reducible first|exact HI0.out|apply IsS56.alloc|apply IsS56.drewN|apply IsS56.drew|apply IsS56.set_1|apply IsS56.set_2)|exact HI0.out)) hg (IsS56.own_ne HI0.out HO184.out (by decide)));replace HB:=aM ((by rw [hw];exact below_set (HB.out) (Nat.le_trans HL.out GB12.out):Below w0.heap.size w0 w20));replace HK:=aM (KeepBut.trans (by repeat(first|(with_reducible first|exact HK.out|apply KeepBut.set_|apply keep_drewN|apply keep_drew|apply keep_alloc)|exact HK.out)) (KeepBut.of_grown hg g) (Kd.R_base2 HO184.out));replace HO184:=aM (hp_);clear hg hw hp_))
 go_roundg k1
 case measure=>have:=HK1.out;omega
 case rel=>exact ⟨(y187),(wrap64 (x6_1+1)),(t180),(t181),vX,H',⟨by have:=HK1.out;omega⟩,⟨rX HO184.out⟩,⟨by repeat(first|(with_reducible first|exact HI0.out|apply IsS56.alloc|apply IsS56.drewN|apply IsS56.drew|apply IsS56.set_1|apply IsS56.set_2)|exact HI0.out)⟩,⟨by repeat(first|(with_reducible first|exact HK.out|apply KeepBut.set_|apply keep_drewN|apply keep_drew|apply keep_alloc)|exact HK.out)⟩,⟨bX1 HB.out (IsS56.ge HI0.out)⟩⟩
 }
 {
 rw [if_neg c11] at H
 exact absurd H (by simp)
 }
 }
 {
 rw [if_neg c10] at H
 exact absurd H (by simp)
 }
 }
 {
 rw [if_neg c9] at H
 exact absurd H (by simp)
 }
 }
 {
 rw [if_neg c8] at H
 exact absurd H (by simp)
 }
 }
 {
 rw [if_neg c7] at H
 exact absurd H (by simp)
 }
 }
 {
 rw [if_neg c5] at H
 have c5b0:=decide_eq_false c5
 clear c5
 simp only [Option.some.injEq,Prod.mk.injEq] at H
 obtain ⟨rfl,rfl,rfl⟩:=H
 go_wp2
 go_ret
 exact ⟨_,eX,by(with_reducible repeat(first|apply rA|apply rN|apply rD));exact HO_5.out,by repeat(first|(with_reducible first|exact HI0.out|apply IsS56.alloc|apply IsS56.drewN|apply IsS56.drew|apply IsS56.set_1|apply IsS56.set_2)|exact HI0.out),bX1 HB.out (IsS56.ge HI0.out),by repeat(first|(with_reducible first|exact HK.out|apply KeepBut.set_|apply keep_drewN|apply keep_drew|apply keep_alloc)|exact HK.out)⟩
 }

/-! ### s_l02Has: function 76 -/
def s_l02Has.l0 : Nat→Int→List Int→Int→Int→Option (Bool)
 | 0,_,_,_,_=>none
 | k+1,x1,x7,x8,x9=>if x9<x8 then (if 0≤x9 then (if x9<(x7.length:Int) then (if (rd x7 x9)=x1 then (some true) else (s_l02Has.l0 k x1 x7 x8 (wrap64 (x9+1)))) else (none)) else (none)) else (some false)
def s_l02Has.f (k:Nat) (l0:List Int) (a1:Int):Option (Bool):=s_l02Has.l0 k a1 l0 (l0.length:Int) 0
theorem s_l02Has.calls (k:Nat) (A0:Option Addr) (c0:Nat) (l0:List Int) (a1:Int) (r:Bool) (w:World) (hr0:Kd.C (Kd.int .i64) w A0 l0.length l0) (hc0:l0.length≤c0) (h:s_l02Has.f k l0 a1=some r) :
  Calls Tryd.prog 76 #[.slice A0 l0.length c0,.int .i64 a1] w fun e w'=>e = .returned (.bool r)∧Drawn0 w w':=by
 have HR0:=aM hr0
 have HC0:=aM hc0
 clear hr0 hc0
 have H:(s_l02Has.l0 k a1 l0 (l0.length:Int) 0)=some r:=h
 clear h
 have H':=aM H
 clear H
 go_enter Tryd.func76,Tryd.ntmps76
 go_wp2
 go_loopg [9] k (fun kq v9 w'=>∃ (x9_1:Int),v9 = .int .i64 x9_1∧Aside0 (s_l02Has.l0 kq a1 l0 (l0.length:Int) x9_1=some r)∧Aside0 (kq≤k)∧Drawn0 w w')
 case atStart=>exact ⟨(0),vX,H',⟨Nat.le_refl _⟩,by repeat(first|exact Drawn0.refl _|apply Drawn0.step)⟩
 case round =>
 clear H'
 obtain ⟨x9_1,rfl,HA,HK1,⟨m1,rfl⟩⟩:=hrel
 cases gk with
 | zero=>exact absurd HA.out (by simp [s_l02Has.l0])
 | succ k1 =>
 have H:=HA.out
 clear HA
 simp only [s_l02Has.l0] at H
 by_cases c3:x9_1<(l0.length:Int)
 {
 rw [if_pos c3] at H
 have c3b0:=decide_eq_true c3
 clear c3
 by_cases c4:0≤x9_1
 {
 rw [if_pos c4] at H
 have c4b0:=decide_eq_true c4
 clear c4
 by_cases c5:x9_1<(l0.length:Int)
 {
 rw [if_pos c5] at H
 have c5b0:=decide_eq_true c5
 clear c5
 by_cases c6:(rd l0 x9_1)=a1
 {
 rw [if_pos c6] at H
 have c6b0:((rd l0 x9_1) == a1)=true:=beq_iff_eq.mpr c6
 have c6b1:((rd l0 x9_1) != a1)=false:=bne_eq_false_iff_eq.mpr c6
 clear c6
 obtain rfl:=Option.some.inj H
 have p188:0≤(x9_1:Int):=dX
 have q188:x9_1<(l0.length:Int):=dX
 obtain ⟨ad188,e188,hx188_0⟩:=Kd.at_int HR0.out x9_1 p188 q188
 cases e188
 replace p188:=eq_true p188
 replace q188:=eq_true q188
 go_wp2
 go_ret
 exact ⟨by first|rfl|(simp;done)|(simp [*];done),by repeat(first|exact Drawn0.refl _|apply Drawn0.step)⟩
 }
 {
 rw [if_neg c6] at H
 have c6b0:((rd l0 x9_1) == a1)=false:=beq_eq_false_iff_ne.mpr c6
 have c6b1:((rd l0 x9_1) != a1)=true:=bne_iff_ne.mpr c6
 have H':=aM H
 clear H
 have p188:0≤(x9_1:Int):=dX
 have q188:x9_1<(l0.length:Int):=dX
 obtain ⟨ad188,e188,hx188_0⟩:=Kd.at_int HR0.out x9_1 p188 q188
 cases e188
 replace p188:=eq_true p188
 replace q188:=eq_true q188
 go_wp2
 go_roundg k1
 case measure=>have:=HK1.out;omega
 case rel=>exact ⟨(wrap64 (x9_1+1)),vX,H',⟨by have:=HK1.out;omega⟩,by repeat(first|exact Drawn0.refl _|apply Drawn0.step)⟩
 }
 }
 {
 rw [if_neg c5] at H
 exact absurd H (by simp)
 }
 }
 {
 rw [if_neg c4] at H
 exact absurd H (by simp)
 }
 }
 {
 rw [if_neg c3] at H
 have c3b0:=decide_eq_false c3
 clear c3
 obtain rfl:=Option.some.inj H
 go_wp2
 go_ret
 exact ⟨by first|rfl|(simp;done)|(simp [*];done),by repeat(first|exact Drawn0.refl _|apply Drawn0.step)⟩
 }

/-! ### s_PermOk: function 63 -/
/-! by hand -/
theorem hand_in01 (a b c:Int):s_l01In.f a b c=some (decide (b≤a∧a≤c)):=by
  unfold s_l01In.f
  split
  · rename_i h
    by_cases h2:a≤c
    · rw [decide_eq_true h2,decide_eq_true ⟨h,h2⟩]
    · rw [decide_eq_false h2,decide_eq_false (fun h=>h2 h.2)]
  · rename_i h
    rw [decide_eq_false (fun h2=>h h2.1)]
theorem hand_has_l0 (l:List Int) (hl:l.length≤4611686018427387904) (x:Int):∀ (suf pre:List Int),l=pre ++ suf →
    Ev (fun k=>s_l02Has.l0 k x l (l.length:Int) (pre.length:Int)) (decide (x∈suf)):=by
  intro suf
  induction suf with
  | nil =>
    intro pre h
    subst h
    refine Ev.step (f:=fun _=>some false) (fun k => ?_) (by simpa using Ev.now false)
    simp only [s_l02Has.l0]
    rw [if_neg (by simp)]
  | cons c suf ih =>
    intro pre h
    have:=ih (pre ++ [c]) (by simp [h])
    subst h
    have h1:((pre.length:Nat):Int)<((pre ++ c :: suf).length:Int):=by simp;omega
    have hr:rd (pre ++ c :: suf) (pre.length:Int)=c:=by simp [rd,List.getD]
    have hw:wrap64 ((pre.length:Int)+1)=((pre ++ [c]).length:Int):=by simp at hl ⊢;unfold wrap64;omega
    by_cases hc:c=x
    · refine Ev.step (f:=fun _=>some true) (fun k => ?_) (by simpa [hc] using Ev.now true)
      simp only [s_l02Has.l0]
      rw [if_pos h1,if_pos (Int.natCast_nonneg _),if_pos h1,hr,if_pos hc]
    · rw [show decide (x∈c :: suf)=decide (x∈suf) by simp [Ne.symm hc]]
      refine Ev.step (fun k => ?_) this
      simp only [s_l02Has.l0]
      rw [if_pos h1,if_pos (Int.natCast_nonneg _),if_pos h1,hr,if_neg hc,hw]
theorem hand_has (l:List Int) (hl:l.length≤4611686018427387904) (x:Int):∃ k,s_l02Has.f k l x=some (decide (x∈l)):=by
 obtain ⟨k,hk⟩:=Ev.rounds (hand_has_l0 l hl x l [] rfl)
 exact ⟨k,by simpa [s_l02Has.f] using hk⟩
/-- The reference's way: each is in range and none stands before. -/
def permSGo (n:Int):List Int→List Int→Bool
  | _,[]=>true
  | pre,x :: xs=>if 0≤x∧x≤n - 1 then (if x∈pre then false else permSGo n (pre ++ [x]) xs) else false
def permSB (p:List Int):Bool:=if p.length≤24 then permSGo p.length [] p else false
def s_PermOk.f (l0:List Int):Option Bool:=some (permSB l0)
theorem s_PermOk.calls_le (A0:Option Addr) (c0:Nat) (l0:List (Int)) (r:Bool) (w:World) (hr0:Kd.C (Kd.int .i64) w A0 l0.length l0) (hc0:l0.length≤c0) (hle:l0.length≤24) (hres:permSGo l0.length [] l0=r) :
    Calls Tryd.prog 63 #[.slice A0 l0.length c0] w fun e w'=>e = .returned (.bool r)∧Drawn0 w w':=by
  have HR0:=aM hr0
  have HC0:=aM hc0
  have HRES:=aM hres
  have HLE:=aM hle
  have hb24:decide (24<(l0.length:Int))=false:=decide_eq_false (by omega)
  clear hr0 hc0 hres hle
  go_enter Tryd.func63,Tryd.ntmps63
  go_wp2
  go_loopg [10] (l0.length+1) (fun kq v10 w'=>∃ (i:Int),v10 = .int .i64 i∧Aside0 (0≤i∧i≤l0.length∧(kq:Int)+i=l0.length+1∧permSGo l0.length (l0.take i.toNat) (l0.drop i.toNat)=r)∧Drawn0 w w')
  case atStart=>exact ⟨0,rfl,⟨by omega,by omega,by simp,by simpa using HRES.out⟩,by repeat(first|exact Drawn0.refl _|apply Drawn0.step)⟩
  case round =>
    obtain ⟨i,rfl,HI,⟨m1,rfl⟩⟩:=hrel
    obtain ⟨hi0,hi1,hik,hgo⟩:=HI.out
    clear HI
    have hle:=HLE.out
    obtain ⟨k1,rfl⟩:∃ m,gk=m+1:=⟨gk - 1,by omega⟩
    have HGO:=aM hgo
    have HK:=aM hik
    clear hgo hik
    by_cases hlt:i<(l0.length:Int)
    · have c1:decide (i<(l0.length:Int))=true:=decide_eq_true hlt
      have c1':decide (i≤(l0.length:Int))=true:=decide_eq_true hi1
      have p0:decide (0≤i)=true:=decide_eq_true hi0
      have HW:=aM (show wrap64 (i+1)=i+1 from by unfold wrap64;omega)
      have HW2:=aM (show wrap64 ((l0.length:Int) - 1)=(l0.length:Int) - 1 from by unfold wrap64;omega)
      have hlen:(l0.take i.toNat).length=i.toNat:=by simp;omega
      obtain ⟨ad,ead,hx⟩:=Kd.at_int HR0.out i hi0 hlt
      cases ead
      have hdrop:l0.drop i.toNat=rd l0 i :: l0.drop (i+1).toNat:=by
        have h1:i.toNat<l0.length:=by omega
        rw [show (i+1).toNat=i.toNat+1 by omega,List.drop_eq_getElem_cons h1]
        simp [rd,List.getD,h1]
      have htake:l0.take (i+1).toNat=l0.take i.toNat ++ [rd l0 i]:=by
        have h1:i.toNat<l0.length:=by omega
        rw [show (i+1).toNat=i.toNat+1 by omega,List.take_succ_eq_append_getElem h1]
        simp [rd,List.getD,h1]
      have HD:=aM hdrop
      have HT:=aM htake
      clear hdrop htake
      obtain ⟨i3,hi3,_,hsz3,_⟩:=info_parts (show (Tryd.prog.info? 3).map (fun i=>(i.zero,i.size,i.bytes))=some (some (.int .i64 0),1,8) by kernel_rfl)
      obtain ⟨hcut,hA,hC⟩:=print_take_of (P:=Tryd.prog) (Value.int .i64) 0 23 3 .i64 Tryd.underlying23 hi3 hsz3 (some ad) c0 l0 i hi0 hi1 HC0.out
      rw [hlen] at hcut hC
      have HR1:=aM (Kd.C_of_reads (h1:=fun _=>rfl) (hA _ (Kd.reads_of_C HR0.out)))
      have HC1:=aM hC
      have HL:=aM hlen
      clear hA hC hi3 hsz3 hlen
      generalize hX:rd l0 i=x at *
      clear hX
      replace hi0:=eq_true hi0
      replace hi1:=eq_true hi1
      replace hlt:=eq_true hlt
      clear hle
      have HIN:=aM (hand_in01 x 0 (wrap64 ((l0.length:Int) - 1)))
      by_cases h1:0≤x∧x≤(l0.length:Int) - 1
      · rw [HW2.out,decide_eq_true h1,← HW2.out] at HIN
        by_cases h2:x∈l0.take i.toNat
        · have hr:r=false:=by
            have:=HGO.out
            rw [HD.out] at this
            simp only [permSGo] at this
            rw [if_pos h1,if_pos h2] at this
            exact this.symm
          subst hr
          obtain ⟨kh,hkh⟩:=hand_has (l0.take i.toNat) (by have:=HL.out;have:=HLE.out;simp;omega) x
          rw [decide_eq_true h2] at hkh
          have HH:∀ W:World,Drawn0 w W→Calls Tryd.prog 76 #[.slice (some ad) i.toNat c0,.int .i64 x] W fun e w'=>e = .returned (.bool true)∧Drawn0 W w':=by
            intro W hW
            obtain ⟨n,rfl⟩:=hW.out
            have:=s_l02Has.calls kh _ _ (l0.take i.toNat) x true (w.drewN n) (Kd.C_drewN HR1.out n) (by rw [HL.out];exact HC1.out) hkh
            rw [HL.out] at this
            exact this
          have HHA:=aM HH
          clear h1 h2 HH hkh
          go_wp2_with (first
            | (go_at_call 35;refine(s_l01In.calls x 0 (wrap64 ((l0.length:Int) - 1)) true _ HIN.out).mono ?_;rintro e w' ⟨rfl,⟨nd,rfl⟩⟩)
            | (go_at_call 76;refine(HHA.out _ (by repeat(first|exact Drawn0.refl _|apply Drawn0.step))).mono ?_;rintro e w' ⟨rfl,⟨nd,rfl⟩⟩))
          go_ret
          exact ⟨rfl,by repeat(first|exact Drawn0.refl _|apply Drawn0.step)⟩
        · have hg2:permSGo l0.length (l0.take (i+1).toNat) (l0.drop (i+1).toNat)=r:=by
            have:=HGO.out
            rw [HD.out] at this
            simp only [permSGo] at this
            rw [if_pos h1,if_neg h2] at this
            rw [HT.out]
            exact this
          have HG2:=aM hg2
          clear hg2
          obtain ⟨kh,hkh⟩:=hand_has (l0.take i.toNat) (by have:=HL.out;have:=HLE.out;simp;omega) x
          rw [decide_eq_false h2] at hkh
          have HH:∀ W:World,Drawn0 w W→Calls Tryd.prog 76 #[.slice (some ad) i.toNat c0,.int .i64 x] W fun e w'=>e = .returned (.bool false)∧Drawn0 W w':=by
            intro W hW
            obtain ⟨n,rfl⟩:=hW.out
            have:=s_l02Has.calls kh _ _ (l0.take i.toNat) x false (w.drewN n) (Kd.C_drewN HR1.out n) (by rw [HL.out];exact HC1.out) hkh
            rw [HL.out] at this
            exact this
          have HHA:=aM HH
          clear h1 h2 HH hkh
          go_wp2_with (first
            | (go_at_call 35;refine(s_l01In.calls x 0 (wrap64 ((l0.length:Int) - 1)) true _ HIN.out).mono ?_;rintro e w' ⟨rfl,⟨nd,rfl⟩⟩)
            | (go_at_call 76;refine(HHA.out _ (by repeat(first|exact Drawn0.refl _|apply Drawn0.step))).mono ?_;rintro e w' ⟨rfl,⟨nd,rfl⟩⟩))
          go_roundg k1
          case measure=>omega
          case rel=>exact ⟨i+1,by rw [HW.out],⟨by simp at hi0;omega,by simp at hlt;omega,by have:=HK.out;simp at this ⊢;omega,HG2.out⟩,by repeat(first|exact Drawn0.refl _|apply Drawn0.step)⟩
      · rw [HW2.out,decide_eq_false h1,← HW2.out] at HIN
        have hr:r=false:=by
          have:=HGO.out
          rw [HD.out] at this
          simp only [permSGo] at this
          rw [if_neg h1] at this
          exact this.symm
        subst hr
        clear h1
        go_wp2_with (go_at_call 35;refine(s_l01In.calls x 0 (wrap64 ((l0.length:Int) - 1)) false _ HIN.out).mono ?_;rintro e w' ⟨rfl,⟨nd,rfl⟩⟩)
        go_ret
        exact ⟨rfl,by repeat(first|exact Drawn0.refl _|apply Drawn0.step)⟩
    · have hie:i=l0.length:=by omega
      have hr:r=true:=by
        have:=HGO.out
        rw [show l0.drop i.toNat=[] from by rw [hie];simp] at this
        simp only [permSGo] at this
        exact this.symm
      subst hr
      have c1:decide (i<(l0.length:Int))=false:=decide_eq_false hlt
      clear hlt hie
      go_wp2
      go_ret
      exact ⟨rfl,by repeat(first|exact Drawn0.refl _|apply Drawn0.step)⟩
theorem s_PermOk.calls (A0:Option Addr) (c0:Nat) (l0:List Int) (r:Bool) (w:World) (hr0:Kd.C (Kd.int .i64) w A0 l0.length l0) (hc0:l0.length≤c0) (h:s_PermOk.f l0=some r) :
    Calls Tryd.prog 63 #[.slice A0 l0.length c0] w fun e w'=>e = .returned (.bool r)∧Drawn0 w w':=by
  unfold s_PermOk.f permSB at h
  by_cases hle:l0.length≤24
  · rw [if_pos hle] at h
    exact s_PermOk.calls_le A0 c0 l0 r w hr0 hc0 hle (Option.some.inj h)
  · rw [if_neg hle] at h
    obtain rfl:=Option.some.inj h
    have hb24:decide (24<(l0.length:Int))=true:=decide_eq_true (by omega)
    clear hle
    go_enter Tryd.func63,Tryd.ntmps63
    go_wp2
    go_ret
    exact ⟨rfl,by repeat(first|exact Drawn0.refl _|apply Drawn0.step)⟩

/-! ### s_l02Reach: function 64 -/
mutual
def s_l02Reach.l0 : Nat→List Int→List Int→List Int→Int→Option (List Int)
 | 0,_,_,_,_=>none
 | k+1,x0,x1,x7,x8=>if x8<(x7.length:Int) then (if 0≤x8 then (if 0≤(rd x7 x8) then (if (rd x7 x8)<(x0.length:Int) then (if (rd x7 x8)<(x1.length:Int) then ((some (([rd x0 (rd x7 x8),rd x1 (rd x7 x8)]:List Int):List Int)).bind fun y196=>(s_l02Reach.l1 k x0 x1 x7 x8 y196 (y196.length:Int) 0)) else (none)) else (none)) else (none)) else (none)) else (some x7)
def s_l02Reach.l1 : Nat→List Int→List Int→List Int→Int→List Int→Int→Int→Option (List Int)
 | 0,_,_,_,_,_,_,_=>none
 | k+1,x0,x1,x7,x8,x33,x34,x35=>if x35<x34 then (if 0≤x35 then (if x35<(x33.length:Int) then ((s_l02Has.f k x7 (rd x33 x35)).bind fun t200=>(if t200=true then (s_l02Reach.l1 k x0 x1 x7 x8 x33 x34 (wrap64 (x35+1))) else (if x7.length<17592186044416 then (s_l02Reach.l1 k x0 x1 (x7 ++ [rd x33 x35]) x8 x33 x34 (wrap64 (x35+1))) else (none)))) else (none)) else (none)) else (s_l02Reach.l0 k x0 x1 x7 (wrap64 (x8+1)))
end
def s_l02Reach.f (k:Nat) (l0:List Int) (l1:List Int) (a2:Int):Option (List Int):=s_l02Reach.l0 k l0 l1 (([a2]:List Int)) 0
def s_l02Reach.T5 : Bool × List (List Nat × List Nat):=(true,[([],[]),([],[]),([],[]),([1,2],[1,2]),([3],[3]),([0,4],[0,4]),([5],[5]),([],[]),([],[]),([],[]),([8,9],[8,9]),([10],[10]),([7,11],[7,11]),([12],[12]),([6,13],[6,13]),([14],[14]),([],[])])
def s_l02Reach.B5 : List Nat:=[0,0,0,6,14,31,63,0,0,0,768,1792,3968,8064,16383,32767,0]
theorem s_l02Reach.tab5 : rtab .any (opsOf Tryd.f64 5)=s_l02Reach.T5:=by kernel_rfl
theorem s_l02Reach.bits5 : waitsOk s_l02Reach.T5.2 s_l02Reach.B5=true:=by kernel_rfl
theorem s_l02Reach.calls (k:Nat) (A0:Option Addr) (c0:Nat) (l0:List Int) (A1:Option Addr) (c1:Nat) (l1:List Int) (a2:Int) (r:List Int) (w:World) (hr0:Kd.C (Kd.int .i64) w A0 l0.length l0) (hc0:l0.length≤c0) (hr1:Kd.C (Kd.int .i64) w A1 l1.length l1) (hc1:l1.length≤c1) (h:s_l02Reach.f k l0 l1 a2=some r) :
  Calls Tryd.prog 64 #[.slice A0 l0.length c0,.slice A1 l1.length c1,.int .i64 a2] w fun e w'=>∃ v0_:Value,e = .returned (v0_)∧Kd.R (Kd.int .i64) 3 w' w.heap.size (fun _=>True) v0_ r∧Below w.heap.size w w':=by
 have HR0:=aM hr0
 have HC0:=aM hc0
 clear hr0 hc0
 have HR1:=aM hr1
 have HC1:=aM hc1
 clear hr1 hc1
 have HB:=aM (Below.refl w.heap.size w)
 have H:(s_l02Reach.l0 k l0 l1 (([a2]:List Int)) 0)=some r:=h
 clear h
 obtain ⟨y189,hy189⟩:∃ y_:List Int,y_=(([a2]:List Int)):=⟨_,rfl⟩
 replace H:(s_l02Reach.l0 k l0 l1 y189 0)=some r:=by first|(rw [hy189];with_reducible exact H)|(have H2_:=(Option.bind_some _ _).symm.trans H;rw [hy189];with_reducible exact H2_)|(have H2_:=(Option.bind_some _ _).symm.trans H;with_reducible exact H2_)|with_reducible exact H|(rw [hy189];exact H)|exact H
 have Ny189:=aM hy189
 clear hy189
 have H':=aM H
 clear H
 go_enter Tryd.func64,Tryd.ntmps64
 go_wp2_with (first|((with_reducible refine gate_dst (N:=12) rfl ?_);refine Kd.R_lit (Kd.int .i64) _ 3 ?hg (N:=12) ?hd (xs:=([a2]:List Int)) (inner:=[.int .i64 a2]) (ok:=fun _=>True) (okp:=fun _=>True) ?hr ?hp (fun _ hk=>hk) trivial (Below.refl _ _) (Nat.le_refl _) (by simp) ?_;(case hd=>rfl);(case hg=>rfl);(case hr=>first|(go_simp;done)|(go_simp;rfl));(case hp=>exact(Reps.one (show Kd.M (Kd.int .i64) _ _ _ a2 [.int .i64 a2] from rfl) (Reps.none _ _)));intro v190 w4 ho5 hb hg_ hnew_;clear hg_ hnew_;(first|rw [← Ny189.out] at ho5|(simp only [Int.reduceToNat] at ho5;rw [← Ny189.out] at ho5));have HO191:=aM (Kd.R_lower ho5 (below_size (bX HB.out)));replace HB:=aM (below_step (bX HB.out) hb);clear hb ho5))
 go_loopg [7,8] k (fun kq v7 v8 w'=>∃ (x7_1:List Int) (x8_1:Int),v8 = .int .i64 x8_1∧Aside0 (s_l02Reach.l0 kq l0 l1 x7_1 x8_1=some r)∧Aside0 (kq≤k)∧Aside0 (Kd.R (Kd.int .i64) 3 w' w.heap.size (fun _=>True) v7 x7_1)∧Aside0 (Below w.heap.size w w'))
 case atStart=>exact ⟨(y189),(0),vX,H',⟨Nat.le_refl _⟩,⟨rX HO191.out⟩,⟨bX HB.out⟩⟩
 case round =>
 clear H'
 try clear c1
 obtain ⟨x7_1,x8_1,rfl,HA,HK1,HO_7,HB⟩:=hrel
 cases gk with
 | zero=>exact absurd HA.out (by simp [s_l02Reach.l0])
 | succ k1 =>
 have H:=HA.out
 clear HA
 simp only [s_l02Reach.l0] at H
 by_cases c6:x8_1<(x7_1.length:Int)
 {
 rw [if_pos c6] at H
 have c6b0:=decide_eq_true c6
 clear c6
 by_cases c7:0≤x8_1
 {
 rw [if_pos c7] at H
 have c7b0:=decide_eq_true c7
 clear c7
 by_cases c8:0≤(rd x7_1 x8_1)
 {
 rw [if_pos c8] at H
 have c8b0:=decide_eq_true c8
 clear c8
 by_cases c9:(rd x7_1 x8_1)<(l0.length:Int)
 {
 rw [if_pos c9] at H
 have c9b0:=decide_eq_true c9
 clear c9
 by_cases c10:(rd x7_1 x8_1)<(l1.length:Int)
 {
 rw [if_pos c10] at H
 have c10b0:=decide_eq_true c10
 clear c10
 obtain ⟨y196,hy196⟩:∃ y_:List Int,y_=(([rd l0 (rd x7_1 x8_1),rd l1 (rd x7_1 x8_1)]:List Int)):=⟨_,rfl⟩
 replace H:(s_l02Reach.l1 k1 l0 l1 x7_1 x8_1 y196 (y196.length:Int) 0)=some r:=by first|(rw [hy196];with_reducible exact H)|(have H2_:=(Option.bind_some _ _).symm.trans H;rw [hy196];with_reducible exact H2_)|(have H2_:=(Option.bind_some _ _).symm.trans H;with_reducible exact H2_)|with_reducible exact H|(rw [hy196];exact H)|exact H
 have Ny196:=aM hy196
 clear hy196
 have H':=aM H
 clear H
 obtain ⟨Ao11,co11,eo11⟩:=Kd.R_slice HO_7.out
 subst eo11
 try go_wp2
 replace HO_7:=aM (Kd.R_drew HO_7.out)
 replace HB:=aM (below_drew1 HB.out)
 have p192:0≤(x8_1:Int):=dX
 have q192:x8_1<(x7_1.length:Int):=dX
 obtain ⟨ad192,e192,hx192_0⟩:=Kd.at_int (Kd.R_reads' HO_7.out).2.2 x8_1 p192 q192
 cases e192
 replace p192:=eq_true p192
 replace q192:=eq_true q192
 have p193:0≤((rd x7_1 x8_1):Int):=dX
 have q193:(rd x7_1 x8_1)<(l0.length:Int):=dX
 obtain ⟨ad193,e193,hx193_0⟩:=Kd.at_int HR0.out (rd x7_1 x8_1) p193 q193
 have hw193_0:=hx193_0
 cases e193
 replace hx193_0:=(HB.out.cell (World.block_lt_of_cell? w _ hx193_0)).trans hx193_0
 replace p193:=eq_true p193
 replace q193:=eq_true q193
 have p194:0≤(x8_1:Int):=dX
 have q194:x8_1<(x7_1.length:Int):=dX
 obtain ⟨ad194,e194,hx194_0⟩:=Kd.at_int (Kd.R_reads' HO_7.out).2.2 x8_1 p194 q194
 obtain rfl:ad192=ad194:=(by injection e194)
 replace p194:=eq_true p194
 replace q194:=eq_true q194
 have p195:0≤((rd x7_1 x8_1):Int):=dX
 have q195:(rd x7_1 x8_1)<(l1.length:Int):=dX
 obtain ⟨ad195,e195,hx195_0⟩:=Kd.at_int HR1.out (rd x7_1 x8_1) p195 q195
 have hw195_0:=hx195_0
 cases e195
 replace hx195_0:=(HB.out.cell (World.block_lt_of_cell? w _ hx195_0)).trans hx195_0
 replace p195:=eq_true p195
 replace q195:=eq_true q195
 refine start_ (n:=17) (S:=fun w'=>w'.cell? (ad192.add (x8_1).toNat)=some (.int .i64 (rd x7_1 x8_1))∧w'.cell? (ad193.add ((rd x7_1 x8_1)).toNat)=some (.int .i64 (rd l0 (rd x7_1 x8_1)))∧w'.cell? (ad192.add (x8_1).toNat)=some (.int .i64 (rd x7_1 x8_1))∧w'.cell? (ad195.add ((rd x7_1 x8_1)).toNat)=some (.int .i64 (rd l1 (rd x7_1 x8_1)))) (ds:=[]) #[ff,ff,ff,ff,ff,ff,ff,ff,ff,ff,ff,ff,ff,ff,ff,ff,ff] (by kernel_rfl) rfl rfl ⟨hx192_0,((HB.out.cell (World.block_lt_of_cell? w _ hw193_0)).trans hw193_0),hx194_0,((HB.out.cell (World.block_lt_of_cell? w _ hw195_0)).trans hw195_0)⟩ (fun hHeld => ?_);refine with_tabW s_l02Reach.tab5 s_l02Reach.bits5 (fun HT_ HW_ => ?_)
 generalize wr.drew=w12 at HO_7 HB hx192_0 hx193_0 hx194_0 hx195_0 hHeld ⊢
 refine pX 0 19 (fl 17 1) rfl rfl HT_.out ?_
 refine pX 1 20 (fl 17 3) rfl rfl HT_.out ?_
 refine pX 2 21 (fl 17 7) rfl rfl HT_.out ?_
 refine pX 3 22 (fl 17 15) rfl rfl HT_.out ?_
 refine pX 7 26 (fl 17 143) rfl rfl HT_.out ?_
 refine pX 8 27 (fl 17 399) rfl rfl HT_.out ?_
 refine pX 9 28 (fl 17 911) rfl rfl HT_.out ?_
 refine pX 10 29 (fl 17 1935) rfl rfl HT_.out ?_
 refine pX 16 35 (fl 17 67471) rfl rfl HT_.out ?_
 refine tX4 4 23 (fl 17 67487) rfl rfl HT_.out HW_.out hHeld ?_
 refine pX 5 24 (fl 17 67519) rfl rfl HT_.out ?_
 refine tX4 6 25 (fl 17 67583) rfl rfl HT_.out HW_.out hHeld ?_
 refine tX4 11 30 (fl 17 69631) rfl rfl HT_.out HW_.out hHeld ?_
 refine pX 12 31 (fl 17 73727) rfl rfl HT_.out ?_
 refine tX4 13 32 (fl 17 81919) rfl rfl HT_.out HW_.out hHeld ?_
 refine one_ (i:=14) (N:=some 33) #[tt,tt,tt,tt,tt,tt,tt,tt,tt,tt,tt,tt,tt,tt,tt,ff,tt] rfl rfl (one_of HT_.out (by kernel_rfl)) (by decide) (fun K hK => ?_)
 refine Kd.R_lit_step (Kd.int .i64) _ 3 ?hg (N:=33) ?hd (xs:=([rd l0 (rd x7_1 x8_1),rd l1 (rd x7_1 x8_1)]:List Int)) (inner:=[.int .i64 (rd l0 (rd x7_1 x8_1)),.int .i64 (rd l1 (rd x7_1 x8_1))]) (ok:=fun _=>True) (okp:=fun _=>True) ?hr ?hp (fun _ hk=>hk) trivial (Below.refl _ _) (Nat.le_refl _) (by simp) ?_;(case hd=>rfl);(case hg=>rfl);(case hr=>first|(go_simp;done)|(go_simp;rfl));(case hp=>exact(Reps.one (show Kd.M (Kd.int .i64) _ _ _ (rd l0 (rd x7_1 x8_1)) [.int .i64 (rd l0 (rd x7_1 x8_1))] from rfl) (Reps.one (show Kd.M (Kd.int .i64) _ _ _ (rd l1 (rd x7_1 x8_1)) [.int .i64 (rd l1 (rd x7_1 x8_1))] from rfl) (Reps.none _ _))))
 intro v197 w13 ho14 hb hg_ hnew_
 have HS0_:=(hb.cell (World.block_lt_of_cell? _ _ (hHeld.1))).trans (hHeld.1)
 have HS2_:=(hb.cell (World.block_lt_of_cell? _ _ (hHeld.2.2.1))).trans (hHeld.2.2.1)
 clear hg_ hnew_
 (first|rw [← Ny196.out] at ho14|(simp only [Int.reduceToNat] at ho14;rw [← Ny196.out] at ho14))
 have HO198:=aM (Kd.R_lower (Kd.R_new' ho14 (Kd.R_lt (rX HO_7.out))) (below_size (bX HB.out)))
 replace HO_7:=aM (Kd.R_elder' (rX HO_7.out) (Kd.R_base ho14) hb)
 replace HB:=aM (below_step (bX HB.out) hb)
 clear hb ho14
 obtain ⟨Ao15,co15,eo15⟩:=Kd.R_slice HO198.out
 (first|subst eo15|(injection eo15 with f1_ f2_ f3_;have f4_:=f1_.symm;have f5_:=f3_.symm;clear f1_ f2_ f3_;subst f4_;subst f5_))
 refine hK.out _ _ ⟨HS0_,((HB.out.cell (World.block_lt_of_cell? w _ hw193_0)).trans hw193_0),HS2_,((HB.out.cell (World.block_lt_of_cell? w _ hw195_0)).trans hw195_0)⟩ (fun hHeld => ?_)
 clear hK K
 refine norm_ (a':=?_) ?_ ?_
 rotate_left
 {
 show Act.put _ (some 33) _=_
 simp only [Act.put,zA,zB,zC,i64_w,i32_w]
 rfl
 }
 refine pX 15 34 (fl 17 131071) rfl rfl HT_.out ?_
 refine done_ (done_of HT_.out (by kernel_rfl)) ?_
 try go_wp2
 go_loopg [7,35] k1 (fun kq v7 v35 w'=>∃ (x7_2:List Int) (x35_2:Int),v35 = .int .i64 x35_2∧Aside0 (s_l02Reach.l1 kq l0 l1 x7_2 x8_1 y196 (y196.length:Int) x35_2=some r)∧Aside0 (kq≤k1)∧Aside0 (Kd.R (Kd.int .i64) 3 w' w.heap.size (fun k_=>some k_≠((.slice Ao15 y196.length co15):Value).ownBlock) v7 x7_2)∧Aside0 (Kd.R (Kd.int .i64) 3 w' w.heap.size (fun k_=>some k_≠(v7:Value).ownBlock) (.slice Ao15 y196.length co15) y196)∧Aside0 (Below w.heap.size w w'))
 case atStart=>exact ⟨(x7_1),(0),vX,H',⟨Nat.le_refl _⟩,⟨rM HO_7.out (fun _ hk=>hk.2)⟩,⟨rM HO198.out (fun _ hk=>hk.2)⟩,⟨bX HB.out⟩⟩
 case round =>
 clear H'
 try clear c1
 try clear c6
 try clear c6b0
 try clear c7
 try clear c7b0
 try clear c8
 try clear c8b0
 try clear c9
 try clear c9b0
 try clear c10
 try clear c10b0
 try clear hx192_0
 try clear hx193_0
 try clear hx194_0
 try clear hx195_0
 try clear p192
 try clear p193
 try clear p194
 try clear p195
 try clear q192
 try clear q193
 try clear q194
 try clear q195
 obtain ⟨x7_2,x35_2,rfl,HA,HK2,HO_7,HO_33,HB⟩:=hrel
 cases gk with
 | zero=>exact absurd HA.out (by simp [s_l02Reach.l1])
 | succ k2 =>
 have H:=HA.out
 clear HA
 simp only [s_l02Reach.l1] at H
 by_cases c16:x35_2<(y196.length:Int)
 {
 rw [if_pos c16] at H
 have c16b0:=decide_eq_true c16
 clear c16
 by_cases c17:0≤x35_2
 {
 rw [if_pos c17] at H
 have c17b0:=decide_eq_true c17
 clear c17
 by_cases c18:x35_2<(y196.length:Int)
 {
 rw [if_pos c18] at H
 have c18b0:=decide_eq_true c18
 clear c18
 replace H:=oB H
 obtain ⟨t200,A190,H⟩:=H
 have A19:=aM A190
 clear A190
 by_cases c20:t200=true
 {
 subst c20
 have H1:(s_l02Reach.l1 k2 l0 l1 x7_2 x8_1 y196 (y196.length:Int) (wrap64 (x35_2+1)))=some r:=by rw [if_pos rfl] at H;exact H
 clear H
 have H:=H1
 clear H1
 have H':=aM H
 clear H
 have p199:0≤(x35_2:Int):=dX
 have q199:x35_2<(y196.length:Int):=dX
 obtain ⟨ad199,e199,hx199_0⟩:=Kd.at_int (Kd.R_reads' HO_33.out).2.2 x35_2 p199 q199
 cases e199
 replace p199:=eq_true p199
 replace q199:=eq_true q199
 obtain ⟨Ao21,co21,eo21⟩:=Kd.R_slice HO_7.out
 subst eo21
 go_wp2_with (first|((with_reducible refine gate_callee (f:=76) rfl ?_);refine goesL_ (some 41) rfl rfl Tryd.func76 (by kernel_rfl) rfl #[.slice Ao21 x7_2.length co21,.int .i64 (rd y196 x35_2)] rfl aX ?_;(with_reducible refine(s_l02Has.calls k2 _ _ x7_2 (rd y196 x35_2) true _ ?side1 ?side2 A19.out).mono ?_);(case side1=>exact cX (Kd.R_reads' HO_7.out).2.2);(case side2=>exact(Kd.R_reads' HO_7.out).2.1);rintro e w' ⟨rfl,⟨nd,rfl⟩⟩;refine ⟨_,rfl,?_⟩))
 go_roundg k2
 case measure=>have:=HK1.out;have:=HK2.out;omega
 case rel=>exact ⟨(x7_2),(wrap64 (x35_2+1)),vX,H',⟨by have:=HK1.out;have:=HK2.out;omega⟩,⟨rX HO_7.out⟩,⟨rX HO_33.out⟩,⟨bX HB.out⟩⟩
 }
 {
 replace c20:=Bool.eq_false_iff.mpr c20
 subst c20
 have H1:(if x7_2.length<17592186044416 then (s_l02Reach.l1 k2 l0 l1 (x7_2 ++ [rd y196 x35_2]) x8_1 y196 (y196.length:Int) (wrap64 (x35_2+1))) else (none))=some r:=by rw [if_neg (show ¬ (false=true) by decide)] at H;exact H
 clear H
 have H:=H1
 clear H1
 by_cases c22:x7_2.length<17592186044416
 {
 rw [if_pos c22] at H
 have LMc22:=aM c22
 clear c22
 obtain ⟨y201,hy201⟩:∃ y_:List Int,y_=(x7_2 ++ [rd y196 x35_2]):=⟨_,rfl⟩
 replace H:(s_l02Reach.l1 k2 l0 l1 y201 x8_1 y196 (y196.length:Int) (wrap64 (x35_2+1)))=some r:=by first|(rw [hy201];with_reducible exact H)|(have H2_:=(Option.bind_some _ _).symm.trans H;rw [hy201];with_reducible exact H2_)|(have H2_:=(Option.bind_some _ _).symm.trans H;with_reducible exact H2_)|with_reducible exact H|(rw [hy201];exact H)|exact H
 have Ny201:=aM hy201
 clear hy201
 have H':=aM H
 clear H
 have p199:0≤(x35_2:Int):=dX
 have q199:x35_2<(y196.length:Int):=dX
 obtain ⟨ad199,e199,hx199_0⟩:=Kd.at_int (Kd.R_reads' HO_33.out).2.2 x35_2 p199 q199
 cases e199
 replace p199:=eq_true p199
 replace q199:=eq_true q199
 obtain ⟨Ao23,co23,eo23⟩:=Kd.R_slice HO_7.out
 subst eo23
 go_wp2_with (first|((with_reducible refine gate_callee (f:=76) rfl ?_);refine goesL_ (some 41) rfl rfl Tryd.func76 (by kernel_rfl) rfl #[.slice Ao23 x7_2.length co23,.int .i64 (rd y196 x35_2)] rfl aX ?_;(with_reducible refine(s_l02Has.calls k2 _ _ x7_2 (rd y196 x35_2) false _ ?side1 ?side2 A19.out).mono ?_);(case side1=>exact cX (Kd.R_reads' HO_7.out).2.2);(case side2=>exact(Kd.R_reads' HO_7.out).2.1);rintro e w' ⟨rfl,⟨nd,rfl⟩⟩;refine ⟨_,rfl,?_⟩)|((with_reducible refine gate_builtin (b:=.append) (xs:=#[.tmp 43,.tmp 45]) rfl ?_);at_builtin;refine Kd.R_append (Kd.int .i64) (w0:=w) w.heap.size rfl (.tmp 43) (.tmp 45) 23 3 (.int .i64 0) 8 rfl Tryd.underlying23 info3 rfl (by decide) (by omega) (.slice Ao23 x7_2.length co23) x7_2 (rd y196 x35_2) [.int .i64 (rd y196 x35_2)] (fun k_=>some k_≠(.slice (some ad199) y196.length co15:Value).ownBlock) (fun _=>False) rfl rfl ?aP (fun _ hk=>hk.elim) ?aF ?aO ?aB ?aS ?aL ?_;(case aP=>exact rfl);(case aB=>exact(bX HB.out));(case aF=>exact(fun k_ hk=>Kd.fresh' (Kd.R_lt (rX HO_33.out)) k_ hk));(case aO=>exact(rX HO_7.out));(case aS=>exact(below_size (bX HB.out)));(case aL=>have:=LMc22.out;omega);intro v202 w24 ho hb hg hat;rw [← Ny201.out] at ho;replace HO_33:=aM (Kd.R_after (ok:=(fun _=>True)) (rM HO_33.out (fun _ hk=>⟨trivial,hk⟩)) hg hat);replace HB:=aM (hb);have HO203:=aM (ho);clear HO_7 ho hb hg hat))
 go_roundg k2
 case measure=>have:=HK1.out;have:=HK2.out;omega
 case rel=>exact ⟨(y201),(wrap64 (x35_2+1)),vX,H',⟨by have:=HK1.out;have:=HK2.out;omega⟩,⟨rX HO203.out⟩,⟨rM HO_33.out (fun _ hk=>hk.2)⟩,⟨bX HB.out⟩⟩
 }
 {
 rw [if_neg c22] at H
 exact absurd H (by simp)
 }
 }
 }
 {
 rw [if_neg c18] at H
 exact absurd H (by simp)
 }
 }
 {
 rw [if_neg c17] at H
 exact absurd H (by simp)
 }
 }
 {
 rw [if_neg c16] at H
 have c16b0:=decide_eq_false c16
 clear c16
 have H':=aM H
 clear H
 go_wp2
 go_roundg k2
 case measure=>have:=HK1.out;have:=HK2.out;omega
 case rel=>exact ⟨(x7_2),(wrap64 (x8_1+1)),vX,H',⟨by have:=HK1.out;have:=HK2.out;omega⟩,⟨rM HO_7.out (fun _ hk=>trivial)⟩,⟨bX HB.out⟩⟩
 }
 }
 {
 rw [if_neg c10] at H
 exact absurd H (by simp)
 }
 }
 {
 rw [if_neg c9] at H
 exact absurd H (by simp)
 }
 }
 {
 rw [if_neg c8] at H
 exact absurd H (by simp)
 }
 }
 {
 rw [if_neg c7] at H
 exact absurd H (by simp)
 }
 }
 {
 rw [if_neg c6] at H
 have c6b0:=decide_eq_false c6
 clear c6
 obtain rfl:=Option.some.inj H
 obtain ⟨Ao25,co25,eo25⟩:=Kd.R_slice HO_7.out
 subst eo25
 go_wp2
 go_ret
 exact ⟨_,eX,by(with_reducible repeat(first|apply rA|apply rN|apply rD));exact HO_7.out,bX HB.out⟩
 }

/-! ### s_IsTransitive: function 53 -/
def s_IsTransitive.f (k:Nat) (l0:List Int) (l1:List Int):Option (Bool):=(s_PermOk.f l0).bind fun t204=>(if t204=true then ((s_PermOk.f l1).bind fun t205=>(if t205=true then (if (l0.length:Int)=(l1.length:Int) then (if (l0.length:Int) > 0 then ((s_l02Reach.f k l0 l1 0).bind fun t206=>(some ((t206.length:Int) == (l0.length:Int)))) else (some false)) else (some false)) else (some false))) else (some false))
theorem s_IsTransitive.calls (k:Nat) (A0:Option Addr) (c0:Nat) (l0:List Int) (A1:Option Addr) (c1:Nat) (l1:List Int) (r:Bool) (w:World) (hr0:Kd.C (Kd.int .i64) w A0 l0.length l0) (hc0:l0.length≤c0) (hr1:Kd.C (Kd.int .i64) w A1 l1.length l1) (hc1:l1.length≤c1) (h:s_IsTransitive.f k l0 l1=some r) :
  Calls Tryd.prog 53 #[.slice A0 l0.length c0,.slice A1 l1.length c1] w fun e w'=>e = .returned (.bool r)∧Below w.heap.size w w':=by
 have HR0:=aM hr0
 have HC0:=aM hc0
 clear hr0 hc0
 have HR1:=aM hr1
 have HC1:=aM hc1
 clear hr1 hc1
 have HB:=aM (Below.refl w.heap.size w)
 have H:((s_PermOk.f l0).bind fun t204=>(if t204=true then ((s_PermOk.f l1).bind fun t205=>(if t205=true then (if (l0.length:Int)=(l1.length:Int) then (if (l0.length:Int) > 0 then ((s_l02Reach.f k l0 l1 0).bind fun t206=>(some ((t206.length:Int) == (l0.length:Int)))) else (some false)) else (some false)) else (some false))) else (some false)))=some r:=h
 clear h
 replace H:=oB H
 obtain ⟨t204,A30,H⟩:=H
 have A3:=aM A30
 clear A30
 by_cases c4:t204=true
 {
 subst c4
 have H1:((s_PermOk.f l1).bind fun t205=>(if t205=true then (if (l0.length:Int)=(l1.length:Int) then (if (l0.length:Int) > 0 then ((s_l02Reach.f k l0 l1 0).bind fun t206=>(some ((t206.length:Int) == (l0.length:Int)))) else (some false)) else (some false)) else (some false)))=some r:=by rw [if_pos rfl] at H;exact H
 clear H
 have H:=H1
 clear H1
 replace H:=oB H
 obtain ⟨t205,A50,H⟩:=H
 have A5:=aM A50
 clear A50
 by_cases c6:t205=true
 {
 subst c6
 have H1:(if (l0.length:Int)=(l1.length:Int) then (if (l0.length:Int) > 0 then ((s_l02Reach.f k l0 l1 0).bind fun t206=>(some ((t206.length:Int) == (l0.length:Int)))) else (some false)) else (some false))=some r:=by rw [if_pos rfl] at H;exact H
 clear H
 have H:=H1
 clear H1
 by_cases c7:(l0.length:Int)=(l1.length:Int)
 {
 rw [if_pos c7] at H
 have c7b0:((l0.length:Int) == (l1.length:Int))=true:=beq_iff_eq.mpr c7
 have c7b1:((l0.length:Int) != (l1.length:Int))=false:=bne_eq_false_iff_eq.mpr c7
 have c7b2:(l0.length == l1.length)=true:=by first|simpa using c7|(simp at c7 ⊢;omega)
 clear c7
 by_cases c8:(l0.length:Int) > 0
 {
 rw [if_pos c8] at H
 have c8b0:=decide_eq_true c8
 have c8b1:decide (0<l0.length)=true:=decide_eq_true (by omega)
 clear c8
 replace H:=oB H
 obtain ⟨t206,A90,H⟩:=H
 have A9:=aM A90
 clear A90
 obtain rfl:=Option.some.inj H
 go_enter Tryd.func53,Tryd.ntmps53
 go_wp2_with (first|((with_reducible refine gate_callee (f:=63) rfl ?_);refine goesL_ (some 6) rfl rfl Tryd.func63 (by kernel_rfl) rfl #[.slice A0 l0.length c0] rfl aX ?_;(with_reducible refine(s_PermOk.calls _ _ l0 true _ ?side1 ?side2 A3.out).mono ?_);(case side1=>exact cX HR0.out);(case side2=>exact HC0.out);rintro e w' ⟨rfl,⟨nd,rfl⟩⟩;refine ⟨_,rfl,?_⟩)|(go_at_call 63;(with_reducible refine(s_PermOk.calls _ _ l1 true _ ?side1 ?side2 A5.out).mono ?_);(case side1=>exact cX HR1.out);(case side2=>exact HC1.out);rintro e w' ⟨rfl,⟨nd,rfl⟩⟩)|(go_at_call 64;(with_reducible refine(s_l02Reach.calls k _ _ l0 _ _ l1 0 t206 _ ?side1 ?side2 ?side3 ?side4 A9.out).mono ?_);(case side1=>exact cX HR0.out);(case side2=>exact HC0.out);(case side3=>exact cX HR1.out);(case side4=>exact HC1.out);rintro e w10 ⟨v207,rfl,ho0,hb⟩;have HO208:=aM (Kd.R_lower ho0 (below_size (bX HB.out)));replace HB:=aM (below_step (bX HB.out) hb);(try clear hb);(try clear ho0);obtain ⟨Ao11,co11,eo11⟩:=Kd.R_slice HO208.out;subst eo11))
 go_ret
 exact ⟨eX,bX HB.out⟩
 }
 {
 rw [if_neg c8] at H
 have c8b0:=decide_eq_false c8
 have c8b1:decide (0<l0.length)=false:=decide_eq_false (by omega)
 clear c8
 obtain rfl:=Option.some.inj H
 go_enter Tryd.func53,Tryd.ntmps53
 go_wp2_with (first|((with_reducible refine gate_callee (f:=63) rfl ?_);refine goesL_ (some 6) rfl rfl Tryd.func63 (by kernel_rfl) rfl #[.slice A0 l0.length c0] rfl aX ?_;(with_reducible refine(s_PermOk.calls _ _ l0 true _ ?side1 ?side2 A3.out).mono ?_);(case side1=>exact cX HR0.out);(case side2=>exact HC0.out);rintro e w' ⟨rfl,⟨nd,rfl⟩⟩;refine ⟨_,rfl,?_⟩)|(go_at_call 63;(with_reducible refine(s_PermOk.calls _ _ l1 true _ ?side1 ?side2 A5.out).mono ?_);(case side1=>exact cX HR1.out);(case side2=>exact HC1.out);rintro e w' ⟨rfl,⟨nd,rfl⟩⟩))
 go_ret
 exact ⟨eX,bX HB.out⟩
 }
 }
 {
 rw [if_neg c7] at H
 have c7b0:((l0.length:Int) == (l1.length:Int))=false:=beq_eq_false_iff_ne.mpr c7
 have c7b1:((l0.length:Int) != (l1.length:Int))=true:=bne_iff_ne.mpr c7
 have c7b2:(l0.length == l1.length)=false:=by first|simpa using c7|(simp at c7 ⊢;omega)
 obtain rfl:=Option.some.inj H
 go_enter Tryd.func53,Tryd.ntmps53
 go_wp2_with (first|((with_reducible refine gate_callee (f:=63) rfl ?_);refine goesL_ (some 6) rfl rfl Tryd.func63 (by kernel_rfl) rfl #[.slice A0 l0.length c0] rfl aX ?_;(with_reducible refine(s_PermOk.calls _ _ l0 true _ ?side1 ?side2 A3.out).mono ?_);(case side1=>exact cX HR0.out);(case side2=>exact HC0.out);rintro e w' ⟨rfl,⟨nd,rfl⟩⟩;refine ⟨_,rfl,?_⟩)|(go_at_call 63;(with_reducible refine(s_PermOk.calls _ _ l1 true _ ?side1 ?side2 A5.out).mono ?_);(case side1=>exact cX HR1.out);(case side2=>exact HC1.out);rintro e w' ⟨rfl,⟨nd,rfl⟩⟩))
 go_ret
 exact ⟨eX,bX HB.out⟩
 }
 }
 {
 replace c6:=Bool.eq_false_iff.mpr c6
 subst c6
 have H1:(some false)=some r:=by rw [if_neg (show ¬ (false=true) by decide)] at H;exact H
 clear H
 have H:=H1
 clear H1
 obtain rfl:=Option.some.inj H
 go_enter Tryd.func53,Tryd.ntmps53
 go_wp2_with (first|((with_reducible refine gate_callee (f:=63) rfl ?_);refine goesL_ (some 6) rfl rfl Tryd.func63 (by kernel_rfl) rfl #[.slice A0 l0.length c0] rfl aX ?_;(with_reducible refine(s_PermOk.calls _ _ l0 true _ ?side1 ?side2 A3.out).mono ?_);(case side1=>exact cX HR0.out);(case side2=>exact HC0.out);rintro e w' ⟨rfl,⟨nd,rfl⟩⟩;refine ⟨_,rfl,?_⟩)|(go_at_call 63;(with_reducible refine(s_PermOk.calls _ _ l1 false _ ?side1 ?side2 A5.out).mono ?_);(case side1=>exact cX HR1.out);(case side2=>exact HC1.out);rintro e w' ⟨rfl,⟨nd,rfl⟩⟩))
 go_ret
 exact ⟨eX,bX HB.out⟩
 }
 }
 {
 replace c4:=Bool.eq_false_iff.mpr c4
 subst c4
 have H1:(some false)=some r:=by rw [if_neg (show ¬ (false=true) by decide)] at H;exact H
 clear H
 have H:=H1
 clear H1
 obtain rfl:=Option.some.inj H
 go_enter Tryd.func53,Tryd.ntmps53
 go_wp2_with (first|((with_reducible refine gate_callee (f:=63) rfl ?_);refine goesL_ (some 6) rfl rfl Tryd.func63 (by kernel_rfl) rfl #[.slice A0 l0.length c0] rfl aX ?_;(with_reducible refine(s_PermOk.calls _ _ l0 false _ ?side1 ?side2 A3.out).mono ?_);(case side1=>exact cX HR0.out);(case side2=>exact HC0.out);rintro e w' ⟨rfl,⟨nd,rfl⟩⟩;refine ⟨_,rfl,?_⟩))
 go_ret
 exact ⟨eX,bX HB.out⟩
 }

/-! ### s_SurfaceOk: function 40 -/
def s_SurfaceOk.f (k:Nat) (l0_0:List Int) (l0_1:List Int):Option (Bool):=(s_IsTransitive.f k l0_0 l0_1).bind fun t210=>(some t210)
theorem s_SurfaceOk.calls (k:Nat) (A0_0:Option Addr) (c0_0:Nat) (l0_0:List Int) (A0_1:Option Addr) (c0_1:Nat) (l0_1:List Int) (r:Bool) (w:World) (hr0_0:Kd.C (Kd.int .i64) w A0_0 l0_0.length l0_0) (hc0_0:l0_0.length≤c0_0) (hr0_1:Kd.C (Kd.int .i64) w A0_1 l0_1.length l0_1) (hc0_1:l0_1.length≤c0_1) (h:s_SurfaceOk.f k l0_0 l0_1=some r) :
  Calls Tryd.prog 40 #[.agg #[.slice A0_0 l0_0.length c0_0,.slice A0_1 l0_1.length c0_1]] w fun e w'=>e = .returned (.bool r)∧Below w.heap.size w w':=by
 have hu25:=Tryd.underlying25
 have HR0_0:=aM hr0_0
 have HC0_0:=aM hc0_0
 clear hr0_0 hc0_0
 have HR0_1:=aM hr0_1
 have HC0_1:=aM hc0_1
 clear hr0_1 hc0_1
 have HB:=aM (Below.refl w.heap.size w)
 have H:((s_IsTransitive.f k l0_0 l0_1).bind fun t210=>(some t210))=some r:=h
 clear h
 replace H:=oB H
 obtain ⟨t210,A20,H⟩:=H
 have A2:=aM A20
 clear A20
 obtain rfl:=Option.some.inj H
 go_enter Tryd.func40,Tryd.ntmps40
 go_wp2_with (first|((with_reducible refine gate_dst (N:=1) rfl ?_);refine bEv (cs:=#[.slice A0_0 l0_0.length c0_0,.slice A0_1 l0_1.length c0_1]) (t:=25) ?_;intro gb209 hg w3 hbox hb;have BK209:=aM (hbox);have GW209:=aM ((szX (below_size (bX HB.out)) hg:w.heap.size≤gb209));have GE209:=GW209;replace HB:=aM (below_step (bX HB.out) hb);clear hb hbox hg;obtain ⟨hcz4_0,hcz4_1,hfz4_0,hfz4_1⟩:=f2Z BK209.out)|((with_reducible refine gate_callee (f:=53) rfl ?_);refine goesL_ (some 7) rfl rfl Tryd.func53 (by kernel_rfl) rfl #[.slice A0_0 l0_0.length c0_0,.slice A0_1 l0_1.length c0_1] rfl aX ?_;(with_reducible refine(s_IsTransitive.calls k _ _ l0_0 _ _ l0_1 t210 _ ?side1 ?side2 ?side3 ?side4 A2.out).mono ?_);(case side1=>exact cX (Kd.C_below HR0_0.out HB.out));(case side2=>exact HC0_0.out);(case side3=>exact cX (Kd.C_below HR0_1.out HB.out));(case side4=>exact HC0_1.out);rintro e w5 ⟨rfl,hb⟩;refine ⟨_,rfl,?_⟩;replace BK209:=aM (bbX BK209.out hb);replace HB:=aM (below_step (bX1 HB.out GE209.out) hb);(try clear hb)))
 go_ret
 exact ⟨eX,bX1 HB.out GE209.out⟩

/-! ### s_l03Draw: function 21 -/
def s_l03Draw.l0 : Nat→Int→Int→List Int→Int→Int→Option (List Int × List Int × Int × Int)
 | 0,_,_,_,_,_=>none
 | k+1,x5,x6,x1000,x1001,x1002=>if x6<8 then ((s_l02Draw.f k x1000 x1001 x1002 x5).bind fun bt223=>((s_l02Draw.f k x1000 bt223.2.1 bt223.2.2 x5).bind fun bt228=>((s_SurfaceOk.f k bt223.1 bt228.1).bind fun t234=>(if t234=true then (some (bt223.1,bt228.1,bt228.2.1,bt228.2.2)) else (s_l03Draw.l0 k x5 (wrap64 (x6+1)) x1000 bt228.2.1 bt228.2.2))))) else ((s_EllOf.f k x5 1).bind fun bt215=>(some (bt215.1,bt215.2.1,x1001,x1002)))
def s_l03Draw.f (k:Nat) (s0_0:List Int) (s0_1:Int) (s0_2:Int) (a1:Int):Option (List Int × List Int × Int × Int):=(s_l01Below.f s0_0 s0_1 s0_2 a1).bind fun bt212=>(s_l03Draw.l0 k (wrap64 (1+bt212.1)) 0 s0_0 bt212.2.1 bt212.2.2)
theorem s_l03Draw.calls (k:Nat) (g:Nat) (s0_0:List Int) (s0_1:Int) (s0_2:Int) (a1:Int) (r1:List Int) (r2:List Int) (r3:Int) (r4:Int) (w0 w:World) (hI:IsS56 w0 w g s0_0 s0_1 s0_2) (hB:Below w0.heap.size w0 w) (h:s_l03Draw.f k s0_0 s0_1 s0_2 a1=some (r1,r2,r3,r4)) :
  Calls Tryd.prog 21 #[.pointer (some ⟨g,0,none⟩),.int .i64 a1] w fun e w'=>∃ v0_ v1_:Value,e = .returned (.agg #[v0_,v1_])∧Kd.R (Kd.int .i64) 3 w' w.heap.size (fun k_=>some k_≠(v1_:Value).ownBlock) v0_ r1∧Kd.R (Kd.int .i64) 3 w' w.heap.size (fun k_=>some k_≠(v0_:Value).ownBlock) v1_ r2∧IsS56 w0 w' g s0_0 r3 r4∧Below w0.heap.size w0 w'∧KeepBut w w' g none:=by
 have hu25:=Tryd.underlying25
 have HI0:=aM hI
 have HK:=aM (KeepBut.refl w g none)
 have HL:=aM hB.size
 clear hI
 have HW0:=aM hB.size
 have HB:=aM hB
 clear hB
 have H:((s_l01Below.f s0_0 s0_1 s0_2 a1).bind fun bt212=>(s_l03Draw.l0 k (wrap64 (1+bt212.1)) 0 s0_0 bt212.2.1 bt212.2.2))=some (r1,r2,r3,r4):=h
 clear h
 replace H:=oB H
 obtain ⟨⟨t212,t213,t214⟩,A30,H⟩:=H
 replace H:(s_l03Draw.l0 k (wrap64 (1+t212)) 0 s0_0 t213 t214)=some (r1,r2,r3,r4):=H
 have A3:=aM A30
 clear A30
 have H':=aM H
 clear H
 go_enter Tryd.func21,Tryd.ntmps21
 go_wp2_with (first|((with_reducible refine gate_dst (N:=4) rfl ?_);refine bEv (cs:=#[.slice none 0 0,.slice none 0 0]) (t:=25) ?_;intro gb211 hg w4 hbox hb;replace HB:=aM (below_step (bX1 HB.out (IsS56.ge HI0.out)) hb);have BK211:=aM (hbox);have GW211:=aM ((by rw [hg];exact(keep_size (w:=w) (g:=g) (row:=none) (by repeat(first|(with_reducible first|exact HK.out|apply KeepBut.set_|apply keep_drewN|apply keep_drew|apply keep_alloc)|exact HK.out))):w.heap.size≤gb211));have GE211:=aM ((Nat.le_trans HW0.out (by rw [hg];exact(keep_size (w:=w) (g:=g) (row:=none) (by repeat(first|(with_reducible first|exact HK.out|apply KeepBut.set_|apply keep_drewN|apply keep_drew|apply keep_alloc)|exact HK.out))):w.heap.size≤gb211):w0.heap.size≤gb211));replace HK:=aM (KeepBut.trans (by repeat(first|(with_reducible first|exact HK.out|apply KeepBut.set_|apply keep_drewN|apply keep_drew|apply keep_alloc)|exact HK.out)) (KeepBut.of_below hb g none) (.inl rfl));have NB0_211:=aM ((by rw [hg];exact Nat.ne_of_lt (IsS56.lt (show IsS56 w0 _ g s0_0 s0_1 s0_2 from by repeat(first|(with_reducible first|exact HI0.out|apply IsS56.alloc|apply IsS56.drewN|apply IsS56.drew|apply IsS56.set_1|apply IsS56.set_2)|exact HI0.out))):g≠gb211));have NB211_0:=aM ((by rw [hg];exact Nat.ne_of_gt (IsS56.lt (show IsS56 w0 _ g s0_0 s0_1 s0_2 from by repeat(first|(with_reducible first|exact HI0.out|apply IsS56.alloc|apply IsS56.drewN|apply IsS56.drew|apply IsS56.set_1|apply IsS56.set_2)|exact HI0.out))):gb211≠g));replace HI0:=aM (IsS56.below (by repeat(first|(with_reducible first|exact HI0.out|apply IsS56.alloc|apply IsS56.drewN|apply IsS56.drew|apply IsS56.set_1|apply IsS56.set_2)|exact HI0.out)) hb);clear hb hbox hg)|((with_reducible refine gate_callee (f:=17) rfl ?_);refine goesL_ (some 12) rfl rfl Tryd.func17 (by kernel_rfl) rfl #[.pointer (some ⟨g,0,none⟩),.int .i64 a1] rfl aX ?_;(with_reducible refine(s_l01Below.calls g s0_0 s0_1 s0_2 a1 t212 t213 t214 w0 _ ?side1 ?side2 A3.out).mono ?_);(case side1=>repeat(first|(with_reducible first|exact HI0.out|apply IsS56.alloc|apply IsS56.drewN|apply IsS56.drew|apply IsS56.set_1|apply IsS56.set_2|refine IsS56.far ?_ NB0_211.out _)|exact HI0.out));(case side2=>repeat(first|(with_reducible first|exact HB.out|apply bA|apply bN|apply bD|refine below_set ?_ (IsS56.ge HI0.out)|refine below_set ?_ GE211.out)|exact HB.out));rintro e w5 ⟨rfl,hi,hb,hk⟩;refine ⟨_,rfl,?_⟩;replace BK211:=aM (KeepBut.blk hk (g':=gb211) (o:=.cells #[.slice none 0 0,.slice none 0 0] 25 (0,0)) (kX BK211.out) NB211_0.out (by simp));replace HK:=aM (KeepBut.trans (by repeat(first|(with_reducible first|exact HK.out|apply KeepBut.set_|apply keep_drewN|apply keep_drew|apply keep_alloc|refine keep_far ?_ GW211.out _)|exact HK.out)) hk (.inl rfl));replace HB:=aM (hb);replace HI0:=aM (hi);(try clear hb);(try clear hk);(try clear hi)))
 go_loopg [6] k (fun kq v6 w'=>∃ (x6_1:Int) (x1001_1:Int) (x1002_1:Int),v6 = .int .i64 x6_1∧Aside0 (s_l03Draw.l0 kq (wrap64 (1+t212)) x6_1 s0_0 x1001_1 x1002_1=some (r1,r2,r3,r4))∧Aside0 (kq≤k)∧Aside0 (w'.heap[gb211]? = some (.cells #[(.slice none 0 0),(.slice none 0 0)] 25 (0,0)))∧Aside0 (IsS56 w0 w' g s0_0 x1001_1 x1002_1)∧Aside0 (KeepBut w w' g none)∧Aside0 (Below w0.heap.size w0 w'))
 case atStart=>exact ⟨(0),(t213),(t214),vX,H',⟨Nat.le_refl _⟩,⟨kX BK211.out⟩,⟨by repeat(first|(with_reducible first|exact HI0.out|apply IsS56.alloc|apply IsS56.drewN|apply IsS56.drew|apply IsS56.set_1|apply IsS56.set_2|refine IsS56.far ?_ NB0_211.out _)|exact HI0.out)⟩,⟨by repeat(first|(with_reducible first|exact HK.out|apply KeepBut.set_|apply keep_drewN|apply keep_drew|apply keep_alloc|refine keep_far ?_ GW211.out _)|exact HK.out)⟩,⟨bX2 HB.out (IsS56.ge HI0.out) GE211.out⟩⟩
 case round =>
 clear H'
 obtain ⟨x6_1,x1001_1,x1002_1,rfl,HA,HK1,BK211,HI0,HK,HB⟩:=hrel
 cases gk with
 | zero=>exact absurd HA.out (by simp [s_l03Draw.l0])
 | succ k1 =>
 have H:=HA.out
 clear HA
 simp only [s_l03Draw.l0] at H
 by_cases c6:x6_1<8
 {
 rw [if_pos c6] at H
 have c6b0:=decide_eq_true c6
 clear c6
 replace H:=oB H
 obtain ⟨⟨t223,t226,t227⟩,A70,H⟩:=H
 replace H:((s_l02Draw.f k1 s0_0 t226 t227 (wrap64 (1+t212))).bind fun bt228=>((s_SurfaceOk.f k1 t223 bt228.1).bind fun t234=>(if t234=true then (some (t223,bt228.1,bt228.2.1,bt228.2.2)) else (s_l03Draw.l0 k1 (wrap64 (1+t212)) (wrap64 (x6_1+1)) s0_0 bt228.2.1 bt228.2.2))))=some (r1,r2,r3,r4):=H
 have A7:=aM A70
 clear A70
 replace H:=oB H
 obtain ⟨⟨t228,t231,t232⟩,A80,H⟩:=H
 replace H:((s_SurfaceOk.f k1 t223 t228).bind fun t234=>(if t234=true then (some (t223,t228,t231,t232)) else (s_l03Draw.l0 k1 (wrap64 (1+t212)) (wrap64 (x6_1+1)) s0_0 t231 t232)))=some (r1,r2,r3,r4):=H
 have A8:=aM A80
 clear A80
 replace H:=oB H
 obtain ⟨t234,A90,H⟩:=H
 have A9:=aM A90
 clear A90
 by_cases c10:t234=true
 {
 subst c10
 have H1:(some (t223,t228,t231,t232))=some (r1,r2,r3,r4):=by rw [if_pos rfl] at H;exact H
 clear H
 have H:=H1
 clear H1
 simp only [Option.some.injEq,Prod.mk.injEq] at H
 obtain ⟨rfl,rfl,rfl,rfl⟩:=H
 go_wp2_with (first|((with_reducible refine gate_callee (f:=39) rfl ?_);refine goesL_ (some 20) rfl rfl Tryd.func39 (by kernel_rfl) rfl #[.pointer (some ⟨g,0,none⟩),.int .i64 (wrap64 (1+t212))] rfl aX ?_;(with_reducible refine(s_l02Draw.calls k1 g s0_0 x1001_1 x1002_1 (wrap64 (1+t212)) t223 t226 t227 w0 _ ?side1 ?side2 A7.out).mono ?_);(case side1=>repeat(first|(with_reducible first|exact HI0.out|apply IsS56.alloc|apply IsS56.drewN|apply IsS56.drew|apply IsS56.set_1|apply IsS56.set_2|refine IsS56.far ?_ NB0_211.out _)|exact HI0.out));(case side2=>repeat(first|(with_reducible first|exact HB.out|apply bA|apply bN|apply bD|refine below_set ?_ (IsS56.ge HI0.out)|refine below_set ?_ GE211.out)|exact HB.out));rintro e w11 ⟨v224,rfl,ho0,hi,hb,hk⟩;refine ⟨_,rfl,?_⟩;replace BK211:=aM (KeepBut.blk hk (g':=gb211) (o:=.cells #[.slice none 0 0,.slice none 0 0] 25 (0,0)) (kX BK211.out) NB211_0.out (by simp));have HO225:=aM (Kd.R_lower ho0 (keep_size (w:=w) (g:=g) (row:=none) (by repeat(first|(with_reducible first|exact HK.out|apply KeepBut.set_|apply keep_drewN|apply keep_drew|apply keep_alloc|refine keep_far ?_ GW211.out _)|exact HK.out))));replace HK:=aM (KeepBut.trans (by repeat(first|(with_reducible first|exact HK.out|apply KeepBut.set_|apply keep_drewN|apply keep_drew|apply keep_alloc|refine keep_far ?_ GW211.out _)|exact HK.out)) hk (.inl rfl));replace HB:=aM (hb);replace HI0:=aM (hi);(try clear hb);(try clear hk);(try clear hi);(try clear ho0))|((with_reducible refine gate_callee (f:=39) rfl ?_);refine goesL_ (some 23) rfl rfl Tryd.func39 (by kernel_rfl) rfl #[.pointer (some ⟨g,0,none⟩),.int .i64 (wrap64 (1+t212))] rfl aX ?_;(with_reducible refine(s_l02Draw.calls k1 g s0_0 t226 t227 (wrap64 (1+t212)) t228 t231 t232 w0 _ ?side1 ?side2 A8.out).mono ?_);(case side1=>repeat(first|(with_reducible first|exact HI0.out|apply IsS56.alloc|apply IsS56.drewN|apply IsS56.drew|apply IsS56.set_1|apply IsS56.set_2|refine IsS56.far ?_ NB0_211.out _)|exact HI0.out));(case side2=>repeat(first|(with_reducible first|exact HB.out|apply bA|apply bN|apply bD|refine below_set ?_ (IsS56.ge HI0.out)|refine below_set ?_ GE211.out)|exact HB.out));rintro e w12 ⟨v229,rfl,ho0,hi,hb,hk⟩;refine ⟨_,rfl,?_⟩;replace BK211:=aM (KeepBut.blk hk (g':=gb211) (o:=.cells #[.slice none 0 0,.slice none 0 0] 25 (0,0)) (kX BK211.out) NB211_0.out (by simp));have HO230:=aM (Kd.R_lower (Kd.R_new' ho0 (Kd.R_lt (rX HO225.out))) (keep_size (w:=w) (g:=g) (row:=none) (by repeat(first|(with_reducible first|exact HK.out|apply KeepBut.set_|apply keep_drewN|apply keep_drew|apply keep_alloc|refine keep_far ?_ GW211.out _)|exact HK.out))));replace HO225:=aM (Kd.R_mono (Kd.R_told (Kd.R_oldK (IsS56.apart (show IsS56 w0 _ g s0_0 t226 t227 from by repeat(first|(with_reducible first|exact HI0.out|apply IsS56.alloc|apply IsS56.drewN|apply IsS56.drew|apply IsS56.set_1|apply IsS56.set_2|refine IsS56.far ?_ NB0_211.out _)|exact HI0.out)) (rX HO225.out) (by decide)) hk) (Kd.R_base ho0)) (fun _ h_=>h_.1));replace HK:=aM (KeepBut.trans (by repeat(first|(with_reducible first|exact HK.out|apply KeepBut.set_|apply keep_drewN|apply keep_drew|apply keep_alloc|refine keep_far ?_ GW211.out _)|exact HK.out)) hk (.inl rfl));replace HB:=aM (hb);replace HI0:=aM (hi);(try clear hb);(try clear hk);(try clear hi);(try clear ho0);obtain ⟨Ao13,co13,eo13⟩:=Kd.R_slice HO230.out;subst eo13;obtain ⟨Ao14,co14,eo14⟩:=Kd.R_slice HO225.out;subst eo14)|((with_reducible refine gate_dst (N:=7) rfl ?_);refine bEv (cs:=#[.slice none 0 0,.slice none 0 0]) (t:=25) ?_;intro gb233 hg w15 hbox hb;replace HO225:=aM (Kd.R_below (rX HO225.out) hb);replace HO230:=aM (Kd.R_below (rX HO230.out) hb);replace HB:=aM (below_step (bX2 HB.out (IsS56.ge HI0.out) GE211.out) hb);have BK233:=aM (hbox);have GW233:=aM ((by rw [hg];exact(keep_size (w:=w) (g:=g) (row:=none) (by repeat(first|(with_reducible first|exact HK.out|apply KeepBut.set_|apply keep_drewN|apply keep_drew|apply keep_alloc|refine keep_far ?_ GW211.out _)|exact HK.out))):w.heap.size≤gb233));have GE233:=aM ((Nat.le_trans HW0.out (by rw [hg];exact(keep_size (w:=w) (g:=g) (row:=none) (by repeat(first|(with_reducible first|exact HK.out|apply KeepBut.set_|apply keep_drewN|apply keep_drew|apply keep_alloc|refine keep_far ?_ GW211.out _)|exact HK.out))):w.heap.size≤gb233):w0.heap.size≤gb233));replace HK:=aM (KeepBut.trans (by repeat(first|(with_reducible first|exact HK.out|apply KeepBut.set_|apply keep_drewN|apply keep_drew|apply keep_alloc|refine keep_far ?_ GW211.out _)|exact HK.out)) (KeepBut.of_below hb g none) (.inl rfl));have NB211_233:=aM (neX BK211.out hg);have NB233_211:=aM (nfX BK211.out hg);replace BK211:=aM (bbX BK211.out hb);have NB0_233:=aM ((by rw [hg];exact Nat.ne_of_lt (IsS56.lt (show IsS56 w0 _ g s0_0 t231 t232 from by repeat(first|(with_reducible first|exact HI0.out|apply IsS56.alloc|apply IsS56.drewN|apply IsS56.drew|apply IsS56.set_1|apply IsS56.set_2|refine IsS56.far ?_ NB0_211.out _)|exact HI0.out))):g≠gb233));have NB233_0:=aM ((by rw [hg];exact Nat.ne_of_gt (IsS56.lt (show IsS56 w0 _ g s0_0 t231 t232 from by repeat(first|(with_reducible first|exact HI0.out|apply IsS56.alloc|apply IsS56.drewN|apply IsS56.drew|apply IsS56.set_1|apply IsS56.set_2|refine IsS56.far ?_ NB0_211.out _)|exact HI0.out))):gb233≠g));replace HI0:=aM (IsS56.below (by repeat(first|(with_reducible first|exact HI0.out|apply IsS56.alloc|apply IsS56.drewN|apply IsS56.drew|apply IsS56.set_1|apply IsS56.set_2|refine IsS56.far ?_ NB0_211.out _)|exact HI0.out)) hb);clear hb hbox hg;have hnb16:=NB233_211.out;have hnc16:=NB211_233.out;have hnb17:=NB233_0.out;have hnc17:=NB0_233.out;obtain ⟨hcz18_0,hcz18_1,hfz18_0,hfz18_1⟩:=f2Z BK233.out)|((with_reducible refine gate_callee (f:=40) rfl ?_);refine goesL_ (some 26) rfl rfl Tryd.func40 (by kernel_rfl) rfl #[.agg #[.slice Ao14 t223.length co14,.slice Ao13 t228.length co13]] rfl aX ?_;(with_reducible refine(s_SurfaceOk.calls k1 _ _ t223 _ _ t228 true _ ?side1 ?side2 ?side3 ?side4 A9.out).mono ?_);(case side1=>exact rcX (fr2 HO225.out BK233.out (.slice Ao14 t223.length co14) (.slice Ao13 t228.length co13)));(case side2=>exact(Kd.R_reads' HO225.out).2.1);(case side3=>exact rcX (fr2 HO230.out BK233.out (.slice Ao14 t223.length co14) (.slice Ao13 t228.length co13)));(case side4=>exact(Kd.R_reads' HO230.out).2.1);rintro e w19 ⟨rfl,hb⟩;refine ⟨_,rfl,?_⟩;replace HO225:=aM (Kd.R_below (rX (fr2 HO225.out BK233.out (.slice Ao14 t223.length co14) (.slice Ao13 t228.length co13))) hb);replace HO230:=aM (Kd.R_below (rX (fr2 HO230.out BK233.out (.slice Ao14 t223.length co14) (.slice Ao13 t228.length co13))) hb);replace BK211:=aM (blk_below (g:=gb211) (o:=.cells #[.slice none 0 0,.slice none 0 0] 25 (0,0)) (by(with_reducible repeat(first|refine kN ?_ _|refine kD ?_|refine kA ?_ _));refine blk_far ?_ NB211_233.out _;(with_reducible repeat(first|refine kN ?_ _|refine kD ?_|refine kA ?_ _));refine blk_far ?_ NB211_233.out _;(with_reducible repeat(first|refine kN ?_ _|refine kD ?_|refine kA ?_ _));exact BK211.out) hb);replace BK233:=aM (blk_below (g:=gb233) (o:=.cells #[.slice Ao14 t223.length co14,.slice Ao13 t228.length co13] 25 (0,0)) (by(with_reducible repeat(first|refine kN ?_ _|refine kD ?_|refine kA ?_ _));refine blk_put (cs:=#[.slice Ao14 t223.length co14,.slice none 0 0]) ?_ 1 _ rfl;(with_reducible repeat(first|refine kN ?_ _|refine kD ?_|refine kA ?_ _));refine blk_put (cs:=#[.slice none 0 0,.slice none 0 0]) ?_ 0 _ rfl;(with_reducible repeat(first|refine kN ?_ _|refine kD ?_|refine kA ?_ _));exact BK233.out) hb);replace HK:=aM (KeepBut.trans (by repeat(first|(with_reducible first|exact HK.out|apply KeepBut.set_|apply keep_drewN|apply keep_drew|apply keep_alloc|refine keep_far ?_ GW211.out _|refine keep_far ?_ GW233.out _)|exact HK.out)) (KeepBut.of_below hb g none) (.inl rfl));replace HB:=aM (below_step (bX3 HB.out (IsS56.ge HI0.out) GE211.out GE233.out) hb);replace HI0:=aM (IsS56.below (show IsS56 w0 ((w15.setCell ⟨gb233,0,none⟩ (.slice Ao14 t223.length co14)).setCell ⟨gb233,1,none⟩ (.slice Ao13 t228.length co13)) g s0_0 t231 t232 from by repeat(first|(with_reducible first|exact HI0.out|apply IsS56.alloc|apply IsS56.drewN|apply IsS56.drew|apply IsS56.set_1|apply IsS56.set_2|refine IsS56.far ?_ NB0_211.out _|refine IsS56.far ?_ NB0_233.out _)|exact HI0.out)) hb);(try clear hb);(try clear hk);(try clear hi);obtain ⟨hcz20_0,hcz20_1,hfz20_0,hfz20_1⟩:=f2Z BK233.out;have hnb21:=NB211_0.out;have hnc21:=NB0_211.out;obtain ⟨hcz22_0,hcz22_1,hfz22_0,hfz22_1⟩:=f2Z BK211.out))
 refine bodyPost_ret (results_cell_row rfl _ _ gb211 25 #[.slice Ao14 t223.length co14,.slice Ao13 t228.length co13] (0,0) _ rfl (by(with_reducible repeat(first|refine kN ?_ _|refine kD ?_|refine kA ?_ _));refine blk_put (cs:=#[.slice Ao14 t223.length co14,.slice none 0 0]) ?_ 1 _ rfl;(with_reducible repeat(first|refine kN ?_ _|refine kD ?_|refine kA ?_ _));refine blk_put (cs:=#[.slice none 0 0,.slice none 0 0]) ?_ 0 _ rfl;(with_reducible repeat(first|refine kN ?_ _|refine kD ?_|refine kA ?_ _));exact BK211.out) Tryd.underlying25 rfl (by kernel_rfl)) rfl ?_
 exact ⟨_,_,eX,by(with_reducible repeat(first|apply rA|apply rN|apply rD));exact Kd.R_mono (Kd.R_far (p:=⟨gb211,1,none⟩) (Kd.R_far (p:=⟨gb211,0,none⟩) (Kd.R_types HO225.out BK211.out (by decide)) (fun _ hk=>hk.2) (.slice Ao14 t223.length co14)) (fun _ hk=>hk.2) (.slice Ao13 t228.length co13)) (fun _ hk=>hk.1.2),by(with_reducible repeat(first|apply rA|apply rN|apply rD));exact Kd.R_mono (Kd.R_far (p:=⟨gb211,1,none⟩) (Kd.R_far (p:=⟨gb211,0,none⟩) (Kd.R_types HO230.out BK211.out (by decide)) (fun _ hk=>hk.2) (.slice Ao14 t223.length co14)) (fun _ hk=>hk.2) (.slice Ao13 t228.length co13)) (fun _ hk=>hk.1.2),by repeat(first|(with_reducible first|exact HI0.out|apply IsS56.alloc|apply IsS56.drewN|apply IsS56.drew|apply IsS56.set_1|apply IsS56.set_2|refine IsS56.far ?_ NB0_211.out _|refine IsS56.far ?_ NB0_233.out _)|exact HI0.out),bX3 HB.out (IsS56.ge HI0.out) GE211.out GE233.out,by repeat(first|(with_reducible first|exact HK.out|apply KeepBut.set_|apply keep_drewN|apply keep_drew|apply keep_alloc|refine keep_far ?_ GW211.out _|refine keep_far ?_ GW233.out _)|exact HK.out)⟩
 }
 {
 replace c10:=Bool.eq_false_iff.mpr c10
 subst c10
 have H1:(s_l03Draw.l0 k1 (wrap64 (1+t212)) (wrap64 (x6_1+1)) s0_0 t231 t232)=some (r1,r2,r3,r4):=by rw [if_neg (show ¬ (false=true) by decide)] at H;exact H
 clear H
 have H:=H1
 clear H1
 have H':=aM H
 clear H
 go_wp2_with (first|((with_reducible refine gate_callee (f:=39) rfl ?_);refine goesL_ (some 20) rfl rfl Tryd.func39 (by kernel_rfl) rfl #[.pointer (some ⟨g,0,none⟩),.int .i64 (wrap64 (1+t212))] rfl aX ?_;(with_reducible refine(s_l02Draw.calls k1 g s0_0 x1001_1 x1002_1 (wrap64 (1+t212)) t223 t226 t227 w0 _ ?side1 ?side2 A7.out).mono ?_);(case side1=>repeat(first|(with_reducible first|exact HI0.out|apply IsS56.alloc|apply IsS56.drewN|apply IsS56.drew|apply IsS56.set_1|apply IsS56.set_2|refine IsS56.far ?_ NB0_211.out _)|exact HI0.out));(case side2=>repeat(first|(with_reducible first|exact HB.out|apply bA|apply bN|apply bD|refine below_set ?_ (IsS56.ge HI0.out)|refine below_set ?_ GE211.out)|exact HB.out));rintro e w23 ⟨v224,rfl,ho0,hi,hb,hk⟩;refine ⟨_,rfl,?_⟩;replace BK211:=aM (KeepBut.blk hk (g':=gb211) (o:=.cells #[.slice none 0 0,.slice none 0 0] 25 (0,0)) (kX BK211.out) NB211_0.out (by simp));have HO225:=aM (Kd.R_lower ho0 (keep_size (w:=w) (g:=g) (row:=none) (by repeat(first|(with_reducible first|exact HK.out|apply KeepBut.set_|apply keep_drewN|apply keep_drew|apply keep_alloc|refine keep_far ?_ GW211.out _)|exact HK.out))));replace HK:=aM (KeepBut.trans (by repeat(first|(with_reducible first|exact HK.out|apply KeepBut.set_|apply keep_drewN|apply keep_drew|apply keep_alloc|refine keep_far ?_ GW211.out _)|exact HK.out)) hk (.inl rfl));replace HB:=aM (hb);replace HI0:=aM (hi);(try clear hb);(try clear hk);(try clear hi);(try clear ho0))|((with_reducible refine gate_callee (f:=39) rfl ?_);refine goesL_ (some 23) rfl rfl Tryd.func39 (by kernel_rfl) rfl #[.pointer (some ⟨g,0,none⟩),.int .i64 (wrap64 (1+t212))] rfl aX ?_;(with_reducible refine(s_l02Draw.calls k1 g s0_0 t226 t227 (wrap64 (1+t212)) t228 t231 t232 w0 _ ?side1 ?side2 A8.out).mono ?_);(case side1=>repeat(first|(with_reducible first|exact HI0.out|apply IsS56.alloc|apply IsS56.drewN|apply IsS56.drew|apply IsS56.set_1|apply IsS56.set_2|refine IsS56.far ?_ NB0_211.out _)|exact HI0.out));(case side2=>repeat(first|(with_reducible first|exact HB.out|apply bA|apply bN|apply bD|refine below_set ?_ (IsS56.ge HI0.out)|refine below_set ?_ GE211.out)|exact HB.out));rintro e w24 ⟨v229,rfl,ho0,hi,hb,hk⟩;refine ⟨_,rfl,?_⟩;replace BK211:=aM (KeepBut.blk hk (g':=gb211) (o:=.cells #[.slice none 0 0,.slice none 0 0] 25 (0,0)) (kX BK211.out) NB211_0.out (by simp));have HO230:=aM (Kd.R_lower (Kd.R_new' ho0 (Kd.R_lt (rX HO225.out))) (keep_size (w:=w) (g:=g) (row:=none) (by repeat(first|(with_reducible first|exact HK.out|apply KeepBut.set_|apply keep_drewN|apply keep_drew|apply keep_alloc|refine keep_far ?_ GW211.out _)|exact HK.out))));replace HO225:=aM (Kd.R_mono (Kd.R_told (Kd.R_oldK (IsS56.apart (show IsS56 w0 _ g s0_0 t226 t227 from by repeat(first|(with_reducible first|exact HI0.out|apply IsS56.alloc|apply IsS56.drewN|apply IsS56.drew|apply IsS56.set_1|apply IsS56.set_2|refine IsS56.far ?_ NB0_211.out _)|exact HI0.out)) (rX HO225.out) (by decide)) hk) (Kd.R_base ho0)) (fun _ h_=>h_.1));replace HK:=aM (KeepBut.trans (by repeat(first|(with_reducible first|exact HK.out|apply KeepBut.set_|apply keep_drewN|apply keep_drew|apply keep_alloc|refine keep_far ?_ GW211.out _)|exact HK.out)) hk (.inl rfl));replace HB:=aM (hb);replace HI0:=aM (hi);(try clear hb);(try clear hk);(try clear hi);(try clear ho0);obtain ⟨Ao25,co25,eo25⟩:=Kd.R_slice HO230.out;subst eo25;obtain ⟨Ao26,co26,eo26⟩:=Kd.R_slice HO225.out;subst eo26)|((with_reducible refine gate_dst (N:=7) rfl ?_);refine bEv (cs:=#[.slice none 0 0,.slice none 0 0]) (t:=25) ?_;intro gb233 hg w27 hbox hb;replace HO225:=aM (Kd.R_below (rX HO225.out) hb);replace HO230:=aM (Kd.R_below (rX HO230.out) hb);replace HB:=aM (below_step (bX2 HB.out (IsS56.ge HI0.out) GE211.out) hb);have BK233:=aM (hbox);have GW233:=aM ((by rw [hg];exact(keep_size (w:=w) (g:=g) (row:=none) (by repeat(first|(with_reducible first|exact HK.out|apply KeepBut.set_|apply keep_drewN|apply keep_drew|apply keep_alloc|refine keep_far ?_ GW211.out _)|exact HK.out))):w.heap.size≤gb233));have GE233:=aM ((Nat.le_trans HW0.out (by rw [hg];exact(keep_size (w:=w) (g:=g) (row:=none) (by repeat(first|(with_reducible first|exact HK.out|apply KeepBut.set_|apply keep_drewN|apply keep_drew|apply keep_alloc|refine keep_far ?_ GW211.out _)|exact HK.out))):w.heap.size≤gb233):w0.heap.size≤gb233));replace HK:=aM (KeepBut.trans (by repeat(first|(with_reducible first|exact HK.out|apply KeepBut.set_|apply keep_drewN|apply keep_drew|apply keep_alloc|refine keep_far ?_ GW211.out _)|exact HK.out)) (KeepBut.of_below hb g none) (.inl rfl));have NB211_233:=aM (neX BK211.out hg);have NB233_211:=aM (nfX BK211.out hg);replace BK211:=aM (bbX BK211.out hb);have NB0_233:=aM ((by rw [hg];exact Nat.ne_of_lt (IsS56.lt (show IsS56 w0 _ g s0_0 t231 t232 from by repeat(first|(with_reducible first|exact HI0.out|apply IsS56.alloc|apply IsS56.drewN|apply IsS56.drew|apply IsS56.set_1|apply IsS56.set_2|refine IsS56.far ?_ NB0_211.out _)|exact HI0.out))):g≠gb233));have NB233_0:=aM ((by rw [hg];exact Nat.ne_of_gt (IsS56.lt (show IsS56 w0 _ g s0_0 t231 t232 from by repeat(first|(with_reducible first|exact HI0.out|apply IsS56.alloc|apply IsS56.drewN|apply IsS56.drew|apply IsS56.set_1|apply IsS56.set_2|refine IsS56.far ?_ NB0_211.out _)|exact HI0.out))):gb233≠g));replace HI0:=aM (IsS56.below (by repeat(first|(with_reducible first|exact HI0.out|apply IsS56.alloc|apply IsS56.drewN|apply IsS56.drew|apply IsS56.set_1|apply IsS56.set_2|refine IsS56.far ?_ NB0_211.out _)|exact HI0.out)) hb);clear hb hbox hg;have hnb28:=NB233_211.out;have hnc28:=NB211_233.out;have hnb29:=NB233_0.out;have hnc29:=NB0_233.out;obtain ⟨hcz30_0,hcz30_1,hfz30_0,hfz30_1⟩:=f2Z BK233.out)|((with_reducible refine gate_callee (f:=40) rfl ?_);refine goesL_ (some 26) rfl rfl Tryd.func40 (by kernel_rfl) rfl #[.agg #[.slice Ao26 t223.length co26,.slice Ao25 t228.length co25]] rfl aX ?_;(with_reducible refine(s_SurfaceOk.calls k1 _ _ t223 _ _ t228 false _ ?side1 ?side2 ?side3 ?side4 A9.out).mono ?_);(case side1=>exact rcX (fr2 HO225.out BK233.out (.slice Ao26 t223.length co26) (.slice Ao25 t228.length co25)));(case side2=>exact(Kd.R_reads' HO225.out).2.1);(case side3=>exact rcX (fr2 HO230.out BK233.out (.slice Ao26 t223.length co26) (.slice Ao25 t228.length co25)));(case side4=>exact(Kd.R_reads' HO230.out).2.1);rintro e w31 ⟨rfl,hb⟩;refine ⟨_,rfl,?_⟩;replace HO225:=aM (Kd.R_below (rX (fr2 HO225.out BK233.out (.slice Ao26 t223.length co26) (.slice Ao25 t228.length co25))) hb);replace HO230:=aM (Kd.R_below (rX (fr2 HO230.out BK233.out (.slice Ao26 t223.length co26) (.slice Ao25 t228.length co25))) hb);replace BK211:=aM (blk_below (g:=gb211) (o:=.cells #[.slice none 0 0,.slice none 0 0] 25 (0,0)) (by(with_reducible repeat(first|refine kN ?_ _|refine kD ?_|refine kA ?_ _));refine blk_far ?_ NB211_233.out _;(with_reducible repeat(first|refine kN ?_ _|refine kD ?_|refine kA ?_ _));refine blk_far ?_ NB211_233.out _;(with_reducible repeat(first|refine kN ?_ _|refine kD ?_|refine kA ?_ _));exact BK211.out) hb);replace BK233:=aM (blk_below (g:=gb233) (o:=.cells #[.slice Ao26 t223.length co26,.slice Ao25 t228.length co25] 25 (0,0)) (by(with_reducible repeat(first|refine kN ?_ _|refine kD ?_|refine kA ?_ _));refine blk_put (cs:=#[.slice Ao26 t223.length co26,.slice none 0 0]) ?_ 1 _ rfl;(with_reducible repeat(first|refine kN ?_ _|refine kD ?_|refine kA ?_ _));refine blk_put (cs:=#[.slice none 0 0,.slice none 0 0]) ?_ 0 _ rfl;(with_reducible repeat(first|refine kN ?_ _|refine kD ?_|refine kA ?_ _));exact BK233.out) hb);replace HK:=aM (KeepBut.trans (by repeat(first|(with_reducible first|exact HK.out|apply KeepBut.set_|apply keep_drewN|apply keep_drew|apply keep_alloc|refine keep_far ?_ GW211.out _|refine keep_far ?_ GW233.out _)|exact HK.out)) (KeepBut.of_below hb g none) (.inl rfl));replace HB:=aM (below_step (bX3 HB.out (IsS56.ge HI0.out) GE211.out GE233.out) hb);replace HI0:=aM (IsS56.below (show IsS56 w0 ((w27.setCell ⟨gb233,0,none⟩ (.slice Ao26 t223.length co26)).setCell ⟨gb233,1,none⟩ (.slice Ao25 t228.length co25)) g s0_0 t231 t232 from by repeat(first|(with_reducible first|exact HI0.out|apply IsS56.alloc|apply IsS56.drewN|apply IsS56.drew|apply IsS56.set_1|apply IsS56.set_2|refine IsS56.far ?_ NB0_211.out _|refine IsS56.far ?_ NB0_233.out _)|exact HI0.out)) hb);(try clear hb);(try clear hk);(try clear hi)))
 go_roundg k1
 case measure=>have:=HK1.out;omega
 case rel=>exact ⟨(wrap64 (x6_1+1)),(t231),(t232),vX,H',⟨by have:=HK1.out;omega⟩,⟨kX BK211.out⟩,⟨by repeat(first|(with_reducible first|exact HI0.out|apply IsS56.alloc|apply IsS56.drewN|apply IsS56.drew|apply IsS56.set_1|apply IsS56.set_2|refine IsS56.far ?_ NB0_211.out _|refine IsS56.far ?_ NB0_233.out _)|exact HI0.out)⟩,⟨by repeat(first|(with_reducible first|exact HK.out|apply KeepBut.set_|apply keep_drewN|apply keep_drew|apply keep_alloc|refine keep_far ?_ GW211.out _|refine keep_far ?_ GW233.out _)|exact HK.out)⟩,⟨bX3 HB.out (IsS56.ge HI0.out) GE211.out GE233.out⟩⟩
 }
 }
 {
 rw [if_neg c6] at H
 have c6b0:=decide_eq_false c6
 clear c6
 replace H:=oB H
 obtain ⟨⟨t215,t218,t221⟩,A320,H⟩:=H
 replace H:(some (t215,t218,x1001_1,x1002_1))=some (r1,r2,r3,r4):=H
 have A32:=aM A320
 clear A320
 simp only [Option.some.injEq,Prod.mk.injEq] at H
 obtain ⟨rfl,rfl,rfl,rfl⟩:=H
 go_wp2_with (first|((with_reducible refine gate_callee (f:=20) rfl ?_);refine goesL_ (some 30) rfl rfl Tryd.func20 (by kernel_rfl) rfl #[.int .i64 (wrap64 (1+t212)),.int .i64 1] rfl aX ?_;(with_reducible refine(s_EllOf.calls k1 (wrap64 (1+t212)) 1 t215 t218 t221 _ A32.out).mono ?_);rintro e w33 ⟨v216,v219,rfl,ho0,ho1,hb⟩;refine ⟨_,rfl,?_⟩;have HO217:=aM (Kd.R_lower ho0 (keep_size (w:=w) (g:=g) (row:=none) (by repeat(first|(with_reducible first|exact HK.out|apply KeepBut.set_|apply keep_drewN|apply keep_drew|apply keep_alloc|refine keep_far ?_ GW211.out _)|exact HK.out))));have HO220:=aM (Kd.R_lower ho1 (keep_size (w:=w) (g:=g) (row:=none) (by repeat(first|(with_reducible first|exact HK.out|apply KeepBut.set_|apply keep_drewN|apply keep_drew|apply keep_alloc|refine keep_far ?_ GW211.out _)|exact HK.out))));replace BK211:=aM (bbX BK211.out hb);replace HK:=aM (KeepBut.trans (by repeat(first|(with_reducible first|exact HK.out|apply KeepBut.set_|apply keep_drewN|apply keep_drew|apply keep_alloc|refine keep_far ?_ GW211.out _)|exact HK.out)) (KeepBut.of_below hb g none) (.inl rfl));replace HB:=aM (below_step (bX2 HB.out (IsS56.ge HI0.out) GE211.out) hb);replace HI0:=aM (IsS56.below (by repeat(first|(with_reducible first|exact HI0.out|apply IsS56.alloc|apply IsS56.drewN|apply IsS56.drew|apply IsS56.set_1|apply IsS56.set_2|refine IsS56.far ?_ NB0_211.out _)|exact HI0.out)) hb);(try clear hb);(try clear hk);(try clear hi);(try clear ho0);(try clear ho1))|((with_reducible refine gate_dst (N:=8) rfl ?_);refine bEv (cs:=#[.slice none 0 0,.slice none 0 0]) (t:=25) ?_;intro gb222 hg w34 hbox hb;replace HO217:=aM (Kd.R_below (rX HO217.out) hb);replace HO220:=aM (Kd.R_below (rX HO220.out) hb);replace HB:=aM (below_step (bX2 HB.out (IsS56.ge HI0.out) GE211.out) hb);have BK222:=aM (hbox);have GW222:=aM ((by rw [hg];exact(keep_size (w:=w) (g:=g) (row:=none) (by repeat(first|(with_reducible first|exact HK.out|apply KeepBut.set_|apply keep_drewN|apply keep_drew|apply keep_alloc|refine keep_far ?_ GW211.out _)|exact HK.out))):w.heap.size≤gb222));have GE222:=aM ((Nat.le_trans HW0.out (by rw [hg];exact(keep_size (w:=w) (g:=g) (row:=none) (by repeat(first|(with_reducible first|exact HK.out|apply KeepBut.set_|apply keep_drewN|apply keep_drew|apply keep_alloc|refine keep_far ?_ GW211.out _)|exact HK.out))):w.heap.size≤gb222):w0.heap.size≤gb222));replace HK:=aM (KeepBut.trans (by repeat(first|(with_reducible first|exact HK.out|apply KeepBut.set_|apply keep_drewN|apply keep_drew|apply keep_alloc|refine keep_far ?_ GW211.out _)|exact HK.out)) (KeepBut.of_below hb g none) (.inl rfl));have NB211_222:=aM (neX BK211.out hg);have NB222_211:=aM (nfX BK211.out hg);replace BK211:=aM (bbX BK211.out hb);have NB0_222:=aM ((by rw [hg];exact Nat.ne_of_lt (IsS56.lt (show IsS56 w0 _ g s0_0 x1001_1 x1002_1 from by repeat(first|(with_reducible first|exact HI0.out|apply IsS56.alloc|apply IsS56.drewN|apply IsS56.drew|apply IsS56.set_1|apply IsS56.set_2|refine IsS56.far ?_ NB0_211.out _)|exact HI0.out))):g≠gb222));have NB222_0:=aM ((by rw [hg];exact Nat.ne_of_gt (IsS56.lt (show IsS56 w0 _ g s0_0 x1001_1 x1002_1 from by repeat(first|(with_reducible first|exact HI0.out|apply IsS56.alloc|apply IsS56.drewN|apply IsS56.drew|apply IsS56.set_1|apply IsS56.set_2|refine IsS56.far ?_ NB0_211.out _)|exact HI0.out))):gb222≠g));replace HI0:=aM (IsS56.below (by repeat(first|(with_reducible first|exact HI0.out|apply IsS56.alloc|apply IsS56.drewN|apply IsS56.drew|apply IsS56.set_1|apply IsS56.set_2|refine IsS56.far ?_ NB0_211.out _)|exact HI0.out)) hb);clear hb hbox hg;obtain ⟨Ao35,co35,eo35⟩:=Kd.R_slice HO217.out;subst eo35;have hnb36:=NB222_211.out;have hnc36:=NB211_222.out;have hnb37:=NB222_0.out;have hnc37:=NB0_222.out;have hcz38_0:w34.cell? ⟨gb222,0,none⟩=some (.slice none 0 0):=(blk_cell BK222.out 0).trans rfl;have hcz38_1:w34.cell? ⟨gb222,1,none⟩=some (.slice none 0 0):=(blk_cell BK222.out 1).trans rfl;have hfz38_0:=blk_frozen BK222.out 0;have hfz38_1:=blk_frozen BK222.out 1;obtain ⟨Ao39,co39,eo39⟩:=Kd.R_slice HO220.out;subst eo39;have hnb40:=NB211_0.out;have hnc40:=NB0_211.out;obtain ⟨hcz41_0,hcz41_1,hfz41_0,hfz41_1⟩:=f2Z BK211.out))
 refine bodyPost_ret (results_cell_row rfl _ _ gb211 25 #[.slice Ao35 t215.length co35,.slice Ao39 t218.length co39] (0,0) _ rfl (by(with_reducible repeat(first|refine kN ?_ _|refine kD ?_|refine kA ?_ _));refine blk_put (cs:=#[.slice Ao35 t215.length co35,.slice none 0 0]) ?_ 1 _ rfl;(with_reducible repeat(first|refine kN ?_ _|refine kD ?_|refine kA ?_ _));refine blk_put (cs:=#[.slice none 0 0,.slice none 0 0]) ?_ 0 _ rfl;(with_reducible repeat(first|refine kN ?_ _|refine kD ?_|refine kA ?_ _));refine blk_far ?_ NB211_222.out _;(with_reducible repeat(first|refine kN ?_ _|refine kD ?_|refine kA ?_ _));refine blk_far ?_ NB211_222.out _;(with_reducible repeat(first|refine kN ?_ _|refine kD ?_|refine kA ?_ _));exact BK211.out) Tryd.underlying25 rfl (by kernel_rfl)) rfl ?_
 exact ⟨_,_,eX,by(with_reducible repeat(first|apply rA|apply rN|apply rD));exact Kd.R_mono (Kd.R_far (p:=⟨gb211,1,none⟩) (Kd.R_far (p:=⟨gb211,0,none⟩) (Kd.R_far (p:=⟨gb222,1,none⟩) (Kd.R_far (p:=⟨gb222,0,none⟩) (Kd.R_types (Kd.R_types HO217.out BK222.out (by decide)) BK211.out (by decide)) (fun _ hk=>hk.1.2) (.slice Ao35 t215.length co35)) (fun _ hk=>hk.1.2) (.slice Ao39 t218.length co39)) (fun _ hk=>hk.2) (.slice Ao35 t215.length co35)) (fun _ hk=>hk.2) (.slice Ao39 t218.length co39)) (fun _ hk=>hk.1.1),by(with_reducible repeat(first|apply rA|apply rN|apply rD));exact Kd.R_mono (Kd.R_far (p:=⟨gb211,1,none⟩) (Kd.R_far (p:=⟨gb211,0,none⟩) (Kd.R_far (p:=⟨gb222,1,none⟩) (Kd.R_far (p:=⟨gb222,0,none⟩) (Kd.R_types (Kd.R_types HO220.out BK222.out (by decide)) BK211.out (by decide)) (fun _ hk=>hk.1.2) (.slice Ao35 t215.length co35)) (fun _ hk=>hk.1.2) (.slice Ao39 t218.length co39)) (fun _ hk=>hk.2) (.slice Ao35 t215.length co35)) (fun _ hk=>hk.2) (.slice Ao39 t218.length co39)) (fun _ hk=>hk.1.1),by repeat(first|(with_reducible first|exact HI0.out|apply IsS56.alloc|apply IsS56.drewN|apply IsS56.drew|apply IsS56.set_1|apply IsS56.set_2|refine IsS56.far ?_ NB0_211.out _|refine IsS56.far ?_ NB0_222.out _)|exact HI0.out),bX3 HB.out (IsS56.ge HI0.out) GE211.out GE222.out,by repeat(first|(with_reducible first|exact HK.out|apply KeepBut.set_|apply keep_drewN|apply keep_drew|apply keep_alloc|refine keep_far ?_ GW211.out _|refine keep_far ?_ GW222.out _)|exact HK.out)⟩
 }

/-! ### s_MakeSurface: function 4 -/
def s_MakeSurface.l0 : Nat→Int→List Int→List Int→Option (List Int × List Int)
 | 0,_,_,_=>none
 | k+1,x6,x257000,x257001=>if x6 > 0 then ((s_l05Shear.f k x257000 x257001).bind fun bt260=>(s_MakeSurface.l0 k (wrap64 (x6 - 1)) bt260.1 bt260.2)) else (some (x257000,x257001))
def s_MakeSurface.f (k:Nat) (l0:List Int):Option (List Int × List Int):=(s_l01New.f k l0).bind fun bt236=>((s_l01Below.f bt236.1 bt236.2.1 bt236.2.2 4).bind fun bt240=>(if bt240.1=0 then ((s_l01Below.f bt236.1 bt240.2.1 bt240.2.2 4).bind fun bt243=>((s_l01Below.f bt236.1 bt243.2.1 bt243.2.2 3).bind fun bt246=>((s_TorusOf.f k (wrap64 (1+bt243.1)) (wrap64 (1+bt246.1))).bind fun bt249=>((s_l01Below.f bt236.1 bt246.2.1 bt246.2.2 4).bind fun bt257=>(s_MakeSurface.l0 k bt257.1 bt249.1 bt249.2.1))))) else (if bt240.1=1 then ((s_l01Below.f bt236.1 bt240.2.1 bt240.2.2 4).bind fun bt266=>((s_l01Below.f bt236.1 bt266.2.1 bt266.2.2 4).bind fun bt269=>((s_EllOf.f k (wrap64 (1+bt266.1)) (wrap64 (1+bt269.1))).bind fun bt272=>(some (bt272.1,bt272.2.1))))) else ((s_l03Draw.f k bt236.1 bt240.2.1 bt240.2.2 5).bind fun bt280=>(some (bt280.1,bt280.2.1))))))
theorem s_MakeSurface.calls (k:Nat) (A0:Option Addr) (c0:Nat) (l0:List Int) (r1:List Int) (r2:List Int) (w:World) (hr0:Kd.C (Kd.int .u8) w A0 l0.length l0) (hc0:l0.length≤c0) (h:s_MakeSurface.f k l0=some (r1,r2)) :
  Calls Tryd.prog 4 #[.slice A0 l0.length c0] w fun e w'=>∃ v0_ v1_:Value,e = .returned (.agg #[v0_,v1_])∧Kd.R (Kd.int .i64) 3 w' w.heap.size (fun k_=>some k_≠(v1_:Value).ownBlock) v0_ r1∧Kd.R (Kd.int .i64) 3 w' w.heap.size (fun k_=>some k_≠(v0_:Value).ownBlock) v1_ r2∧Below w.heap.size w w':=by
 have hu25:=Tryd.underlying25
 have HR0:=aM hr0
 have HC0:=aM hc0
 clear hr0 hc0
 have HB:=aM (Below.refl w.heap.size w)
 have H:((s_l01New.f k l0).bind fun bt236=>((s_l01Below.f bt236.1 bt236.2.1 bt236.2.2 4).bind fun bt240=>(if bt240.1=0 then ((s_l01Below.f bt236.1 bt240.2.1 bt240.2.2 4).bind fun bt243=>((s_l01Below.f bt236.1 bt243.2.1 bt243.2.2 3).bind fun bt246=>((s_TorusOf.f k (wrap64 (1+bt243.1)) (wrap64 (1+bt246.1))).bind fun bt249=>((s_l01Below.f bt236.1 bt246.2.1 bt246.2.2 4).bind fun bt257=>(s_MakeSurface.l0 k bt257.1 bt249.1 bt249.2.1))))) else (if bt240.1=1 then ((s_l01Below.f bt236.1 bt240.2.1 bt240.2.2 4).bind fun bt266=>((s_l01Below.f bt236.1 bt266.2.1 bt266.2.2 4).bind fun bt269=>((s_EllOf.f k (wrap64 (1+bt266.1)) (wrap64 (1+bt269.1))).bind fun bt272=>(some (bt272.1,bt272.2.1))))) else ((s_l03Draw.f k bt236.1 bt240.2.1 bt240.2.2 5).bind fun bt280=>(some (bt280.1,bt280.2.1)))))))=some (r1,r2):=h
 clear h
 replace H:=oB H
 obtain ⟨⟨t236,t237,t238⟩,A20,H⟩:=H
 replace H:((s_l01Below.f t236 t237 t238 4).bind fun bt240=>(if bt240.1=0 then ((s_l01Below.f t236 bt240.2.1 bt240.2.2 4).bind fun bt243=>((s_l01Below.f t236 bt243.2.1 bt243.2.2 3).bind fun bt246=>((s_TorusOf.f k (wrap64 (1+bt243.1)) (wrap64 (1+bt246.1))).bind fun bt249=>((s_l01Below.f t236 bt246.2.1 bt246.2.2 4).bind fun bt257=>(s_MakeSurface.l0 k bt257.1 bt249.1 bt249.2.1))))) else (if bt240.1=1 then ((s_l01Below.f t236 bt240.2.1 bt240.2.2 4).bind fun bt266=>((s_l01Below.f t236 bt266.2.1 bt266.2.2 4).bind fun bt269=>((s_EllOf.f k (wrap64 (1+bt266.1)) (wrap64 (1+bt269.1))).bind fun bt272=>(some (bt272.1,bt272.2.1))))) else ((s_l03Draw.f k t236 bt240.2.1 bt240.2.2 5).bind fun bt280=>(some (bt280.1,bt280.2.1))))))=some (r1,r2):=H
 have A2:=aM A20
 clear A20
 replace H:=oB H
 obtain ⟨⟨t240,t241,t242⟩,A30,H⟩:=H
 replace H:(if t240=0 then ((s_l01Below.f t236 t241 t242 4).bind fun bt243=>((s_l01Below.f t236 bt243.2.1 bt243.2.2 3).bind fun bt246=>((s_TorusOf.f k (wrap64 (1+bt243.1)) (wrap64 (1+bt246.1))).bind fun bt249=>((s_l01Below.f t236 bt246.2.1 bt246.2.2 4).bind fun bt257=>(s_MakeSurface.l0 k bt257.1 bt249.1 bt249.2.1))))) else (if t240=1 then ((s_l01Below.f t236 t241 t242 4).bind fun bt266=>((s_l01Below.f t236 bt266.2.1 bt266.2.2 4).bind fun bt269=>((s_EllOf.f k (wrap64 (1+bt266.1)) (wrap64 (1+bt269.1))).bind fun bt272=>(some (bt272.1,bt272.2.1))))) else ((s_l03Draw.f k t236 t241 t242 5).bind fun bt280=>(some (bt280.1,bt280.2.1)))))=some (r1,r2):=H
 have A3:=aM A30
 clear A30
 by_cases c4:t240=0
 {
 rw [if_pos c4] at H
 have c4b0:(t240 == 0)=true:=beq_iff_eq.mpr c4
 have c4b1:(t240 != 0)=false:=bne_eq_false_iff_eq.mpr c4
 clear c4
 replace H:=oB H
 obtain ⟨⟨t243,t244,t245⟩,A50,H⟩:=H
 replace H:((s_l01Below.f t236 t244 t245 3).bind fun bt246=>((s_TorusOf.f k (wrap64 (1+t243)) (wrap64 (1+bt246.1))).bind fun bt249=>((s_l01Below.f t236 bt246.2.1 bt246.2.2 4).bind fun bt257=>(s_MakeSurface.l0 k bt257.1 bt249.1 bt249.2.1))))=some (r1,r2):=H
 have A5:=aM A50
 clear A50
 replace H:=oB H
 obtain ⟨⟨t246,t247,t248⟩,A60,H⟩:=H
 replace H:((s_TorusOf.f k (wrap64 (1+t243)) (wrap64 (1+t246))).bind fun bt249=>((s_l01Below.f t236 t247 t248 4).bind fun bt257=>(s_MakeSurface.l0 k bt257.1 bt249.1 bt249.2.1)))=some (r1,r2):=H
 have A6:=aM A60
 clear A60
 replace H:=oB H
 obtain ⟨⟨t249,t252,t255⟩,A70,H⟩:=H
 replace H:((s_l01Below.f t236 t247 t248 4).bind fun bt257=>(s_MakeSurface.l0 k bt257.1 t249 t252))=some (r1,r2):=H
 have A7:=aM A70
 clear A70
 replace H:=oB H
 obtain ⟨⟨t257,t258,t259⟩,A80,H⟩:=H
 replace H:(s_MakeSurface.l0 k t257 t249 t252)=some (r1,r2):=H
 have A8:=aM A80
 clear A80
 have H':=aM H
 clear H
 go_enter Tryd.func4,Tryd.ntmps4
 go_wp2_with (first|((with_reducible refine gate_dst (N:=2) rfl ?_);refine bEv (cs:=#[.slice none 0 0,.slice none 0 0]) (t:=25) ?_;intro gb235 hg w9 hbox hb;have BK235:=aM (hbox);have GW235:=aM ((szX (below_size (bX HB.out)) hg:w.heap.size≤gb235));have GE235:=GW235;replace HB:=aM (below_step (bX HB.out) hb);clear hb hbox hg)|((with_reducible refine gate_callee (f:=16) rfl ?_);refine goesL_ (some 10) rfl rfl Tryd.func16 (by kernel_rfl) rfl #[.slice A0 l0.length c0] rfl aX ?_;(with_reducible refine(s_l01New.calls k _ _ l0 t236 t237 t238 w _ ?side1 ?side2 ?side3 A2.out).mono ?_);(case side1=>repeat(first|(with_reducible first|exact HB.out|apply bA|apply bN|apply bD|refine below_set ?_ GE235.out)|exact HB.out));(case side2=>exact HR0.out);(case side3=>exact HC0.out);rintro e w10 ⟨g239,rfl,hi,hb,hb2⟩;refine ⟨_,rfl,?_⟩;replace HB:=aM (hb);have HI239:=aM (hi);have NB239_235:=aM (IsS56.ne_blk hi (bbX BK235.out hb2) (by decide));have NB235_239:=aM (Ne.symm (IsS56.ne_blk hi (bbX BK235.out hb2) (by decide)));replace BK235:=aM (bbX BK235.out hb2);(try clear hb);(try clear hb2);(try clear hk);(try clear hi))|((with_reducible refine gate_callee (f:=17) rfl ?_);refine goesL_ (some 12) rfl rfl Tryd.func17 (by kernel_rfl) rfl #[.pointer (some ⟨g239,0,none⟩),.int .i64 4] rfl aX ?_;(with_reducible refine(s_l01Below.calls g239 t236 t237 t238 4 t240 t241 t242 w _ ?side1 ?side2 A3.out).mono ?_);(case side1=>repeat(first|(with_reducible first|exact HI239.out|apply IsS56.alloc|apply IsS56.drewN|apply IsS56.drew|apply IsS56.set_1|apply IsS56.set_2|refine IsS56.far ?_ NB239_235.out _)|exact HI239.out));(case side2=>repeat(first|(with_reducible first|exact HB.out|apply bA|apply bN|apply bD|refine below_set ?_ (IsS56.ge HI239.out)|refine below_set ?_ GE235.out)|exact HB.out));rintro e w11 ⟨rfl,hi,hb,hk⟩;refine ⟨_,rfl,?_⟩;replace BK235:=aM (KeepBut.blk hk (g':=gb235) (o:=.cells #[.slice none 0 0,.slice none 0 0] 25 (0,0)) (kX BK235.out) NB235_239.out (by simp));replace HB:=aM (hb);replace HI239:=aM (hi);(try clear hb);(try clear hb2);(try clear hk);(try clear hi))|((with_reducible refine gate_callee (f:=17) rfl ?_);refine goesL_ (some 17) rfl rfl Tryd.func17 (by kernel_rfl) rfl #[.pointer (some ⟨g239,0,none⟩),.int .i64 4] rfl aX ?_;(with_reducible refine(s_l01Below.calls g239 t236 t241 t242 4 t243 t244 t245 w _ ?side1 ?side2 A5.out).mono ?_);(case side1=>repeat(first|(with_reducible first|exact HI239.out|apply IsS56.alloc|apply IsS56.drewN|apply IsS56.drew|apply IsS56.set_1|apply IsS56.set_2|refine IsS56.far ?_ NB239_235.out _)|exact HI239.out));(case side2=>repeat(first|(with_reducible first|exact HB.out|apply bA|apply bN|apply bD|refine below_set ?_ (IsS56.ge HI239.out)|refine below_set ?_ GE235.out)|exact HB.out));rintro e w12 ⟨rfl,hi,hb,hk⟩;refine ⟨_,rfl,?_⟩;replace BK235:=aM (KeepBut.blk hk (g':=gb235) (o:=.cells #[.slice none 0 0,.slice none 0 0] 25 (0,0)) (kX BK235.out) NB235_239.out (by simp));replace HB:=aM (hb);replace HI239:=aM (hi);(try clear hb);(try clear hb2);(try clear hk);(try clear hi))|((with_reducible refine gate_callee (f:=17) rfl ?_);refine goesL_ (some 20) rfl rfl Tryd.func17 (by kernel_rfl) rfl #[.pointer (some ⟨g239,0,none⟩),.int .i64 3] rfl aX ?_;(with_reducible refine(s_l01Below.calls g239 t236 t244 t245 3 t246 t247 t248 w _ ?side1 ?side2 A6.out).mono ?_);(case side1=>repeat(first|(with_reducible first|exact HI239.out|apply IsS56.alloc|apply IsS56.drewN|apply IsS56.drew|apply IsS56.set_1|apply IsS56.set_2|refine IsS56.far ?_ NB239_235.out _)|exact HI239.out));(case side2=>repeat(first|(with_reducible first|exact HB.out|apply bA|apply bN|apply bD|refine below_set ?_ (IsS56.ge HI239.out)|refine below_set ?_ GE235.out)|exact HB.out));rintro e w13 ⟨rfl,hi,hb,hk⟩;refine ⟨_,rfl,?_⟩;replace BK235:=aM (KeepBut.blk hk (g':=gb235) (o:=.cells #[.slice none 0 0,.slice none 0 0] 25 (0,0)) (kX BK235.out) NB235_239.out (by simp));replace HB:=aM (hb);replace HI239:=aM (hi);(try clear hb);(try clear hb2);(try clear hk);(try clear hi))|((with_reducible refine gate_callee (f:=18) rfl ?_);refine goesL_ (some 22) rfl rfl Tryd.func18 (by kernel_rfl) rfl #[.int .i64 (wrap64 (1+t243)),.int .i64 (wrap64 (1+t246))] rfl aX ?_;(with_reducible refine(s_TorusOf.calls k (wrap64 (1+t243)) (wrap64 (1+t246)) t249 t252 t255 _ A7.out).mono ?_);rintro e w14 ⟨v250,v253,rfl,ho0,ho1,hb⟩;refine ⟨_,rfl,?_⟩;have HO251:=aM (Kd.R_lower ho0 (below_size (bX2 HB.out (IsS56.ge HI239.out) GE235.out)));have HO254:=aM (Kd.R_lower ho1 (below_size (bX2 HB.out (IsS56.ge HI239.out) GE235.out)));replace BK235:=aM (bbX BK235.out hb);replace HB:=aM (below_step (bX2 HB.out (IsS56.ge HI239.out) GE235.out) hb);replace HI239:=aM (IsS56.below (by repeat(first|(with_reducible first|exact HI239.out|apply IsS56.alloc|apply IsS56.drewN|apply IsS56.drew|apply IsS56.set_1|apply IsS56.set_2|refine IsS56.far ?_ NB239_235.out _)|exact HI239.out)) hb);(try clear hb);(try clear hb2);(try clear hk);(try clear hi);(try clear ho0);(try clear ho1))|((with_reducible refine gate_dst (N:=4) rfl ?_);refine bEv (cs:=#[.slice none 0 0,.slice none 0 0]) (t:=25) ?_;intro gb256 hg w15 hbox hb;replace HO251:=aM (Kd.R_below (rX HO251.out) hb);replace HO254:=aM (Kd.R_below (rX HO254.out) hb);have BK256:=aM (hbox);have GW256:=aM ((szX (below_size (bX2 HB.out (IsS56.ge HI239.out) GE235.out)) hg:w.heap.size≤gb256));have GE256:=GW256;replace HB:=aM (below_step (bX2 HB.out (IsS56.ge HI239.out) GE235.out) hb);have NB235_256:=aM (neX BK235.out hg);have NB256_235:=aM (nfX BK235.out hg);replace BK235:=aM (bbX BK235.out hb);have NB239_256:=aM ((by rw [hg];exact Nat.ne_of_lt (IsS56.lt (show IsS56 w _ g239 t236 t247 t248 from by repeat(first|(with_reducible first|exact HI239.out|apply IsS56.alloc|apply IsS56.drewN|apply IsS56.drew|apply IsS56.set_1|apply IsS56.set_2|refine IsS56.far ?_ NB239_235.out _)|exact HI239.out))):g239≠gb256));have NB256_239:=aM ((by rw [hg];exact Nat.ne_of_gt (IsS56.lt (show IsS56 w _ g239 t236 t247 t248 from by repeat(first|(with_reducible first|exact HI239.out|apply IsS56.alloc|apply IsS56.drewN|apply IsS56.drew|apply IsS56.set_1|apply IsS56.set_2|refine IsS56.far ?_ NB239_235.out _)|exact HI239.out))):gb256≠g239));replace HI239:=aM (IsS56.below (by repeat(first|(with_reducible first|exact HI239.out|apply IsS56.alloc|apply IsS56.drewN|apply IsS56.drew|apply IsS56.set_1|apply IsS56.set_2|refine IsS56.far ?_ NB239_235.out _)|exact HI239.out)) hb);clear hb hbox hg;obtain ⟨Ao16,co16,eo16⟩:=Kd.R_slice HO251.out;subst eo16;have hnb17:=NB256_235.out;have hnc17:=NB235_256.out;have hnb18:=NB256_239.out;have hnc18:=NB239_256.out;obtain ⟨hcz19_0,hcz19_1,hfz19_0,hfz19_1⟩:=f2Z BK256.out;obtain ⟨Ao20,co20,eo20⟩:=Kd.R_slice HO254.out;subst eo20)|((with_reducible refine gate_callee (f:=17) rfl ?_);refine goesL_ (some 26) rfl rfl Tryd.func17 (by kernel_rfl) rfl #[.pointer (some ⟨g239,0,none⟩),.int .i64 4] rfl aX ?_;(with_reducible refine(s_l01Below.calls g239 t236 t247 t248 4 t257 t258 t259 w _ ?side1 ?side2 A8.out).mono ?_);(case side1=>repeat(first|(with_reducible first|exact HI239.out|apply IsS56.alloc|apply IsS56.drewN|apply IsS56.drew|apply IsS56.set_1|apply IsS56.set_2|refine IsS56.far ?_ NB239_235.out _|refine IsS56.far ?_ NB239_256.out _)|exact HI239.out));(case side2=>repeat(first|(with_reducible first|exact HB.out|apply bA|apply bN|apply bD|refine below_set ?_ (IsS56.ge HI239.out)|refine below_set ?_ GE235.out|refine below_set ?_ GE256.out)|exact HB.out));rintro e w21 ⟨rfl,hi,hb,hk⟩;refine ⟨_,rfl,?_⟩;replace BK235:=aM (KeepBut.blk hk (g':=gb235) (o:=.cells #[.slice none 0 0,.slice none 0 0] 25 (0,0)) (by(with_reducible repeat(first|refine kN ?_ _|refine kD ?_|refine kA ?_ _));refine blk_far ?_ NB235_256.out _;(with_reducible repeat(first|refine kN ?_ _|refine kD ?_|refine kA ?_ _));refine blk_far ?_ NB235_256.out _;(with_reducible repeat(first|refine kN ?_ _|refine kD ?_|refine kA ?_ _));exact BK235.out) NB235_239.out (by simp));replace HO251:=aM (Kd.R_mono (Kd.R_keep (IsS56.apart (show IsS56 w _ g239 t236 t247 t248 from by repeat(first|(with_reducible first|exact HI239.out|apply IsS56.alloc|apply IsS56.drewN|apply IsS56.drew|apply IsS56.set_1|apply IsS56.set_2|refine IsS56.far ?_ NB239_235.out _|refine IsS56.far ?_ NB239_256.out _)|exact HI239.out)) (rX (fr2 HO251.out BK256.out (.slice Ao16 t249.length co16) (.slice Ao20 t252.length co20))) (by decide)) hk (fun _ h=>h.2)) (fun _ h=>h.1));replace HO254:=aM (Kd.R_mono (Kd.R_keep (IsS56.apart (show IsS56 w _ g239 t236 t247 t248 from by repeat(first|(with_reducible first|exact HI239.out|apply IsS56.alloc|apply IsS56.drewN|apply IsS56.drew|apply IsS56.set_1|apply IsS56.set_2|refine IsS56.far ?_ NB239_235.out _|refine IsS56.far ?_ NB239_256.out _)|exact HI239.out)) (rX (fr2 HO254.out BK256.out (.slice Ao16 t249.length co16) (.slice Ao20 t252.length co20))) (by decide)) hk (fun _ h=>h.2)) (fun _ h=>h.1));replace BK256:=aM (KeepBut.blk hk (g':=gb256) (o:=.cells #[.slice Ao16 t249.length co16,.slice Ao20 t252.length co20] 25 (0,0)) (by(with_reducible repeat(first|refine kN ?_ _|refine kD ?_|refine kA ?_ _));refine blk_put (cs:=#[.slice Ao16 t249.length co16,.slice none 0 0]) ?_ 1 _ rfl;(with_reducible repeat(first|refine kN ?_ _|refine kD ?_|refine kA ?_ _));refine blk_put (cs:=#[.slice none 0 0,.slice none 0 0]) ?_ 0 _ rfl;(with_reducible repeat(first|refine kN ?_ _|refine kD ?_|refine kA ?_ _));exact BK256.out) NB256_239.out (by simp));replace HB:=aM (hb);replace HI239:=aM (hi);(try clear hb);(try clear hb2);(try clear hk);(try clear hi)))
 go_loopg [6] k (fun kq v6 w'=>∃ (x6_1:Int) (x257000_1:List Int) (x257001_1:List Int) (u257000:Value) (u257001:Value),v6 = .int .i64 x6_1∧Aside0 (s_MakeSurface.l0 kq x6_1 x257000_1 x257001_1=some (r1,r2))∧Aside0 (kq≤k)∧Aside0 (Kd.R (Kd.int .i64) 3 w' w.heap.size (fun k_=>some k_≠(u257001:Value).ownBlock) u257000 x257000_1)∧Aside0 (Kd.R (Kd.int .i64) 3 w' w.heap.size (fun k_=>some k_≠(u257000:Value).ownBlock) u257001 x257001_1)∧Aside0 (w'.heap[gb235]? = some (.cells #[(.slice none 0 0),(.slice none 0 0)] 25 (0,0)))∧Aside0 (w'.heap[gb256]? = some (.cells #[u257000,u257001] 25 (0,0)))∧Aside0 (Below w.heap.size w w'))
 case atStart=>exact ⟨(t257),(t249),(t252),(.slice Ao16 t249.length co16),(.slice Ao20 t252.length co20),vX,H',⟨Nat.le_refl _⟩,⟨rX HO251.out⟩,⟨rX HO254.out⟩,⟨kX BK235.out⟩,⟨kX BK256.out⟩,⟨bX3 HB.out (IsS56.ge HI239.out) GE235.out GE256.out⟩⟩
 case round =>
 clear H'
 try clear c4
 try clear c4b0
 try clear c4b1
 try clear hcz19_0
 try clear hcz19_1
 try clear hfz19_0
 try clear hfz19_1
 obtain ⟨x6_1,x257000_1,x257001_1,u257000,u257001,rfl,HA,HK1,HO_257000,HO_257001,BK235,BK256,HB⟩:=hrel
 cases gk with
 | zero=>exact absurd HA.out (by simp [s_MakeSurface.l0])
 | succ k1 =>
 have H:=HA.out
 clear HA
 simp only [s_MakeSurface.l0] at H
 by_cases c22:x6_1 > 0
 {
 rw [if_pos c22] at H
 have c22b0:=decide_eq_true c22
 clear c22
 replace H:=oB H
 obtain ⟨⟨t260,t263⟩,A230,H⟩:=H
 replace H:(s_MakeSurface.l0 k1 (wrap64 (x6_1 - 1)) t260 t263)=some (r1,r2):=H
 have A23:=aM A230
 clear A230
 have H':=aM H
 clear H
 have hnb24:=NB256_235.out
 have hnc24:=NB235_256.out
 obtain ⟨hcz25_0,hcz25_1,hfz25_0,hfz25_1⟩:=f2Z BK256.out
 obtain ⟨Ao26,co26,eo26⟩:=Kd.R_slice HO_257000.out
 subst eo26
 obtain ⟨Ao27,co27,eo27⟩:=Kd.R_slice HO_257001.out
 subst eo27
 go_wp2_with (first|((with_reducible refine gate_callee (f:=19) rfl ?_);refine goesL_ (some 32) rfl rfl Tryd.func19 (by kernel_rfl) rfl #[.agg #[.slice Ao26 x257000_1.length co26,.slice Ao27 x257001_1.length co27]] rfl aX ?_;(with_reducible refine(s_l05Shear.calls k1 _ _ x257000_1 _ _ x257001_1 t260 t263 _ ?side1 ?side2 ?side3 ?side4 A23.out).mono ?_);(case side1=>exact cX (Kd.R_reads' HO_257000.out).2.2);(case side2=>exact(Kd.R_reads' HO_257000.out).2.1);(case side3=>exact cX (Kd.R_reads' HO_257001.out).2.2);(case side4=>exact(Kd.R_reads' HO_257001.out).2.1);rintro e w28 ⟨v261,v264,rfl,ho0,ho1,hb⟩;refine ⟨_,rfl,?_⟩;have HO262:=aM (Kd.R_lower (Kd.R_new' (Kd.R_new' ho0 (Kd.R_lt (rX HO_257000.out))) (Kd.R_lt (rX HO_257001.out))) (below_size (bX2 HB.out GE235.out GE256.out)));have HO265:=aM (Kd.R_lower (Kd.R_new' (Kd.R_new' ho1 (Kd.R_lt (rX HO_257000.out))) (Kd.R_lt (rX HO_257001.out))) (below_size (bX2 HB.out GE235.out GE256.out)));replace HO_257000:=aM (Kd.R_mono (Kd.R_told (Kd.R_told (Kd.R_old (rX HO_257000.out) hb) (Kd.R_base ho0)) (Kd.R_base ho1)) (fun _ h_=>h_.1));replace HO_257001:=aM (Kd.R_mono (Kd.R_told (Kd.R_told (Kd.R_old (rX HO_257001.out) hb) (Kd.R_base ho0)) (Kd.R_base ho1)) (fun _ h_=>h_.1));replace BK235:=aM (bbX BK235.out hb);replace BK256:=aM (bbX BK256.out hb);replace HB:=aM (below_step (bX2 HB.out GE235.out GE256.out) hb);(try clear hb);(try clear hb2);(try clear hk);(try clear hi);(try clear ho0);(try clear ho1);obtain ⟨Ao29,co29,eo29⟩:=Kd.R_slice HO262.out;subst eo29;obtain ⟨hcz30_0,hcz30_1,hfz30_0,hfz30_1⟩:=f2Z BK256.out;obtain ⟨Ao31,co31,eo31⟩:=Kd.R_slice HO265.out;subst eo31))
 go_roundg k1
 case measure=>have:=HK1.out;omega
 case rel=>exact ⟨(wrap64 (x6_1 - 1)),(t260),(t263),(.slice Ao29 t260.length co29),(.slice Ao31 t263.length co31),vX,H',⟨by have:=HK1.out;omega⟩,⟨by(with_reducible repeat(first|apply rA|apply rN|apply rD));exact Kd.R_mono (Kd.R_far (p:=⟨gb256,1,none⟩) (Kd.R_far (p:=⟨gb256,0,none⟩) (Kd.R_types HO262.out BK256.out (by decide)) (fun _ hk=>hk.2) (.slice Ao29 t260.length co29)) (fun _ hk=>hk.2) (.slice Ao31 t263.length co31)) (fun _ hk=>hk.1.1.1)⟩,⟨by(with_reducible repeat(first|apply rA|apply rN|apply rD));exact Kd.R_mono (Kd.R_far (p:=⟨gb256,1,none⟩) (Kd.R_far (p:=⟨gb256,0,none⟩) (Kd.R_types HO265.out BK256.out (by decide)) (fun _ hk=>hk.2) (.slice Ao29 t260.length co29)) (fun _ hk=>hk.2) (.slice Ao31 t263.length co31)) (fun _ hk=>hk.1.1.1)⟩,⟨by(with_reducible repeat(first|refine kN ?_ _|refine kD ?_|refine kA ?_ _));refine blk_far ?_ NB235_256.out _;(with_reducible repeat(first|refine kN ?_ _|refine kD ?_|refine kA ?_ _));refine blk_far ?_ NB235_256.out _;(with_reducible repeat(first|refine kN ?_ _|refine kD ?_|refine kA ?_ _));exact BK235.out⟩,⟨by(with_reducible repeat(first|refine kN ?_ _|refine kD ?_|refine kA ?_ _));refine blk_put (cs:=#[.slice Ao29 t260.length co29,.slice Ao27 x257001_1.length co27]) ?_ 1 _ rfl;(with_reducible repeat(first|refine kN ?_ _|refine kD ?_|refine kA ?_ _));refine blk_put (cs:=#[.slice Ao26 x257000_1.length co26,.slice Ao27 x257001_1.length co27]) ?_ 0 _ rfl;(with_reducible repeat(first|refine kN ?_ _|refine kD ?_|refine kA ?_ _));exact BK256.out⟩,⟨bX2 HB.out GE235.out GE256.out⟩⟩
 }
 {
 rw [if_neg c22] at H
 have c22b0:=decide_eq_false c22
 clear c22
 simp only [Option.some.injEq,Prod.mk.injEq] at H
 obtain ⟨rfl,rfl⟩:=H
 have hnb32:=NB256_235.out
 have hnc32:=NB235_256.out
 obtain ⟨hcz33_0,hcz33_1,hfz33_0,hfz33_1⟩:=f2Z BK256.out
 obtain ⟨Ao34,co34,eo34⟩:=Kd.R_slice HO_257000.out
 subst eo34
 obtain ⟨hcz35_0,hcz35_1,hfz35_0,hfz35_1⟩:=f2Z BK235.out
 obtain ⟨Ao36,co36,eo36⟩:=Kd.R_slice HO_257001.out
 subst eo36
 go_wp2
 refine bodyPost_ret (results_cell_row rfl _ _ gb235 25 #[.slice Ao34 x257000_1.length co34,.slice Ao36 x257001_1.length co36] (0,0) _ rfl (by(with_reducible repeat(first|refine kN ?_ _|refine kD ?_|refine kA ?_ _));refine blk_put (cs:=#[.slice Ao34 x257000_1.length co34,.slice none 0 0]) ?_ 1 _ rfl;(with_reducible repeat(first|refine kN ?_ _|refine kD ?_|refine kA ?_ _));refine blk_put (cs:=#[.slice none 0 0,.slice none 0 0]) ?_ 0 _ rfl;(with_reducible repeat(first|refine kN ?_ _|refine kD ?_|refine kA ?_ _));exact BK235.out) Tryd.underlying25 rfl (by kernel_rfl)) rfl ?_
 exact ⟨_,_,eX,by(with_reducible repeat(first|apply rA|apply rN|apply rD));exact Kd.R_mono (Kd.R_far (p:=⟨gb235,1,none⟩) (Kd.R_far (p:=⟨gb235,0,none⟩) (Kd.R_types HO_257000.out BK235.out (by decide)) (fun _ hk=>hk.2) (.slice Ao34 x257000_1.length co34)) (fun _ hk=>hk.2) (.slice Ao36 x257001_1.length co36)) (fun _ hk=>hk.1),by(with_reducible repeat(first|apply rA|apply rN|apply rD));exact Kd.R_mono (Kd.R_far (p:=⟨gb235,1,none⟩) (Kd.R_far (p:=⟨gb235,0,none⟩) (Kd.R_types HO_257001.out BK235.out (by decide)) (fun _ hk=>hk.2) (.slice Ao34 x257000_1.length co34)) (fun _ hk=>hk.2) (.slice Ao36 x257001_1.length co36)) (fun _ hk=>hk.1),bX2 HB.out GE235.out GE256.out⟩
 }
 }
 {
 rw [if_neg c4] at H
 have c4b0:(t240 == 0)=false:=beq_eq_false_iff_ne.mpr c4
 have c4b1:(t240 != 0)=true:=bne_iff_ne.mpr c4
 by_cases c37:t240=1
 {
 rw [if_pos c37] at H
 have c37b0:(t240 == 1)=true:=beq_iff_eq.mpr c37
 have c37b1:(t240 != 1)=false:=bne_eq_false_iff_eq.mpr c37
 clear c37
 replace H:=oB H
 obtain ⟨⟨t266,t267,t268⟩,A380,H⟩:=H
 replace H:((s_l01Below.f t236 t267 t268 4).bind fun bt269=>((s_EllOf.f k (wrap64 (1+t266)) (wrap64 (1+bt269.1))).bind fun bt272=>(some (bt272.1,bt272.2.1))))=some (r1,r2):=H
 have A38:=aM A380
 clear A380
 replace H:=oB H
 obtain ⟨⟨t269,t270,t271⟩,A390,H⟩:=H
 replace H:((s_EllOf.f k (wrap64 (1+t266)) (wrap64 (1+t269))).bind fun bt272=>(some (bt272.1,bt272.2.1)))=some (r1,r2):=H
 have A39:=aM A390
 clear A390
 replace H:=oB H
 obtain ⟨⟨t272,t275,t278⟩,A400,H⟩:=H
 replace H:(some (t272,t275))=some (r1,r2):=H
 have A40:=aM A400
 clear A400
 simp only [Option.some.injEq,Prod.mk.injEq] at H
 obtain ⟨rfl,rfl⟩:=H
 go_enter Tryd.func4,Tryd.ntmps4
 go_wp2_with (first|((with_reducible refine gate_dst (N:=2) rfl ?_);refine bEv (cs:=#[.slice none 0 0,.slice none 0 0]) (t:=25) ?_;intro gb235 hg w41 hbox hb;have BK235:=aM (hbox);have GW235:=aM ((szX (below_size (bX HB.out)) hg:w.heap.size≤gb235));have GE235:=GW235;replace HB:=aM (below_step (bX HB.out) hb);clear hb hbox hg)|((with_reducible refine gate_callee (f:=16) rfl ?_);refine goesL_ (some 10) rfl rfl Tryd.func16 (by kernel_rfl) rfl #[.slice A0 l0.length c0] rfl aX ?_;(with_reducible refine(s_l01New.calls k _ _ l0 t236 t237 t238 w _ ?side1 ?side2 ?side3 A2.out).mono ?_);(case side1=>repeat(first|(with_reducible first|exact HB.out|apply bA|apply bN|apply bD|refine below_set ?_ GE235.out)|exact HB.out));(case side2=>exact HR0.out);(case side3=>exact HC0.out);rintro e w42 ⟨g239,rfl,hi,hb,hb2⟩;refine ⟨_,rfl,?_⟩;replace HB:=aM (hb);have HI239:=aM (hi);have NB239_235:=aM (IsS56.ne_blk hi (bbX BK235.out hb2) (by decide));have NB235_239:=aM (Ne.symm (IsS56.ne_blk hi (bbX BK235.out hb2) (by decide)));replace BK235:=aM (bbX BK235.out hb2);(try clear hb);(try clear hb2);(try clear hk);(try clear hi))|((with_reducible refine gate_callee (f:=17) rfl ?_);refine goesL_ (some 12) rfl rfl Tryd.func17 (by kernel_rfl) rfl #[.pointer (some ⟨g239,0,none⟩),.int .i64 4] rfl aX ?_;(with_reducible refine(s_l01Below.calls g239 t236 t237 t238 4 t240 t241 t242 w _ ?side1 ?side2 A3.out).mono ?_);(case side1=>repeat(first|(with_reducible first|exact HI239.out|apply IsS56.alloc|apply IsS56.drewN|apply IsS56.drew|apply IsS56.set_1|apply IsS56.set_2|refine IsS56.far ?_ NB239_235.out _)|exact HI239.out));(case side2=>repeat(first|(with_reducible first|exact HB.out|apply bA|apply bN|apply bD|refine below_set ?_ (IsS56.ge HI239.out)|refine below_set ?_ GE235.out)|exact HB.out));rintro e w43 ⟨rfl,hi,hb,hk⟩;refine ⟨_,rfl,?_⟩;replace BK235:=aM (KeepBut.blk hk (g':=gb235) (o:=.cells #[.slice none 0 0,.slice none 0 0] 25 (0,0)) (kX BK235.out) NB235_239.out (by simp));replace HB:=aM (hb);replace HI239:=aM (hi);(try clear hb);(try clear hb2);(try clear hk);(try clear hi))|((with_reducible refine gate_callee (f:=17) rfl ?_);refine goesL_ (some 38) rfl rfl Tryd.func17 (by kernel_rfl) rfl #[.pointer (some ⟨g239,0,none⟩),.int .i64 4] rfl aX ?_;(with_reducible refine(s_l01Below.calls g239 t236 t241 t242 4 t266 t267 t268 w _ ?side1 ?side2 A38.out).mono ?_);(case side1=>repeat(first|(with_reducible first|exact HI239.out|apply IsS56.alloc|apply IsS56.drewN|apply IsS56.drew|apply IsS56.set_1|apply IsS56.set_2|refine IsS56.far ?_ NB239_235.out _)|exact HI239.out));(case side2=>repeat(first|(with_reducible first|exact HB.out|apply bA|apply bN|apply bD|refine below_set ?_ (IsS56.ge HI239.out)|refine below_set ?_ GE235.out)|exact HB.out));rintro e w44 ⟨rfl,hi,hb,hk⟩;refine ⟨_,rfl,?_⟩;replace BK235:=aM (KeepBut.blk hk (g':=gb235) (o:=.cells #[.slice none 0 0,.slice none 0 0] 25 (0,0)) (kX BK235.out) NB235_239.out (by simp));replace HB:=aM (hb);replace HI239:=aM (hi);(try clear hb);(try clear hb2);(try clear hk);(try clear hi))|((with_reducible refine gate_callee (f:=17) rfl ?_);refine goesL_ (some 41) rfl rfl Tryd.func17 (by kernel_rfl) rfl #[.pointer (some ⟨g239,0,none⟩),.int .i64 4] rfl aX ?_;(with_reducible refine(s_l01Below.calls g239 t236 t267 t268 4 t269 t270 t271 w _ ?side1 ?side2 A39.out).mono ?_);(case side1=>repeat(first|(with_reducible first|exact HI239.out|apply IsS56.alloc|apply IsS56.drewN|apply IsS56.drew|apply IsS56.set_1|apply IsS56.set_2|refine IsS56.far ?_ NB239_235.out _)|exact HI239.out));(case side2=>repeat(first|(with_reducible first|exact HB.out|apply bA|apply bN|apply bD|refine below_set ?_ (IsS56.ge HI239.out)|refine below_set ?_ GE235.out)|exact HB.out));rintro e w45 ⟨rfl,hi,hb,hk⟩;refine ⟨_,rfl,?_⟩;replace BK235:=aM (KeepBut.blk hk (g':=gb235) (o:=.cells #[.slice none 0 0,.slice none 0 0] 25 (0,0)) (kX BK235.out) NB235_239.out (by simp));replace HB:=aM (hb);replace HI239:=aM (hi);(try clear hb);(try clear hb2);(try clear hk);(try clear hi))|((with_reducible refine gate_callee (f:=20) rfl ?_);refine goesL_ (some 43) rfl rfl Tryd.func20 (by kernel_rfl) rfl #[.int .i64 (wrap64 (1+t266)),.int .i64 (wrap64 (1+t269))] rfl aX ?_;(with_reducible refine(s_EllOf.calls k (wrap64 (1+t266)) (wrap64 (1+t269)) t272 t275 t278 _ A40.out).mono ?_);rintro e w46 ⟨v273,v276,rfl,ho0,ho1,hb⟩;refine ⟨_,rfl,?_⟩;have HO274:=aM (Kd.R_lower ho0 (below_size (bX2 HB.out (IsS56.ge HI239.out) GE235.out)));have HO277:=aM (Kd.R_lower ho1 (below_size (bX2 HB.out (IsS56.ge HI239.out) GE235.out)));replace BK235:=aM (bbX BK235.out hb);replace HB:=aM (below_step (bX2 HB.out (IsS56.ge HI239.out) GE235.out) hb);replace HI239:=aM (IsS56.below (by repeat(first|(with_reducible first|exact HI239.out|apply IsS56.alloc|apply IsS56.drewN|apply IsS56.drew|apply IsS56.set_1|apply IsS56.set_2|refine IsS56.far ?_ NB239_235.out _)|exact HI239.out)) hb);(try clear hb);(try clear hb2);(try clear hk);(try clear hi);(try clear ho0);(try clear ho1))|((with_reducible refine gate_dst (N:=7) rfl ?_);refine bEv (cs:=#[.slice none 0 0,.slice none 0 0]) (t:=25) ?_;intro gb279 hg w47 hbox hb;replace HO274:=aM (Kd.R_below (rX HO274.out) hb);replace HO277:=aM (Kd.R_below (rX HO277.out) hb);have BK279:=aM (hbox);have GW279:=aM ((szX (below_size (bX2 HB.out (IsS56.ge HI239.out) GE235.out)) hg:w.heap.size≤gb279));have GE279:=GW279;replace HB:=aM (below_step (bX2 HB.out (IsS56.ge HI239.out) GE235.out) hb);have NB235_279:=aM (neX BK235.out hg);have NB279_235:=aM (nfX BK235.out hg);replace BK235:=aM (bbX BK235.out hb);have NB239_279:=aM ((by rw [hg];exact Nat.ne_of_lt (IsS56.lt (show IsS56 w _ g239 t236 t270 t271 from by repeat(first|(with_reducible first|exact HI239.out|apply IsS56.alloc|apply IsS56.drewN|apply IsS56.drew|apply IsS56.set_1|apply IsS56.set_2|refine IsS56.far ?_ NB239_235.out _)|exact HI239.out))):g239≠gb279));have NB279_239:=aM ((by rw [hg];exact Nat.ne_of_gt (IsS56.lt (show IsS56 w _ g239 t236 t270 t271 from by repeat(first|(with_reducible first|exact HI239.out|apply IsS56.alloc|apply IsS56.drewN|apply IsS56.drew|apply IsS56.set_1|apply IsS56.set_2|refine IsS56.far ?_ NB239_235.out _)|exact HI239.out))):gb279≠g239));replace HI239:=aM (IsS56.below (by repeat(first|(with_reducible first|exact HI239.out|apply IsS56.alloc|apply IsS56.drewN|apply IsS56.drew|apply IsS56.set_1|apply IsS56.set_2|refine IsS56.far ?_ NB239_235.out _)|exact HI239.out)) hb);clear hb hbox hg;obtain ⟨Ao48,co48,eo48⟩:=Kd.R_slice HO274.out;subst eo48;have hnb49:=NB279_235.out;have hnc49:=NB235_279.out;have hnb50:=NB279_239.out;have hnc50:=NB239_279.out;have hcz51_0:w47.cell? ⟨gb279,0,none⟩=some (.slice none 0 0):=(blk_cell BK279.out 0).trans rfl;have hcz51_1:w47.cell? ⟨gb279,1,none⟩=some (.slice none 0 0):=(blk_cell BK279.out 1).trans rfl;have hfz51_0:=blk_frozen BK279.out 0;have hfz51_1:=blk_frozen BK279.out 1;obtain ⟨Ao52,co52,eo52⟩:=Kd.R_slice HO277.out;subst eo52;have hnb53:=NB235_239.out;have hnc53:=NB239_235.out;obtain ⟨hcz54_0,hcz54_1,hfz54_0,hfz54_1⟩:=f2Z BK235.out))
 refine bodyPost_ret (results_cell_row rfl _ _ gb235 25 #[.slice Ao48 t272.length co48,.slice Ao52 t275.length co52] (0,0) _ rfl (by(with_reducible repeat(first|refine kN ?_ _|refine kD ?_|refine kA ?_ _));refine blk_put (cs:=#[.slice Ao48 t272.length co48,.slice none 0 0]) ?_ 1 _ rfl;(with_reducible repeat(first|refine kN ?_ _|refine kD ?_|refine kA ?_ _));refine blk_put (cs:=#[.slice none 0 0,.slice none 0 0]) ?_ 0 _ rfl;(with_reducible repeat(first|refine kN ?_ _|refine kD ?_|refine kA ?_ _));refine blk_far ?_ NB235_279.out _;(with_reducible repeat(first|refine kN ?_ _|refine kD ?_|refine kA ?_ _));refine blk_far ?_ NB235_279.out _;(with_reducible repeat(first|refine kN ?_ _|refine kD ?_|refine kA ?_ _));exact BK235.out) Tryd.underlying25 rfl (by kernel_rfl)) rfl ?_
 exact ⟨_,_,eX,by(with_reducible repeat(first|apply rA|apply rN|apply rD));exact Kd.R_mono (Kd.R_far (p:=⟨gb235,1,none⟩) (Kd.R_far (p:=⟨gb235,0,none⟩) (Kd.R_far (p:=⟨gb279,1,none⟩) (Kd.R_far (p:=⟨gb279,0,none⟩) (Kd.R_types (Kd.R_types HO274.out BK279.out (by decide)) BK235.out (by decide)) (fun _ hk=>hk.1.2) (.slice Ao48 t272.length co48)) (fun _ hk=>hk.1.2) (.slice Ao52 t275.length co52)) (fun _ hk=>hk.2) (.slice Ao48 t272.length co48)) (fun _ hk=>hk.2) (.slice Ao52 t275.length co52)) (fun _ hk=>hk.1.1),by(with_reducible repeat(first|apply rA|apply rN|apply rD));exact Kd.R_mono (Kd.R_far (p:=⟨gb235,1,none⟩) (Kd.R_far (p:=⟨gb235,0,none⟩) (Kd.R_far (p:=⟨gb279,1,none⟩) (Kd.R_far (p:=⟨gb279,0,none⟩) (Kd.R_types (Kd.R_types HO277.out BK279.out (by decide)) BK235.out (by decide)) (fun _ hk=>hk.1.2) (.slice Ao48 t272.length co48)) (fun _ hk=>hk.1.2) (.slice Ao52 t275.length co52)) (fun _ hk=>hk.2) (.slice Ao48 t272.length co48)) (fun _ hk=>hk.2) (.slice Ao52 t275.length co52)) (fun _ hk=>hk.1.1),bX3 HB.out (IsS56.ge HI239.out) GE235.out GE279.out⟩
 }
 {
 rw [if_neg c37] at H
 have c37b0:(t240 == 1)=false:=beq_eq_false_iff_ne.mpr c37
 have c37b1:(t240 != 1)=true:=bne_iff_ne.mpr c37
 replace H:=oB H
 obtain ⟨⟨t280,t283,t286,t287⟩,A550,H⟩:=H
 replace H:(some (t280,t283))=some (r1,r2):=H
 have A55:=aM A550
 clear A550
 simp only [Option.some.injEq,Prod.mk.injEq] at H
 obtain ⟨rfl,rfl⟩:=H
 go_enter Tryd.func4,Tryd.ntmps4
 go_wp2_with (first|((with_reducible refine gate_dst (N:=2) rfl ?_);refine bEv (cs:=#[.slice none 0 0,.slice none 0 0]) (t:=25) ?_;intro gb235 hg w56 hbox hb;have BK235:=aM (hbox);have GW235:=aM ((szX (below_size (bX HB.out)) hg:w.heap.size≤gb235));have GE235:=GW235;replace HB:=aM (below_step (bX HB.out) hb);clear hb hbox hg)|((with_reducible refine gate_callee (f:=16) rfl ?_);refine goesL_ (some 10) rfl rfl Tryd.func16 (by kernel_rfl) rfl #[.slice A0 l0.length c0] rfl aX ?_;(with_reducible refine(s_l01New.calls k _ _ l0 t236 t237 t238 w _ ?side1 ?side2 ?side3 A2.out).mono ?_);(case side1=>repeat(first|(with_reducible first|exact HB.out|apply bA|apply bN|apply bD|refine below_set ?_ GE235.out)|exact HB.out));(case side2=>exact HR0.out);(case side3=>exact HC0.out);rintro e w57 ⟨g239,rfl,hi,hb,hb2⟩;refine ⟨_,rfl,?_⟩;replace HB:=aM (hb);have HI239:=aM (hi);have NB239_235:=aM (IsS56.ne_blk hi (bbX BK235.out hb2) (by decide));have NB235_239:=aM (Ne.symm (IsS56.ne_blk hi (bbX BK235.out hb2) (by decide)));replace BK235:=aM (bbX BK235.out hb2);(try clear hb);(try clear hb2);(try clear hk);(try clear hi))|((with_reducible refine gate_callee (f:=17) rfl ?_);refine goesL_ (some 12) rfl rfl Tryd.func17 (by kernel_rfl) rfl #[.pointer (some ⟨g239,0,none⟩),.int .i64 4] rfl aX ?_;(with_reducible refine(s_l01Below.calls g239 t236 t237 t238 4 t240 t241 t242 w _ ?side1 ?side2 A3.out).mono ?_);(case side1=>repeat(first|(with_reducible first|exact HI239.out|apply IsS56.alloc|apply IsS56.drewN|apply IsS56.drew|apply IsS56.set_1|apply IsS56.set_2|refine IsS56.far ?_ NB239_235.out _)|exact HI239.out));(case side2=>repeat(first|(with_reducible first|exact HB.out|apply bA|apply bN|apply bD|refine below_set ?_ (IsS56.ge HI239.out)|refine below_set ?_ GE235.out)|exact HB.out));rintro e w58 ⟨rfl,hi,hb,hk⟩;refine ⟨_,rfl,?_⟩;replace BK235:=aM (KeepBut.blk hk (g':=gb235) (o:=.cells #[.slice none 0 0,.slice none 0 0] 25 (0,0)) (kX BK235.out) NB235_239.out (by simp));replace HB:=aM (hb);replace HI239:=aM (hi);(try clear hb);(try clear hb2);(try clear hk);(try clear hi))|((with_reducible refine gate_callee (f:=21) rfl ?_);refine goesL_ (some 48) rfl rfl Tryd.func21 (by kernel_rfl) rfl #[.pointer (some ⟨g239,0,none⟩),.int .i64 5] rfl aX ?_;(with_reducible refine(s_l03Draw.calls k g239 t236 t241 t242 5 t280 t283 t286 t287 w _ ?side1 ?side2 A55.out).mono ?_);(case side1=>repeat(first|(with_reducible first|exact HI239.out|apply IsS56.alloc|apply IsS56.drewN|apply IsS56.drew|apply IsS56.set_1|apply IsS56.set_2|refine IsS56.far ?_ NB239_235.out _)|exact HI239.out));(case side2=>repeat(first|(with_reducible first|exact HB.out|apply bA|apply bN|apply bD|refine below_set ?_ (IsS56.ge HI239.out)|refine below_set ?_ GE235.out)|exact HB.out));rintro e w59 ⟨v281,v284,rfl,ho0,ho1,hi,hb,hk⟩;refine ⟨_,rfl,?_⟩;replace BK235:=aM (KeepBut.blk hk (g':=gb235) (o:=.cells #[.slice none 0 0,.slice none 0 0] 25 (0,0)) (kX BK235.out) NB235_239.out (by simp));have HO282:=aM (Kd.R_lower ho0 (below_size (bX2 HB.out (IsS56.ge HI239.out) GE235.out)));have HO285:=aM (Kd.R_lower ho1 (below_size (bX2 HB.out (IsS56.ge HI239.out) GE235.out)));replace HB:=aM (hb);replace HI239:=aM (hi);(try clear hb);(try clear hb2);(try clear hk);(try clear hi);(try clear ho0);(try clear ho1);obtain ⟨Ao60,co60,eo60⟩:=Kd.R_slice HO282.out;subst eo60;have hnb61:=NB235_239.out;have hnc61:=NB239_235.out;obtain ⟨hcz62_0,hcz62_1,hfz62_0,hfz62_1⟩:=f2Z BK235.out;obtain ⟨Ao63,co63,eo63⟩:=Kd.R_slice HO285.out;subst eo63))
 refine bodyPost_ret (results_cell_row rfl _ _ gb235 25 #[.slice Ao60 t280.length co60,.slice Ao63 t283.length co63] (0,0) _ rfl (by(with_reducible repeat(first|refine kN ?_ _|refine kD ?_|refine kA ?_ _));refine blk_put (cs:=#[.slice Ao60 t280.length co60,.slice none 0 0]) ?_ 1 _ rfl;(with_reducible repeat(first|refine kN ?_ _|refine kD ?_|refine kA ?_ _));refine blk_put (cs:=#[.slice none 0 0,.slice none 0 0]) ?_ 0 _ rfl;(with_reducible repeat(first|refine kN ?_ _|refine kD ?_|refine kA ?_ _));exact BK235.out) Tryd.underlying25 rfl (by kernel_rfl)) rfl ?_
 exact ⟨_,_,eX,by(with_reducible repeat(first|apply rA|apply rN|apply rD));exact Kd.R_mono (Kd.R_far (p:=⟨gb235,1,none⟩) (Kd.R_far (p:=⟨gb235,0,none⟩) (Kd.R_types HO282.out BK235.out (by decide)) (fun _ hk=>hk.2) (.slice Ao60 t280.length co60)) (fun _ hk=>hk.2) (.slice Ao63 t283.length co63)) (fun _ hk=>hk.1),by(with_reducible repeat(first|apply rA|apply rN|apply rD));exact Kd.R_mono (Kd.R_far (p:=⟨gb235,1,none⟩) (Kd.R_far (p:=⟨gb235,0,none⟩) (Kd.R_types HO285.out BK235.out (by decide)) (fun _ hk=>hk.2) (.slice Ao60 t280.length co60)) (fun _ hk=>hk.2) (.slice Ao63 t283.length co63)) (fun _ hk=>hk.1),bX2 HB.out (IsS56.ge HI239.out) GE235.out⟩
 }
 }

/-! ### i_PermOk: function 31 -/
/-! by hand -/
def permGo (n:Int):List Int→List Bool→Bool
  | [],_=>true
  | x :: xs,seen=>if x<0 then false else if n≤x then false else if seen.getD x.toNat false=true then false else permGo n xs (seen.set x.toNat true)
def no24 : List Bool:=List.replicate 24 false
theorem no24_len : no24.length=24:=rfl
def permB (p:List Int):Bool:=if p.length≤24 then permGo p.length p no24 else false
def i_PermOk.f (l0:List Int):Option Bool:=some (permB l0)
def flags (l:List Bool):Array Value:=(bools l).toArray
theorem flags_size (l:List Bool):(flags l).size=l.length:=by simp [flags,bools]
theorem flags_one (l:List Bool):(flags l).all (·.oneCell')=true:=by
 simp [flags,bools,Value.oneCell']
theorem flags_get (l:List Bool) (i:Int) (h0:0≤i) (h:i<l.length):(flags l)[i.toNat]? = some (.bool (l.getD i.toNat false)):=by
 have:i.toNat<l.length:=by omega
 simp [flags,bools,this]
theorem flags_set (l:List Bool) (i:Nat) (b:Bool):(flags l).setIfInBounds i (.bool b)=flags (l.set i b):=by
 simp [flags,bools]
theorem i_PermOk.calls_le (A0:Option Addr) (c0:Nat) (l0:List (Int)) (r:Bool) (w:World) (hr0:Kd.C (Kd.int .i64) w A0 l0.length l0) (hc0:l0.length≤c0) (hle:l0.length≤24) (hres:permGo l0.length l0 no24=r) :
    Calls Tryd.prog 31 #[.slice A0 l0.length c0] w fun e w'=>e = .returned (.bool r)∧Below w.heap.size w w':=by
  have HR0:=aM hr0
  clear hr0
  have HRES:=aM hres
  clear hres
  have hu:=Tryd.underlying71
  have hb24:decide (24<(l0.length:Int))=false:=decide_eq_false (by omega)
  have HF:Aside0 (flags no24=#[.bool false,.bool false,.bool false,.bool false,.bool false,.bool false,.bool false,.bool false,.bool false,.bool false,.bool false,.bool false,.bool false,.bool false,.bool false,.bool false,.bool false,.bool false,.bool false,.bool false,.bool false,.bool false,.bool false,.bool false]):=⟨rfl⟩
  go_enter Tryd.func31,Tryd.ntmps31
  go_wp2_with (first
    | ((with_reducible refine gate_dst (N:=6) rfl ?_);refine wpList_build rfl 71 #[] rfl (by kernel_rfl) ?_;rw [show (Value.agg ((Tryd.prog.built 71 ((#[]:Array (Nat × Operand)).map fun (i,x)=>(i,Act.eval _ x)).toList).getD #[])) = .agg (flags no24) from by kernel_rfl])
    | ((with_reducible refine gate_dst (N:=3) rfl ?_);refine box_event ?hg (N:=3) ?hd (cs:=flags no24) (t:=71) ?hr ?_;(case hd=>rfl);(case hg=>rfl);(case hr=>rw [HF.out];first|(go_simp;done)|(go_simp;rfl));intro gb hg w8 hbox hb;have BK:=aM hbox;have HB:=aM hb;have GB:=aM hg;clear hbox hb hg)
    | (refine wpList_store_row rfl 71 (.tmp 3) (.tmp 6) rfl gb (flags no24) rfl rfl 71 (flags no24) BK.out (by kernel_rfl) rfl (flags_one _) ?_))
  have HC:=aM (show (w8.setRow gb (flags no24)).heap[gb]? = some (.cells (flags no24) 71 (0,0)) from setRow_heap w8 gb (flags no24) (flags no24) 71 _ BK.out)
  have HB2:=aM (show Below w.heap.size w (w8.setRow gb (flags no24)) from below_setRow HB.out (by rw [GB.out];exact Nat.le_refl _) _)
  go_loopg [12] (l0.length+1) (fun kq v12 w'=>∃ (i:Int) (seen:List Bool),v12 = .int .i64 i∧Aside0 (0≤i∧i≤l0.length∧(kq:Int)+i=l0.length+1∧seen.length=24∧permGo l0.length (l0.drop i.toNat) seen=r)∧Aside0 (w'.heap[gb]? = some (.cells (flags seen) 71 (0,0)))∧Aside0 (Below w.heap.size w w'))
  case atStart=>exact ⟨0,no24,rfl,⟨by omega,by omega,by simp,no24_len,HRES.out⟩,HC,HB2⟩
  case round =>
    clear HC HB2 BK HB
    obtain ⟨i,seen,rfl,HI,HC,HB⟩:=hrel
    obtain ⟨hi0,hi1,hik,hsl,hgo⟩:=HI.out
    clear HI
    obtain ⟨k1,rfl⟩:∃ m,gk=m+1:=⟨gk - 1,by omega⟩
    have HGO:=aM hgo
    have HK:=aM hik
    clear hgo hik
    by_cases hlt:i<(l0.length:Int)
    · have c1:decide (i<(l0.length:Int))=true:=decide_eq_true hlt
      obtain ⟨ad,ead,hx⟩:=Kd.at_int (Kd.C_below HR0.out HB.out) i hi0 hlt
      cases ead
      have hdrop:l0.drop i.toNat=rd l0 i :: l0.drop (i+1).toNat:=by
        have h1:i.toNat<l0.length:=by omega
        rw [show (i+1).toNat=i.toNat+1 by omega,List.drop_eq_getElem_cons h1]
        simp [rd,List.getD,h1]
      have HD:=aM hdrop
      clear hdrop
      generalize hX:rd l0 i=x at *
      have HX:=aM hX
      clear hX
      have p0:decide (0≤i)=true:=decide_eq_true hi0
      have HW:=aM (show wrap64 (i+1)=i+1 from by unfold wrap64;omega)
      replace hi0:=eq_true hi0
      replace hlt:=eq_true hlt
      by_cases h1:x<0
      · have c2:decide (x<0)=true:=decide_eq_true h1
        have hr:r=false:=by
          have:=HGO.out
          rw [HD.out] at this
          simp only [permGo] at this
          rw [if_pos h1] at this
          exact this.symm
        subst hr
        clear h1
        go_wp2
        go_ret
        exact ⟨rfl,HB.out⟩
      · have c2:decide (x<0)=false:=decide_eq_false h1
        have h1':0≤x:=by omega
        by_cases h2:(l0.length:Int)≤x
        · have c3:decide ((l0.length:Int)≤x)=true:=decide_eq_true h2
          have hr:r=false:=by
            have:=HGO.out
            rw [HD.out] at this
            simp only [permGo] at this
            rw [if_neg h1,if_pos h2] at this
            exact this.symm
          subst hr
          clear h1 h2
          go_wp2
          go_ret
          exact ⟨rfl,HB.out⟩
        · have c3:decide ((l0.length:Int)≤x)=false:=decide_eq_false h2
          have hx24:x<24:=by omega
          have hcell:∀ b,seen.getD x.toNat false=b→wr.cell? ⟨gb,x.toNat,none⟩=some (.bool b):=by
            intro b hb
            rw [Go.Joins.cell_of_block HC.out,flags_get seen x h1' (by omega),hb]
          have hfro:=Go.Joins.unfrozen_of_block HC.out x.toNat
          have hsx:decide (0≤x)=true:=decide_eq_true h1'
          have hsx2:decide (x<24)=true:=decide_eq_true hx24
          by_cases h3:seen.getD x.toNat false=true
          · have hr:r=false:=by
              have:=HGO.out
              rw [HD.out] at this
              simp only [permGo] at this
              rw [if_neg h1,if_neg h2,if_pos h3] at this
              exact this.symm
            subst hr
            have hc2:=hcell true h3
            clear h1 h2 h3 hcell
            go_wp2
            go_ret
            exact ⟨rfl,HB.out⟩
          · have h3':seen.getD x.toNat false=false:=by simpa using h3
            have hg2:permGo l0.length (l0.drop (i+1).toNat) (seen.set x.toNat true)=r:=by
              have:=HGO.out
              rw [HD.out] at this
              simp only [permGo] at this
              rw [if_neg h1,if_neg h2,if_neg h3] at this
              exact this
            have HG2:=aM hg2
            have hc2:=hcell false h3'
            have HC2:Aside0 ((wr.setCell ⟨gb,x.toNat,none⟩ (.bool true)).heap[gb]? = some (.cells (flags (seen.set x.toNat true)) 71 (0,0))):=⟨by rw [Go.Joins.block_setCell HC.out,flags_set]⟩
            have HB2:Aside0 (Below w.heap.size w (wr.setCell ⟨gb,x.toNat,none⟩ (.bool true))):=⟨HB.out.setCell (by rw [GB.out];exact Nat.le_refl _) _⟩
            clear h1 h2 h3 h3' hg2 hcell
            go_wp2
            go_roundg k1
            case measure=>omega
            case rel=>exact ⟨i+1,_,by rw [HW.out],⟨by simp at hi0;omega,by simp at hlt;omega,by have:=HK.out;simp at this ⊢;omega,by simpa using hsl,HG2.out⟩,HC2,HB2⟩
    · have hie:i=l0.length:=by omega
      have hr:r=true:=by
        have:=HGO.out
        rw [show l0.drop i.toNat=[] from by rw [hie];simp] at this
        simp only [permGo] at this
        exact this.symm
      subst hr
      have c1:decide (i<(l0.length:Int))=false:=decide_eq_false hlt
      clear hlt hie
      go_wp2
      go_ret
      exact ⟨rfl,HB.out⟩
theorem i_PermOk.calls (A0:Option Addr) (c0:Nat) (l0:List Int) (r:Bool) (w:World) (hr0:Kd.C (Kd.int .i64) w A0 l0.length l0) (hc0:l0.length≤c0) (h:i_PermOk.f l0=some r) :
    Calls Tryd.prog 31 #[.slice A0 l0.length c0] w fun e w'=>e = .returned (.bool r)∧Below w.heap.size w w':=by
  unfold i_PermOk.f permB at h
  by_cases hle:l0.length≤24
  · rw [if_pos hle] at h
    exact i_PermOk.calls_le A0 c0 l0 r w hr0 hc0 hle (Option.some.inj h)
  · rw [if_neg hle] at h
    obtain rfl:=Option.some.inj h
    have HR0:=aM hr0
    clear hr0
    have hu:=Tryd.underlying71
    have hb24:decide (24<(l0.length:Int))=true:=decide_eq_true (by omega)
    have HF:Aside0 (flags no24=#[.bool false,.bool false,.bool false,.bool false,.bool false,.bool false,.bool false,.bool false,.bool false,.bool false,.bool false,.bool false,.bool false,.bool false,.bool false,.bool false,.bool false,.bool false,.bool false,.bool false,.bool false,.bool false,.bool false,.bool false]):=⟨rfl⟩
    clear hle
    go_enter Tryd.func31,Tryd.ntmps31
    go_wp2_with (first
      | ((with_reducible refine gate_dst (N:=6) rfl ?_);refine wpList_build rfl 71 #[] rfl (by kernel_rfl) ?_;rw [show (Value.agg ((Tryd.prog.built 71 ((#[]:Array (Nat × Operand)).map fun (i,x)=>(i,Act.eval _ x)).toList).getD #[])) = .agg (flags no24) from by kernel_rfl])
      | ((with_reducible refine gate_dst (N:=3) rfl ?_);refine box_event ?hg (N:=3) ?hd (cs:=flags no24) (t:=71) ?hr ?_;(case hd=>rfl);(case hg=>rfl);(case hr=>rw [HF.out];first|(go_simp;done)|(go_simp;rfl));intro gb hg w8 hbox hb;have BK:=aM hbox;have HB:=aM hb;have GB:=aM hg;clear hbox hb hg)
      | (refine wpList_store_row rfl 71 (.tmp 3) (.tmp 6) rfl gb (flags no24) rfl rfl 71 (flags no24) BK.out (by kernel_rfl) rfl (flags_one _) ?_))
    have HB2:=aM (show Below w.heap.size w (w8.setRow gb (flags no24)) from below_setRow HB.out (by rw [GB.out];exact Nat.le_refl _) _)
    go_ret
    exact ⟨rfl,HB2.out⟩

end Go.Proofs.YthhdgeafdnikcaaDoor.S
