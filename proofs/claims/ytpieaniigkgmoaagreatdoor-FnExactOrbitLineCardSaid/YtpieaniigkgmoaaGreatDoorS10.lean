-- PRINTED by print.py (a twelfth state) out of the translation. Not trusted: Lean checks it.
import Derived.Test.YtpieaniigkgmoaaGreatDoorS0
import Derived.Test.YtpieaniigkgmoaaGreatDoorS1
import Derived.Test.YtpieaniigkgmoaaGreatDoorS5
import Derived.Test.YtpieaniigkgmoaaGreatDoorS6
import Derived.Test.YtpieaniigkgmoaaGreatDoorS8
import Derived.Test.YtpieaniigkgmoaaGreatDoorS9
namespace Go.Proofs.YtpieaniigkgmoaaGreatDoor.S
set_option maxHeartbeats 8000000
set_option maxRecDepth 100000
open Go.RowKit Go.Proofs.YtpieaniigkgmoaaGreatDoorW.PrintWords Go.Proofs.YtpieaniigkgmoaaGreatDoorW.PrintLast Go.Proofs.YtpieaniigkgmoaaGreatDoorW.PrintMore
attribute [local go_sem] max2_int min2_int max_two min_two max_three min_three max_four min_four   -- for this text's walks alone
set_option linter.unusedVariables false
set_option linter.unusedSimpArgs false

/-! ### impl_CuspsOf: function 17 -/
/-! by hand -/
def cuspIn (m:List Int):Nat→List Bool→Int→Int→Option (List Bool × Int)
  | 0,_,_,_=>none
  | k+1,seen,x,n=>if 0≤x∧x<(seen.length:Int)∧x<(m.length:Int) then (if rdOf false seen x=true then some (seen,n) else cuspIn m k (seen.set x.toNat true) (rd m x) (wrap64 (n+1))) else none
def cuspGo (m:List Int) (d:Int):Nat→Int→List Bool→List Int→Option (List Int)
  | 0,_,_,_=>none
  | k+1,i,seen,out=>if i<d then (cuspIn m k seen i 0).bind fun q=>if out.length≤1000 then cuspGo m d k (wrap64 (i+1)) q.1 (if q.2 > 0 then out ++ [q.2] else out) else none else some out
def impl_CuspsOf.f (k:Nat) (l0_0 l0_1:List Int):Option (List Int × Bool):=(impl_orbitOf.f k l0_0 l0_1).bind fun a=>match a with
  | none=>some ([],false)
  | some o=>if o.l.length≤1000 then (cuspGo o.nt (o.l.length:Int) k 0 (List.replicate o.l.length false) []).bind fun out=>(slices_SortFunc_int_int.f out).bind fun q=>some (q,true) else none
theorem impl_CuspsOf.calls (k:Nat) (A0_0:Option Addr) (c0_0:Nat) (l0_0:List Int) (A0_1:Option Addr) (c0_1:Nat) (l0_1:List Int) (r1:List Int) (r2:Bool) (w:World) (hr0_0:Kd.C (Kd.int .i64) w A0_0 l0_0.length l0_0) (hc0_0:l0_0.length≤c0_0) (hr0_1:Kd.C (Kd.int .i64) w A0_1 l0_1.length l0_1) (hc0_1:l0_1.length≤c0_1) (h:impl_CuspsOf.f k l0_0 l0_1=some (r1,r2)) :
    Calls Tryz.prog 17 #[.agg #[.slice A0_0 l0_0.length c0_0,.slice A0_1 l0_1.length c0_1]] w fun e w'=>∃ v0_:Value,e = .returned (.tuple #[v0_,.bool r2])∧Kd.R (Kd.int .i64) 3 w' w.heap.size (fun _=>True) v0_ r1∧Below w.heap.size w w':=by
  have hv:=Tryz.underlying53
  have hu:=Tryz.underlying27
  have HS:=aM (show SurfC w A0_0 A0_1 c0_0 c0_1 l0_0 l0_1 from ⟨hc0_0,hr0_0,hc0_1,hr0_1⟩)
  clear hr0_0 hc0_0 hr0_1 hc0_1
  unfold impl_CuspsOf.f at h
  obtain ⟨a,ha,h⟩:=oB h
  have HA:=aM ha
  clear ha
  cases a with
  | none =>
    cases h
    go_enter Tryz.func17,Tryz.ntmps17
    go_wp2_with (first
      | ((with_reducible refine gate_dst (N:=1) rfl ?_);refine bEv (cs:=#[.slice A0_0 l0_0.length c0_0,.slice A0_1 l0_1.length c0_1]) (t:=27) ?_;intro gb1 hg1 w1 hbox1 hb1;have BK1:=aM hbox1;have HB1:=aM hb1;have hc10:w1.cell? ⟨gb1,0,none⟩=some (.slice A0_0 l0_0.length c0_0):=(blk_cell BK1.out 0).trans rfl;have hc11:w1.cell? ⟨gb1,1,none⟩=some (.slice A0_1 l0_1.length c0_1):=(blk_cell BK1.out 1).trans rfl;clear hbox1 hb1 hg1)
      | (go_at_call 28;(refine(impl_orbitOf.calls k _ _ l0_0 _ _ l0_1 (none) w1 (HS.out.below HB1.out) HA.out).mono ?_);rintro e w2 ⟨hb,hp⟩;have hp2:e = .returned (.tuple #[.pointer none,.bool false]):=hp;subst hp2;have HB2:=aM (below_step HB1.out hb);clear hb hp hc10 hc11 HB1 BK1))
    go_ret2
    exact ⟨.slice none 0 0,rfl,Kd.R_nil _ _ _ _ _,HB2.out⟩
  | some o =>
    have h:(if o.l.length≤1000 then (cuspGo o.nt (o.l.length:Int) k 0 (List.replicate o.l.length false) []).bind fun out=>(slices_SortFunc_int_int.f out).bind fun q=>some (q,true) else none)=some (r1,r2):=h
    split at h
    rotate_left
    · cases h
    obtain ⟨fin,hfin,h⟩:=oB h
    obtain ⟨q,hq,h⟩:=oB h
    cases h
    have HG0:=aM hfin
    have HSO:=aM hq
    clear hfin hq
    go_enter Tryz.func17,Tryz.ntmps17
    go_wp2_with (first
      | ((with_reducible refine gate_dst (N:=1) rfl ?_);refine bEv (cs:=#[.slice A0_0 l0_0.length c0_0,.slice A0_1 l0_1.length c0_1]) (t:=27) ?_;intro gb1 hg1 w1 hbox1 hb1;have BK1:=aM hbox1;have HB1:=aM hb1;have hc10:w1.cell? ⟨gb1,0,none⟩=some (.slice A0_0 l0_0.length c0_0):=(blk_cell BK1.out 0).trans rfl;have hc11:w1.cell? ⟨gb1,1,none⟩=some (.slice A0_1 l0_1.length c0_1):=(blk_cell BK1.out 1).trans rfl;clear hbox1 hb1 hg1)
      | (go_at_call 28;(refine(impl_orbitOf.calls k _ _ l0_0 _ _ l0_1 (some o) w1 (HS.out.below HB1.out) HA.out).mono ?_);rintro e w2 ⟨hb,hp⟩;obtain ⟨B,M,v0,v1,v2,v3,u,rfl,ho,hl⟩:=(show ∃ B M v0 v1 v2 v3 u,e = .returned (.tuple #[.pointer (some ⟨B,0,none⟩),.bool true])∧OrbW w1.heap.size w2 B M v0 v1 v2 v3 u o∧o.l.length≤120 from hp);obtain ⟨A0,c0,e0⟩:=Kd.N_slice ho.l;subst e0;have hco:w2.cell? ⟨B,0,none⟩=some (.slice A0 o.l.length c0):=(blk_cell ho.blk 0).trans rfl;have HB2:=aM (below_step HB1.out hb);have HO:=aM ho;have HLE:=aM hl;have HN:=aM (below_size HB1.out);clear hb hp ho hl hc10 hc11 HB1 BK1)
      | ((with_reducible refine gate_dst (N:=23) rfl ?_);refine Kd.R_make Kd.bool _ 4 rfl (N:=23) rfl 44 _ _ rfl (o.l.length:Int) rfl rfl Tryz.underlying44 (.bool false) 1 info4 rfl (by decide) (by omega) false (ok:=fun _=>True) (okp:=fun _=>True) rfl (fun _ hk=>hk) trivial (by omega) (by have:=HLE.out;omega) (Below.refl _ _) (Nat.le_refl _) ?_;intro v6 w3 hl hb hg_ hnew_;rw [show ((o.l.length:Int)).toNat=o.l.length by omega] at hl;obtain ⟨As,cs,e0⟩:=Kd.R_slice hl;rw [List.length_replicate] at e0;subst e0;have HS3:=aM hl;have HB3:=aM hb;have hco3:w3.cell? ⟨B,0,none⟩=some (.slice A0 o.l.length c0):=(blk_cell (HO.out.below hb).blk 0).trans rfl;clear hl hb hg_ hnew_ hco)
      | ((with_reducible refine gate_dst (N:=24) rfl ?_);refine Kd.R_lit (Kd.int .i64) _ 3 ?hg (N:=24) ?hd (xs:=([]:List Int)) (inner:=[]) (ok:=fun _=>True) (okp:=fun _=>True) ?hr ?hp (fun _ hk=>hk) trivial (Below.refl _ _) (Nat.le_refl _) (by simp) ?_;(case hd=>rfl);(case hg=>rfl);(case hr=>first|(go_simp;done)|(go_simp;rfl));(case hp=>exact(Reps.none _ _));intro v7 w4 hl hb hg_ hnew_;obtain ⟨Ao,co,e0⟩:=Kd.R_slice hl;subst e0;have HR4:=aM (Kd.R_lower hl (below_size HB3.out));have HS4:=aM (Kd.R_below HS3.out hb);have HB4:=aM (below_step HB3.out hb);have hco4:w4.cell? ⟨B,0,none⟩=some (.slice A0 o.l.length c0):=(blk_cell (HO.out.below (below_step HB3.out hb)).blk 0).trans rfl;clear hl hb hg_ hnew_ hco3 HS3 HB3))
    have hru:=HO.out.nx 84 (Or.inl rfl)
    rw [show o.nx 84=o.nt by simp [OrbV.nx]] at hru
    obtain ⟨Au,cu,eu⟩:=Kd.R_slice hru
    rw [eu] at hru
    have HU:=aM eu
    have HRU:=aM hru
    clear hru eu
    go_loopg [7,30] k (fun kq v7_ v30 w'=>∃ (i:Int) (out:List Int) (seen:List Bool) (Ao:Option Addr) (co:Nat),v7_ = .slice Ao out.length co∧v30 = .int .i64 i∧Aside0 (cuspGo o.nt (o.l.length:Int) kq i seen out=some fin)∧Aside0 (0≤i)∧Aside0 ((out.length:Int)≤i)∧Aside0 (Kd.R Kd.bool 4 w' w2.heap.size (fun _=>True) (.slice As o.l.length cs) seen)∧Aside0 (Kd.R (Kd.int .i64) 3 w' w2.heap.size (fun _=>True) (.slice Ao out.length co) out)∧Aside0 (Below w2.heap.size w2 w'))
    case atStart=>exact ⟨0,[],_,_,_,rfl,rfl,HG0,⟨Int.le_refl _⟩,⟨by simp⟩,HS4,HR4,HB4⟩
    case round =>
      clear HG0 HR4 HS4 HB4 hco4
      obtain ⟨i,out,seen,Ao,co,rfl,rfl,HG,HI0,HOI,HS,HR,HBL⟩:=hrel
      obtain ⟨k1,rfl⟩:∃ z,gk=z+1:=by
        cases gk with
        | zero=>exact absurd HG.out (by simp [cuspGo])
        | succ z=>exact ⟨z,rfl⟩
      by_cases hlt:i<(o.l.length:Int)
      · have h:=HG.out
        rw [cuspGo,if_pos hlt] at h
        obtain ⟨qq,hqq,h⟩:=oB h
        split at h
        rotate_left
        · cases h
        rename_i hol
        have HOL:=aM hol
        have HG2:=aM h
        have HQQ:=aM hqq
        clear h HG hqq hol
        have c1:decide (i<(o.l.length:Int))=true:=decide_eq_true hlt
        have HIR:=aM (show 0≤i∧i<120 from ⟨HI0.out,by have:=HLE.out;omega⟩)
        have HWI:=aM (show wrap64 (i+1)=i+1 by have:=HIR.out;unfold wrap64;omega)
        clear hlt
        go_wp2
        go_loopg [9,10] k1 (fun jq v9_ v10_ w'=>∃ (x n:Int) (seen:List Bool),v9_ = .int .i64 n∧v10_ = .int .i64 x∧Aside0 (cuspIn o.nt jq seen x n=some qq)∧Aside0 (Kd.R Kd.bool 4 w' w2.heap.size (fun _=>True) (.slice As o.l.length cs) seen)∧Aside0 (Kd.R (Kd.int .i64) 3 w' w2.heap.size (fun _=>True) (.slice Ao out.length co) out)∧Aside0 (Below w2.heap.size w2 w'))
        case atStart=>exact ⟨i,0,seen,rfl,rfl,HQQ,HS,HR,HBL⟩
        case round =>
          clear HQQ HS HR HBL c1 HI0
          obtain ⟨x,n,seen,rfl,rfl,HC,HS,HR,HBL⟩:=hrel
          obtain ⟨q1,rfl⟩:∃ z,gk=z+1:=by
            cases gk with
            | zero=>exact absurd HC.out (by simp [cuspIn])
            | succ z=>exact ⟨z,rfl⟩
          have hc:=HC.out
          rw [cuspIn] at hc
          split at hc
          rotate_left
          · cases hc
          rename_i hcond
          obtain ⟨x0,x1,xm⟩:=hcond
          have hlen:=(Kd.R_reads' HS.out).1
          obtain ⟨g,cap,e0,gB,_⟩:=Kd.R_form HS.out (by omega)
          have e1:As=some ⟨g,0,none⟩:=by injection e0
          clear e0
          subst e1
          have hrow:=HS.out
          rw [hlen] at hrow
          have hcell:=Kd.R_cell false hrow x x0 x1
          have hxc:wr.cell? ⟨g,x.toNat,none⟩=some (.bool (rdOf false seen x)):=hcell.1
          have hfz:=hcell.2
          clear hrow hcell
          have x2:x<(o.l.length:Int):=by omega
          have p1:=eq_true x0
          have p2:=eq_true x2
          have p3:=eq_true xm
          have d1:decide (0≤x)=true:=decide_eq_true x0
          have d2:=decide_eq_true x2
          have d3:=decide_eq_true xm
          have HGB:=aM gB
          by_cases hs:rdOf false seen x=true
          · rw [if_pos hs] at hc
            have hq2:qq=(seen,n):=(Option.some.inj hc).symm
            subst hq2
            rw [hs] at hxc
            clear hc x0 x1 xm x2 hs HC gB hlen
            by_cases hn:n > 0
            · have c3:decide (n > 0)=true:=decide_eq_true hn
              have h2:=HG2.out
              rw [if_pos hn] at h2
              have HG3:=aM h2
              clear h2 hn HG2
              go_wp2_with (first
                | ((with_reducible refine gate_builtin (b:=.append) (xs:=#[.tmp 54,.tmp 56]) rfl ?_);at_builtin;refine Kd.R_append (Kd.int .i64) (w0:=w2) w2.heap.size rfl (.tmp 54) (.tmp 56) 22 3 (.int .i64 0) 8 rfl Tryz.underlying22 info3 rfl (by decide) (by omega) (.slice Ao out.length co) out n [.int .i64 n] (fun _=>True) (fun _=>False) rfl rfl rfl (fun _ hk=>hk.elim) (fun _ _=>trivial) HR.out HBL.out (below_size HBL.out) (by have:=HOL.out;omega) ?_;intro v71 w11 hl hb hg hat;obtain ⟨An,cn,e0⟩:=Kd.R_slice hl;subst e0;have HR11:=aM hl;have HB11:=aM hb;have HS11:=aM (Kd.R_over' (v:=.slice Ao out.length co) HS.out (Kd.R_typed HR.out) (by decide) hg);clear hl hb hg hat))
              go_roundg k1
              case measure=>omega
              case rel=>exact ⟨i+1,out ++ [n],seen,An,cn,(by rw [List.length_append];rfl),(by first|rfl|rw [HWI.out]),⟨by rw [← HWI.out];exact HG3.out⟩,⟨by have:=HIR.out;omega⟩,⟨by rw [List.length_append,List.length_singleton];have:=HOI.out;omega⟩,HS11,HR11,HB11⟩
            · have c3:decide (n > 0)=false:=decide_eq_false hn
              have h2:=HG2.out
              rw [if_neg hn] at h2
              have HG3:=aM h2
              clear h2 hn HG2
              go_wp2
              go_roundg k1
              case measure=>omega
              case rel=>exact ⟨i+1,out,seen,_,_,rfl,(by first|rfl|rw [HWI.out]),⟨by rw [← HWI.out];exact HG3.out⟩,⟨by have:=HIR.out;omega⟩,⟨by have:=HOI.out;omega⟩,HS,HR,HBL⟩
          · rw [if_neg hs] at hc
            have HC2:=aM hc
            have hs2:rdOf false seen x=false:=by simpa using hs
            rw [hs2] at hxc
            obtain ⟨adu,e1,hue⟩:=Kd.at_int (Kd.R_reads' HRU.out).2.2 x x0 xm
            have HP:=aM (Kd.R_putg HS.out x true)
            clear hc x0 x1 xm x2 hs hs2 HC gB hlen
            subst e1
            go_wp2_with (first
              | ((with_reducible refine gate_store (t:=4) (p:=49) rfl ?_);refine store_event (t:=4) (p:=49) (v:=?vo) (w1:=wr.setCell ⟨g,x.toNat,none⟩ (.bool true)) ?hg ?ho ?hn ?hr ?_;(case ho=>rfl);(case hg=>rfl);(case hn=>rfl);(case hr=>first|(go_simp;done)|(go_simp;rfl));intro w7 hw;have hg:wr.grownBy w7 (some g):=(by rw [hw];exact HP.out.2);have HS7:=aM (show Kd.R Kd.bool 4 w7 w2.heap.size (fun _=>True) (.slice (some ⟨g,0,none⟩) o.l.length cs) (seen.set x.toNat true) by rw [hw];exact HP.out.1);have HR7:=aM (Kd.R_over' (v:=.slice (some ⟨g,0,none⟩) o.l.length cs) HR.out (Kd.R_typed HS.out) (by decide) hg);have HB7:=aM (by rw [hw];exact below_set HBL.out HGB.out:Below w2.heap.size w2 w7);have hcm7:=((HO.out.below HB7.out).held (c:=84) (Or.inl rfl)).1;have hlk7:=((HO.out.below HB7.out).held (c:=84) (Or.inl rfl)).2;rw [HU.out] at hlk7;have hue7:w7.cell? (adu.add x.toNat)=some (.int .i64 (rd o.nt x)):=(HB7.out.cell (World.block_lt_of_cell? _ _ hue)).trans hue;clear hw hg HP hxc hfz))
            go_roundg q1
            case measure=>omega
            case rel=>exact ⟨rd o.nt x,wrap64 (n+1),seen.set x.toNat true,rfl,rfl,HC2,HS7,HR7,HB7⟩
      · have c1:decide (i<(o.l.length:Int))=false:=decide_eq_false hlt
        have hr:out=fin:=by
          have h:=HG.out
          rw [cuspGo,if_neg hlt] at h
          exact Option.some.inj h
        subst hr
        clear HG hlt
        go_wp2_with (first
          | ((with_reducible refine gate_callee (f:=29) rfl ?_);refine goesL_ (some 60) rfl rfl Tryz.func29 (by kernel_rfl) rfl #[.slice Ao out.length co,.func (.func 30) #[] #[]] rfl (by(try simp only [zE,zF,zG]);first|done|rfl|(simp only [zH,zI];rfl)) ?_;refine(slices_SortFunc_int_int.calls (fun _=>True) (.slice Ao out.length co) out r1 w2 _ HBL.out HR.out HSO.out).mono ?_;rintro e w9 ⟨rfl,hr,hb,_⟩;refine ⟨_,rfl,?_⟩;have HR9:=aM (Kd.R_mono (ok':=fun _=>True) hr (fun _ _=>trivial));have HB9:=aM hb;clear hr hb))
        go_ret2
        exact ⟨_,rfl,Kd.R_lower HR9.out (below_size HB2.out),below_step HB2.out HB9.out⟩

/-! ### strconv_Itoa: function 31 -/
/-! by hand -/
def strconv_Itoa.f (a0:Int):Option (ByteArray):=if -9223372036854775808≤a0∧a0≤9223372036854775807 then some ⟨(Go.Lib.itoa a0).toArray⟩ else none
theorem strconv_Itoa.calls (a0:Int) (r:ByteArray) (w:World) (htab_:PowTab w) (h:strconv_Itoa.f a0=some r) :
    Calls Tryz.prog 31 #[.int .i64 a0] w fun e w'=>e = .returned (.string r)∧Below w.heap.size w w':=by
  unfold strconv_Itoa.f at h
  by_cases hh : -9223372036854775808≤a0∧a0≤9223372036854775807
  · rw [if_pos hh] at h
    obtain rfl:=Option.some.inj h
    refine(Tryz.strconv_Itoa a0 hh.1 hh.2 w htab_.tab).mono ?_
    rintro e w' ⟨rfl,k,os,rfl⟩
    exact ⟨rfl,Go.Lib.below_grow _ w (Nat.le_refl _) k os⟩
  · rw [if_neg hh] at h
    exact absurd h (by simp)

/-! ### impl_FormatInt: function 18 -/
def impl_FormatInt.f (a0:Int):Option (ByteArray):=(strconv_Itoa.f a0).bind fun t628=>(some t628)
theorem impl_FormatInt.calls (a0:Int) (r:ByteArray) (w:World) (htab_:PowTab w) (h:impl_FormatInt.f a0=some r) :
  Calls Tryz.prog 18 #[.int .i64 a0] w fun e w'=>e = .returned (.string r)∧Below w.heap.size w w':=by
 have HB:=aM (Below.refl w.heap.size w)
 have H:((strconv_Itoa.f a0).bind fun t628=>(some t628))=some r:=h
 clear h
 have HTAB:=aM htab_
 clear htab_
 replace H:=oB H
 obtain ⟨t628,A20,H⟩:=H
 have A2:=aM A20
 clear A20
 obtain rfl:=Option.some.inj H
 go_enter Tryz.func18,Tryz.ntmps18
 go_wp2_with (first|((with_reducible refine gate_callee (f:=31) rfl ?_);refine goesL_ (some 4) rfl rfl Tryz.func31 (by kernel_rfl) rfl #[.int .i64 a0] rfl (by(try simp only [List.map_toArray,List.map_cons,List.map_nil]);first|done|rfl|(simp only [List.length_drop,List.length_take];rfl)) ?_;(with_reducible refine(strconv_Itoa.calls a0 t628 _ ?side1 A2.out).mono ?_);(case side1=>exact PowTab.below HTAB.out (by repeat(first|(with_reducible first|exact HB.out|apply below_alloc|apply pw_below_drewN|apply below_drew1)|exact HB.out)));rintro e w3 ⟨rfl,hb⟩;refine ⟨_,rfl,?_⟩;replace HB:=aM (below_step (by repeat(first|(with_reducible first|exact HB.out|apply below_alloc|apply pw_below_drewN|apply below_drew1)|exact HB.out)) hb);(try clear hb)))
 go_ret
 exact ⟨eX,by repeat(first|(with_reducible first|exact HB.out|apply below_alloc|apply pw_below_drewN|apply below_drew1)|exact HB.out)⟩

/-! ### strings_Join: function 78 -/
/-! by hand -/
def joinB (l:List ByteArray) (by_:ByteArray):List UInt8:=Go.Lib.join (l.map (·.data.toList)) by_.data.toList
def strings_Join.f (l0:List ByteArray) (a1:ByteArray):Option (ByteArray):=if l0.length≤140737488355328∧(joinB l0 a1).length≤140737488355328 then some ⟨(joinB l0 a1).toArray⟩ else none
theorem strings_Join.calls (A0:Option Addr) (c0:Nat) (l0:List ByteArray) (a1:ByteArray) (r:ByteArray) (w:World) (hr0:Kd.C Kd.string w A0 l0.length l0) (hc0:l0.length≤c0) (h:strings_Join.f l0 a1=some r) :
    Calls Tryz.prog 78 #[.slice A0 l0.length c0,.string a1] w fun e w'=>e = .returned (.string r)∧Below w.heap.size w w':=by
  unfold strings_Join.f at h
  by_cases hh:l0.length≤140737488355328∧(joinB l0 a1).length≤140737488355328
  · rw [if_pos hh] at h
    obtain rfl:=Option.some.inj h
    cases l0 with
    | nil =>
      refine(Tryz.strings_Join_none A0 c0 a1 w).mono ?_
      rintro e w' ⟨rfl,rfl⟩
      exact ⟨rfl,Below.refl _ _⟩
    | cons x xs =>
      obtain ⟨ad,e,hx⟩:=Kd.at_string hr0 0 (by omega) (by simp)
      subst e
      obtain ⟨b,o,s⟩:=ad
      have hs:s=none∧b<w.heap.size:=by
        rw [show (⟨b,o,s⟩:Addr).add (0:Int).toNat=⟨b,o,s⟩ from by simp [Addr.add]] at hx
        simp only [World.cell?] at hx
        split at hx
        · rename_i hb
          have hlt:b<w.heap.size:=by
            rcases Nat.lt_or_ge b w.heap.size with h|h
            · exact h
            · rw [Array.getElem?_eq_none h] at hb
              cases hb
          cases s with
          | none=>exact ⟨rfl,hlt⟩
          | some _=>simp at hx
        · cases hx
      obtain ⟨rfl,hlt⟩:=hs
      refine(Tryz.strings_Join b o c0 (x :: xs) a1 w ?_ hlt hh.1 hc0 hh.2).mono ?_
      · intro j y hj
        have hjl:j<(x :: xs).length:=(List.getElem?_eq_some_iff.1 hj).1
        obtain ⟨ad,e,hy⟩:=Kd.at_string hr0 j (by omega) (by omega)
        obtain rfl:=Option.some.inj e
        rw [show rdOf ByteArray.empty (x :: xs) j=y from by simp [rdOf,List.getD,hj]] at hy
        have e2:(⟨b,o,none⟩:Addr).add ((j:Int)).toNat=⟨b,o+j,none⟩:=by cases j <;> simp [Addr.add]
        rw [e2] at hy
        exact hy
      · rintro e w' ⟨rfl,hb⟩
        exact ⟨rfl,hb⟩
  · rw [if_neg hh] at h
    exact absurd h (by simp)

/-! ### impl_Join: function 47 -/
def impl_Join.f (l0:List ByteArray) (a1:ByteArray):Option (ByteArray):=(strings_Join.f l0 a1).bind fun t629=>(some t629)
theorem impl_Join.calls (A0:Option Addr) (c0:Nat) (l0:List ByteArray) (a1:ByteArray) (r:ByteArray) (w:World) (hr0:Kd.C Kd.string w A0 l0.length l0) (hc0:l0.length≤c0) (h:impl_Join.f l0 a1=some r) :
  Calls Tryz.prog 47 #[.slice A0 l0.length c0,.string a1] w fun e w'=>e = .returned (.string r)∧Below w.heap.size w w':=by
 have HR0:=aM hr0
 have HC0:=aM hc0
 clear hr0 hc0
 have HB:=aM (Below.refl w.heap.size w)
 have H:((strings_Join.f l0 a1).bind fun t629=>(some t629))=some r:=h
 clear h
 replace H:=oB H
 obtain ⟨t629,A30,H⟩:=H
 have A3:=aM A30
 clear A30
 obtain rfl:=Option.some.inj H
 go_enter Tryz.func47,Tryz.ntmps47
 go_wp2_with (first|((with_reducible refine gate_callee (f:=78) rfl ?_);refine goesL_ (some 7) rfl rfl Tryz.func78 (by kernel_rfl) rfl #[.slice A0 l0.length c0,.string a1] rfl (by(try simp only [List.map_toArray,List.map_cons,List.map_nil]);first|done|rfl|(simp only [List.length_drop,List.length_take];rfl)) ?_;(with_reducible refine(strings_Join.calls _ _ l0 a1 t629 _ ?side1 ?side2 A3.out).mono ?_);(case side1=>exact cX HR0.out);(case side2=>exact HC0.out);rintro e w4 ⟨rfl,hb⟩;refine ⟨_,rfl,?_⟩;replace HB:=aM (below_step (by repeat(first|(with_reducible first|exact HB.out|apply below_alloc|apply pw_below_drewN|apply below_drew1)|exact HB.out)) hb);(try clear hb)))
 go_ret
 exact ⟨eX,by repeat(first|(with_reducible first|exact HB.out|apply below_alloc|apply pw_below_drewN|apply below_drew1)|exact HB.out)⟩

/-! ### impl_joinInts: function 32 -/
def impl_joinInts.l0 : Nat→ByteArray→List ByteArray→List Int→Int→Int→Option (ByteArray)
 | 0,_,_,_,_,_=>none
 | k+1,x1,x5,x9,x10,x11=>if x11<x10 then (if 0≤x11 then (if x11<(x9.length:Int) then ((impl_FormatInt.f (rd x9 x11)).bind fun t634=>(if x5.length<8796093022208 then (impl_joinInts.l0 k x1 (x5 ++ [t634]) x9 x10 (wrap64 (x11+1))) else (none))) else (none)) else (none)) else ((impl_Join.f x5 x1).bind fun t638=>(some t638))
def impl_joinInts.f (k:Nat) (l0:List Int) (a1:ByteArray):Option (ByteArray):=impl_joinInts.l0 k a1 (([]:List ByteArray)) l0 (l0.length:Int) 0
theorem impl_joinInts.calls (k:Nat) (A0:Option Addr) (c0:Nat) (l0:List Int) (a1:ByteArray) (r:ByteArray) (w:World) (hr0:Kd.C (Kd.int .i64) w A0 l0.length l0) (hc0:l0.length≤c0) (htab_:PowTab w) (h:impl_joinInts.f k l0 a1=some r) :
  Calls Tryz.prog 32 #[.slice A0 l0.length c0,.string a1] w fun e w'=>e = .returned (.string r)∧Below w.heap.size w w':=by
 have HR0:=aM hr0
 have HC0:=aM hc0
 clear hr0 hc0
 have HB:=aM (Below.refl w.heap.size w)
 have H:(impl_joinInts.l0 k a1 (([]:List ByteArray)) l0 (l0.length:Int) 0)=some r:=h
 clear h
 have HTAB:=aM htab_
 clear htab_
 obtain ⟨y630,hy630⟩:∃ y_:List ByteArray,y_=(([]:List ByteArray)):=⟨_,rfl⟩
 replace H:(impl_joinInts.l0 k a1 y630 l0 (l0.length:Int) 0)=some r:=by first|(rw [hy630];with_reducible exact H)|(have H2_:=(Option.bind_some _ _).symm.trans H;rw [hy630];with_reducible exact H2_)|(have H2_:=(Option.bind_some _ _).symm.trans H;with_reducible exact H2_)|with_reducible exact H|(rw [hy630];exact H)|exact H
 have Ny630:=aM hy630
 clear hy630
 have H':=aM H
 clear H
 go_enter Tryz.func32,Tryz.ntmps32
 go_wp2_with (first|((with_reducible refine gate_dst (N:=8) rfl ?_);refine Kd.R_lit Kd.string _ 9 ?hg (N:=8) ?hd (xs:=([]:List ByteArray)) (inner:=[]) (ok:=fun _=>True) (okp:=fun _=>True) ?hr ?hp (fun _ hk=>hk) trivial (Below.refl _ _) (Nat.le_refl _) (by simp) ?_;(case hd=>rfl);(case hg=>rfl);(case hr=>first|(go_simp;done)|(go_simp;rfl));(case hp=>exact(Reps.none _ _));intro v631 w3 ho4 hb hg_ hnew_;clear hg_ hnew_;(first|rw [← Ny630.out] at ho4|(simp only [Int.reduceToNat] at ho4;rw [← Ny630.out] at ho4));have HO632:=aM (Kd.R_lower ho4 (below_size (bX HB.out)));replace HB:=aM (below_step (bX HB.out) hb);clear hb ho4))
 go_loopg [5,11] k (fun kq v5 v11 w'=>∃ (x5_1:List ByteArray) (x11_1:Int),v11 = .int .i64 x11_1∧Aside0 (impl_joinInts.l0 kq a1 x5_1 l0 (l0.length:Int) x11_1=some r)∧Aside0 (kq≤k)∧Aside0 (Kd.R Kd.string 9 w' w.heap.size (fun _=>True) v5 x5_1)∧Aside0 (Below w.heap.size w w'))
 case atStart=>exact ⟨(y630),(0),vX,H',⟨Nat.le_refl _⟩,⟨rX HO632.out⟩,⟨bX HB.out⟩⟩
 case round =>
 clear H'
 obtain ⟨x5_1,x11_1,rfl,HA,HK1,HO_5,HB⟩:=hrel
 cases gk with
 | zero=>exact absurd HA.out (by simp [impl_joinInts.l0])
 | succ k1 =>
 have H:=HA.out
 clear HA
 simp only [impl_joinInts.l0] at H
 by_cases c5:x11_1<(l0.length:Int)
 {
 rw [if_pos c5] at H
 have c5b0:=decide_eq_true c5
 clear c5
 by_cases c6:0≤x11_1
 {
 rw [if_pos c6] at H
 have c6b0:=decide_eq_true c6
 clear c6
 by_cases c7:x11_1<(l0.length:Int)
 {
 rw [if_pos c7] at H
 have c7b0:=decide_eq_true c7
 clear c7
 replace H:=oB H
 obtain ⟨t634,A80,H⟩:=H
 have A8:=aM A80
 clear A80
 by_cases c9:x5_1.length<8796093022208
 {
 rw [if_pos c9] at H
 have LMc9:=aM c9
 clear c9
 obtain ⟨y635,hy635⟩:∃ y_:List ByteArray,y_=(x5_1 ++ [t634]):=⟨_,rfl⟩
 replace H:(impl_joinInts.l0 k1 a1 y635 l0 (l0.length:Int) (wrap64 (x11_1+1)))=some r:=by first|(rw [hy635];with_reducible exact H)|(have H2_:=(Option.bind_some _ _).symm.trans H;rw [hy635];with_reducible exact H2_)|(have H2_:=(Option.bind_some _ _).symm.trans H;with_reducible exact H2_)|with_reducible exact H|(rw [hy635];exact H)|exact H
 have Ny635:=aM hy635
 clear hy635
 have H':=aM H
 clear H
 have p633:0≤(x11_1:Int):=dX
 have q633:x11_1<(l0.length:Int):=dX
 obtain ⟨ad633,e633,hx633_0⟩:=Kd.at_int HR0.out x11_1 p633 q633
 cases e633
 replace hx633_0:=(HB.out.cell (World.block_lt_of_cell? w _ hx633_0)).trans hx633_0
 replace p633:=eq_true p633
 replace q633:=eq_true q633
 go_wp2_with (first|((with_reducible refine gate_callee (f:=18) rfl ?_);refine goesL_ (some 17) rfl rfl Tryz.func18 (by kernel_rfl) rfl #[.int .i64 (rd l0 x11_1)] rfl aX ?_;(with_reducible refine(impl_FormatInt.calls (rd l0 x11_1) t634 _ ?side1 A8.out).mono ?_);(case side1=>exact PowTab.below HTAB.out (bX HB.out));rintro e w10 ⟨rfl,hb⟩;refine ⟨_,rfl,?_⟩;replace HO_5:=aM (Kd.R_below (rX HO_5.out) hb);replace HB:=aM (below_step (bX HB.out) hb);(try clear hb);(try clear hk))|((with_reducible refine gate_builtin (b:=.append) (xs:=#[.tmp 15,.tmp 18]) rfl ?_);at_builtin;refine Kd.R_append Kd.string (w0:=w) w.heap.size rfl (.tmp 15) (.tmp 18) 50 9 (.string ⟨#[]⟩) 16 rfl Tryz.underlying50 info9 rfl (by decide) (by omega) u5 x5_1 t634 [.string t634] (fun _=>True) (fun _=>False) rfl rfl ?aP (fun _ hk=>hk.elim) ?aF ?aO ?aB ?aS ?aL ?_;(case aP=>exact rfl);(case aB=>exact(bX HB.out));(case aF=>exact(fun _ _=>trivial));(case aO=>exact(rX HO_5.out));(case aS=>exact(below_size (bX HB.out)));(case aL=>have:=LMc9.out;omega);intro v636 w11 ho hb hg hat;rw [← Ny635.out] at ho;replace HB:=aM (hb);have HO637:=aM (ho);clear HO_5 ho hb hg hat))
 go_roundg k1
 case measure=>have:=HK1.out;omega
 case rel=>exact ⟨(y635),(wrap64 (x11_1+1)),vX,H',⟨by have:=HK1.out;omega⟩,⟨rX HO637.out⟩,⟨bX HB.out⟩⟩
 }
 {
 rw [if_neg c9] at H
 exact absurd H (by simp)
 }
 }
 {
 rw [if_neg c7] at H
 exact absurd H (by simp)
 }
 }
 {
 rw [if_neg c6] at H
 exact absurd H (by simp)
 }
 }
 {
 rw [if_neg c5] at H
 have c5b0:=decide_eq_false c5
 clear c5
 replace H:=oB H
 obtain ⟨t638,A120,H⟩:=H
 have A12:=aM A120
 clear A120
 obtain rfl:=Option.some.inj H
 obtain ⟨Ao13,co13,eo13⟩:=Kd.R_slice HO_5.out
 subst eo13
 go_wp2_with (first|((with_reducible refine gate_callee (f:=47) rfl ?_);refine goesL_ (some 23) rfl rfl Tryz.func47 (by kernel_rfl) rfl #[.slice Ao13 x5_1.length co13,.string a1] rfl aX ?_;(with_reducible refine(impl_Join.calls _ _ x5_1 a1 t638 _ ?side1 ?side2 A12.out).mono ?_);(case side1=>exact cX (Kd.R_reads' HO_5.out).2.2);(case side2=>exact(Kd.R_reads' HO_5.out).2.1);rintro e w14 ⟨rfl,hb⟩;refine ⟨_,rfl,?_⟩;replace HO_5:=aM (Kd.R_below (rX HO_5.out) hb);replace HB:=aM (below_step (bX HB.out) hb);(try clear hb);(try clear hk)))
 go_ret
 exact ⟨eX,bX HB.out⟩
 }

/-! ### impl_FormatList: function 20 -/
def impl_FormatList.f (k:Nat) (l0:List Int):Option (ByteArray):=if (l0.length:Int)=0 then (some (⟨#[45]⟩:ByteArray)) else ((impl_joinInts.f k l0 (⟨#[44]⟩:ByteArray)).bind fun t639=>(some t639))
theorem impl_FormatList.calls (k:Nat) (A0:Option Addr) (c0:Nat) (l0:List Int) (r:ByteArray) (w:World) (hr0:Kd.C (Kd.int .i64) w A0 l0.length l0) (hc0:l0.length≤c0) (htab_:PowTab w) (h:impl_FormatList.f k l0=some r) :
  Calls Tryz.prog 20 #[.slice A0 l0.length c0] w fun e w'=>e = .returned (.string r)∧Below w.heap.size w w':=by
 have HR0:=aM hr0
 have HC0:=aM hc0
 clear hr0 hc0
 have HB:=aM (Below.refl w.heap.size w)
 have H:(if (l0.length:Int)=0 then (some (⟨#[45]⟩:ByteArray)) else ((impl_joinInts.f k l0 (⟨#[44]⟩:ByteArray)).bind fun t639=>(some t639)))=some r:=h
 clear h
 have HTAB:=aM htab_
 clear htab_
 by_cases c2:(l0.length:Int)=0
 {
 rw [if_pos c2] at H
 have c2b0:((l0.length:Int) == 0)=true:=beq_iff_eq.mpr c2
 have c2b1:((l0.length:Int) != 0)=false:=bne_eq_false_iff_eq.mpr c2
 clear c2
 obtain rfl:=Option.some.inj H
 go_enter Tryz.func20,Tryz.ntmps20
 go_wp2
 go_ret
 exact ⟨eX,bX HB.out⟩
 }
 {
 rw [if_neg c2] at H
 have c2b0:((l0.length:Int) == 0)=false:=beq_eq_false_iff_ne.mpr c2
 have c2b1:((l0.length:Int) != 0)=true:=bne_iff_ne.mpr c2
 have c2b2:¬ (l0=[]):=fun h_=>c2 (by rw [h_];rfl)
 replace H:=oB H
 obtain ⟨t639,A30,H⟩:=H
 have A3:=aM A30
 clear A30
 obtain rfl:=Option.some.inj H
 go_enter Tryz.func20,Tryz.ntmps20
 go_wp2_with (first|((with_reducible refine gate_callee (f:=32) rfl ?_);refine goesL_ (some 7) rfl rfl Tryz.func32 (by kernel_rfl) rfl #[.slice A0 l0.length c0,.string (⟨#[44]⟩:ByteArray)] rfl aX ?_;(with_reducible refine(impl_joinInts.calls k _ _ l0 (⟨#[44]⟩:ByteArray) t639 _ ?side1 ?side2 ?side3 A3.out).mono ?_);(case side1=>exact cX HR0.out);(case side2=>exact HC0.out);(case side3=>exact PowTab.below HTAB.out (bX HB.out));rintro e w4 ⟨rfl,hb⟩;refine ⟨_,rfl,?_⟩;replace HB:=aM (below_step (bX HB.out) hb);(try clear hb)))
 go_ret
 exact ⟨eX,bX HB.out⟩
 }

/-! ### impl_OrbitLine: function 7 -/
def impl_OrbitLine.f (k:Nat) (l0_0:List Int) (l0_1:List Int):Option (ByteArray):=(impl_SurfaceOk.f k l0_0 l0_1).bind fun t641=>(if t641=true then ((impl_CuspsOf.f k l0_0 l0_1).bind fun bt642=>(if bt642.2=true then ((impl_IndexOf.f k l0_0 l0_1).bind fun t646=>((impl_FormatInt.f t646).bind fun t647=>(if 6+t647.size≤9223372036854775807 then (if ((⟨#[105,110,100,101,120,32]⟩:ByteArray) ++ t647).size+7≤9223372036854775807 then ((impl_FormatList.f k bt642.1).bind fun t648=>(if (((⟨#[105,110,100,101,120,32]⟩:ByteArray) ++ t647) ++ (⟨#[32,99,117,115,112,115,32]⟩:ByteArray)).size+t648.size≤9223372036854775807 then (some ((((⟨#[105,110,100,101,120,32]⟩:ByteArray) ++ t647) ++ (⟨#[32,99,117,115,112,115,32]⟩:ByteArray)) ++ t648)) else (none))) else (none)) else (none)))) else (some (⟨#[116,111,111,32,109,97,110,121]⟩:ByteArray)))) else (some (⟨#[]⟩:ByteArray)))
theorem impl_OrbitLine.calls (k:Nat) (A0_0:Option Addr) (c0_0:Nat) (l0_0:List Int) (A0_1:Option Addr) (c0_1:Nat) (l0_1:List Int) (r:ByteArray) (w:World) (hr0_0:Kd.C (Kd.int .i64) w A0_0 l0_0.length l0_0) (hc0_0:l0_0.length≤c0_0) (hr0_1:Kd.C (Kd.int .i64) w A0_1 l0_1.length l0_1) (hc0_1:l0_1.length≤c0_1) (htab_:PowTab w) (h:impl_OrbitLine.f k l0_0 l0_1=some r) :
  Calls Tryz.prog 7 #[.agg #[.slice A0_0 l0_0.length c0_0,.slice A0_1 l0_1.length c0_1]] w fun e w'=>e = .returned (.string r)∧Below w.heap.size w w':=by
 have hu27:=Tryz.underlying27
 have HR0_0:=aM hr0_0
 have HC0_0:=aM hc0_0
 clear hr0_0 hc0_0
 have HR0_1:=aM hr0_1
 have HC0_1:=aM hc0_1
 clear hr0_1 hc0_1
 have HB:=aM (Below.refl w.heap.size w)
 have H:((impl_SurfaceOk.f k l0_0 l0_1).bind fun t641=>(if t641=true then ((impl_CuspsOf.f k l0_0 l0_1).bind fun bt642=>(if bt642.2=true then ((impl_IndexOf.f k l0_0 l0_1).bind fun t646=>((impl_FormatInt.f t646).bind fun t647=>(if 6+t647.size≤9223372036854775807 then (if ((⟨#[105,110,100,101,120,32]⟩:ByteArray) ++ t647).size+7≤9223372036854775807 then ((impl_FormatList.f k bt642.1).bind fun t648=>(if (((⟨#[105,110,100,101,120,32]⟩:ByteArray) ++ t647) ++ (⟨#[32,99,117,115,112,115,32]⟩:ByteArray)).size+t648.size≤9223372036854775807 then (some ((((⟨#[105,110,100,101,120,32]⟩:ByteArray) ++ t647) ++ (⟨#[32,99,117,115,112,115,32]⟩:ByteArray)) ++ t648)) else (none))) else (none)) else (none)))) else (some (⟨#[116,111,111,32,109,97,110,121]⟩:ByteArray)))) else (some (⟨#[]⟩:ByteArray))))=some r:=h
 clear h
 have HTAB:=aM htab_
 clear htab_
 replace H:=oB H
 obtain ⟨t641,A20,H⟩:=H
 have A2:=aM A20
 clear A20
 by_cases c3:t641=true
 {
 subst c3
 have H1:((impl_CuspsOf.f k l0_0 l0_1).bind fun bt642=>(if bt642.2=true then ((impl_IndexOf.f k l0_0 l0_1).bind fun t646=>((impl_FormatInt.f t646).bind fun t647=>(if 6+t647.size≤9223372036854775807 then (if ((⟨#[105,110,100,101,120,32]⟩:ByteArray) ++ t647).size+7≤9223372036854775807 then ((impl_FormatList.f k bt642.1).bind fun t648=>(if (((⟨#[105,110,100,101,120,32]⟩:ByteArray) ++ t647) ++ (⟨#[32,99,117,115,112,115,32]⟩:ByteArray)).size+t648.size≤9223372036854775807 then (some ((((⟨#[105,110,100,101,120,32]⟩:ByteArray) ++ t647) ++ (⟨#[32,99,117,115,112,115,32]⟩:ByteArray)) ++ t648)) else (none))) else (none)) else (none)))) else (some (⟨#[116,111,111,32,109,97,110,121]⟩:ByteArray))))=some r:=by rw [if_pos rfl] at H;exact H
 clear H
 have H:=H1
 clear H1
 replace H:=oB H
 obtain ⟨⟨t642,t645⟩,A40,H⟩:=H
 replace H:(if t645=true then ((impl_IndexOf.f k l0_0 l0_1).bind fun t646=>((impl_FormatInt.f t646).bind fun t647=>(if 6+t647.size≤9223372036854775807 then (if ((⟨#[105,110,100,101,120,32]⟩:ByteArray) ++ t647).size+7≤9223372036854775807 then ((impl_FormatList.f k t642).bind fun t648=>(if (((⟨#[105,110,100,101,120,32]⟩:ByteArray) ++ t647) ++ (⟨#[32,99,117,115,112,115,32]⟩:ByteArray)).size+t648.size≤9223372036854775807 then (some ((((⟨#[105,110,100,101,120,32]⟩:ByteArray) ++ t647) ++ (⟨#[32,99,117,115,112,115,32]⟩:ByteArray)) ++ t648)) else (none))) else (none)) else (none)))) else (some (⟨#[116,111,111,32,109,97,110,121]⟩:ByteArray)))=some r:=H
 have A4:=aM A40
 clear A40
 by_cases c5:t645=true
 {
 subst c5
 have H1:((impl_IndexOf.f k l0_0 l0_1).bind fun t646=>((impl_FormatInt.f t646).bind fun t647=>(if 6+t647.size≤9223372036854775807 then (if ((⟨#[105,110,100,101,120,32]⟩:ByteArray) ++ t647).size+7≤9223372036854775807 then ((impl_FormatList.f k t642).bind fun t648=>(if (((⟨#[105,110,100,101,120,32]⟩:ByteArray) ++ t647) ++ (⟨#[32,99,117,115,112,115,32]⟩:ByteArray)).size+t648.size≤9223372036854775807 then (some ((((⟨#[105,110,100,101,120,32]⟩:ByteArray) ++ t647) ++ (⟨#[32,99,117,115,112,115,32]⟩:ByteArray)) ++ t648)) else (none))) else (none)) else (none))))=some r:=by rw [if_pos rfl] at H;exact H
 clear H
 have H:=H1
 clear H1
 replace H:=oB H
 obtain ⟨t646,A60,H⟩:=H
 have A6:=aM A60
 clear A60
 replace H:=oB H
 obtain ⟨t647,A70,H⟩:=H
 have A7:=aM A70
 clear A70
 by_cases c8:6+t647.size≤9223372036854775807
 {
 rw [if_pos c8] at H
 have c8b0:=eq_true c8
 have c8b1:=decide_eq_true c8
 try have c8b2:(9223372036854775807<6+t647.size)=False:=eq_false (Nat.not_lt.2 c8)
 by_cases c9:((⟨#[105,110,100,101,120,32]⟩:ByteArray) ++ t647).size+7≤9223372036854775807
 {
 rw [if_pos c9] at H
 have c9b0:=eq_true c9
 have c9b1:=decide_eq_true c9
 try have c9b2:(9223372036854775807<((⟨#[105,110,100,101,120,32]⟩:ByteArray) ++ t647).size+7)=False:=eq_false (Nat.not_lt.2 c9)
 try have c9b3:(9223372036854775807<6+t647.size+7)=False:=eq_false (Nat.not_lt.2 (by have hz_:=c9;simp only [ByteArray.size_append] at hz_;first|exact hz_|omega))
 replace H:=oB H
 obtain ⟨t648,A100,H⟩:=H
 have A10:=aM A100
 clear A100
 by_cases c11:(((⟨#[105,110,100,101,120,32]⟩:ByteArray) ++ t647) ++ (⟨#[32,99,117,115,112,115,32]⟩:ByteArray)).size+t648.size≤9223372036854775807
 {
 rw [if_pos c11] at H
 have c11b0:=eq_true c11
 have c11b1:=decide_eq_true c11
 try have c11b2:(9223372036854775807<(((⟨#[105,110,100,101,120,32]⟩:ByteArray) ++ t647) ++ (⟨#[32,99,117,115,112,115,32]⟩:ByteArray)).size+t648.size)=False:=eq_false (Nat.not_lt.2 c11)
 try have c11b3:(9223372036854775807<6+t647.size+7+t648.size)=False:=eq_false (Nat.not_lt.2 (by have hz_:=c11;simp only [ByteArray.size_append] at hz_;first|exact hz_|omega))
 obtain rfl:=Option.some.inj H
 go_enter Tryz.func7,Tryz.ntmps7
 go_wp2_with (first|((with_reducible refine gate_dst (N:=1) rfl ?_);refine bEv (cs:=#[.slice A0_0 l0_0.length c0_0,.slice A0_1 l0_1.length c0_1]) (t:=27) ?_;intro gb640 hg w12 hbox hb;have BK640:=aM (hbox);have GW640:=aM ((szX (below_size (bX HB.out)) hg:w.heap.size≤gb640));have GE640:=GW640;replace HB:=aM (below_step (bX HB.out) hb);clear hb hbox hg;obtain ⟨hcz13_0,hcz13_1,hfz13_0,hfz13_1⟩:=f2Z BK640.out)|((with_reducible refine gate_callee (f:=16) rfl ?_);refine goesL_ (some 6) rfl rfl Tryz.func16 (by kernel_rfl) rfl #[.agg #[.slice A0_0 l0_0.length c0_0,.slice A0_1 l0_1.length c0_1]] rfl aX ?_;(with_reducible refine(impl_SurfaceOk.calls k _ _ l0_0 _ _ l0_1 true _ ?side1 ?side2 ?side3 ?side4 A2.out).mono ?_);(case side1=>exact cX (Kd.C_below HR0_0.out HB.out));(case side2=>exact HC0_0.out);(case side3=>exact cX (Kd.C_below HR0_1.out HB.out));(case side4=>exact HC0_1.out);rintro e w14 ⟨rfl,hb⟩;refine ⟨_,rfl,?_⟩;replace BK640:=aM (bbX BK640.out hb);replace HB:=aM (below_step (bX1 HB.out GE640.out) hb);(try clear hb);obtain ⟨hcz15_0,hcz15_1,hfz15_0,hfz15_1⟩:=f2Z BK640.out)|((with_reducible refine gate_callee (f:=17) rfl ?_);refine goesL_ (some 10) rfl rfl Tryz.func17 (by kernel_rfl) rfl #[.agg #[.slice A0_0 l0_0.length c0_0,.slice A0_1 l0_1.length c0_1]] rfl aX ?_;(with_reducible refine(impl_CuspsOf.calls k _ _ l0_0 _ _ l0_1 t642 true _ ?side1 ?side2 ?side3 ?side4 A4.out).mono ?_);(case side1=>exact cX (Kd.C_below HR0_0.out HB.out));(case side2=>exact HC0_0.out);(case side3=>exact cX (Kd.C_below HR0_1.out HB.out));(case side4=>exact HC0_1.out);rintro e w16 ⟨v643,rfl,ho0,hb⟩;refine ⟨_,rfl,?_⟩;have HO644:=aM (Kd.R_lower ho0 (below_size (bX1 HB.out GE640.out)));replace BK640:=aM (bbX BK640.out hb);replace HB:=aM (below_step (bX1 HB.out GE640.out) hb);(try clear hb);(try clear ho0);obtain ⟨hcz17_0,hcz17_1,hfz17_0,hfz17_1⟩:=f2Z BK640.out)|((with_reducible refine gate_callee (f:=19) rfl ?_);refine goesL_ (some 16) rfl rfl Tryz.func19 (by kernel_rfl) rfl #[.agg #[.slice A0_0 l0_0.length c0_0,.slice A0_1 l0_1.length c0_1]] rfl aX ?_;(with_reducible refine(impl_IndexOf.calls k _ _ l0_0 _ _ l0_1 t646 _ ?side1 ?side2 ?side3 ?side4 A6.out).mono ?_);(case side1=>exact cX (Kd.C_below HR0_0.out HB.out));(case side2=>exact HC0_0.out);(case side3=>exact cX (Kd.C_below HR0_1.out HB.out));(case side4=>exact HC0_1.out);rintro e w18 ⟨rfl,hb⟩;refine ⟨_,rfl,?_⟩;replace HO644:=aM (Kd.R_below (rX HO644.out) hb);replace BK640:=aM (bbX BK640.out hb);replace HB:=aM (below_step (bX1 HB.out GE640.out) hb);(try clear hb))|((with_reducible refine gate_callee (f:=18) rfl ?_);refine goesL_ (some 17) rfl rfl Tryz.func18 (by kernel_rfl) rfl #[.int .i64 t646] rfl aX ?_;(with_reducible refine(impl_FormatInt.calls t646 t647 _ ?side1 A7.out).mono ?_);(case side1=>exact PowTab.below HTAB.out (bX1 HB.out GE640.out));rintro e w19 ⟨rfl,hb⟩;refine ⟨_,rfl,?_⟩;replace HO644:=aM (Kd.R_below (rX HO644.out) hb);replace BK640:=aM (bbX BK640.out hb);replace HB:=aM (below_step (bX1 HB.out GE640.out) hb);(try clear hb);obtain ⟨Ao20,co20,eo20⟩:=Kd.R_slice HO644.out;subst eo20)|((with_reducible refine gate_callee (f:=20) rfl ?_);refine goesL_ (some 21) rfl rfl Tryz.func20 (by kernel_rfl) rfl #[.slice Ao20 t642.length co20] rfl aX ?_;(with_reducible refine(impl_FormatList.calls k _ _ t642 t648 _ ?side1 ?side2 ?side3 A10.out).mono ?_);(case side1=>exact cX (Kd.R_reads' HO644.out).2.2);(case side2=>exact(Kd.R_reads' HO644.out).2.1);(case side3=>exact PowTab.below HTAB.out (bX1 HB.out GE640.out));rintro e w21 ⟨rfl,hb⟩;refine ⟨_,rfl,?_⟩;replace HO644:=aM (Kd.R_below (rX HO644.out) hb);replace BK640:=aM (bbX BK640.out hb);replace HB:=aM (below_step (bX1 HB.out GE640.out) hb);(try clear hb)))
 go_ret
 exact ⟨eX,bX1 HB.out GE640.out⟩
 }
 {
 rw [if_neg c11] at H
 exact absurd H (by simp)
 }
 }
 {
 rw [if_neg c9] at H
 exact absurd H (by simp)
 }
 }
 {
 rw [if_neg c8] at H
 exact absurd H (by simp)
 }
 }
 {
 replace c5:=Bool.eq_false_iff.mpr c5
 subst c5
 have H1:(some (⟨#[116,111,111,32,109,97,110,121]⟩:ByteArray))=some r:=by rw [if_neg (show ¬ (false=true) by decide)] at H;exact H
 clear H
 have H:=H1
 clear H1
 obtain rfl:=Option.some.inj H
 go_enter Tryz.func7,Tryz.ntmps7
 go_wp2_with (first|((with_reducible refine gate_dst (N:=1) rfl ?_);refine bEv (cs:=#[.slice A0_0 l0_0.length c0_0,.slice A0_1 l0_1.length c0_1]) (t:=27) ?_;intro gb640 hg w22 hbox hb;have BK640:=aM (hbox);have GW640:=aM ((szX (below_size (bX HB.out)) hg:w.heap.size≤gb640));have GE640:=GW640;replace HB:=aM (below_step (bX HB.out) hb);clear hb hbox hg;obtain ⟨hcz23_0,hcz23_1,hfz23_0,hfz23_1⟩:=f2Z BK640.out)|((with_reducible refine gate_callee (f:=16) rfl ?_);refine goesL_ (some 6) rfl rfl Tryz.func16 (by kernel_rfl) rfl #[.agg #[.slice A0_0 l0_0.length c0_0,.slice A0_1 l0_1.length c0_1]] rfl aX ?_;(with_reducible refine(impl_SurfaceOk.calls k _ _ l0_0 _ _ l0_1 true _ ?side1 ?side2 ?side3 ?side4 A2.out).mono ?_);(case side1=>exact cX (Kd.C_below HR0_0.out HB.out));(case side2=>exact HC0_0.out);(case side3=>exact cX (Kd.C_below HR0_1.out HB.out));(case side4=>exact HC0_1.out);rintro e w24 ⟨rfl,hb⟩;refine ⟨_,rfl,?_⟩;replace BK640:=aM (bbX BK640.out hb);replace HB:=aM (below_step (bX1 HB.out GE640.out) hb);(try clear hb);obtain ⟨hcz25_0,hcz25_1,hfz25_0,hfz25_1⟩:=f2Z BK640.out)|((with_reducible refine gate_callee (f:=17) rfl ?_);refine goesL_ (some 10) rfl rfl Tryz.func17 (by kernel_rfl) rfl #[.agg #[.slice A0_0 l0_0.length c0_0,.slice A0_1 l0_1.length c0_1]] rfl aX ?_;(with_reducible refine(impl_CuspsOf.calls k _ _ l0_0 _ _ l0_1 t642 false _ ?side1 ?side2 ?side3 ?side4 A4.out).mono ?_);(case side1=>exact cX (Kd.C_below HR0_0.out HB.out));(case side2=>exact HC0_0.out);(case side3=>exact cX (Kd.C_below HR0_1.out HB.out));(case side4=>exact HC0_1.out);rintro e w26 ⟨v643,rfl,ho0,hb⟩;refine ⟨_,rfl,?_⟩;have HO644:=aM (Kd.R_lower ho0 (below_size (bX1 HB.out GE640.out)));replace BK640:=aM (bbX BK640.out hb);replace HB:=aM (below_step (bX1 HB.out GE640.out) hb);(try clear hb);(try clear ho0)))
 go_ret
 exact ⟨eX,bX1 HB.out GE640.out⟩
 }
 }
 {
 replace c3:=Bool.eq_false_iff.mpr c3
 subst c3
 have H1:(some (⟨#[]⟩:ByteArray))=some r:=by rw [if_neg (show ¬ (false=true) by decide)] at H;exact H
 clear H
 have H:=H1
 clear H1
 obtain rfl:=Option.some.inj H
 go_enter Tryz.func7,Tryz.ntmps7
 go_wp2_with (first|((with_reducible refine gate_dst (N:=1) rfl ?_);refine bEv (cs:=#[.slice A0_0 l0_0.length c0_0,.slice A0_1 l0_1.length c0_1]) (t:=27) ?_;intro gb640 hg w27 hbox hb;have BK640:=aM (hbox);have GW640:=aM ((szX (below_size (bX HB.out)) hg:w.heap.size≤gb640));have GE640:=GW640;replace HB:=aM (below_step (bX HB.out) hb);clear hb hbox hg;obtain ⟨hcz28_0,hcz28_1,hfz28_0,hfz28_1⟩:=f2Z BK640.out)|((with_reducible refine gate_callee (f:=16) rfl ?_);refine goesL_ (some 6) rfl rfl Tryz.func16 (by kernel_rfl) rfl #[.agg #[.slice A0_0 l0_0.length c0_0,.slice A0_1 l0_1.length c0_1]] rfl aX ?_;(with_reducible refine(impl_SurfaceOk.calls k _ _ l0_0 _ _ l0_1 false _ ?side1 ?side2 ?side3 ?side4 A2.out).mono ?_);(case side1=>exact cX (Kd.C_below HR0_0.out HB.out));(case side2=>exact HC0_0.out);(case side3=>exact cX (Kd.C_below HR0_1.out HB.out));(case side4=>exact HC0_1.out);rintro e w29 ⟨rfl,hb⟩;refine ⟨_,rfl,?_⟩;replace BK640:=aM (bbX BK640.out hb);replace HB:=aM (below_step (bX1 HB.out GE640.out) hb);(try clear hb)))
 go_ret
 exact ⟨eX,bX1 HB.out GE640.out⟩
 }

/-! ### laws_eqIntS: function 21 -/
def laws_eqIntS.l0 : Nat→List Int→List Int→Int→Option (Bool)
 | 0,_,_,_=>none
 | k+1,x0,x1,x5=>if x5<(x0.length:Int) then (if 0≤x5 then (if x5<(x1.length:Int) then (if (rd x0 x5)=(rd x1 x5) then (laws_eqIntS.l0 k x0 x1 (wrap64 (x5+1))) else (some false)) else (none)) else (none)) else (some true)
def laws_eqIntS.f (k:Nat) (l0:List Int) (l1:List Int):Option (Bool):=if (l0.length:Int)=(l1.length:Int) then (laws_eqIntS.l0 k l0 l1 0) else (some false)
theorem laws_eqIntS.calls (k:Nat) (A0:Option Addr) (c0:Nat) (l0:List Int) (A1:Option Addr) (c1:Nat) (l1:List Int) (r:Bool) (w:World) (hr0:Kd.C (Kd.int .i64) w A0 l0.length l0) (hc0:l0.length≤c0) (hr1:Kd.C (Kd.int .i64) w A1 l1.length l1) (hc1:l1.length≤c1) (h:laws_eqIntS.f k l0 l1=some r) :
  Calls Tryz.prog 21 #[.slice A0 l0.length c0,.slice A1 l1.length c1] w fun e w'=>e = .returned (.bool r)∧Drawn0 w w':=by
 have HR0:=aM hr0
 have HC0:=aM hc0
 clear hr0 hc0
 have HR1:=aM hr1
 have HC1:=aM hc1
 clear hr1 hc1
 have H:(if (l0.length:Int)=(l1.length:Int) then (laws_eqIntS.l0 k l0 l1 0) else (some false))=some r:=h
 clear h
 by_cases c3:(l0.length:Int)=(l1.length:Int)
 {
 rw [if_pos c3] at H
 have c3b0:((l0.length:Int) == (l1.length:Int))=true:=beq_iff_eq.mpr c3
 have c3b1:((l0.length:Int) != (l1.length:Int))=false:=bne_eq_false_iff_eq.mpr c3
 have c3b2:(l0.length == l1.length)=true:=by first|simpa using c3|(simp at c3 ⊢;omega)
 clear c3
 have H':=aM H
 clear H
 go_enter Tryz.func21,Tryz.ntmps21
 go_wp2
 repeat(go_quiet (fail);try go_wp2)
 go_loopg [5] k (fun kq v5 w'=>∃ (x5_1:Int),v5 = .int .i64 x5_1∧Aside0 (laws_eqIntS.l0 kq l0 l1 x5_1=some r)∧Aside0 (kq≤k)∧Drawn0 w w')
 case atStart=>exact ⟨(0),vX,H',⟨Nat.le_refl _⟩,by repeat(first|exact Drawn0.refl _|apply Drawn0.step)⟩
 case round =>
 clear H'
 try clear c1
 try clear c3
 try clear c3b0
 try clear c3b1
 try clear c3b2
 obtain ⟨x5_1,rfl,HA,HK1,⟨m1,rfl⟩⟩:=hrel
 cases gk with
 | zero=>exact absurd HA.out (by simp [laws_eqIntS.l0])
 | succ k1 =>
 have H:=HA.out
 clear HA
 simp only [laws_eqIntS.l0] at H
 by_cases c4:x5_1<(l0.length:Int)
 {
 rw [if_pos c4] at H
 have c4b0:=decide_eq_true c4
 clear c4
 by_cases c5:0≤x5_1
 {
 rw [if_pos c5] at H
 have c5b0:=decide_eq_true c5
 clear c5
 by_cases c6:x5_1<(l1.length:Int)
 {
 rw [if_pos c6] at H
 have c6b0:=decide_eq_true c6
 clear c6
 by_cases c7:(rd l0 x5_1)=(rd l1 x5_1)
 {
 rw [if_pos c7] at H
 have c7b0:((rd l0 x5_1) == (rd l1 x5_1))=true:=beq_iff_eq.mpr c7
 have c7b1:((rd l0 x5_1) != (rd l1 x5_1))=false:=bne_eq_false_iff_eq.mpr c7
 clear c7
 have H':=aM H
 clear H
 have p649:0≤(x5_1:Int):=dX
 have q649:x5_1<(l0.length:Int):=dX
 obtain ⟨ad649,e649,hx649_0⟩:=Kd.at_int HR0.out x5_1 p649 q649
 cases e649
 replace p649:=eq_true p649
 replace q649:=eq_true q649
 have p650:0≤(x5_1:Int):=dX
 have q650:x5_1<(l1.length:Int):=dX
 obtain ⟨ad650,e650,hx650_0⟩:=Kd.at_int HR1.out x5_1 p650 q650
 cases e650
 replace p650:=eq_true p650
 replace q650:=eq_true q650
 go_wp2
 repeat(go_quiet (fail);try go_wp2)
 go_roundg k1
 case measure=>have:=HK1.out;omega
 case rel=>exact ⟨(wrap64 (x5_1+1)),vX,H',⟨by have:=HK1.out;omega⟩,by repeat(first|exact Drawn0.refl _|apply Drawn0.step)⟩
 }
 {
 rw [if_neg c7] at H
 have c7b0:((rd l0 x5_1) == (rd l1 x5_1))=false:=beq_eq_false_iff_ne.mpr c7
 have c7b1:((rd l0 x5_1) != (rd l1 x5_1))=true:=bne_iff_ne.mpr c7
 obtain rfl:=Option.some.inj H
 have p649:0≤(x5_1:Int):=dX
 have q649:x5_1<(l0.length:Int):=dX
 obtain ⟨ad649,e649,hx649_0⟩:=Kd.at_int HR0.out x5_1 p649 q649
 cases e649
 replace p649:=eq_true p649
 replace q649:=eq_true q649
 have p650:0≤(x5_1:Int):=dX
 have q650:x5_1<(l1.length:Int):=dX
 obtain ⟨ad650,e650,hx650_0⟩:=Kd.at_int HR1.out x5_1 p650 q650
 cases e650
 replace p650:=eq_true p650
 replace q650:=eq_true q650
 go_wp2
 repeat(go_quiet (fail);try go_wp2)
 go_ret
 exact ⟨by first|rfl|(simp;done)|(simp [*];done),by repeat(first|exact Drawn0.refl _|apply Drawn0.step)⟩
 }
 }
 {
 rw [if_neg c6] at H
 exact absurd H (by simp)
 }
 }
 {
 rw [if_neg c5] at H
 exact absurd H (by simp)
 }
 }
 {
 rw [if_neg c4] at H
 have c4b0:=decide_eq_false c4
 clear c4
 obtain rfl:=Option.some.inj H
 go_wp2
 repeat(go_quiet (fail);try go_wp2)
 go_ret
 exact ⟨by first|rfl|(simp;done)|(simp [*];done),by repeat(first|exact Drawn0.refl _|apply Drawn0.step)⟩
 }
 }
 {
 rw [if_neg c3] at H
 have c3b0:((l0.length:Int) == (l1.length:Int))=false:=beq_eq_false_iff_ne.mpr c3
 have c3b1:((l0.length:Int) != (l1.length:Int))=true:=bne_iff_ne.mpr c3
 have c3b2:(l0.length == l1.length)=false:=by first|simpa using c3|(simp at c3 ⊢;omega)
 obtain rfl:=Option.some.inj H
 go_enter Tryz.func21,Tryz.ntmps21
 go_wp2
 repeat(go_quiet (fail);try go_wp2)
 go_ret
 exact ⟨by first|rfl|(simp;done)|(simp [*];done),by repeat(first|exact Drawn0.refl _|apply Drawn0.step)⟩
 }

/-! ### laws_eqSurface: function 8 -/
def laws_eqSurface.f (k:Nat) (l0_0:List Int) (l0_1:List Int) (l1_0:List Int) (l1_1:List Int):Option (Bool):=(laws_eqIntS.f k l0_0 l1_0).bind fun t653=>(if t653=true then ((laws_eqIntS.f k l0_1 l1_1).bind fun t654=>(if t654=true then (some true) else (some false))) else (some false))
theorem laws_eqSurface.calls (k:Nat) (A0_0:Option Addr) (c0_0:Nat) (l0_0:List Int) (A0_1:Option Addr) (c0_1:Nat) (l0_1:List Int) (A1_0:Option Addr) (c1_0:Nat) (l1_0:List Int) (A1_1:Option Addr) (c1_1:Nat) (l1_1:List Int) (r:Bool) (w:World) (hr0_0:Kd.C (Kd.int .i64) w A0_0 l0_0.length l0_0) (hc0_0:l0_0.length≤c0_0) (hr0_1:Kd.C (Kd.int .i64) w A0_1 l0_1.length l0_1) (hc0_1:l0_1.length≤c0_1) (hr1_0:Kd.C (Kd.int .i64) w A1_0 l1_0.length l1_0) (hc1_0:l1_0.length≤c1_0) (hr1_1:Kd.C (Kd.int .i64) w A1_1 l1_1.length l1_1) (hc1_1:l1_1.length≤c1_1) (h:laws_eqSurface.f k l0_0 l0_1 l1_0 l1_1=some r) :
  Calls Tryz.prog 8 #[.agg #[.slice A0_0 l0_0.length c0_0,.slice A0_1 l0_1.length c0_1],.agg #[.slice A1_0 l1_0.length c1_0,.slice A1_1 l1_1.length c1_1]] w fun e w'=>e = .returned (.bool r)∧Below w.heap.size w w':=by
 have hu27:=Tryz.underlying27
 have HR0_0:=aM hr0_0
 have HC0_0:=aM hc0_0
 clear hr0_0 hc0_0
 have HR0_1:=aM hr0_1
 have HC0_1:=aM hc0_1
 clear hr0_1 hc0_1
 have HR1_0:=aM hr1_0
 have HC1_0:=aM hc1_0
 clear hr1_0 hc1_0
 have HR1_1:=aM hr1_1
 have HC1_1:=aM hc1_1
 clear hr1_1 hc1_1
 have HB:=aM (Below.refl w.heap.size w)
 have H:((laws_eqIntS.f k l0_0 l1_0).bind fun t653=>(if t653=true then ((laws_eqIntS.f k l0_1 l1_1).bind fun t654=>(if t654=true then (some true) else (some false))) else (some false)))=some r:=h
 clear h
 replace H:=oB H
 obtain ⟨t653,A30,H⟩:=H
 have A3:=aM A30
 clear A30
 by_cases c4:t653=true
 {
 subst c4
 have H1:((laws_eqIntS.f k l0_1 l1_1).bind fun t654=>(if t654=true then (some true) else (some false)))=some r:=by rw [if_pos rfl] at H;exact H
 clear H
 have H:=H1
 clear H1
 replace H:=oB H
 obtain ⟨t654,A50,H⟩:=H
 have A5:=aM A50
 clear A50
 by_cases c6:t654=true
 {
 subst c6
 have H1:(some true)=some r:=by rw [if_pos rfl] at H;exact H
 clear H
 have H:=H1
 clear H1
 obtain rfl:=Option.some.inj H
 go_enter Tryz.func8,Tryz.ntmps8
 go_wp2_with (first|((with_reducible refine gate_dst (N:=2) rfl ?_);refine bEv (cs:=#[.slice A0_0 l0_0.length c0_0,.slice A0_1 l0_1.length c0_1]) (t:=27) ?_;intro gb651 hg w7 hbox hb;have BK651:=aM (hbox);have GW651:=aM ((szX (below_size (bX HB.out)) hg:w.heap.size≤gb651));have GE651:=GW651;replace HB:=aM (below_step (bX HB.out) hb);clear hb hbox hg)|((with_reducible refine gate_dst (N:=3) rfl ?_);refine bEv (cs:=#[.slice A1_0 l1_0.length c1_0,.slice A1_1 l1_1.length c1_1]) (t:=27) ?_;intro gb652 hg w8 hbox hb;have BK652:=aM (hbox);have GW652:=aM ((szX (below_size (bX1 HB.out GE651.out)) hg:w.heap.size≤gb652));have GE652:=GW652;replace HB:=aM (below_step (bX1 HB.out GE651.out) hb);have NB651_652:=aM (neX BK651.out hg);have NB652_651:=aM (nfX BK651.out hg);replace BK651:=aM (bbX BK651.out hb);clear hb hbox hg;have hnb9:=NB651_652.out;have hnc9:=NB652_651.out;obtain ⟨hcz10_0,hcz10_1,hfz10_0,hfz10_1⟩:=f2Z BK651.out;have hcz11_0:w8.cell? ⟨gb652,0,none⟩=some (.slice A1_0 l1_0.length c1_0):=(blk_cell BK652.out 0).trans rfl;have hcz11_1:w8.cell? ⟨gb652,1,none⟩=some (.slice A1_1 l1_1.length c1_1):=(blk_cell BK652.out 1).trans rfl;have hfz11_0:=blk_frozen BK652.out 0;have hfz11_1:=blk_frozen BK652.out 1)|((with_reducible refine gate_callee (f:=21) rfl ?_);refine goesL_ (some 9) rfl rfl Tryz.func21 (by kernel_rfl) rfl #[.slice A0_0 l0_0.length c0_0,.slice A1_0 l1_0.length c1_0] rfl aX ?_;(with_reducible refine(laws_eqIntS.calls k _ _ l0_0 _ _ l1_0 true _ ?side1 ?side2 ?side3 ?side4 A3.out).mono ?_);(case side1=>exact cX (Kd.C_below HR0_0.out HB.out));(case side2=>exact HC0_0.out);(case side3=>exact cX (Kd.C_below HR1_0.out HB.out));(case side4=>exact HC1_0.out);rintro e w' ⟨rfl,⟨nd,rfl⟩⟩;refine ⟨_,rfl,?_⟩)|((with_reducible refine gate_callee (f:=21) rfl ?_);refine goesL_ (some 15) rfl rfl Tryz.func21 (by kernel_rfl) rfl #[.slice A0_1 l0_1.length c0_1,.slice A1_1 l1_1.length c1_1] rfl aX ?_;(with_reducible refine(laws_eqIntS.calls k _ _ l0_1 _ _ l1_1 true _ ?side1 ?side2 ?side3 ?side4 A5.out).mono ?_);(case side1=>exact cX (Kd.C_below HR0_1.out (bX2 HB.out GE651.out GE652.out)));(case side2=>exact HC0_1.out);(case side3=>exact cX (Kd.C_below HR1_1.out (bX2 HB.out GE651.out GE652.out)));(case side4=>exact HC1_1.out);rintro e w' ⟨rfl,⟨nd,rfl⟩⟩;refine ⟨_,rfl,?_⟩))
 go_ret
 exact ⟨eX,bX2 HB.out GE651.out GE652.out⟩
 }
 {
 replace c6:=Bool.eq_false_iff.mpr c6
 subst c6
 have H1:(some false)=some r:=by rw [if_neg (show ¬ (false=true) by decide)] at H;exact H
 clear H
 have H:=H1
 clear H1
 obtain rfl:=Option.some.inj H
 go_enter Tryz.func8,Tryz.ntmps8
 go_wp2_with (first|((with_reducible refine gate_dst (N:=2) rfl ?_);refine bEv (cs:=#[.slice A0_0 l0_0.length c0_0,.slice A0_1 l0_1.length c0_1]) (t:=27) ?_;intro gb651 hg w12 hbox hb;have BK651:=aM (hbox);have GW651:=aM ((szX (below_size (bX HB.out)) hg:w.heap.size≤gb651));have GE651:=GW651;replace HB:=aM (below_step (bX HB.out) hb);clear hb hbox hg)|((with_reducible refine gate_dst (N:=3) rfl ?_);refine bEv (cs:=#[.slice A1_0 l1_0.length c1_0,.slice A1_1 l1_1.length c1_1]) (t:=27) ?_;intro gb652 hg w13 hbox hb;have BK652:=aM (hbox);have GW652:=aM ((szX (below_size (bX1 HB.out GE651.out)) hg:w.heap.size≤gb652));have GE652:=GW652;replace HB:=aM (below_step (bX1 HB.out GE651.out) hb);have NB651_652:=aM (neX BK651.out hg);have NB652_651:=aM (nfX BK651.out hg);replace BK651:=aM (bbX BK651.out hb);clear hb hbox hg;have hnb14:=NB651_652.out;have hnc14:=NB652_651.out;obtain ⟨hcz15_0,hcz15_1,hfz15_0,hfz15_1⟩:=f2Z BK651.out;have hcz16_0:w13.cell? ⟨gb652,0,none⟩=some (.slice A1_0 l1_0.length c1_0):=(blk_cell BK652.out 0).trans rfl;have hcz16_1:w13.cell? ⟨gb652,1,none⟩=some (.slice A1_1 l1_1.length c1_1):=(blk_cell BK652.out 1).trans rfl;have hfz16_0:=blk_frozen BK652.out 0;have hfz16_1:=blk_frozen BK652.out 1)|((with_reducible refine gate_callee (f:=21) rfl ?_);refine goesL_ (some 9) rfl rfl Tryz.func21 (by kernel_rfl) rfl #[.slice A0_0 l0_0.length c0_0,.slice A1_0 l1_0.length c1_0] rfl aX ?_;(with_reducible refine(laws_eqIntS.calls k _ _ l0_0 _ _ l1_0 true _ ?side1 ?side2 ?side3 ?side4 A3.out).mono ?_);(case side1=>exact cX (Kd.C_below HR0_0.out HB.out));(case side2=>exact HC0_0.out);(case side3=>exact cX (Kd.C_below HR1_0.out HB.out));(case side4=>exact HC1_0.out);rintro e w' ⟨rfl,⟨nd,rfl⟩⟩;refine ⟨_,rfl,?_⟩)|((with_reducible refine gate_callee (f:=21) rfl ?_);refine goesL_ (some 15) rfl rfl Tryz.func21 (by kernel_rfl) rfl #[.slice A0_1 l0_1.length c0_1,.slice A1_1 l1_1.length c1_1] rfl aX ?_;(with_reducible refine(laws_eqIntS.calls k _ _ l0_1 _ _ l1_1 false _ ?side1 ?side2 ?side3 ?side4 A5.out).mono ?_);(case side1=>exact cX (Kd.C_below HR0_1.out (bX2 HB.out GE651.out GE652.out)));(case side2=>exact HC0_1.out);(case side3=>exact cX (Kd.C_below HR1_1.out (bX2 HB.out GE651.out GE652.out)));(case side4=>exact HC1_1.out);rintro e w' ⟨rfl,⟨nd,rfl⟩⟩;refine ⟨_,rfl,?_⟩))
 go_ret
 exact ⟨eX,bX2 HB.out GE651.out GE652.out⟩
 }
 }
 {
 replace c4:=Bool.eq_false_iff.mpr c4
 subst c4
 have H1:(some false)=some r:=by rw [if_neg (show ¬ (false=true) by decide)] at H;exact H
 clear H
 have H:=H1
 clear H1
 obtain rfl:=Option.some.inj H
 go_enter Tryz.func8,Tryz.ntmps8
 go_wp2_with (first|((with_reducible refine gate_dst (N:=2) rfl ?_);refine bEv (cs:=#[.slice A0_0 l0_0.length c0_0,.slice A0_1 l0_1.length c0_1]) (t:=27) ?_;intro gb651 hg w17 hbox hb;have BK651:=aM (hbox);have GW651:=aM ((szX (below_size (bX HB.out)) hg:w.heap.size≤gb651));have GE651:=GW651;replace HB:=aM (below_step (bX HB.out) hb);clear hb hbox hg)|((with_reducible refine gate_dst (N:=3) rfl ?_);refine bEv (cs:=#[.slice A1_0 l1_0.length c1_0,.slice A1_1 l1_1.length c1_1]) (t:=27) ?_;intro gb652 hg w18 hbox hb;have BK652:=aM (hbox);have GW652:=aM ((szX (below_size (bX1 HB.out GE651.out)) hg:w.heap.size≤gb652));have GE652:=GW652;replace HB:=aM (below_step (bX1 HB.out GE651.out) hb);have NB651_652:=aM (neX BK651.out hg);have NB652_651:=aM (nfX BK651.out hg);replace BK651:=aM (bbX BK651.out hb);clear hb hbox hg;have hnb19:=NB651_652.out;have hnc19:=NB652_651.out;obtain ⟨hcz20_0,hcz20_1,hfz20_0,hfz20_1⟩:=f2Z BK651.out;have hcz21_0:w18.cell? ⟨gb652,0,none⟩=some (.slice A1_0 l1_0.length c1_0):=(blk_cell BK652.out 0).trans rfl;have hcz21_1:w18.cell? ⟨gb652,1,none⟩=some (.slice A1_1 l1_1.length c1_1):=(blk_cell BK652.out 1).trans rfl;have hfz21_0:=blk_frozen BK652.out 0;have hfz21_1:=blk_frozen BK652.out 1)|((with_reducible refine gate_callee (f:=21) rfl ?_);refine goesL_ (some 9) rfl rfl Tryz.func21 (by kernel_rfl) rfl #[.slice A0_0 l0_0.length c0_0,.slice A1_0 l1_0.length c1_0] rfl aX ?_;(with_reducible refine(laws_eqIntS.calls k _ _ l0_0 _ _ l1_0 false _ ?side1 ?side2 ?side3 ?side4 A3.out).mono ?_);(case side1=>exact cX (Kd.C_below HR0_0.out HB.out));(case side2=>exact HC0_0.out);(case side3=>exact cX (Kd.C_below HR1_0.out HB.out));(case side4=>exact HC1_0.out);rintro e w' ⟨rfl,⟨nd,rfl⟩⟩;refine ⟨_,rfl,?_⟩))
 go_ret
 exact ⟨eX,bX2 HB.out GE651.out GE652.out⟩
 }

/-! ### laws_FnExactOrbitLine: function 3 -/
def laws_FnExactOrbitLine.f (k:Nat) (l0_0:List Int) (l0_1:List Int):Option (Bool):=(laws_szSurface.f l0_0 l0_1 1048576).bind fun t656=>(if t656<0 then (some true) else ((laws_toSurface.f k l0_0 l0_1).bind fun bt657=>((spec_OrbitLine.f k bt657.1 bt657.2).bind fun t663=>((laws_toSurface.f k l0_0 l0_1).bind fun bt664=>((impl_OrbitLine.f k bt664.1 bt664.2).bind fun t671=>(if t671.toList=t663.toList then ((laws_toSurface.f k l0_0 l0_1).bind fun bt672=>((laws_eqSurface.f k bt664.1 bt664.2 bt672.1 bt672.2).bind fun t678=>(if t678=true then (some true) else (some false)))) else (some false)))))))
theorem laws_FnExactOrbitLine.calls (k:Nat) (A0_0:Option Addr) (c0_0:Nat) (l0_0:List Int) (A0_1:Option Addr) (c0_1:Nat) (l0_1:List Int) (r:Bool) (w:World) (hr0_0:Kd.C (Kd.int .i64) w A0_0 l0_0.length l0_0) (hc0_0:l0_0.length≤c0_0) (hr0_1:Kd.C (Kd.int .i64) w A0_1 l0_1.length l0_1) (hc0_1:l0_1.length≤c0_1) (htab_:PowTab w) (hrt_:r=true) (h:laws_FnExactOrbitLine.f k l0_0 l0_1=some r) :
  Calls Tryz.prog 3 #[.agg #[.slice A0_0 l0_0.length c0_0,.slice A0_1 l0_1.length c0_1]] w fun e w'=>e = .returned (.bool r)∧Below w.heap.size w w':=by
 have hu24:=Tryz.underlying24
 have hu27:=Tryz.underlying27
 have HR0_0:=aM hr0_0
 have HC0_0:=aM hc0_0
 clear hr0_0 hc0_0
 have HR0_1:=aM hr0_1
 have HC0_1:=aM hc0_1
 clear hr0_1 hc0_1
 have HB:=aM (Below.refl w.heap.size w)
 have H:((laws_szSurface.f l0_0 l0_1 1048576).bind fun t656=>(if t656<0 then (some true) else ((laws_toSurface.f k l0_0 l0_1).bind fun bt657=>((spec_OrbitLine.f k bt657.1 bt657.2).bind fun t663=>((laws_toSurface.f k l0_0 l0_1).bind fun bt664=>((impl_OrbitLine.f k bt664.1 bt664.2).bind fun t671=>(if t671.toList=t663.toList then ((laws_toSurface.f k l0_0 l0_1).bind fun bt672=>((laws_eqSurface.f k bt664.1 bt664.2 bt672.1 bt672.2).bind fun t678=>(if t678=true then (some true) else (some false)))) else (some false))))))))=some r:=h
 clear h
 have HTAB:=aM htab_
 clear htab_
 have HRT:=aM hrt_
 clear hrt_
 replace H:=oB H
 obtain ⟨t656,A20,H⟩:=H
 have A2:=aM A20
 clear A20
 by_cases c3:t656<0
 {
 rw [if_pos c3] at H
 have c3b0:=decide_eq_true c3
 clear c3
 obtain rfl:=Option.some.inj H
 go_enter Tryz.func3,Tryz.ntmps3
 go_wp2_with (first|((with_reducible refine gate_dst (N:=1) rfl ?_);refine bEv (cs:=#[.slice A0_0 l0_0.length c0_0,.slice A0_1 l0_1.length c0_1]) (t:=24) ?_;intro gb655 hg w4 hbox hb;have BK655:=aM (hbox);have GW655:=aM ((szX (below_size (bX HB.out)) hg:w.heap.size≤gb655));have GE655:=GW655;replace HB:=aM (below_step (bX HB.out) hb);clear hb hbox hg;obtain ⟨hcz5_0,hcz5_1,hfz5_0,hfz5_1⟩:=f2Z BK655.out)|((with_reducible refine gate_callee (f:=4) rfl ?_);refine goesL_ (some 9) rfl rfl Tryz.func4 (by kernel_rfl) rfl #[.agg #[.slice A0_0 l0_0.length c0_0,.slice A0_1 l0_1.length c0_1],.int .i64 1048576] rfl aX ?_;(with_reducible refine(laws_szSurface.calls _ _ l0_0 _ _ l0_1 1048576 t656 _ ?side1 ?side2 ?side3 ?side4 A2.out).mono ?_);(case side1=>exact cX (Kd.C_below HR0_0.out HB.out));(case side2=>exact HC0_0.out);(case side3=>exact cX (Kd.C_below HR0_1.out HB.out));(case side4=>exact HC0_1.out);rintro e w6 ⟨rfl,hb⟩;refine ⟨_,rfl,?_⟩;replace BK655:=aM (bbX BK655.out hb);replace HB:=aM (below_step (bX1 HB.out GE655.out) hb);(try clear hb)))
 go_ret
 exact ⟨eX,bX1 HB.out GE655.out⟩
 }
 {
 rw [if_neg c3] at H
 have c3b0:=decide_eq_false c3
 clear c3
 replace H:=oB H
 obtain ⟨⟨t657,t660⟩,A70,H⟩:=H
 replace H:((spec_OrbitLine.f k t657 t660).bind fun t663=>((laws_toSurface.f k l0_0 l0_1).bind fun bt664=>((impl_OrbitLine.f k bt664.1 bt664.2).bind fun t671=>(if t671.toList=t663.toList then ((laws_toSurface.f k l0_0 l0_1).bind fun bt672=>((laws_eqSurface.f k bt664.1 bt664.2 bt672.1 bt672.2).bind fun t678=>(if t678=true then (some true) else (some false)))) else (some false)))))=some r:=H
 have A7:=aM A70
 clear A70
 replace H:=oB H
 obtain ⟨t663,A80,H⟩:=H
 have A8:=aM A80
 clear A80
 replace H:=oB H
 obtain ⟨⟨t664,t667⟩,A90,H⟩:=H
 replace H:((impl_OrbitLine.f k t664 t667).bind fun t671=>(if t671.toList=t663.toList then ((laws_toSurface.f k l0_0 l0_1).bind fun bt672=>((laws_eqSurface.f k t664 t667 bt672.1 bt672.2).bind fun t678=>(if t678=true then (some true) else (some false)))) else (some false)))=some r:=H
 have A9:=aM A90
 clear A90
 replace H:=oB H
 obtain ⟨t671,A100,H⟩:=H
 have A10:=aM A100
 clear A100
 by_cases c11:t671.toList=t663.toList
 {
 rw [if_pos c11] at H
 have c11b0:(t671.toList == t663.toList)=true:=beq_iff_eq.mpr c11
 have c11b1:(t671.toList != t663.toList)=false:=bne_eq_false_iff_eq.mpr c11
 clear c11
 replace H:=oB H
 obtain ⟨⟨t672,t675⟩,A120,H⟩:=H
 replace H:((laws_eqSurface.f k t664 t667 t672 t675).bind fun t678=>(if t678=true then (some true) else (some false)))=some r:=H
 have A12:=aM A120
 clear A120
 replace H:=oB H
 obtain ⟨t678,A130,H⟩:=H
 have A13:=aM A130
 clear A130
 by_cases c14:t678=true
 {
 subst c14
 have H1:(some true)=some r:=by rw [if_pos rfl] at H;exact H
 clear H
 have H:=H1
 clear H1
 obtain rfl:=Option.some.inj H
 go_enter Tryz.func3,Tryz.ntmps3
 try go_wp2_with (first|((with_reducible refine gate_dst (N:=1) rfl ?_);refine bEv (cs:=#[.slice A0_0 l0_0.length c0_0,.slice A0_1 l0_1.length c0_1]) (t:=24) ?_;intro gb655 hg w15 hbox hb;have BK655:=aM (hbox);have GW655:=aM ((szX (below_size (bX HB.out)) hg:w.heap.size≤gb655));have GE655:=GW655;replace HB:=aM (below_step (bX HB.out) hb);clear hb hbox hg;obtain ⟨hcz16_0,hcz16_1,hfz16_0,hfz16_1⟩:=f2Z BK655.out)|((with_reducible refine gate_callee (f:=4) rfl ?_);refine goesL_ (some 9) rfl rfl Tryz.func4 (by kernel_rfl) rfl #[.agg #[.slice A0_0 l0_0.length c0_0,.slice A0_1 l0_1.length c0_1],.int .i64 1048576] rfl aX ?_;(with_reducible refine(laws_szSurface.calls _ _ l0_0 _ _ l0_1 1048576 t656 _ ?side1 ?side2 ?side3 ?side4 A2.out).mono ?_);(case side1=>exact cX (Kd.C_below HR0_0.out HB.out));(case side2=>exact HC0_0.out);(case side3=>exact cX (Kd.C_below HR0_1.out HB.out));(case side4=>exact HC0_1.out);rintro e w17 ⟨rfl,hb⟩;refine ⟨_,rfl,?_⟩;replace BK655:=aM (bbX BK655.out hb);replace HB:=aM (below_step (bX1 HB.out GE655.out) hb);(try clear hb);obtain ⟨hcz18_0,hcz18_1,hfz18_0,hfz18_1⟩:=f2Z BK655.out)|((with_reducible refine gate_callee (f:=6) rfl ?_);refine goesL_ (some 13) rfl rfl Tryz.func6 (by kernel_rfl) rfl #[.agg #[.slice A0_0 l0_0.length c0_0,.slice A0_1 l0_1.length c0_1]] rfl aX ?_;(with_reducible refine(laws_toSurface.calls k _ _ l0_0 _ _ l0_1 t657 t660 _ ?side1 ?side2 ?side3 ?side4 A7.out).mono ?_);(case side1=>exact cX (Kd.C_below HR0_0.out HB.out));(case side2=>exact HC0_0.out);(case side3=>exact cX (Kd.C_below HR0_1.out HB.out));(case side4=>exact HC0_1.out);rintro e w19 ⟨v658,v661,rfl,ho0,ho1,hb⟩;refine ⟨_,rfl,?_⟩;have HO659:=aM (Kd.R_lower ho0 (below_size (bX1 HB.out GE655.out)));have HO662:=aM (Kd.R_lower ho1 (below_size (bX1 HB.out GE655.out)));replace BK655:=aM (bbX BK655.out hb);replace HB:=aM (below_step (bX1 HB.out GE655.out) hb);(try clear hb);(try clear ho0);(try clear ho1);obtain ⟨Ao20,co20,eo20⟩:=Kd.R_slice HO659.out;subst eo20;obtain ⟨Ao21,co21,eo21⟩:=Kd.R_slice HO662.out;subst eo21)|((with_reducible refine gate_callee (f:=5) rfl ?_);refine goesL_ (some 14) rfl rfl Tryz.func5 (by kernel_rfl) rfl #[.agg #[.slice Ao20 t657.length co20,.slice Ao21 t660.length co21]] rfl aX ?_;(with_reducible refine(spec_OrbitLine.calls k _ _ t657 _ _ t660 t663 _ ?side1 ?side2 ?side3 ?side4 A8.out).mono ?_);(case side1=>exact cX (Kd.R_reads' HO659.out).2.2);(case side2=>exact(Kd.R_reads' HO659.out).2.1);(case side3=>exact cX (Kd.R_reads' HO662.out).2.2);(case side4=>exact(Kd.R_reads' HO662.out).2.1);rintro e w22 ⟨rfl,hb⟩;refine ⟨_,rfl,?_⟩;replace HO659:=aM (Kd.R_below (rX HO659.out) hb);replace HO662:=aM (Kd.R_below (rX HO662.out) hb);replace BK655:=aM (bbX BK655.out hb);replace HB:=aM (below_step (bX1 HB.out GE655.out) hb);(try clear hb);obtain ⟨hcz23_0,hcz23_1,hfz23_0,hfz23_1⟩:=f2Z BK655.out)|((with_reducible refine gate_callee (f:=6) rfl ?_);refine goesL_ (some 16) rfl rfl Tryz.func6 (by kernel_rfl) rfl #[.agg #[.slice A0_0 l0_0.length c0_0,.slice A0_1 l0_1.length c0_1]] rfl aX ?_;(with_reducible refine(laws_toSurface.calls k _ _ l0_0 _ _ l0_1 t664 t667 _ ?side1 ?side2 ?side3 ?side4 A9.out).mono ?_);(case side1=>exact cX (Kd.C_below HR0_0.out HB.out));(case side2=>exact HC0_0.out);(case side3=>exact cX (Kd.C_below HR0_1.out HB.out));(case side4=>exact HC0_1.out);rintro e w24 ⟨v665,v668,rfl,ho0,ho1,hb⟩;refine ⟨_,rfl,?_⟩;have HO666:=aM (Kd.R_lower (Kd.R_new' (Kd.R_new' ho0 (Kd.R_lt (rX HO659.out))) (Kd.R_lt (rX HO662.out))) (below_size (bX1 HB.out GE655.out)));have HO669:=aM (Kd.R_lower (Kd.R_new' (Kd.R_new' ho1 (Kd.R_lt (rX HO659.out))) (Kd.R_lt (rX HO662.out))) (below_size (bX1 HB.out GE655.out)));replace HO659:=aM (Kd.R_mono (Kd.R_told (Kd.R_told (Kd.R_old (rX HO659.out) hb) (Kd.R_base ho0)) (Kd.R_base ho1)) (fun _ h_=>h_.1));replace HO662:=aM (Kd.R_mono (Kd.R_told (Kd.R_told (Kd.R_old (rX HO662.out) hb) (Kd.R_base ho0)) (Kd.R_base ho1)) (fun _ h_=>h_.1));replace BK655:=aM (bbX BK655.out hb);replace HB:=aM (below_step (bX1 HB.out GE655.out) hb);(try clear hb);(try clear ho0);(try clear ho1))|((with_reducible refine gate_dst (N:=5) rfl ?_);refine bEv (cs:=#[.slice none 0 0,.slice none 0 0]) (t:=27) ?_;intro gb670 hg w25 hbox hb;replace HO659:=aM (Kd.R_below (rX HO659.out) hb);replace HO662:=aM (Kd.R_below (rX HO662.out) hb);replace HO666:=aM (Kd.R_below (rX HO666.out) hb);replace HO669:=aM (Kd.R_below (rX HO669.out) hb);have BK670:=aM (hbox);have GW670:=aM ((szX (below_size (bX1 HB.out GE655.out)) hg:w.heap.size≤gb670));have GE670:=GW670;replace HB:=aM (below_step (bX1 HB.out GE655.out) hb);have NB655_670:=aM (neX BK655.out hg);have NB670_655:=aM (nfX BK655.out hg);replace BK655:=aM (bbX BK655.out hb);clear hb hbox hg;obtain ⟨Ao26,co26,eo26⟩:=Kd.R_slice HO666.out;subst eo26;have hnb27:=NB670_655.out;have hnc27:=NB655_670.out;obtain ⟨hcz28_0,hcz28_1,hfz28_0,hfz28_1⟩:=f2Z BK670.out;obtain ⟨Ao29,co29,eo29⟩:=Kd.R_slice HO669.out;subst eo29)|((with_reducible refine gate_callee (f:=7) rfl ?_);refine goesL_ (some 18) rfl rfl Tryz.func7 (by kernel_rfl) rfl #[.agg #[.slice Ao26 t664.length co26,.slice Ao29 t667.length co29]] rfl aX ?_;(with_reducible refine(impl_OrbitLine.calls k _ _ t664 _ _ t667 t671 _ ?side1 ?side2 ?side3 ?side4 ?side5 A10.out).mono ?_);(case side1=>exact rcX (fr2 HO666.out BK670.out (.slice Ao26 t664.length co26) (.slice Ao29 t667.length co29)));(case side2=>exact(Kd.R_reads' HO666.out).2.1);(case side3=>exact rcX (fr2 HO669.out BK670.out (.slice Ao26 t664.length co26) (.slice Ao29 t667.length co29)));(case side4=>exact(Kd.R_reads' HO669.out).2.1);(case side5=>exact PowTab.below HTAB.out (bX2 HB.out GE655.out GE670.out));rintro e w30 ⟨rfl,hb⟩;refine ⟨_,rfl,?_⟩;replace HO659:=aM (Kd.R_below (rX (fr2 HO659.out BK670.out (.slice Ao26 t664.length co26) (.slice Ao29 t667.length co29))) hb);replace HO662:=aM (Kd.R_below (rX (fr2 HO662.out BK670.out (.slice Ao26 t664.length co26) (.slice Ao29 t667.length co29))) hb);replace HO666:=aM (Kd.R_below (rX (fr2 HO666.out BK670.out (.slice Ao26 t664.length co26) (.slice Ao29 t667.length co29))) hb);replace HO669:=aM (Kd.R_below (rX (fr2 HO669.out BK670.out (.slice Ao26 t664.length co26) (.slice Ao29 t667.length co29))) hb);replace BK655:=aM (blk_below (g:=gb655) (o:=.cells #[.slice A0_0 l0_0.length c0_0,.slice A0_1 l0_1.length c0_1] 24 (0,0)) (by(with_reducible repeat(first|refine kN ?_ _|refine kD ?_|refine kA ?_ _));refine blk_far ?_ NB655_670.out _;(with_reducible repeat(first|refine kN ?_ _|refine kD ?_|refine kA ?_ _));refine blk_far ?_ NB655_670.out _;(with_reducible repeat(first|refine kN ?_ _|refine kD ?_|refine kA ?_ _));exact BK655.out) hb);replace BK670:=aM (blk_below (g:=gb670) (o:=.cells #[.slice Ao26 t664.length co26,.slice Ao29 t667.length co29] 27 (0,0)) (by(with_reducible repeat(first|refine kN ?_ _|refine kD ?_|refine kA ?_ _));refine blk_put (cs:=#[.slice Ao26 t664.length co26,.slice none 0 0]) ?_ 1 _ rfl;(with_reducible repeat(first|refine kN ?_ _|refine kD ?_|refine kA ?_ _));refine blk_put (cs:=#[.slice none 0 0,.slice none 0 0]) ?_ 0 _ rfl;(with_reducible repeat(first|refine kN ?_ _|refine kD ?_|refine kA ?_ _));exact BK670.out) hb);replace HB:=aM (below_step (bX2 HB.out GE655.out GE670.out) hb);(try clear hb)))
 replace HO659:=aM (Kd.R_drew HO659.out)
 replace HO662:=aM (Kd.R_drew HO662.out)
 replace HO666:=aM (Kd.R_drew HO666.out)
 replace HO669:=aM (Kd.R_drew HO669.out)
 replace BK655:=aM (blk_drew BK655.out)
 replace BK670:=aM (blk_drew BK670.out)
 replace HB:=aM (below_drew1 HB.out)
 refine start_ (n:=5) (S:=fun w'=>w'.cell? ⟨gb670,0,none⟩=some (.slice Ao26 t664.length co26)∧w'.cell? ⟨gb670,1,none⟩=some (.slice Ao29 t667.length co29)∧w'.cell? ⟨gb655,0,none⟩=some (.slice A0_0 l0_0.length c0_0)∧w'.cell? ⟨gb655,1,none⟩=some (.slice A0_1 l0_1.length c0_1)) (ds:=[]) #[false,false,false,false,false] (by kernel_rfl) rfl rfl ⟨cz20 BK670.out,cz21 BK670.out,cz20 BK655.out,cz21 BK655.out⟩ (fun hHeld => ?_)
 generalize w30.drew=w31 at HO659 HO662 HO666 HO669 BK655 BK670 HB hHeld ⊢
 refine take_ (i:=0) (N:=some 22) (v:=?_) (a':=?_) #[true,false,false,false,false] rfl rfl (by kernel_rfl) (fun _ _ _ h=>h) (Or.inl ⟨by rfl,?_⟩) hHeld ?_ ?_
 rotate_left
 {
 rintro w' ⟨s0,s1,s2,s3⟩
 go_simp
 with_reducible rfl
 }
 rotate_left
 {
 simp only [Act.put,zA,zB,zC,i64_w,i32_w]
 rfl
 }
 refine take_ (i:=1) (N:=some 23) (v:=?_) (a':=?_) #[true,true,false,false,false] rfl rfl (by kernel_rfl) (fun _ _ _ h=>h) (Or.inl ⟨by rfl,?_⟩) hHeld ?_ ?_
 rotate_left
 {
 rintro w' ⟨s0,s1,s2,s3⟩
 go_simp
 with_reducible rfl
 }
 rotate_left
 {
 simp only [Act.put,zA,zB,zC,i64_w,i32_w]
 rfl
 }
 refine one_ (i:=2) (N:=some 24) #[true,true,true,false,false] rfl rfl (by kernel_rfl) (by decide) (fun K hK => ?_)
 refine goes_ Tryz.func6 (by kernel_rfl) rfl #[.agg #[.slice A0_0 l0_0.length c0_0,.slice A0_1 l0_1.length c0_1]] (by rfl) rfl rfl aX ?_
 with_reducible refine(laws_toSurface.calls k _ _ l0_0 _ _ l0_1 t672 t675 _ ?side1 ?side2 ?side3 ?side4 A12.out).mono ?_
 (case side1=>exact cX (Kd.C_below HR0_0.out HB.out))
 (case side2=>exact HC0_0.out)
 (case side3=>exact cX (Kd.C_below HR0_1.out HB.out))
 (case side4=>exact HC0_1.out)
 rintro e w32 ⟨v673,v676,rfl,ho0,ho1,hb⟩
 refine ⟨_,rfl,?_⟩
 have HO674:=aM (Kd.R_lower (Kd.R_new' (Kd.R_new' (Kd.R_new' (Kd.R_new' ho0 (Kd.R_lt (rX HO659.out))) (Kd.R_lt (rX HO662.out))) (Kd.R_lt (rX HO666.out))) (Kd.R_lt (rX HO669.out))) (below_size (bX2 HB.out GE655.out GE670.out)))
 have HO677:=aM (Kd.R_lower (Kd.R_new' (Kd.R_new' (Kd.R_new' (Kd.R_new' ho1 (Kd.R_lt (rX HO659.out))) (Kd.R_lt (rX HO662.out))) (Kd.R_lt (rX HO666.out))) (Kd.R_lt (rX HO669.out))) (below_size (bX2 HB.out GE655.out GE670.out)))
 replace HO659:=aM (Kd.R_mono (Kd.R_told (Kd.R_told (Kd.R_old (rX HO659.out) hb) (Kd.R_base ho0)) (Kd.R_base ho1)) (fun _ h_=>h_.1))
 replace HO662:=aM (Kd.R_mono (Kd.R_told (Kd.R_told (Kd.R_old (rX HO662.out) hb) (Kd.R_base ho0)) (Kd.R_base ho1)) (fun _ h_=>h_.1))
 replace HO666:=aM (Kd.R_mono (Kd.R_told (Kd.R_told (Kd.R_old (rX HO666.out) hb) (Kd.R_base ho0)) (Kd.R_base ho1)) (fun _ h_=>h_.1))
 replace HO669:=aM (Kd.R_mono (Kd.R_told (Kd.R_told (Kd.R_old (rX HO669.out) hb) (Kd.R_base ho0)) (Kd.R_base ho1)) (fun _ h_=>h_.1))
 replace BK655:=aM (bbX BK655.out hb)
 replace BK670:=aM (bbX BK670.out hb)
 replace HB:=aM (below_step (bX2 HB.out GE655.out GE670.out) hb)
 (try clear hb)
 (try clear ho0)
 (try clear ho1)
 obtain ⟨Ao33,co33,eo33⟩:=Kd.R_slice HO674.out
 (first|subst eo33|(injection eo33 with f1_ f2_ f3_;have f4_:=f1_.symm;have f5_:=f3_.symm;clear f1_ f2_ f3_;subst f4_;subst f5_))
 obtain ⟨Ao34,co34,eo34⟩:=Kd.R_slice HO677.out
 (first|subst eo34|(injection eo34 with f1_ f2_ f3_;have f4_:=f1_.symm;have f5_:=f3_.symm;clear f1_ f2_ f3_;subst f4_;subst f5_))
 refine hK.out _ _ ⟨cz20 BK670.out,cz21 BK670.out,cz20 BK655.out,cz21 BK655.out⟩ (fun hHeld => ?_)
 clear hK K
 refine norm_ (a':=?_) ?_ ?_
 rotate_left
 {
 show Act.put _ (some 24) _=_
 simp only [Act.put,zA,zB,zC,i64_w,i32_w]
 rfl
 }
 refine one_ (i:=3) (N:=some 25) #[true,true,true,true,false] rfl rfl (by kernel_rfl) (by decide) (fun K hK => ?_)
 refine goes_ Tryz.func8 (by kernel_rfl) rfl #[.agg #[.slice Ao26 t664.length co26,.slice Ao29 t667.length co29],.agg #[.slice Ao33 t672.length co33,.slice Ao34 t675.length co34]] (by rfl) rfl rfl aX ?_
 with_reducible refine(laws_eqSurface.calls k _ _ t664 _ _ t667 _ _ t672 _ _ t675 true _ ?side1 ?side2 ?side3 ?side4 ?side5 ?side6 ?side7 ?side8 A13.out).mono ?_
 (case side1=>exact cX (Kd.R_reads' HO666.out).2.2)
 (case side2=>exact(Kd.R_reads' HO666.out).2.1)
 (case side3=>exact cX (Kd.R_reads' HO669.out).2.2)
 (case side4=>exact(Kd.R_reads' HO669.out).2.1)
 (case side5=>exact cX (Kd.R_reads' HO674.out).2.2)
 (case side6=>exact(Kd.R_reads' HO674.out).2.1)
 (case side7=>exact cX (Kd.R_reads' HO677.out).2.2)
 (case side8=>exact(Kd.R_reads' HO677.out).2.1)
 rintro e w35 ⟨rfl,hb⟩
 refine ⟨_,rfl,?_⟩
 replace HO659:=aM (Kd.R_below (rX HO659.out) hb)
 replace HO662:=aM (Kd.R_below (rX HO662.out) hb)
 replace HO666:=aM (Kd.R_below (rX HO666.out) hb)
 replace HO669:=aM (Kd.R_below (rX HO669.out) hb)
 replace HO674:=aM (Kd.R_below (rX HO674.out) hb)
 replace HO677:=aM (Kd.R_below (rX HO677.out) hb)
 replace BK655:=aM (bbX BK655.out hb)
 replace BK670:=aM (bbX BK670.out hb)
 replace HB:=aM (below_step (bX2 HB.out GE655.out GE670.out) hb)
 (try clear hb)
 refine hK.out _ _ ⟨cz20 BK670.out,cz21 BK670.out,cz20 BK655.out,cz21 BK655.out⟩ (fun hHeld => ?_)
 clear hK K
 refine norm_ (a':=?_) ?_ ?_
 rotate_left
 {
 show Act.put _ (some 25) _=_
 simp only [Act.put,zA,zB,zC,i64_w,i32_w]
 rfl
 }
 refine pure_ (i:=4) (N:=some 26) (v:=?_) (a':=?_) #[true,true,true,true,true] rfl rfl (by kernel_rfl) (fun _ _ _ h=>h) (Or.inl ⟨by rfl,?_⟩) ?_ ?_
 rotate_left
 {
 intro w'
 go_simp
 with_reducible rfl
 }
 rotate_left
 {
 simp only [Act.put,zA,zB,zC,i64_w,i32_w]
 rfl
 }
 refine done_ (by kernel_rfl) ?_
 try go_wp2
 go_ret
 exact ⟨eX,bX2 HB.out GE655.out GE670.out⟩
 }
 {
 replace c14:=Bool.eq_false_iff.mpr c14
 subst c14
 have H1:(some false)=some r:=by rw [if_neg (show ¬ (false=true) by decide)] at H;exact H
 clear H
 have H:=H1
 clear H1
 exact absurd ((Option.some.inj H).trans HRT.out) (by decide)
 }
 }
 {
 rw [if_neg c11] at H
 have c11b0:(t671.toList == t663.toList)=false:=beq_eq_false_iff_ne.mpr c11
 have c11b1:(t671.toList != t663.toList)=true:=bne_iff_ne.mpr c11
 exact absurd ((Option.some.inj H).trans HRT.out) (by decide)
 }
 }

end Go.Proofs.YtpieaniigkgmoaaGreatDoor.S
