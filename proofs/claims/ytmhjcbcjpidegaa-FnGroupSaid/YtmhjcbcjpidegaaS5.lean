-- PRINTED by print.py (a twelfth state) out of the translation. Not trusted: Lean checks it.
import Derived.Test.YtmhjcbcjpidegaaS0
import Derived.Test.YtmhjcbcjpidegaaS3
import Derived.Test.YtmhjcbcjpidegaaS4
namespace Go.Proofs.Ytmhjcbcjpidegaa.S
set_option maxHeartbeats 8000000
set_option maxRecDepth 100000
open Go.RowKit Go.Proofs.YtmhjcbcjpidegaaW.PrintWords Go.Proofs.YtmhjcbcjpidegaaW.PrintLast Go.Proofs.YtmhjcbcjpidegaaW.PrintMore
attribute [local go_sem] max2_int min2_int max_two min_two max_three min_three max_four min_four   -- for this text's walks alone
set_option linter.unusedVariables false
set_option linter.unusedSimpArgs false

/-! ### impl_GeneratorWords: function 11 -/
/-! by hand -/
-- @INFO:9@
def genLet (k:Nat) (c i:Int) (o:OrbV) (m:List Int) (out:List ByteArray):Option (Option (List ByteArray)) :=
  if i<(m.length:Int)∧0≤rd m i∧rd m i<(o.fr.length:Int)∧rd m i<(o.bs.length:Int)∧rd m i<(o.ws.length:Int)∧i<(o.ws.length:Int) then
    if rd o.fr (rd m i)=i∧rd o.bs (rd m i)=c then some (some out) else
      (impl_InverseWord.f k (rdOf ByteArray.empty o.ws (rd m i))).bind fun v =>
        if (rdOf ByteArray.empty o.ws i).size+1+v.size≤1000∧out.length≤1000 then
          (impl_WordOk.f k (rdOf ByteArray.empty o.ws (rd m i))).bind fun b1=>if b1=true then (impl_WordOk.f k (rdOf ByteArray.empty o.ws i)).bind fun b2=>if b2=true then (impl_WordOk.f k (rdOf ByteArray.empty o.ws i ++ strOfNums [c] ++ v)).bind fun b3=>if b3=true then some (some (out ++ [rdOf ByteArray.empty o.ws i ++ strOfNums [c] ++ v])) else some none else some none else some none
        else none
  else none
def genLoop (o:OrbV):Nat→Int→List ByteArray→Option (Option (List ByteArray))
  | 0,_,_=>none
  | k+1,i,out=>if i<(o.l.length:Int) then (genLet k 84 i o o.nt out).bind fun a=>match a with
    | none=>some none
    | some q=>(genLet k 83 i o o.ns q).bind fun b=>match b with
      | none=>some none
      | some q2=>genLoop o k (wrap64 (i+1)) q2
    else some (some out)
def impl_GeneratorWords.f (k:Nat) (l0_0 l0_1:List Int):Option (List ByteArray × Bool):=(impl_orbitOf.f k l0_0 l0_1).bind fun a=>match a with
  | none=>some ([],false)
  | some o=>(genLoop o k 0 []).bind fun b=>match b with
    | none=>some ([],false)
    | some q=>some (q,true)
/-- From a letter on. -/
def genRest (o:OrbV) (k:Nat) (i:Int) (j:Nat) (out:List ByteArray):Option (Option (List ByteArray)) :=
  if j=0 then (genLet k 84 i o o.nt out).bind fun a=>match a with|none=>some none|some q=>(genLet k 83 i o o.ns q).bind fun b=>match b with|none=>some none|some q2=>genLoop o k (wrap64 (i+1)) q2
  else if j=1 then (genLet k 83 i o o.ns out).bind fun b=>match b with|none=>some none|some q2=>genLoop o k (wrap64 (i+1)) q2
  else genLoop o k (wrap64 (i+1)) out
theorem genRest_step {o:OrbV} {k:Nat} {i:Int} {j:Nat} {out:List ByteArray} {r:Option (List ByteArray)} (h:genRest o k i j out=some r) (hj:j<2):∃ a,genLet k (rd [84,83] j) i o (o.nx (rd [84,83] j)) out=some a∧((a=none∧r=none)∨∃ q,a=some q∧genRest o k i (j+1) q=some r):=by
  have hj:j=0∨j=1:=by omega
  rcases hj with rfl|rfl
  · rw [genRest,if_pos rfl] at h
    obtain ⟨a,ha,h⟩:=oB h
    refine ⟨a,ha,?_⟩
    cases a with
    | none=>exact Or.inl ⟨rfl,(Option.some.inj h).symm⟩
    | some q=>exact Or.inr ⟨q,rfl,by rw [genRest,if_neg (by decide),if_pos rfl];exact h⟩
  · rw [genRest,if_neg (by decide),if_pos rfl] at h
    obtain ⟨a,ha,h⟩:=oB h
    refine ⟨a,ha,?_⟩
    cases a with
    | none=>exact Or.inl ⟨rfl,(Option.some.inj h).symm⟩
    | some q=>exact Or.inr ⟨q,rfl,by rw [genRest,if_neg (by decide),if_neg (by decide)];exact h⟩
theorem impl_GeneratorWords.calls (k:Nat) (A0_0:Option Addr) (c0_0:Nat) (l0_0:List Int) (A0_1:Option Addr) (c0_1:Nat) (l0_1:List Int) (r1:List ByteArray) (r2:Bool) (w:World) (hr0_0:Kd.C (Kd.int .i64) w A0_0 l0_0.length l0_0) (hc0_0:l0_0.length≤c0_0) (hr0_1:Kd.C (Kd.int .i64) w A0_1 l0_1.length l0_1) (hc0_1:l0_1.length≤c0_1) (h:impl_GeneratorWords.f k l0_0 l0_1=some (r1,r2)) :
    Calls Try.prog 11 #[.agg #[.slice A0_0 l0_0.length c0_0,.slice A0_1 l0_1.length c0_1]] w fun e w'=>∃ v0_:Value,e = .returned (.tuple #[v0_,.bool r2])∧Kd.R Kd.string 9 w' w.heap.size (fun _=>True) v0_ r1∧Below w.heap.size w w':=by
  have hv:=Try.underlying57
  have hu:=Try.underlying27
  have HS:=aM (show SurfC w A0_0 A0_1 c0_0 c0_1 l0_0 l0_1 from ⟨hc0_0,hr0_0,hc0_1,hr0_1⟩)
  clear hr0_0 hc0_0 hr0_1 hc0_1
  unfold impl_GeneratorWords.f at h
  obtain ⟨a,ha,h⟩:=oB h
  have HA:=aM ha
  clear ha
  cases a with
  | none =>
    cases h
    go_enter Try.func11,Try.ntmps11
    go_wp2_with (first
      | ((with_reducible refine gate_dst (N:=1) rfl ?_);refine bEv (cs:=#[.slice A0_0 l0_0.length c0_0,.slice A0_1 l0_1.length c0_1]) (t:=27) ?_;intro gb1 hg1 w1 hbox1 hb1;have BK1:=aM hbox1;have HB1:=aM hb1;have hc10:w1.cell? ⟨gb1,0,none⟩=some (.slice A0_0 l0_0.length c0_0):=(blk_cell BK1.out 0).trans rfl;have hc11:w1.cell? ⟨gb1,1,none⟩=some (.slice A0_1 l0_1.length c0_1):=(blk_cell BK1.out 1).trans rfl;clear hbox1 hb1 hg1)
      | (go_at_call 30;(refine(impl_orbitOf.calls k _ _ l0_0 _ _ l0_1 (none) w1 (HS.out.below HB1.out) HA.out).mono ?_);rintro e w2 ⟨hb,hp⟩;have hp2:e = .returned (.tuple #[.pointer none,.bool false]):=hp;subst hp2;have HB2:=aM (below_step HB1.out hb);clear hb hp hc10 hc11 HB1 BK1))
    go_ret2
    exact ⟨.slice none 0 0,rfl,Kd.R_nil _ _ _ _ _,HB2.out⟩
  | some o =>
    obtain ⟨b,hb,h⟩:=oB h
    have HG0:=aM hb
    have hres:(b=none→r1=[]∧r2=false)∧∀ q,b=some q→r1=q∧r2=true:=by
      clear HG0 hb
      cases b with
      | none=>cases h;exact ⟨fun _=>⟨rfl,rfl⟩,fun q e=>(by cases e)⟩
      | some q0=>cases h;exact ⟨fun e=>(by cases e),fun q e=>(by cases e;exact ⟨rfl,rfl⟩)⟩
    have HRES:=aM hres
    clear h hb hres
    go_enter Try.func11,Try.ntmps11
    go_wp2_with (first
      | ((with_reducible refine gate_dst (N:=1) rfl ?_);refine bEv (cs:=#[.slice A0_0 l0_0.length c0_0,.slice A0_1 l0_1.length c0_1]) (t:=27) ?_;intro gb1 hg1 w1 hbox1 hb1;have BK1:=aM hbox1;have HB1:=aM hb1;have hc10:w1.cell? ⟨gb1,0,none⟩=some (.slice A0_0 l0_0.length c0_0):=(blk_cell BK1.out 0).trans rfl;have hc11:w1.cell? ⟨gb1,1,none⟩=some (.slice A0_1 l0_1.length c0_1):=(blk_cell BK1.out 1).trans rfl;clear hbox1 hb1 hg1)
      | (go_at_call 30;(refine(impl_orbitOf.calls k _ _ l0_0 _ _ l0_1 (some o) w1 (HS.out.below HB1.out) HA.out).mono ?_);rintro e w2 ⟨hb,hp⟩;obtain ⟨B,M,v0,v1,v2,v3,u,rfl,ho,hl⟩:=(show ∃ B M v0 v1 v2 v3 u,e = .returned (.tuple #[.pointer (some ⟨B,0,none⟩),.bool true])∧OrbW w1.heap.size w2 B M v0 v1 v2 v3 u o∧o.l.length≤120 from hp);obtain ⟨A0,c0,e0⟩:=Kd.N_slice ho.l;subst e0;have hco:w2.cell? ⟨B,0,none⟩=some (.slice A0 o.l.length c0):=(blk_cell ho.blk 0).trans rfl;have HB2:=aM (below_step HB1.out hb);have HO:=aM ho;have HLE:=aM hl;have HN:=aM (below_size HB1.out);clear hb hp ho hl hc10 hc11 HB1 BK1;obtain ⟨Aw,cw,e0⟩:=Kd.R_slice HO.out.ws;subst e0;obtain ⟨Af,cf,e0⟩:=Kd.R_slice HO.out.fr;subst e0;obtain ⟨Ay,cy,e0⟩:=Kd.R_slice HO.out.bs;subst e0)
      | ((with_reducible refine gate_dst (N:=20) rfl ?_);refine Kd.R_lit Kd.string _ 9 ?hg (N:=20) ?hd (xs:=([]:List ByteArray)) (inner:=[]) (ok:=fun _=>True) (okp:=fun _=>True) ?hr ?hp (fun _ hk=>hk) trivial (Below.refl _ _) (Nat.le_refl _) (by simp) ?_;(case hd=>rfl);(case hg=>rfl);(case hr=>first|(go_simp;done)|(go_simp;rfl));(case hp=>exact(Reps.none _ _));intro v6 w3 hl hb hg_ hnew_;obtain ⟨Ao,co,e0⟩:=Kd.R_slice hl;subst e0;have HR3:=aM hl;have HB3:=aM hb;have hco3:w3.cell? ⟨B,0,none⟩=some (.slice A0 o.l.length c0):=(blk_cell (HO.out.below hb).blk 0).trans rfl;clear hl hb hg_ hnew_ hco))
    go_loopg [6,26] k (fun kq v6_ v26 w'=>∃ (i:Int) (out:List ByteArray) (Ao:Option Addr) (co:Nat),v6_ = .slice Ao out.length co∧v26 = .int .i64 i∧Aside0 (genLoop o kq i out=some b)∧Aside0 (0≤i)∧Aside0 (Kd.R Kd.string 9 w' w2.heap.size (fun _=>True) (.slice Ao out.length co) out)∧Aside0 (Below w2.heap.size w2 w'))
    case atStart=>exact ⟨0,[],_,_,rfl,rfl,HG0,⟨Int.le_refl _⟩,HR3,HB3⟩
    case round =>
      clear HG0 HR3 HB3 hco3
      obtain ⟨i,out,Ao,co,rfl,rfl,HG,HI0,HR,HBL⟩:=hrel
      obtain ⟨k1,rfl⟩:∃ q,gk=q+1:=by
        cases gk with
        | zero=>exact absurd HG.out (by simp [genLoop])
        | succ q=>exact ⟨q,rfl⟩
      by_cases hlt:i<(o.l.length:Int)
      · have h:=HG.out
        rw [genLoop,if_pos hlt] at h
        have HG1:=aM (show genRest o k1 i 0 out=some b by rw [genRest,if_pos rfl];exact h)
        clear h HG
        have c1:decide (i<(o.l.length:Int))=true:=decide_eq_true hlt
        have HIR:=aM (show 0≤i∧i<120 from ⟨HI0.out,by have:=HLE.out;omega⟩)
        have HWI:=aM (show wrap64 (i+1)=i+1 by have:=HIR.out;unfold wrap64;omega)
        clear hlt
        go_wp2
        have hgl:=aM (heap_new wr (.cells #[.int .u8 84,.int .u8 83] 5 (0,0)))
        have HBg:=aM (bA HBL.out (.cells #[.int .u8 84,.int .u8 83] 5 (0,0)))
        have HRg:=aM (Kd.R_below HR.out (below_alloc (Below.refl _ _) (.cells #[.int .u8 84,.int .u8 83] 5 (0,0))))
        generalize wr.heap.size=gl at hgl ⊢
        go_loopg [6,31] 2 (fun jq v6_ v31 w'=>∃ (j:Nat) (out:List ByteArray) (Ao:Option Addr) (co:Nat),v6_ = .slice Ao out.length co∧v31 = .int .i64 (j:Int)∧Aside0 (j+jq=2)∧Aside0 (genRest o k1 i j out=some b)∧Aside0 (Kd.R Kd.string 9 w' w2.heap.size (fun _=>True) (.slice Ao out.length co) out)∧Aside0 (w'.heap[gl]? = some (.cells #[.int .u8 84,.int .u8 83] 5 (0,0)))∧Aside0 (Below w2.heap.size w2 w'))
        case atStart=>exact ⟨0,out,_,_,rfl,rfl,⟨rfl⟩,HG1,HRg,hgl,HBg⟩
        case round =>
          clear HG1 HRg hgl HBg HR HBL c1 HI0
          obtain ⟨j,out,Ao,co,rfl,rfl,HJ,HG,HR,HL,HBL⟩:=hrel
          by_cases hj:j<2
          · obtain ⟨a,ha,hnext⟩:=genRest_step HG.out hj
            have hc:=letter_or (j:=(j:Int)) (by omega) (by omega)
            have hcl:wr.cell? ⟨gl,j,none⟩=some (.int .u8 (rd [84,83] (j:Int))):=by
              rw [blk_cell HL.out]
              have:j=0∨j=1:=by omega
              rcases this with rfl|rfl <;> rfl
            generalize rd [84,83] (j:Int)=c at ha hc hcl
            have HN:=aM hnext
            clear hnext HG
            obtain ⟨q1,rfl⟩:∃ q,gk=q+1:=⟨gk - 1,by have:=HJ.out;omega⟩
            have HWJ:=aM (show wrap64 ((j:Int)+1)=((j+1:Nat):Int) by unfold wrap64;omega)
            unfold genLet at ha
            split at ha
            rotate_left
            · cases ha
            rename_i hcond
            obtain ⟨im,k0,kf,kb,kw,iw⟩:=hcond
            have HOr:=aM (HO.out.below HBL.out)
            have hru:=HOr.out.nx c hc
            have hlk:=(HOr.out.held hc).2
            have hcm:=(HOr.out.held hc).1
            obtain ⟨Au,cu,eu⟩:=Kd.R_slice hru
            rw [eu] at hru hlk
            obtain ⟨adu,e1,hue⟩:=Kd.at_int (Kd.R_reads' hru).2.2 i HIR.out.1 im
            cases e1
            generalize rd (o.nx c) i=kk at *
            obtain ⟨adf,e1,hfe⟩:=Kd.at_int (Kd.R_reads' HOr.out.fr).2.2 kk k0 kf
            cases e1
            obtain ⟨ady,e1,hye⟩:=Kd.at_int (Kd.R_reads' HOr.out.bs).2.2 kk k0 kb
            cases e1
            obtain ⟨adw,e1,hwk⟩:=Kd.at_string (Kd.R_reads' HOr.out.ws).2.2 kk k0 kw
            cases e1
            obtain ⟨adw2,e1,hwi⟩:=Kd.at_string (Kd.R_reads' HOr.out.ws).2.2 i HIR.out.1 iw
            cases e1
            have hcw:wr.cell? ⟨B,1,none⟩=some (.slice (some adw) o.ws.length cw):=(blk_cell HOr.out.blk 1).trans rfl
            have hcf:wr.cell? ⟨B,2,none⟩=some (.slice (some adf) o.fr.length cf):=(blk_cell HOr.out.blk 2).trans rfl
            have hcy:wr.cell? ⟨B,3,none⟩=some (.slice (some ady) o.bs.length cy):=(blk_cell HOr.out.blk 3).trans rfl
            have c2:decide ((j:Int)<2)=true:=decide_eq_true (by omega)
            have p0:decide (0≤(j:Int))=true:=decide_eq_true (by omega)
            have p5:=eq_true (show (j:Int)<2 by omega)
            have hj0:=hj
            replace hj:=eq_true hj
            have p1:=eq_true HIR.out.1
            have p2:=eq_true im
            have p3:=eq_true k0
            have p4:=eq_true kf
            have p6:=eq_true kb
            have p7:=eq_true kw
            have p8:=eq_true iw
            have d1:decide (0≤i)=true:=decide_eq_true HIR.out.1
            have d2:=decide_eq_true im
            have d3:=decide_eq_true k0
            have d4:=decide_eq_true kf
            have d6:=decide_eq_true kb
            have d7:=decide_eq_true kw
            have d8:=decide_eq_true iw
            clear im k0 kf kb kw iw hru hj0
            by_cases hf:rd o.fr kk=i
            · have q1_:(rd o.fr kk == i)=true:=beq_iff_eq.2 hf
              by_cases hy:rd o.bs kk=c
              · have q2_:(rd o.bs kk == c)=true:=beq_iff_eq.2 hy
                rw [if_pos ⟨hf,hy⟩] at ha
                have hr:a=some out:=(Option.some.inj ha).symm
                subst hr
                have hq:genRest o k1 i (j+1) out=some b:=by
                  rcases HN.out with ⟨h1,_⟩|⟨q,h1,h2⟩
                  · cases h1
                  · rw [Option.some.inj h1]
                    exact h2
                have HQ:=aM hq
                clear hq ha HN hf hy
                go_wp2
                go_roundg q1
                case measure=>have:=HJ.out;omega
                case rel=>exact ⟨j+1,_,_,_,rfl,(by first|rfl|rw [HWJ.out]|(simp;done)),⟨by have:=HJ.out;omega⟩,HQ,HR,HL,HBL⟩
              · have q2_:(rd o.bs kk == c)=false:=beq_eq_false_iff_ne.2 hy
                rw [if_neg (fun h=>hy h.2)] at ha
                clear hf hy
                obtain ⟨v,hv,ha⟩:=oB ha
                have HV:=aM hv
                clear hv
                split at ha
                rotate_left
                · cases ha
                rename_i hsz
                have HSZ:=aM hsz
                have HA2:=aM ha
                clear ha hsz
                have s1:(strOfNums [c]).size=1:=rfl
                have z1:=eq_false (show ¬ 9223372036854775807<(rdOf ByteArray.empty o.ws i).size+(strOfNums [c]).size by have:=HSZ.out.1;omega)
                have z2:=eq_false (show ¬ 9223372036854775807<(rdOf ByteArray.empty o.ws i).size+(strOfNums [c]).size+v.size by have:=HSZ.out.1;omega)
                have z3:=eq_false (show ¬ 9223372036854775807<((rdOf ByteArray.empty o.ws i) ++ strOfNums [c]).size+v.size by have:=HSZ.out.1;rw [ByteArray.size_append];omega)
                clear s1
                go_wp2
                refine start_ (n:=15) (S:=fun w'=>w'.cell? ⟨B,1,none⟩=some (.slice (some adw) o.ws.length cw)∧w'.cell? (adw.add i.toNat)=some (.string (rdOf ByteArray.empty o.ws i))) (ds:=([]:List Nat)) #[ff,ff,ff,ff,ff,ff,ff,ff,ff,ff,ff,ff,ff,ff,ff] (by kernel_rfl) rfl rfl (held2 (below_drew (Below.refl _ _)) hcw hwi) (fun hHeld => ?_)
                have HBd:=aM (below_drew (Below.refl _ wr):Below wr.heap.size wr wr.drew)
                generalize wr.drew=wd at HBd hHeld ⊢
                refine pH 0 71 (fl 15 1) rfl rfl ?_
                refine pH 1 72 (fl 15 3) rfl rfl ?_
                refine pH 2 73 (fl 15 7) rfl rfl ?_
                refine pH 4 75 (fl 15 23) rfl rfl ?_
                refine pH 7 78 (fl 15 151) rfl rfl ?_
                refine pH 11 82 (fl 15 2199) rfl rfl ?_
                refine tH2 3 74 (fl 15 2207) rfl rfl hHeld ?_
                refine pH 5 76 (fl 15 2239) rfl rfl ?_
                refine tH2 6 77 (fl 15 2303) rfl rfl hHeld ?_
                refine join_ (σ:=Value) 2 #[tt,tt,tt,tt,tt,tt,tt,tt,tt,tt,tt,tt,tt,ff,ff] (fun s=>[(79,s),(80,.string (strOfNums [c])),(81,.string ((rdOf ByteArray.empty o.ws i) ++ strOfNums [c])),(83,.string v)]) (fun _ w'=>Below wd.heap.size wd w') ?_ ?split
                case split =>
                  intro hcont
                  refine two_ (i:=8) (j:=12) (Ni:=some 79) (Nj:=some 83) #[tt,tt,tt,tt,tt,tt,tt,tt,tt,ff,ff,tt,ff,ff,ff] #[tt,tt,tt,tt,tt,tt,tt,tt,ff,ff,ff,tt,tt,ff,ff] rfl rfl rfl rfl (by kernel_rfl) (by decide) (by decide) (fun K hK => ?_) (fun K hK => ?_)
                  · refine Kd.R_lit_step (Kd.int .u8) _ 5 ?hg (N:=79) ?hd (xs:=([c]:List Int)) (inner:=[.int .u8 c]) (ok:=fun _=>True) (okp:=fun _=>True) ?hr ?hp (fun _ hk=>hk) trivial (Below.refl _ _) (Nat.le_refl _) (by simp) ?_;(case hd=>rfl);(case hg=>rfl);(case hr=>first|(go_simp;done)|(go_simp;rfl));(case hp=>exact(Reps.one (show Kd.M (Kd.int .u8) _ _ _ c [.int .u8 c] from rfl) (Reps.none _ _)))
                    intro vb wb hbo hbb hbg hbn
                    refine hK.out _ _ (held2 hbb hHeld.1 hHeld.2) (fun hHeld => ?_)
                    clear hK K hbg hbn
                    refine nH 79 ?_
                    refine two_ (i:=9) (j:=12) (Ni:=some 80) (Nj:=some 83) #[tt,tt,tt,tt,tt,tt,tt,tt,tt,tt,ff,tt,ff,ff,ff] #[tt,tt,tt,tt,tt,tt,tt,tt,tt,ff,ff,tt,tt,ff,ff] rfl rfl rfl rfl (by kernel_rfl) (by decide) (by decide) (fun K hK => ?_) (fun K hK => ?_)
                    · have hcv:=own_string (P:=Try.prog) Try.underlying31 Try.underlying5 Try.underlying9 (Kd.own_of_R hbo)
                      refine value_ (w1:=?_) (v:=?_) (by rfl) rfl ?_ ?_
                      rotate_left 2
                      · go_simp
                        constructor
                        · rfl
                        · rfl
                      refine hK.out _ _ hHeld (fun hHeld => ?_)
                      clear hK K hcv
                      refine nH 80 ?_
                      refine pH 10 81 (fl 15 4095) rfl rfl ?_
                      refine one_ (i:=12) (N:=some 83) #[tt,tt,tt,tt,tt,tt,tt,tt,tt,tt,tt,tt,tt,ff,ff] rfl rfl (by kernel_rfl) (by decide) (fun K hK => ?_)
                      refine goes_ Try.func16 (by kernel_rfl) rfl #[.string (rdOf ByteArray.empty o.ws kk)] (by rfl) rfl rfl (by(try simp only [zE,zF,zG]);first|done|rfl|(simp only [zH,zI];rfl)) ?_
                      with_reducible refine(impl_InverseWord.calls k1 _ v _ HV.out).mono ?_
                      rintro e wA ⟨rfl,hb⟩
                      refine ⟨_,rfl,?_⟩
                      refine hK.out _ _ (held2 hb hHeld.1 hHeld.2) (fun hHeld => ?_)
                      clear hK K
                      refine norm_ (a':=putAll _ [(79,vb),(80,.string (strOfNums [c])),(81,.string ((rdOf ByteArray.empty o.ws i) ++ strOfNums [c])),(83,.string v)]) ?_ (hcont vb _ (below_step hbb hb))
                      simp only [putAll,Act.put,zA,zB,zC]
                      try rfl
                    · refine goes_ Try.func16 (by kernel_rfl) rfl #[.string (rdOf ByteArray.empty o.ws kk)] (by rfl) rfl rfl (by(try simp only [zE,zF,zG]);first|done|rfl|(simp only [zH,zI];rfl)) ?_
                      with_reducible refine(impl_InverseWord.calls k1 _ v _ HV.out).mono ?_
                      rintro e wA ⟨rfl,hb⟩
                      refine ⟨_,rfl,?_⟩
                      refine hK.out _ _ (held2 hb hHeld.1 hHeld.2) (fun hHeld => ?_)
                      clear hK K
                      refine nH 83 ?_
                      refine one_ (i:=9) (N:=some 80) #[tt,tt,tt,tt,tt,tt,tt,tt,tt,tt,ff,tt,tt,ff,ff] rfl rfl (by kernel_rfl) (by decide) (fun K hK => ?_)
                      have hcv:=own_string (P:=Try.prog) Try.underlying31 Try.underlying5 Try.underlying9 (Kd.own_of_R (Kd.R_below hbo hb))
                      refine value_ (w1:=?_) (v:=?_) (by rfl) rfl ?_ ?_
                      rotate_left 2
                      · go_simp
                        constructor
                        · rfl
                        · rfl
                      refine hK.out _ _ hHeld (fun hHeld => ?_)
                      clear hK K hcv
                      refine nH 80 ?_
                      refine pH 10 81 (fl 15 8191) rfl rfl ?_
                      refine norm_ (a':=putAll _ [(79,vb),(80,.string (strOfNums [c])),(81,.string ((rdOf ByteArray.empty o.ws i) ++ strOfNums [c])),(83,.string v)]) ?_ (hcont vb _ (below_step hbb hb))
                      simp only [putAll,Act.put,zA,zB,zC]
                      try rfl
                  · refine goes_ Try.func16 (by kernel_rfl) rfl #[.string (rdOf ByteArray.empty o.ws kk)] (by rfl) rfl rfl (by(try simp only [zE,zF,zG]);first|done|rfl|(simp only [zH,zI];rfl)) ?_
                    with_reducible refine(impl_InverseWord.calls k1 _ v _ HV.out).mono ?_
                    rintro e wA ⟨rfl,hb⟩
                    refine ⟨_,rfl,?_⟩
                    refine hK.out _ _ (held2 hb hHeld.1 hHeld.2) (fun hHeld => ?_)
                    clear hK K
                    refine nH 83 ?_
                    refine one_ (i:=8) (N:=some 79) #[tt,tt,tt,tt,tt,tt,tt,tt,tt,ff,ff,tt,tt,ff,ff] rfl rfl (by kernel_rfl) (by decide) (fun K hK => ?_)
                    refine Kd.R_lit_step (Kd.int .u8) _ 5 ?hg (N:=79) ?hd (xs:=([c]:List Int)) (inner:=[.int .u8 c]) (ok:=fun _=>True) (okp:=fun _=>True) ?hr ?hp (fun _ hk=>hk) trivial (Below.refl _ _) (Nat.le_refl _) (by simp) ?_;(case hd=>rfl);(case hg=>rfl);(case hr=>first|(go_simp;done)|(go_simp;rfl));(case hp=>exact(Reps.one (show Kd.M (Kd.int .u8) _ _ _ c [.int .u8 c] from rfl) (Reps.none _ _)))
                    intro vb wb hbo hbb hbg hbn
                    refine hK.out _ _ (held2 hbb hHeld.1 hHeld.2) (fun hHeld => ?_)
                    clear hK K hbg hbn
                    refine nH 79 ?_
                    refine one_ (i:=9) (N:=some 80) #[tt,tt,tt,tt,tt,tt,tt,tt,tt,tt,ff,tt,tt,ff,ff] rfl rfl (by kernel_rfl) (by decide) (fun K hK => ?_)
                    have hcv:=own_string (P:=Try.prog) Try.underlying31 Try.underlying5 Try.underlying9 (Kd.own_of_R hbo)
                    refine value_ (w1:=?_) (v:=?_) (by rfl) rfl ?_ ?_
                    rotate_left 2
                    · go_simp
                      constructor
                      · rfl
                      · rfl
                    refine hK.out _ _ hHeld (fun hHeld => ?_)
                    clear hK K hcv
                    refine nH 80 ?_
                    refine pH 10 81 (fl 15 8191) rfl rfl ?_
                    refine norm_ (a':=putAll _ [(79,vb),(80,.string (strOfNums [c])),(81,.string ((rdOf ByteArray.empty o.ws i) ++ strOfNums [c])),(83,.string v)]) ?_ (hcont vb _ (below_step hb hbb))
                    simp only [putAll,Act.put,zA,zB,zC]
                    try rfl
                rintro sv wj hbj
                refine norm_ (a':=?_) ?_ ?_
                rotate_left
                · simp only [putAll,Act.put,zA,zB,zC]
                  rfl
                refine pH 13 84 (fl 15 16383) rfl rfl ?_
                refine pH 14 12 (fl 15 32767) rfl rfl ?_
                refine done_ (by kernel_rfl) ?_
                have HBJ:=aM (below_step HBd.out hbj)
                have hcj:wj.cell? ⟨B,1,none⟩=some (.slice (some adw) o.ws.length cw):=(HBJ.out.cell (World.block_lt_of_cell? _ _ hcw)).trans hcw
                have hwj:wj.cell? (adw.add i.toNat)=some (.string (rdOf ByteArray.empty o.ws i)):=(HBJ.out.cell (World.block_lt_of_cell? _ _ hwi)).trans hwi
                clear hbj HBd hHeld hcw hwi hwk
                obtain ⟨b1,hb1,ha⟩:=oB HA2.out
                have HW1:=aM hb1
                clear HA2 hb1
                cases b1 with
                | false =>
                  have HA2:=aM (show some none=some a from ha)
                  clear ha
                  have hr:a=none:=(Option.some.inj HA2.out).symm
                  subst hr
                  have hb:b=none:=by
                    rcases HN.out with ⟨_,h2⟩|⟨q,h1,_⟩
                    · exact h2
                    · cases h1
                  subst hb
                  obtain ⟨rfl,rfl⟩:=HRES.out.1 rfl
                  go_wp2_with (first
                    | ((with_reducible refine gate_callee (f:=31) rfl ?_);(try(refine gate_guard (by rfl) ?_;dsimp only));refine goesL_ (some 86) rfl rfl Try.func31 (by kernel_rfl) rfl #[.string (rdOf ByteArray.empty o.ws kk)] rfl (by(try simp only [zE,zF,zG]);first|done|rfl|(simp only [zH,zI];rfl)) ?_;(with_reducible refine(impl_WordOk.calls k1 _ false _ HW1.out).mono ?_);rintro e w8 ⟨rfl,hd⟩;refine ⟨_,rfl,?_⟩;have HB8:=aM (below_step HBJ.out hd.below);have hc8:w8.cell? ⟨B,1,none⟩=some (.slice (some adw) o.ws.length cw):=(hd.below.cell (World.block_lt_of_cell? _ _ hcj)).trans hcj;have hw8:w8.cell? (adw.add i.toNat)=some (.string (rdOf ByteArray.empty o.ws i)):=(hd.below.cell (World.block_lt_of_cell? _ _ hwj)).trans hwj;clear hd))
                  go_ret2
                  exact ⟨.slice none 0 0,rfl,Kd.R_nil _ _ _ _ _,below_step HB2.out (below_step HBL.out HB8.out)⟩
                | true =>
                  have HA2:=aM ha
                  clear ha
                  obtain ⟨b2,hb2,ha⟩:=oB HA2.out
                  have HW2:=aM hb2
                  clear HA2 hb2
                  cases b2 with
                  | false =>
                    have HA2:=aM (show some none=some a from ha)
                    clear ha
                    have hr:a=none:=(Option.some.inj HA2.out).symm
                    subst hr
                    have hb:b=none:=by
                      rcases HN.out with ⟨_,h2⟩|⟨q,h1,_⟩
                      · exact h2
                      · cases h1
                    subst hb
                    obtain ⟨rfl,rfl⟩:=HRES.out.1 rfl
                    go_wp2_with (first
                      | ((with_reducible refine gate_callee (f:=31) rfl ?_);(try(refine gate_guard (by rfl) ?_;dsimp only));refine goesL_ (some 86) rfl rfl Try.func31 (by kernel_rfl) rfl #[.string (rdOf ByteArray.empty o.ws kk)] rfl (by(try simp only [zE,zF,zG]);first|done|rfl|(simp only [zH,zI];rfl)) ?_;(with_reducible refine(impl_WordOk.calls k1 _ true _ HW1.out).mono ?_);rintro e w8 ⟨rfl,hd⟩;refine ⟨_,rfl,?_⟩;have HB8:=aM (below_step HBJ.out hd.below);have hc8:w8.cell? ⟨B,1,none⟩=some (.slice (some adw) o.ws.length cw):=(hd.below.cell (World.block_lt_of_cell? _ _ hcj)).trans hcj;have hw8:w8.cell? (adw.add i.toNat)=some (.string (rdOf ByteArray.empty o.ws i)):=(hd.below.cell (World.block_lt_of_cell? _ _ hwj)).trans hwj;clear hd)
                      | ((with_reducible refine gate_callee (f:=31) rfl ?_);(try(refine gate_guard (by rfl) ?_;dsimp only));refine goesL_ (some 96) rfl rfl Try.func31 (by kernel_rfl) rfl #[.string (rdOf ByteArray.empty o.ws i)] rfl (by(try simp only [zE,zF,zG]);first|done|rfl|(simp only [zH,zI];rfl)) ?_;(with_reducible refine(impl_WordOk.calls k1 _ false _ HW2.out).mono ?_);rintro e w9 ⟨rfl,hd⟩;refine ⟨_,rfl,?_⟩;have HB9:=aM (below_step HB8.out hd.below);clear hd))
                    go_ret2
                    exact ⟨.slice none 0 0,rfl,Kd.R_nil _ _ _ _ _,below_step HB2.out (below_step HBL.out HB9.out)⟩
                  | true =>
                    have HA2:=aM ha
                    clear ha
                    obtain ⟨b3,hb3,ha⟩:=oB HA2.out
                    have HW3:=aM hb3
                    clear HA2 hb3
                    cases b3 with
                    | false =>
                      have HA2:=aM (show some none=some a from ha)
                      clear ha
                      have hr:a=none:=(Option.some.inj HA2.out).symm
                      subst hr
                      have hb:b=none:=by
                        rcases HN.out with ⟨_,h2⟩|⟨q,h1,_⟩
                        · exact h2
                        · cases h1
                      subst hb
                      obtain ⟨rfl,rfl⟩:=HRES.out.1 rfl
                      go_wp2_with (first
                        | ((with_reducible refine gate_callee (f:=31) rfl ?_);(try(refine gate_guard (by rfl) ?_;dsimp only));refine goesL_ (some 86) rfl rfl Try.func31 (by kernel_rfl) rfl #[.string (rdOf ByteArray.empty o.ws kk)] rfl (by(try simp only [zE,zF,zG]);first|done|rfl|(simp only [zH,zI];rfl)) ?_;(with_reducible refine(impl_WordOk.calls k1 _ true _ HW1.out).mono ?_);rintro e w8 ⟨rfl,hd⟩;refine ⟨_,rfl,?_⟩;have HB8:=aM (below_step HBJ.out hd.below);have hc8:w8.cell? ⟨B,1,none⟩=some (.slice (some adw) o.ws.length cw):=(hd.below.cell (World.block_lt_of_cell? _ _ hcj)).trans hcj;have hw8:w8.cell? (adw.add i.toNat)=some (.string (rdOf ByteArray.empty o.ws i)):=(hd.below.cell (World.block_lt_of_cell? _ _ hwj)).trans hwj;clear hd)
                        | ((with_reducible refine gate_callee (f:=31) rfl ?_);(try(refine gate_guard (by rfl) ?_;dsimp only));refine goesL_ (some 96) rfl rfl Try.func31 (by kernel_rfl) rfl #[.string (rdOf ByteArray.empty o.ws i)] rfl (by(try simp only [zE,zF,zG]);first|done|rfl|(simp only [zH,zI];rfl)) ?_;(with_reducible refine(impl_WordOk.calls k1 _ true _ HW2.out).mono ?_);rintro e w9 ⟨rfl,hd⟩;refine ⟨_,rfl,?_⟩;have HB9:=aM (below_step HB8.out hd.below);clear hd)
                        | ((with_reducible refine gate_callee (f:=31) rfl ?_);(try(refine gate_guard (by rfl) ?_;dsimp only));refine goesL_ (some 101) rfl rfl Try.func31 (by kernel_rfl) rfl #[.string ((rdOf ByteArray.empty o.ws i) ++ strOfNums [c] ++ v)] rfl (by(try simp only [zE,zF,zG]);first|done|rfl|(simp only [zH,zI];rfl)) ?_;(with_reducible refine(impl_WordOk.calls k1 _ false _ HW3.out).mono ?_);rintro e w10 ⟨rfl,hd⟩;refine ⟨_,rfl,?_⟩;have HB10:=aM (below_step HB9.out hd.below);clear hd))
                      go_ret2
                      exact ⟨.slice none 0 0,rfl,Kd.R_nil _ _ _ _ _,below_step HB2.out (below_step HBL.out HB10.out)⟩
                    | true =>
                      have HA2:=aM ha
                      clear ha
                      have hq:genRest o k1 i (j+1) (out ++ [((rdOf ByteArray.empty o.ws i) ++ strOfNums [c] ++ v)])=some b:=by
                        rcases HN.out with ⟨h1,_⟩|⟨q,h1,h2⟩
                        · rw [h1] at HA2
                          exact absurd HA2.out (by simp)
                        · rw [h1] at HA2
                          rw [Option.some.inj (Option.some.inj HA2.out)]
                          exact h2
                      have HQ:=aM hq
                      clear hq HA2 HN
                      go_wp2_with (first
                        | ((with_reducible refine gate_callee (f:=31) rfl ?_);(try(refine gate_guard (by rfl) ?_;dsimp only));refine goesL_ (some 86) rfl rfl Try.func31 (by kernel_rfl) rfl #[.string (rdOf ByteArray.empty o.ws kk)] rfl (by(try simp only [zE,zF,zG]);first|done|rfl|(simp only [zH,zI];rfl)) ?_;(with_reducible refine(impl_WordOk.calls k1 _ true _ HW1.out).mono ?_);rintro e w8 ⟨rfl,hd⟩;refine ⟨_,rfl,?_⟩;have HB8:=aM (below_step HBJ.out hd.below);have hc8:w8.cell? ⟨B,1,none⟩=some (.slice (some adw) o.ws.length cw):=(hd.below.cell (World.block_lt_of_cell? _ _ hcj)).trans hcj;have hw8:w8.cell? (adw.add i.toNat)=some (.string (rdOf ByteArray.empty o.ws i)):=(hd.below.cell (World.block_lt_of_cell? _ _ hwj)).trans hwj;clear hd)
                        | ((with_reducible refine gate_callee (f:=31) rfl ?_);(try(refine gate_guard (by rfl) ?_;dsimp only));refine goesL_ (some 96) rfl rfl Try.func31 (by kernel_rfl) rfl #[.string (rdOf ByteArray.empty o.ws i)] rfl (by(try simp only [zE,zF,zG]);first|done|rfl|(simp only [zH,zI];rfl)) ?_;(with_reducible refine(impl_WordOk.calls k1 _ true _ HW2.out).mono ?_);rintro e w9 ⟨rfl,hd⟩;refine ⟨_,rfl,?_⟩;have HB9:=aM (below_step HB8.out hd.below);clear hd)
                        | ((with_reducible refine gate_callee (f:=31) rfl ?_);(try(refine gate_guard (by rfl) ?_;dsimp only));refine goesL_ (some 101) rfl rfl Try.func31 (by kernel_rfl) rfl #[.string ((rdOf ByteArray.empty o.ws i) ++ strOfNums [c] ++ v)] rfl (by(try simp only [zE,zF,zG]);first|done|rfl|(simp only [zH,zI];rfl)) ?_;(with_reducible refine(impl_WordOk.calls k1 _ true _ HW3.out).mono ?_);rintro e w10 ⟨rfl,hd⟩;refine ⟨_,rfl,?_⟩;have HB10:=aM (below_step HB9.out hd.below);clear hd)
                        | ((with_reducible refine gate_builtin (b:=.append) (xs:=#[.tmp 104,.tmp 106]) rfl ?_);at_builtin;refine Kd.R_append Kd.string (w0:=w2) w2.heap.size rfl (.tmp 104) (.tmp 106) 33 9 (.string ⟨#[]⟩) 16 rfl Try.underlying33 info9 rfl (by decide) (by omega) (.slice Ao out.length co) out ((rdOf ByteArray.empty o.ws i) ++ strOfNums [c] ++ v) [.string ((rdOf ByteArray.empty o.ws i) ++ strOfNums [c] ++ v)] (fun _=>True) (fun _=>False) rfl rfl rfl (fun _ hk=>hk.elim) (fun _ _=>trivial) (Kd.R_below HR.out HB10.out) (below_step HBL.out HB10.out) (below_size (below_step HBL.out HB10.out)) (by have:=HSZ.out.2;omega) ?_;intro v61 w11 hl hb hg hat;obtain ⟨An,cn,e0⟩:=Kd.R_slice hl;subst e0;have HR11:=aM hl;have HB11:=aM hb;have HL11:=aM (blk_grown (blk_below HL.out HB10.out) hg (Kd.R_ne (Kd.R_below HR.out HB10.out) (blk_below HL.out HB10.out) (by decide)));clear hl hb hg hat))
                      go_roundg q1
                      case measure=>have:=HJ.out;omega
                      case rel=>exact ⟨j+1,out ++ [((rdOf ByteArray.empty o.ws i) ++ strOfNums [c] ++ v)],An,cn,(by rw [List.length_append];rfl),(by first|rfl|rw [HWJ.out]|(simp;done)),⟨by have:=HJ.out;omega⟩,HQ,HR11,HL11,HB11⟩
            · have q1_:(rd o.fr kk == i)=false:=beq_eq_false_iff_ne.2 hf
              rw [if_neg (fun h=>hf h.1)] at ha
              clear hf
              obtain ⟨v,hv,ha⟩:=oB ha
              have HV:=aM hv
              clear hv
              split at ha
              rotate_left
              · cases ha
              rename_i hsz
              have HSZ:=aM hsz
              have HA2:=aM ha
              clear ha hsz
              have s1:(strOfNums [c]).size=1:=rfl
              have z1:=eq_false (show ¬ 9223372036854775807<(rdOf ByteArray.empty o.ws i).size+(strOfNums [c]).size by have:=HSZ.out.1;omega)
              have z2:=eq_false (show ¬ 9223372036854775807<(rdOf ByteArray.empty o.ws i).size+(strOfNums [c]).size+v.size by have:=HSZ.out.1;omega)
              have z3:=eq_false (show ¬ 9223372036854775807<((rdOf ByteArray.empty o.ws i) ++ strOfNums [c]).size+v.size by have:=HSZ.out.1;rw [ByteArray.size_append];omega)
              clear s1
              go_wp2
              refine start_ (n:=15) (S:=fun w'=>w'.cell? ⟨B,1,none⟩=some (.slice (some adw) o.ws.length cw)∧w'.cell? (adw.add i.toNat)=some (.string (rdOf ByteArray.empty o.ws i))) (ds:=([]:List Nat)) #[ff,ff,ff,ff,ff,ff,ff,ff,ff,ff,ff,ff,ff,ff,ff] (by kernel_rfl) rfl rfl (held2 (below_drew (Below.refl _ _)) hcw hwi) (fun hHeld => ?_)
              have HBd:=aM (below_drew (Below.refl _ wr):Below wr.heap.size wr wr.drew)
              generalize wr.drew=wd at HBd hHeld ⊢
              refine pH 0 71 (fl 15 1) rfl rfl ?_
              refine pH 1 72 (fl 15 3) rfl rfl ?_
              refine pH 2 73 (fl 15 7) rfl rfl ?_
              refine pH 4 75 (fl 15 23) rfl rfl ?_
              refine pH 7 78 (fl 15 151) rfl rfl ?_
              refine pH 11 82 (fl 15 2199) rfl rfl ?_
              refine tH2 3 74 (fl 15 2207) rfl rfl hHeld ?_
              refine pH 5 76 (fl 15 2239) rfl rfl ?_
              refine tH2 6 77 (fl 15 2303) rfl rfl hHeld ?_
              refine join_ (σ:=Value) 2 #[tt,tt,tt,tt,tt,tt,tt,tt,tt,tt,tt,tt,tt,ff,ff] (fun s=>[(79,s),(80,.string (strOfNums [c])),(81,.string ((rdOf ByteArray.empty o.ws i) ++ strOfNums [c])),(83,.string v)]) (fun _ w'=>Below wd.heap.size wd w') ?_ ?split
              case split =>
                intro hcont
                refine two_ (i:=8) (j:=12) (Ni:=some 79) (Nj:=some 83) #[tt,tt,tt,tt,tt,tt,tt,tt,tt,ff,ff,tt,ff,ff,ff] #[tt,tt,tt,tt,tt,tt,tt,tt,ff,ff,ff,tt,tt,ff,ff] rfl rfl rfl rfl (by kernel_rfl) (by decide) (by decide) (fun K hK => ?_) (fun K hK => ?_)
                · refine Kd.R_lit_step (Kd.int .u8) _ 5 ?hg (N:=79) ?hd (xs:=([c]:List Int)) (inner:=[.int .u8 c]) (ok:=fun _=>True) (okp:=fun _=>True) ?hr ?hp (fun _ hk=>hk) trivial (Below.refl _ _) (Nat.le_refl _) (by simp) ?_;(case hd=>rfl);(case hg=>rfl);(case hr=>first|(go_simp;done)|(go_simp;rfl));(case hp=>exact(Reps.one (show Kd.M (Kd.int .u8) _ _ _ c [.int .u8 c] from rfl) (Reps.none _ _)))
                  intro vb wb hbo hbb hbg hbn
                  refine hK.out _ _ (held2 hbb hHeld.1 hHeld.2) (fun hHeld => ?_)
                  clear hK K hbg hbn
                  refine nH 79 ?_
                  refine two_ (i:=9) (j:=12) (Ni:=some 80) (Nj:=some 83) #[tt,tt,tt,tt,tt,tt,tt,tt,tt,tt,ff,tt,ff,ff,ff] #[tt,tt,tt,tt,tt,tt,tt,tt,tt,ff,ff,tt,tt,ff,ff] rfl rfl rfl rfl (by kernel_rfl) (by decide) (by decide) (fun K hK => ?_) (fun K hK => ?_)
                  · have hcv:=own_string (P:=Try.prog) Try.underlying31 Try.underlying5 Try.underlying9 (Kd.own_of_R hbo)
                    refine value_ (w1:=?_) (v:=?_) (by rfl) rfl ?_ ?_
                    rotate_left 2
                    · go_simp
                      constructor
                      · rfl
                      · rfl
                    refine hK.out _ _ hHeld (fun hHeld => ?_)
                    clear hK K hcv
                    refine nH 80 ?_
                    refine pH 10 81 (fl 15 4095) rfl rfl ?_
                    refine one_ (i:=12) (N:=some 83) #[tt,tt,tt,tt,tt,tt,tt,tt,tt,tt,tt,tt,tt,ff,ff] rfl rfl (by kernel_rfl) (by decide) (fun K hK => ?_)
                    refine goes_ Try.func16 (by kernel_rfl) rfl #[.string (rdOf ByteArray.empty o.ws kk)] (by rfl) rfl rfl (by(try simp only [zE,zF,zG]);first|done|rfl|(simp only [zH,zI];rfl)) ?_
                    with_reducible refine(impl_InverseWord.calls k1 _ v _ HV.out).mono ?_
                    rintro e wA ⟨rfl,hb⟩
                    refine ⟨_,rfl,?_⟩
                    refine hK.out _ _ (held2 hb hHeld.1 hHeld.2) (fun hHeld => ?_)
                    clear hK K
                    refine norm_ (a':=putAll _ [(79,vb),(80,.string (strOfNums [c])),(81,.string ((rdOf ByteArray.empty o.ws i) ++ strOfNums [c])),(83,.string v)]) ?_ (hcont vb _ (below_step hbb hb))
                    simp only [putAll,Act.put,zA,zB,zC]
                    try rfl
                  · refine goes_ Try.func16 (by kernel_rfl) rfl #[.string (rdOf ByteArray.empty o.ws kk)] (by rfl) rfl rfl (by(try simp only [zE,zF,zG]);first|done|rfl|(simp only [zH,zI];rfl)) ?_
                    with_reducible refine(impl_InverseWord.calls k1 _ v _ HV.out).mono ?_
                    rintro e wA ⟨rfl,hb⟩
                    refine ⟨_,rfl,?_⟩
                    refine hK.out _ _ (held2 hb hHeld.1 hHeld.2) (fun hHeld => ?_)
                    clear hK K
                    refine nH 83 ?_
                    refine one_ (i:=9) (N:=some 80) #[tt,tt,tt,tt,tt,tt,tt,tt,tt,tt,ff,tt,tt,ff,ff] rfl rfl (by kernel_rfl) (by decide) (fun K hK => ?_)
                    have hcv:=own_string (P:=Try.prog) Try.underlying31 Try.underlying5 Try.underlying9 (Kd.own_of_R (Kd.R_below hbo hb))
                    refine value_ (w1:=?_) (v:=?_) (by rfl) rfl ?_ ?_
                    rotate_left 2
                    · go_simp
                      constructor
                      · rfl
                      · rfl
                    refine hK.out _ _ hHeld (fun hHeld => ?_)
                    clear hK K hcv
                    refine nH 80 ?_
                    refine pH 10 81 (fl 15 8191) rfl rfl ?_
                    refine norm_ (a':=putAll _ [(79,vb),(80,.string (strOfNums [c])),(81,.string ((rdOf ByteArray.empty o.ws i) ++ strOfNums [c])),(83,.string v)]) ?_ (hcont vb _ (below_step hbb hb))
                    simp only [putAll,Act.put,zA,zB,zC]
                    try rfl
                · refine goes_ Try.func16 (by kernel_rfl) rfl #[.string (rdOf ByteArray.empty o.ws kk)] (by rfl) rfl rfl (by(try simp only [zE,zF,zG]);first|done|rfl|(simp only [zH,zI];rfl)) ?_
                  with_reducible refine(impl_InverseWord.calls k1 _ v _ HV.out).mono ?_
                  rintro e wA ⟨rfl,hb⟩
                  refine ⟨_,rfl,?_⟩
                  refine hK.out _ _ (held2 hb hHeld.1 hHeld.2) (fun hHeld => ?_)
                  clear hK K
                  refine nH 83 ?_
                  refine one_ (i:=8) (N:=some 79) #[tt,tt,tt,tt,tt,tt,tt,tt,tt,ff,ff,tt,tt,ff,ff] rfl rfl (by kernel_rfl) (by decide) (fun K hK => ?_)
                  refine Kd.R_lit_step (Kd.int .u8) _ 5 ?hg (N:=79) ?hd (xs:=([c]:List Int)) (inner:=[.int .u8 c]) (ok:=fun _=>True) (okp:=fun _=>True) ?hr ?hp (fun _ hk=>hk) trivial (Below.refl _ _) (Nat.le_refl _) (by simp) ?_;(case hd=>rfl);(case hg=>rfl);(case hr=>first|(go_simp;done)|(go_simp;rfl));(case hp=>exact(Reps.one (show Kd.M (Kd.int .u8) _ _ _ c [.int .u8 c] from rfl) (Reps.none _ _)))
                  intro vb wb hbo hbb hbg hbn
                  refine hK.out _ _ (held2 hbb hHeld.1 hHeld.2) (fun hHeld => ?_)
                  clear hK K hbg hbn
                  refine nH 79 ?_
                  refine one_ (i:=9) (N:=some 80) #[tt,tt,tt,tt,tt,tt,tt,tt,tt,tt,ff,tt,tt,ff,ff] rfl rfl (by kernel_rfl) (by decide) (fun K hK => ?_)
                  have hcv:=own_string (P:=Try.prog) Try.underlying31 Try.underlying5 Try.underlying9 (Kd.own_of_R hbo)
                  refine value_ (w1:=?_) (v:=?_) (by rfl) rfl ?_ ?_
                  rotate_left 2
                  · go_simp
                    constructor
                    · rfl
                    · rfl
                  refine hK.out _ _ hHeld (fun hHeld => ?_)
                  clear hK K hcv
                  refine nH 80 ?_
                  refine pH 10 81 (fl 15 8191) rfl rfl ?_
                  refine norm_ (a':=putAll _ [(79,vb),(80,.string (strOfNums [c])),(81,.string ((rdOf ByteArray.empty o.ws i) ++ strOfNums [c])),(83,.string v)]) ?_ (hcont vb _ (below_step hb hbb))
                  simp only [putAll,Act.put,zA,zB,zC]
                  try rfl
              rintro sv wj hbj
              refine norm_ (a':=?_) ?_ ?_
              rotate_left
              · simp only [putAll,Act.put,zA,zB,zC]
                rfl
              refine pH 13 84 (fl 15 16383) rfl rfl ?_
              refine pH 14 12 (fl 15 32767) rfl rfl ?_
              refine done_ (by kernel_rfl) ?_
              have HBJ:=aM (below_step HBd.out hbj)
              have hcj:wj.cell? ⟨B,1,none⟩=some (.slice (some adw) o.ws.length cw):=(HBJ.out.cell (World.block_lt_of_cell? _ _ hcw)).trans hcw
              have hwj:wj.cell? (adw.add i.toNat)=some (.string (rdOf ByteArray.empty o.ws i)):=(HBJ.out.cell (World.block_lt_of_cell? _ _ hwi)).trans hwi
              clear hbj HBd hHeld hcw hwi hwk
              obtain ⟨b1,hb1,ha⟩:=oB HA2.out
              have HW1:=aM hb1
              clear HA2 hb1
              cases b1 with
              | false =>
                have HA2:=aM (show some none=some a from ha)
                clear ha
                have hr:a=none:=(Option.some.inj HA2.out).symm
                subst hr
                have hb:b=none:=by
                  rcases HN.out with ⟨_,h2⟩|⟨q,h1,_⟩
                  · exact h2
                  · cases h1
                subst hb
                obtain ⟨rfl,rfl⟩:=HRES.out.1 rfl
                go_wp2_with (first
                  | ((with_reducible refine gate_callee (f:=31) rfl ?_);(try(refine gate_guard (by rfl) ?_;dsimp only));refine goesL_ (some 86) rfl rfl Try.func31 (by kernel_rfl) rfl #[.string (rdOf ByteArray.empty o.ws kk)] rfl (by(try simp only [zE,zF,zG]);first|done|rfl|(simp only [zH,zI];rfl)) ?_;(with_reducible refine(impl_WordOk.calls k1 _ false _ HW1.out).mono ?_);rintro e w8 ⟨rfl,hd⟩;refine ⟨_,rfl,?_⟩;have HB8:=aM (below_step HBJ.out hd.below);have hc8:w8.cell? ⟨B,1,none⟩=some (.slice (some adw) o.ws.length cw):=(hd.below.cell (World.block_lt_of_cell? _ _ hcj)).trans hcj;have hw8:w8.cell? (adw.add i.toNat)=some (.string (rdOf ByteArray.empty o.ws i)):=(hd.below.cell (World.block_lt_of_cell? _ _ hwj)).trans hwj;clear hd))
                go_ret2
                exact ⟨.slice none 0 0,rfl,Kd.R_nil _ _ _ _ _,below_step HB2.out (below_step HBL.out HB8.out)⟩
              | true =>
                have HA2:=aM ha
                clear ha
                obtain ⟨b2,hb2,ha⟩:=oB HA2.out
                have HW2:=aM hb2
                clear HA2 hb2
                cases b2 with
                | false =>
                  have HA2:=aM (show some none=some a from ha)
                  clear ha
                  have hr:a=none:=(Option.some.inj HA2.out).symm
                  subst hr
                  have hb:b=none:=by
                    rcases HN.out with ⟨_,h2⟩|⟨q,h1,_⟩
                    · exact h2
                    · cases h1
                  subst hb
                  obtain ⟨rfl,rfl⟩:=HRES.out.1 rfl
                  go_wp2_with (first
                    | ((with_reducible refine gate_callee (f:=31) rfl ?_);(try(refine gate_guard (by rfl) ?_;dsimp only));refine goesL_ (some 86) rfl rfl Try.func31 (by kernel_rfl) rfl #[.string (rdOf ByteArray.empty o.ws kk)] rfl (by(try simp only [zE,zF,zG]);first|done|rfl|(simp only [zH,zI];rfl)) ?_;(with_reducible refine(impl_WordOk.calls k1 _ true _ HW1.out).mono ?_);rintro e w8 ⟨rfl,hd⟩;refine ⟨_,rfl,?_⟩;have HB8:=aM (below_step HBJ.out hd.below);have hc8:w8.cell? ⟨B,1,none⟩=some (.slice (some adw) o.ws.length cw):=(hd.below.cell (World.block_lt_of_cell? _ _ hcj)).trans hcj;have hw8:w8.cell? (adw.add i.toNat)=some (.string (rdOf ByteArray.empty o.ws i)):=(hd.below.cell (World.block_lt_of_cell? _ _ hwj)).trans hwj;clear hd)
                    | ((with_reducible refine gate_callee (f:=31) rfl ?_);(try(refine gate_guard (by rfl) ?_;dsimp only));refine goesL_ (some 96) rfl rfl Try.func31 (by kernel_rfl) rfl #[.string (rdOf ByteArray.empty o.ws i)] rfl (by(try simp only [zE,zF,zG]);first|done|rfl|(simp only [zH,zI];rfl)) ?_;(with_reducible refine(impl_WordOk.calls k1 _ false _ HW2.out).mono ?_);rintro e w9 ⟨rfl,hd⟩;refine ⟨_,rfl,?_⟩;have HB9:=aM (below_step HB8.out hd.below);clear hd))
                  go_ret2
                  exact ⟨.slice none 0 0,rfl,Kd.R_nil _ _ _ _ _,below_step HB2.out (below_step HBL.out HB9.out)⟩
                | true =>
                  have HA2:=aM ha
                  clear ha
                  obtain ⟨b3,hb3,ha⟩:=oB HA2.out
                  have HW3:=aM hb3
                  clear HA2 hb3
                  cases b3 with
                  | false =>
                    have HA2:=aM (show some none=some a from ha)
                    clear ha
                    have hr:a=none:=(Option.some.inj HA2.out).symm
                    subst hr
                    have hb:b=none:=by
                      rcases HN.out with ⟨_,h2⟩|⟨q,h1,_⟩
                      · exact h2
                      · cases h1
                    subst hb
                    obtain ⟨rfl,rfl⟩:=HRES.out.1 rfl
                    go_wp2_with (first
                      | ((with_reducible refine gate_callee (f:=31) rfl ?_);(try(refine gate_guard (by rfl) ?_;dsimp only));refine goesL_ (some 86) rfl rfl Try.func31 (by kernel_rfl) rfl #[.string (rdOf ByteArray.empty o.ws kk)] rfl (by(try simp only [zE,zF,zG]);first|done|rfl|(simp only [zH,zI];rfl)) ?_;(with_reducible refine(impl_WordOk.calls k1 _ true _ HW1.out).mono ?_);rintro e w8 ⟨rfl,hd⟩;refine ⟨_,rfl,?_⟩;have HB8:=aM (below_step HBJ.out hd.below);have hc8:w8.cell? ⟨B,1,none⟩=some (.slice (some adw) o.ws.length cw):=(hd.below.cell (World.block_lt_of_cell? _ _ hcj)).trans hcj;have hw8:w8.cell? (adw.add i.toNat)=some (.string (rdOf ByteArray.empty o.ws i)):=(hd.below.cell (World.block_lt_of_cell? _ _ hwj)).trans hwj;clear hd)
                      | ((with_reducible refine gate_callee (f:=31) rfl ?_);(try(refine gate_guard (by rfl) ?_;dsimp only));refine goesL_ (some 96) rfl rfl Try.func31 (by kernel_rfl) rfl #[.string (rdOf ByteArray.empty o.ws i)] rfl (by(try simp only [zE,zF,zG]);first|done|rfl|(simp only [zH,zI];rfl)) ?_;(with_reducible refine(impl_WordOk.calls k1 _ true _ HW2.out).mono ?_);rintro e w9 ⟨rfl,hd⟩;refine ⟨_,rfl,?_⟩;have HB9:=aM (below_step HB8.out hd.below);clear hd)
                      | ((with_reducible refine gate_callee (f:=31) rfl ?_);(try(refine gate_guard (by rfl) ?_;dsimp only));refine goesL_ (some 101) rfl rfl Try.func31 (by kernel_rfl) rfl #[.string ((rdOf ByteArray.empty o.ws i) ++ strOfNums [c] ++ v)] rfl (by(try simp only [zE,zF,zG]);first|done|rfl|(simp only [zH,zI];rfl)) ?_;(with_reducible refine(impl_WordOk.calls k1 _ false _ HW3.out).mono ?_);rintro e w10 ⟨rfl,hd⟩;refine ⟨_,rfl,?_⟩;have HB10:=aM (below_step HB9.out hd.below);clear hd))
                    go_ret2
                    exact ⟨.slice none 0 0,rfl,Kd.R_nil _ _ _ _ _,below_step HB2.out (below_step HBL.out HB10.out)⟩
                  | true =>
                    have HA2:=aM ha
                    clear ha
                    have hq:genRest o k1 i (j+1) (out ++ [((rdOf ByteArray.empty o.ws i) ++ strOfNums [c] ++ v)])=some b:=by
                      rcases HN.out with ⟨h1,_⟩|⟨q,h1,h2⟩
                      · rw [h1] at HA2
                        exact absurd HA2.out (by simp)
                      · rw [h1] at HA2
                        rw [Option.some.inj (Option.some.inj HA2.out)]
                        exact h2
                    have HQ:=aM hq
                    clear hq HA2 HN
                    go_wp2_with (first
                      | ((with_reducible refine gate_callee (f:=31) rfl ?_);(try(refine gate_guard (by rfl) ?_;dsimp only));refine goesL_ (some 86) rfl rfl Try.func31 (by kernel_rfl) rfl #[.string (rdOf ByteArray.empty o.ws kk)] rfl (by(try simp only [zE,zF,zG]);first|done|rfl|(simp only [zH,zI];rfl)) ?_;(with_reducible refine(impl_WordOk.calls k1 _ true _ HW1.out).mono ?_);rintro e w8 ⟨rfl,hd⟩;refine ⟨_,rfl,?_⟩;have HB8:=aM (below_step HBJ.out hd.below);have hc8:w8.cell? ⟨B,1,none⟩=some (.slice (some adw) o.ws.length cw):=(hd.below.cell (World.block_lt_of_cell? _ _ hcj)).trans hcj;have hw8:w8.cell? (adw.add i.toNat)=some (.string (rdOf ByteArray.empty o.ws i)):=(hd.below.cell (World.block_lt_of_cell? _ _ hwj)).trans hwj;clear hd)
                      | ((with_reducible refine gate_callee (f:=31) rfl ?_);(try(refine gate_guard (by rfl) ?_;dsimp only));refine goesL_ (some 96) rfl rfl Try.func31 (by kernel_rfl) rfl #[.string (rdOf ByteArray.empty o.ws i)] rfl (by(try simp only [zE,zF,zG]);first|done|rfl|(simp only [zH,zI];rfl)) ?_;(with_reducible refine(impl_WordOk.calls k1 _ true _ HW2.out).mono ?_);rintro e w9 ⟨rfl,hd⟩;refine ⟨_,rfl,?_⟩;have HB9:=aM (below_step HB8.out hd.below);clear hd)
                      | ((with_reducible refine gate_callee (f:=31) rfl ?_);(try(refine gate_guard (by rfl) ?_;dsimp only));refine goesL_ (some 101) rfl rfl Try.func31 (by kernel_rfl) rfl #[.string ((rdOf ByteArray.empty o.ws i) ++ strOfNums [c] ++ v)] rfl (by(try simp only [zE,zF,zG]);first|done|rfl|(simp only [zH,zI];rfl)) ?_;(with_reducible refine(impl_WordOk.calls k1 _ true _ HW3.out).mono ?_);rintro e w10 ⟨rfl,hd⟩;refine ⟨_,rfl,?_⟩;have HB10:=aM (below_step HB9.out hd.below);clear hd)
                      | ((with_reducible refine gate_builtin (b:=.append) (xs:=#[.tmp 104,.tmp 106]) rfl ?_);at_builtin;refine Kd.R_append Kd.string (w0:=w2) w2.heap.size rfl (.tmp 104) (.tmp 106) 33 9 (.string ⟨#[]⟩) 16 rfl Try.underlying33 info9 rfl (by decide) (by omega) (.slice Ao out.length co) out ((rdOf ByteArray.empty o.ws i) ++ strOfNums [c] ++ v) [.string ((rdOf ByteArray.empty o.ws i) ++ strOfNums [c] ++ v)] (fun _=>True) (fun _=>False) rfl rfl rfl (fun _ hk=>hk.elim) (fun _ _=>trivial) (Kd.R_below HR.out HB10.out) (below_step HBL.out HB10.out) (below_size (below_step HBL.out HB10.out)) (by have:=HSZ.out.2;omega) ?_;intro v61 w11 hl hb hg hat;obtain ⟨An,cn,e0⟩:=Kd.R_slice hl;subst e0;have HR11:=aM hl;have HB11:=aM hb;have HL11:=aM (blk_grown (blk_below HL.out HB10.out) hg (Kd.R_ne (Kd.R_below HR.out HB10.out) (blk_below HL.out HB10.out) (by decide)));clear hl hb hg hat))
                    go_roundg q1
                    case measure=>have:=HJ.out;omega
                    case rel=>exact ⟨j+1,out ++ [((rdOf ByteArray.empty o.ws i) ++ strOfNums [c] ++ v)],An,cn,(by rw [List.length_append];rfl),(by first|rfl|rw [HWJ.out]|(simp;done)),⟨by have:=HJ.out;omega⟩,HQ,HR11,HL11,HB11⟩
          · have e2:j=2:=by have:=HJ.out;omega
            subst e2
            have h2:=HG.out
            rw [genRest,if_neg (by decide),if_neg (by decide)] at h2
            have HG2:=aM h2
            clear h2 HG HJ hj
            have c2:decide (((2:Nat):Int)<2)=false:=by decide
            go_wp2
            go_roundg k1
            case measure=>omega
            case rel=>exact ⟨i+1,out,_,_,rfl,(by first|rfl|rw [HWI.out]),⟨by rw [← HWI.out];exact HG2.out⟩,⟨by have:=HIR.out;omega⟩,HR,HBL⟩
      · have c1:decide (i<(o.l.length:Int))=false:=decide_eq_false hlt
        have hr:some out=b:=by
          have h:=HG.out
          rw [genLoop,if_neg hlt] at h
          exact Option.some.inj h
        subst hr
        obtain ⟨rfl,rfl⟩:=HRES.out.2 _ rfl
        clear HG hlt
        go_wp2
        go_ret2
        exact ⟨_,rfl,Kd.R_lower HR.out (below_size HB2.out),below_step HB2.out HBL.out⟩

/-! ### strings_Join: function 46 -/
/-! by hand -/
def joinB (l:List ByteArray) (by_:ByteArray):List UInt8:=Go.Lib.join (l.map (·.data.toList)) by_.data.toList
def strings_Join.f (l0:List ByteArray) (a1:ByteArray):Option (ByteArray):=if l0.length≤140737488355328∧(joinB l0 a1).length≤140737488355328 then some ⟨(joinB l0 a1).toArray⟩ else none
theorem strings_Join.calls (A0:Option Addr) (c0:Nat) (l0:List ByteArray) (a1:ByteArray) (r:ByteArray) (w:World) (hr0:Kd.C Kd.string w A0 l0.length l0) (hc0:l0.length≤c0) (h:strings_Join.f l0 a1=some r) :
    Calls Try.prog 46 #[.slice A0 l0.length c0,.string a1] w fun e w'=>e = .returned (.string r)∧Below w.heap.size w w':=by
  unfold strings_Join.f at h
  by_cases hh:l0.length≤140737488355328∧(joinB l0 a1).length≤140737488355328
  · rw [if_pos hh] at h
    obtain rfl:=Option.some.inj h
    cases l0 with
    | nil =>
      refine(Try.strings_Join_none A0 c0 a1 w).mono ?_
      rintro e w' ⟨rfl,rfl⟩
      exact ⟨rfl,Below.refl _ _⟩
    | cons x xs =>
      obtain ⟨ad,e,hx⟩:=Kd.at_string hr0 0 (by omega) (by simp)
      subst e
      obtain ⟨b,o,s⟩:=ad
      have hs:s=none∧b<w.heap.size:=by
        rw [show (⟨b,o,s⟩:Addr).add (0:Int).toNat=⟨b,o,s⟩ from by simp [Addr.add]] at hx
        simp only [World.cell?] at hx
        split at hx
        · rename_i hb
          have hlt:b<w.heap.size:=by
            rcases Nat.lt_or_ge b w.heap.size with h|h
            · exact h
            · rw [Array.getElem?_eq_none h] at hb
              cases hb
          cases s with
          | none=>exact ⟨rfl,hlt⟩
          | some _=>simp at hx
        · cases hx
      obtain ⟨rfl,hlt⟩:=hs
      refine(Try.strings_Join b o c0 (x :: xs) a1 w ?_ hlt hh.1 hc0 hh.2).mono ?_
      · intro j y hj
        have hjl:j<(x :: xs).length:=(List.getElem?_eq_some_iff.1 hj).1
        obtain ⟨ad,e,hy⟩:=Kd.at_string hr0 j (by omega) (by omega)
        obtain rfl:=Option.some.inj e
        rw [show rdOf ByteArray.empty (x :: xs) j=y from by simp [rdOf,List.getD,hj]] at hy
        have e2:(⟨b,o,none⟩:Addr).add ((j:Int)).toNat=⟨b,o+j,none⟩:=by cases j <;> simp [Addr.add]
        rw [e2] at hy
        exact hy
      · rintro e w' ⟨rfl,hb⟩
        exact ⟨rfl,hb⟩
  · rw [if_neg hh] at h
    exact absurd h (by simp)

/-! ### impl_Join: function 26 -/
def impl_Join.f (l0:List ByteArray) (a1:ByteArray):Option (ByteArray):=(strings_Join.f l0 a1).bind fun t302=>(some t302)
theorem impl_Join.calls (A0:Option Addr) (c0:Nat) (l0:List ByteArray) (a1:ByteArray) (r:ByteArray) (w:World) (hr0:Kd.C Kd.string w A0 l0.length l0) (hc0:l0.length≤c0) (h:impl_Join.f l0 a1=some r) :
  Calls Try.prog 26 #[.slice A0 l0.length c0,.string a1] w fun e w'=>e = .returned (.string r)∧Below w.heap.size w w':=by
 have HR0:=aM hr0
 have HC0:=aM hc0
 clear hr0 hc0
 have HB:=aM (Below.refl w.heap.size w)
 have H:((strings_Join.f l0 a1).bind fun t302=>(some t302))=some r:=h
 clear h
 replace H:=oB H
 obtain ⟨t302,A30,H⟩:=H
 have A3:=aM A30
 clear A30
 obtain rfl:=Option.some.inj H
 go_enter Try.func26,Try.ntmps26
 go_wp2_with (first|((with_reducible refine gate_callee (f:=46) rfl ?_);refine goesL_ (some 7) rfl rfl Try.func46 (by kernel_rfl) rfl #[.slice A0 l0.length c0,.string a1] rfl (by(try simp only [List.map_toArray,List.map_cons,List.map_nil]);first|done|rfl|(simp only [List.length_drop,List.length_take];rfl)) ?_;(with_reducible refine(strings_Join.calls _ _ l0 a1 t302 _ ?side1 ?side2 A3.out).mono ?_);(case side1=>exact cX HR0.out);(case side2=>exact HC0.out);rintro e w4 ⟨rfl,hb⟩;refine ⟨_,rfl,?_⟩;replace HB:=aM (below_step (by repeat(first|(with_reducible first|exact HB.out|apply below_alloc|apply pw_below_drewN|apply below_drew1)|exact HB.out)) hb);(try clear hb)))
 go_ret
 exact ⟨eX,by repeat(first|(with_reducible first|exact HB.out|apply below_alloc|apply pw_below_drewN|apply below_drew1)|exact HB.out)⟩

/-! ### impl_GroupLine: function 8 -/
def impl_GroupLine.f (k:Nat) (l0_0:List Int) (l0_1:List Int):Option (ByteArray):=(impl_GeneratorWords.f k l0_0 l0_1).bind fun bt304=>(if bt304.2=true then ((impl_Join.f bt304.1 (⟨#[32]⟩:ByteArray)).bind fun t308=>(some t308)) else (some (⟨#[110,111,110,101]⟩:ByteArray)))
theorem impl_GroupLine.calls (k:Nat) (A0_0:Option Addr) (c0_0:Nat) (l0_0:List Int) (A0_1:Option Addr) (c0_1:Nat) (l0_1:List Int) (r:ByteArray) (w:World) (hr0_0:Kd.C (Kd.int .i64) w A0_0 l0_0.length l0_0) (hc0_0:l0_0.length≤c0_0) (hr0_1:Kd.C (Kd.int .i64) w A0_1 l0_1.length l0_1) (hc0_1:l0_1.length≤c0_1) (h:impl_GroupLine.f k l0_0 l0_1=some r) :
  Calls Try.prog 8 #[.agg #[.slice A0_0 l0_0.length c0_0,.slice A0_1 l0_1.length c0_1]] w fun e w'=>e = .returned (.string r)∧Below w.heap.size w w':=by
 have hu27:=Try.underlying27
 have HR0_0:=aM hr0_0
 have HC0_0:=aM hc0_0
 clear hr0_0 hc0_0
 have HR0_1:=aM hr0_1
 have HC0_1:=aM hc0_1
 clear hr0_1 hc0_1
 have HB:=aM (Below.refl w.heap.size w)
 have H:((impl_GeneratorWords.f k l0_0 l0_1).bind fun bt304=>(if bt304.2=true then ((impl_Join.f bt304.1 (⟨#[32]⟩:ByteArray)).bind fun t308=>(some t308)) else (some (⟨#[110,111,110,101]⟩:ByteArray))))=some r:=h
 clear h
 replace H:=oB H
 obtain ⟨⟨t304,t307⟩,A20,H⟩:=H
 replace H:(if t307=true then ((impl_Join.f t304 (⟨#[32]⟩:ByteArray)).bind fun t308=>(some t308)) else (some (⟨#[110,111,110,101]⟩:ByteArray)))=some r:=H
 have A2:=aM A20
 clear A20
 by_cases c3:t307=true
 {
 subst c3
 have H1:((impl_Join.f t304 (⟨#[32]⟩:ByteArray)).bind fun t308=>(some t308))=some r:=by rw [if_pos rfl] at H;exact H
 clear H
 have H:=H1
 clear H1
 replace H:=oB H
 obtain ⟨t308,A40,H⟩:=H
 have A4:=aM A40
 clear A40
 obtain rfl:=Option.some.inj H
 go_enter Try.func8,Try.ntmps8
 go_wp2_with (first|((with_reducible refine gate_dst (N:=1) rfl ?_);refine bEv (cs:=#[.slice A0_0 l0_0.length c0_0,.slice A0_1 l0_1.length c0_1]) (t:=27) ?_;intro gb303 hg w5 hbox hb;have BK303:=aM (hbox);have GW303:=aM ((szX (below_size (bX HB.out)) hg:w.heap.size≤gb303));have GE303:=GW303;replace HB:=aM (below_step (bX HB.out) hb);clear hb hbox hg;obtain ⟨hcz6_0,hcz6_1,hfz6_0,hfz6_1⟩:=f2Z BK303.out)|((with_reducible refine gate_callee (f:=11) rfl ?_);refine goesL_ (some 7) rfl rfl Try.func11 (by kernel_rfl) rfl #[.agg #[.slice A0_0 l0_0.length c0_0,.slice A0_1 l0_1.length c0_1]] rfl aX ?_;(with_reducible refine(impl_GeneratorWords.calls k _ _ l0_0 _ _ l0_1 t304 true _ ?side1 ?side2 ?side3 ?side4 A2.out).mono ?_);(case side1=>exact cX (Kd.C_below HR0_0.out HB.out));(case side2=>exact HC0_0.out);(case side3=>exact cX (Kd.C_below HR0_1.out HB.out));(case side4=>exact HC0_1.out);rintro e w7 ⟨v305,rfl,ho0,hb⟩;refine ⟨_,rfl,?_⟩;have HO306:=aM (Kd.R_lower ho0 (below_size (bX1 HB.out GE303.out)));replace BK303:=aM (bbX BK303.out hb);replace HB:=aM (below_step (bX1 HB.out GE303.out) hb);(try clear hb);(try clear ho0);obtain ⟨Ao8,co8,eo8⟩:=Kd.R_slice HO306.out;subst eo8)|((with_reducible refine gate_callee (f:=26) rfl ?_);refine goesL_ (some 13) rfl rfl Try.func26 (by kernel_rfl) rfl #[.slice Ao8 t304.length co8,.string (⟨#[32]⟩:ByteArray)] rfl aX ?_;(with_reducible refine(impl_Join.calls _ _ t304 (⟨#[32]⟩:ByteArray) t308 _ ?side1 ?side2 A4.out).mono ?_);(case side1=>exact cX (Kd.R_reads' HO306.out).2.2);(case side2=>exact(Kd.R_reads' HO306.out).2.1);rintro e w9 ⟨rfl,hb⟩;refine ⟨_,rfl,?_⟩;replace HO306:=aM (Kd.R_below (rX HO306.out) hb);replace BK303:=aM (bbX BK303.out hb);replace HB:=aM (below_step (bX1 HB.out GE303.out) hb);(try clear hb)))
 go_ret
 exact ⟨eX,bX1 HB.out GE303.out⟩
 }
 {
 replace c3:=Bool.eq_false_iff.mpr c3
 subst c3
 have H1:(some (⟨#[110,111,110,101]⟩:ByteArray))=some r:=by rw [if_neg (show ¬ (false=true) by decide)] at H;exact H
 clear H
 have H:=H1
 clear H1
 obtain rfl:=Option.some.inj H
 go_enter Try.func8,Try.ntmps8
 go_wp2_with (first|((with_reducible refine gate_dst (N:=1) rfl ?_);refine bEv (cs:=#[.slice A0_0 l0_0.length c0_0,.slice A0_1 l0_1.length c0_1]) (t:=27) ?_;intro gb303 hg w10 hbox hb;have BK303:=aM (hbox);have GW303:=aM ((szX (below_size (bX HB.out)) hg:w.heap.size≤gb303));have GE303:=GW303;replace HB:=aM (below_step (bX HB.out) hb);clear hb hbox hg;obtain ⟨hcz11_0,hcz11_1,hfz11_0,hfz11_1⟩:=f2Z BK303.out)|((with_reducible refine gate_callee (f:=11) rfl ?_);refine goesL_ (some 7) rfl rfl Try.func11 (by kernel_rfl) rfl #[.agg #[.slice A0_0 l0_0.length c0_0,.slice A0_1 l0_1.length c0_1]] rfl aX ?_;(with_reducible refine(impl_GeneratorWords.calls k _ _ l0_0 _ _ l0_1 t304 false _ ?side1 ?side2 ?side3 ?side4 A2.out).mono ?_);(case side1=>exact cX (Kd.C_below HR0_0.out HB.out));(case side2=>exact HC0_0.out);(case side3=>exact cX (Kd.C_below HR0_1.out HB.out));(case side4=>exact HC0_1.out);rintro e w12 ⟨v305,rfl,ho0,hb⟩;refine ⟨_,rfl,?_⟩;have HO306:=aM (Kd.R_lower ho0 (below_size (bX1 HB.out GE303.out)));replace BK303:=aM (bbX BK303.out hb);replace HB:=aM (below_step (bX1 HB.out GE303.out) hb);(try clear hb);(try clear ho0)))
 go_ret
 exact ⟨eX,bX1 HB.out GE303.out⟩
 }

/-! ### spec_l01In: function 71 -/
def spec_l01In.f (a0:Int) (a1:Int) (a2:Int):Option (Bool):=if a0≥a1 then (some (decide (a0≤a2))) else (some false)
theorem spec_l01In.calls (a0:Int) (a1:Int) (a2:Int) (r:Bool) (w:World) (h:spec_l01In.f a0 a1 a2=some r) :
  Calls Try.prog 71 #[.int .i64 a0,.int .i64 a1,.int .i64 a2] w fun e w'=>e = .returned (.bool r)∧Drawn0 w w':=by
 have H:(if a0≥a1 then (some (decide (a0≤a2))) else (some false))=some r:=h
 clear h
 by_cases c4:a0≥a1
 {
 rw [if_pos c4] at H
 have c4b0:=decide_eq_true c4
 clear c4
 obtain rfl:=Option.some.inj H
 go_enter Try.func71,Try.ntmps71
 go_wp2
 go_ret
 exact ⟨by first|rfl|(simp;done)|(simp [*];done),by repeat(first|exact Drawn0.refl _|apply Drawn0.step)⟩
 }
 {
 rw [if_neg c4] at H
 have c4b0:=decide_eq_false c4
 clear c4
 obtain rfl:=Option.some.inj H
 go_enter Try.func71,Try.ntmps71
 go_wp2
 go_ret
 exact ⟨by first|rfl|(simp;done)|(simp [*];done),by repeat(first|exact Drawn0.refl _|apply Drawn0.step)⟩
 }

/-! ### spec_l02Has: function 119 -/
def spec_l02Has.l0 : Nat→Int→List Int→Int→Int→Option (Bool)
 | 0,_,_,_,_=>none
 | k+1,x1,x7,x8,x9=>if x9<x8 then (if 0≤x9 then (if x9<(x7.length:Int) then (if (rd x7 x9)=x1 then (some true) else (spec_l02Has.l0 k x1 x7 x8 (wrap64 (x9+1)))) else (none)) else (none)) else (some false)
def spec_l02Has.f (k:Nat) (l0:List Int) (a1:Int):Option (Bool):=spec_l02Has.l0 k a1 l0 (l0.length:Int) 0
theorem spec_l02Has.calls (k:Nat) (A0:Option Addr) (c0:Nat) (l0:List Int) (a1:Int) (r:Bool) (w:World) (hr0:Kd.C (Kd.int .i64) w A0 l0.length l0) (hc0:l0.length≤c0) (h:spec_l02Has.f k l0 a1=some r) :
  Calls Try.prog 119 #[.slice A0 l0.length c0,.int .i64 a1] w fun e w'=>e = .returned (.bool r)∧Drawn0 w w':=by
 have HR0:=aM hr0
 have HC0:=aM hc0
 clear hr0 hc0
 have H:(spec_l02Has.l0 k a1 l0 (l0.length:Int) 0)=some r:=h
 clear h
 have H':=aM H
 clear H
 go_enter Try.func119,Try.ntmps119
 go_wp2
 go_loopg [9] k (fun kq v9 w'=>∃ (x9_1:Int),v9 = .int .i64 x9_1∧Aside0 (spec_l02Has.l0 kq a1 l0 (l0.length:Int) x9_1=some r)∧Aside0 (kq≤k)∧Drawn0 w w')
 case atStart=>exact ⟨(0),vX,H',⟨Nat.le_refl _⟩,by repeat(first|exact Drawn0.refl _|apply Drawn0.step)⟩
 case round =>
 clear H'
 obtain ⟨x9_1,rfl,HA,HK1,⟨m1,rfl⟩⟩:=hrel
 cases gk with
 | zero=>exact absurd HA.out (by simp [spec_l02Has.l0])
 | succ k1 =>
 have H:=HA.out
 clear HA
 simp only [spec_l02Has.l0] at H
 by_cases c3:x9_1<(l0.length:Int)
 {
 rw [if_pos c3] at H
 have c3b0:=decide_eq_true c3
 clear c3
 by_cases c4:0≤x9_1
 {
 rw [if_pos c4] at H
 have c4b0:=decide_eq_true c4
 clear c4
 by_cases c5:x9_1<(l0.length:Int)
 {
 rw [if_pos c5] at H
 have c5b0:=decide_eq_true c5
 clear c5
 by_cases c6:(rd l0 x9_1)=a1
 {
 rw [if_pos c6] at H
 have c6b0:((rd l0 x9_1) == a1)=true:=beq_iff_eq.mpr c6
 have c6b1:((rd l0 x9_1) != a1)=false:=bne_eq_false_iff_eq.mpr c6
 clear c6
 obtain rfl:=Option.some.inj H
 have p309:0≤(x9_1:Int):=dX
 have q309:x9_1<(l0.length:Int):=dX
 obtain ⟨ad309,e309,hx309_0⟩:=Kd.at_int HR0.out x9_1 p309 q309
 cases e309
 replace p309:=eq_true p309
 replace q309:=eq_true q309
 go_wp2
 go_ret
 exact ⟨by first|rfl|(simp;done)|(simp [*];done),by repeat(first|exact Drawn0.refl _|apply Drawn0.step)⟩
 }
 {
 rw [if_neg c6] at H
 have c6b0:((rd l0 x9_1) == a1)=false:=beq_eq_false_iff_ne.mpr c6
 have c6b1:((rd l0 x9_1) != a1)=true:=bne_iff_ne.mpr c6
 have H':=aM H
 clear H
 have p309:0≤(x9_1:Int):=dX
 have q309:x9_1<(l0.length:Int):=dX
 obtain ⟨ad309,e309,hx309_0⟩:=Kd.at_int HR0.out x9_1 p309 q309
 cases e309
 replace p309:=eq_true p309
 replace q309:=eq_true q309
 go_wp2
 go_roundg k1
 case measure=>have:=HK1.out;omega
 case rel=>exact ⟨(wrap64 (x9_1+1)),vX,H',⟨by have:=HK1.out;omega⟩,by repeat(first|exact Drawn0.refl _|apply Drawn0.step)⟩
 }
 }
 {
 rw [if_neg c5] at H
 exact absurd H (by simp)
 }
 }
 {
 rw [if_neg c4] at H
 exact absurd H (by simp)
 }
 }
 {
 rw [if_neg c3] at H
 have c3b0:=decide_eq_false c3
 clear c3
 obtain rfl:=Option.some.inj H
 go_wp2
 go_ret
 exact ⟨by first|rfl|(simp;done)|(simp [*];done),by repeat(first|exact Drawn0.refl _|apply Drawn0.step)⟩
 }

/-! ### spec_PermOk: function 96 -/
/-! by hand -/
theorem hand_in01 (a b c:Int):spec_l01In.f a b c=some (decide (b≤a∧a≤c)):=by
  unfold spec_l01In.f
  split
  · rename_i h
    by_cases h2:a≤c
    · rw [decide_eq_true h2,decide_eq_true ⟨h,h2⟩]
    · rw [decide_eq_false h2,decide_eq_false (fun h=>h2 h.2)]
  · rename_i h
    rw [decide_eq_false (fun h2=>h h2.1)]
theorem hand_has_l0 (l:List Int) (hl:l.length≤4611686018427387904) (x:Int):∀ (suf pre:List Int),l=pre ++ suf →
    Ev (fun k=>spec_l02Has.l0 k x l (l.length:Int) (pre.length:Int)) (decide (x∈suf)):=by
  intro suf
  induction suf with
  | nil =>
    intro pre h
    subst h
    refine Ev.step (f:=fun _=>some false) (fun k => ?_) (by simpa using Ev.now false)
    simp only [spec_l02Has.l0]
    rw [if_neg (by simp)]
  | cons c suf ih =>
    intro pre h
    have:=ih (pre ++ [c]) (by simp [h])
    subst h
    have h1:((pre.length:Nat):Int)<((pre ++ c :: suf).length:Int):=by simp;omega
    have hr:rd (pre ++ c :: suf) (pre.length:Int)=c:=by simp [rd,List.getD]
    have hw:wrap64 ((pre.length:Int)+1)=((pre ++ [c]).length:Int):=by simp at hl ⊢;unfold wrap64;omega
    by_cases hc:c=x
    · refine Ev.step (f:=fun _=>some true) (fun k => ?_) (by simpa [hc] using Ev.now true)
      simp only [spec_l02Has.l0]
      rw [if_pos h1,if_pos (Int.natCast_nonneg _),if_pos h1,hr,if_pos hc]
    · rw [show decide (x∈c :: suf)=decide (x∈suf) by simp [Ne.symm hc]]
      refine Ev.step (fun k => ?_) this
      simp only [spec_l02Has.l0]
      rw [if_pos h1,if_pos (Int.natCast_nonneg _),if_pos h1,hr,if_neg hc,hw]
theorem hand_has (l:List Int) (hl:l.length≤4611686018427387904) (x:Int):∃ k,spec_l02Has.f k l x=some (decide (x∈l)):=by
 obtain ⟨k,hk⟩:=Ev.rounds (hand_has_l0 l hl x l [] rfl)
 exact ⟨k,by simpa [spec_l02Has.f] using hk⟩
/-- The reference's way: each is in range and none stands before. -/
def permSGo (n:Int):List Int→List Int→Bool
  | _,[]=>true
  | pre,x :: xs=>if 0≤x∧x≤n - 1 then (if x∈pre then false else permSGo n (pre ++ [x]) xs) else false
def permSB (p:List Int):Bool:=if p.length≤24 then permSGo p.length [] p else false
def spec_PermOk.f (l0:List Int):Option Bool:=some (permSB l0)
theorem spec_PermOk.calls_le (A0:Option Addr) (c0:Nat) (l0:List (Int)) (r:Bool) (w:World) (hr0:Kd.C (Kd.int .i64) w A0 l0.length l0) (hc0:l0.length≤c0) (hle:l0.length≤24) (hres:permSGo l0.length [] l0=r) :
    Calls Try.prog 96 #[.slice A0 l0.length c0] w fun e w'=>e = .returned (.bool r)∧Drawn0 w w':=by
  have HR0:=aM hr0
  have HC0:=aM hc0
  have HRES:=aM hres
  have HLE:=aM hle
  have hb24:decide (24<(l0.length:Int))=false:=decide_eq_false (by omega)
  clear hr0 hc0 hres hle
  go_enter Try.func96,Try.ntmps96
  go_wp2
  go_loopg [10] (l0.length+1) (fun kq v10 w'=>∃ (i:Int),v10 = .int .i64 i∧Aside0 (0≤i∧i≤l0.length∧(kq:Int)+i=l0.length+1∧permSGo l0.length (l0.take i.toNat) (l0.drop i.toNat)=r)∧Drawn0 w w')
  case atStart=>exact ⟨0,rfl,⟨by omega,by omega,by simp,by simpa using HRES.out⟩,by repeat(first|exact Drawn0.refl _|apply Drawn0.step)⟩
  case round =>
    obtain ⟨i,rfl,HI,⟨m1,rfl⟩⟩:=hrel
    obtain ⟨hi0,hi1,hik,hgo⟩:=HI.out
    clear HI
    have hle:=HLE.out
    obtain ⟨k1,rfl⟩:∃ m,gk=m+1:=⟨gk - 1,by omega⟩
    have HGO:=aM hgo
    have HK:=aM hik
    clear hgo hik
    by_cases hlt:i<(l0.length:Int)
    · have c1:decide (i<(l0.length:Int))=true:=decide_eq_true hlt
      have c1':decide (i≤(l0.length:Int))=true:=decide_eq_true hi1
      have p0:decide (0≤i)=true:=decide_eq_true hi0
      have HW:=aM (show wrap64 (i+1)=i+1 from by unfold wrap64;omega)
      have HW2:=aM (show wrap64 ((l0.length:Int) - 1)=(l0.length:Int) - 1 from by unfold wrap64;omega)
      have hlen:(l0.take i.toNat).length=i.toNat:=by simp;omega
      obtain ⟨ad,ead,hx⟩:=Kd.at_int HR0.out i hi0 hlt
      cases ead
      have hdrop:l0.drop i.toNat=rd l0 i :: l0.drop (i+1).toNat:=by
        have h1:i.toNat<l0.length:=by omega
        rw [show (i+1).toNat=i.toNat+1 by omega,List.drop_eq_getElem_cons h1]
        simp [rd,List.getD,h1]
      have htake:l0.take (i+1).toNat=l0.take i.toNat ++ [rd l0 i]:=by
        have h1:i.toNat<l0.length:=by omega
        rw [show (i+1).toNat=i.toNat+1 by omega,List.take_succ_eq_append_getElem h1]
        simp [rd,List.getD,h1]
      have HD:=aM hdrop
      have HT:=aM htake
      clear hdrop htake
      obtain ⟨i3,hi3,_,hsz3,_⟩:=info_parts (show (Try.prog.info? 3).map (fun i=>(i.zero,i.size,i.bytes))=some (some (.int .i64 0),1,8) by kernel_rfl)
      obtain ⟨hcut,hA,hC⟩:=print_take_of (P:=Try.prog) (Value.int .i64) 0 22 3 .i64 Try.underlying22 hi3 hsz3 (some ad) c0 l0 i hi0 hi1 HC0.out
      rw [hlen] at hcut hC
      have HR1:=aM (Kd.C_of_reads (h1:=fun _=>rfl) (hA _ (Kd.reads_of_C HR0.out)))
      have HC1:=aM hC
      have HL:=aM hlen
      clear hA hC hi3 hsz3 hlen
      generalize hX:rd l0 i=x at *
      clear hX
      replace hi0:=eq_true hi0
      replace hi1:=eq_true hi1
      replace hlt:=eq_true hlt
      clear hle
      have HIN:=aM (hand_in01 x 0 (wrap64 ((l0.length:Int) - 1)))
      by_cases h1:0≤x∧x≤(l0.length:Int) - 1
      · rw [HW2.out,decide_eq_true h1,← HW2.out] at HIN
        by_cases h2:x∈l0.take i.toNat
        · have hr:r=false:=by
            have:=HGO.out
            rw [HD.out] at this
            simp only [permSGo] at this
            rw [if_pos h1,if_pos h2] at this
            exact this.symm
          subst hr
          obtain ⟨kh,hkh⟩:=hand_has (l0.take i.toNat) (by have:=HL.out;have:=HLE.out;simp;omega) x
          rw [decide_eq_true h2] at hkh
          have HH:∀ W:World,Drawn0 w W→Calls Try.prog 119 #[.slice (some ad) i.toNat c0,.int .i64 x] W fun e w'=>e = .returned (.bool true)∧Drawn0 W w':=by
            intro W hW
            obtain ⟨n,rfl⟩:=hW.out
            have:=spec_l02Has.calls kh _ _ (l0.take i.toNat) x true (w.drewN n) (Kd.C_drewN HR1.out n) (by rw [HL.out];exact HC1.out) hkh
            rw [HL.out] at this
            exact this
          have HHA:=aM HH
          clear h1 h2 HH hkh
          go_wp2_with (first
            | (go_at_call 71;refine(spec_l01In.calls x 0 (wrap64 ((l0.length:Int) - 1)) true _ HIN.out).mono ?_;rintro e w' ⟨rfl,⟨nd,rfl⟩⟩)
            | (go_at_call 119;refine(HHA.out _ (by repeat(first|exact Drawn0.refl _|apply Drawn0.step))).mono ?_;rintro e w' ⟨rfl,⟨nd,rfl⟩⟩))
          go_ret
          exact ⟨rfl,by repeat(first|exact Drawn0.refl _|apply Drawn0.step)⟩
        · have hg2:permSGo l0.length (l0.take (i+1).toNat) (l0.drop (i+1).toNat)=r:=by
            have:=HGO.out
            rw [HD.out] at this
            simp only [permSGo] at this
            rw [if_pos h1,if_neg h2] at this
            rw [HT.out]
            exact this
          have HG2:=aM hg2
          clear hg2
          obtain ⟨kh,hkh⟩:=hand_has (l0.take i.toNat) (by have:=HL.out;have:=HLE.out;simp;omega) x
          rw [decide_eq_false h2] at hkh
          have HH:∀ W:World,Drawn0 w W→Calls Try.prog 119 #[.slice (some ad) i.toNat c0,.int .i64 x] W fun e w'=>e = .returned (.bool false)∧Drawn0 W w':=by
            intro W hW
            obtain ⟨n,rfl⟩:=hW.out
            have:=spec_l02Has.calls kh _ _ (l0.take i.toNat) x false (w.drewN n) (Kd.C_drewN HR1.out n) (by rw [HL.out];exact HC1.out) hkh
            rw [HL.out] at this
            exact this
          have HHA:=aM HH
          clear h1 h2 HH hkh
          go_wp2_with (first
            | (go_at_call 71;refine(spec_l01In.calls x 0 (wrap64 ((l0.length:Int) - 1)) true _ HIN.out).mono ?_;rintro e w' ⟨rfl,⟨nd,rfl⟩⟩)
            | (go_at_call 119;refine(HHA.out _ (by repeat(first|exact Drawn0.refl _|apply Drawn0.step))).mono ?_;rintro e w' ⟨rfl,⟨nd,rfl⟩⟩))
          go_roundg k1
          case measure=>omega
          case rel=>exact ⟨i+1,by rw [HW.out],⟨by simp at hi0;omega,by simp at hlt;omega,by have:=HK.out;simp at this ⊢;omega,HG2.out⟩,by repeat(first|exact Drawn0.refl _|apply Drawn0.step)⟩
      · rw [HW2.out,decide_eq_false h1,← HW2.out] at HIN
        have hr:r=false:=by
          have:=HGO.out
          rw [HD.out] at this
          simp only [permSGo] at this
          rw [if_neg h1] at this
          exact this.symm
        subst hr
        clear h1
        go_wp2_with (go_at_call 71;refine(spec_l01In.calls x 0 (wrap64 ((l0.length:Int) - 1)) false _ HIN.out).mono ?_;rintro e w' ⟨rfl,⟨nd,rfl⟩⟩)
        go_ret
        exact ⟨rfl,by repeat(first|exact Drawn0.refl _|apply Drawn0.step)⟩
    · have hie:i=l0.length:=by omega
      have hr:r=true:=by
        have:=HGO.out
        rw [show l0.drop i.toNat=[] from by rw [hie];simp] at this
        simp only [permSGo] at this
        exact this.symm
      subst hr
      have c1:decide (i<(l0.length:Int))=false:=decide_eq_false hlt
      clear hlt hie
      go_wp2
      go_ret
      exact ⟨rfl,by repeat(first|exact Drawn0.refl _|apply Drawn0.step)⟩
theorem spec_PermOk.calls (A0:Option Addr) (c0:Nat) (l0:List Int) (r:Bool) (w:World) (hr0:Kd.C (Kd.int .i64) w A0 l0.length l0) (hc0:l0.length≤c0) (h:spec_PermOk.f l0=some r) :
    Calls Try.prog 96 #[.slice A0 l0.length c0] w fun e w'=>e = .returned (.bool r)∧Drawn0 w w':=by
  unfold spec_PermOk.f permSB at h
  by_cases hle:l0.length≤24
  · rw [if_pos hle] at h
    exact spec_PermOk.calls_le A0 c0 l0 r w hr0 hc0 hle (Option.some.inj h)
  · rw [if_neg hle] at h
    obtain rfl:=Option.some.inj h
    have hb24:decide (24<(l0.length:Int))=true:=decide_eq_true (by omega)
    clear hle
    go_enter Try.func96,Try.ntmps96
    go_wp2
    go_ret
    exact ⟨rfl,by repeat(first|exact Drawn0.refl _|apply Drawn0.step)⟩

/-! ### spec_l02Reach: function 97 -/
mutual
def spec_l02Reach.l0 : Nat→List Int→List Int→List Int→Int→Option (List Int)
 | 0,_,_,_,_=>none
 | k+1,x0,x1,x7,x8=>if x8<(x7.length:Int) then (if 0≤x8 then (if 0≤(rd x7 x8) then (if (rd x7 x8)<(x0.length:Int) then (if (rd x7 x8)<(x1.length:Int) then ((some (([rd x0 (rd x7 x8),rd x1 (rd x7 x8)]:List Int):List Int)).bind fun y317=>(spec_l02Reach.l1 k x0 x1 x7 x8 y317 (y317.length:Int) 0)) else (none)) else (none)) else (none)) else (none)) else (some x7)
def spec_l02Reach.l1 : Nat→List Int→List Int→List Int→Int→List Int→Int→Int→Option (List Int)
 | 0,_,_,_,_,_,_,_=>none
 | k+1,x0,x1,x7,x8,x33,x34,x35=>if x35<x34 then (if 0≤x35 then (if x35<(x33.length:Int) then ((spec_l02Has.f k x7 (rd x33 x35)).bind fun t321=>(if t321=true then (spec_l02Reach.l1 k x0 x1 x7 x8 x33 x34 (wrap64 (x35+1))) else (if x7.length<17592186044416 then (spec_l02Reach.l1 k x0 x1 (x7 ++ [rd x33 x35]) x8 x33 x34 (wrap64 (x35+1))) else (none)))) else (none)) else (none)) else (spec_l02Reach.l0 k x0 x1 x7 (wrap64 (x8+1)))
end
def spec_l02Reach.f (k:Nat) (l0:List Int) (l1:List Int) (a2:Int):Option (List Int):=spec_l02Reach.l0 k l0 l1 (([a2]:List Int)) 0
def spec_l02Reach.T5 : Bool × List (List Nat × List Nat):=(true,[([],[]),([],[]),([],[]),([1,2],[1,2]),([3],[3]),([0,4],[0,4]),([5],[5]),([],[]),([],[]),([],[]),([8,9],[8,9]),([10],[10]),([7,11],[7,11]),([12],[12]),([6,13],[6,13]),([14],[14]),([],[])])
def spec_l02Reach.B5 : List Nat:=[0,0,0,6,14,31,63,0,0,0,768,1792,3968,8064,16383,32767,0]
theorem spec_l02Reach.tab5 : rtab .any (opsOf Try.f97 5)=spec_l02Reach.T5:=by kernel_rfl
theorem spec_l02Reach.bits5 : waitsOk spec_l02Reach.T5.2 spec_l02Reach.B5=true:=by kernel_rfl
theorem spec_l02Reach.calls (k:Nat) (A0:Option Addr) (c0:Nat) (l0:List Int) (A1:Option Addr) (c1:Nat) (l1:List Int) (a2:Int) (r:List Int) (w:World) (hr0:Kd.C (Kd.int .i64) w A0 l0.length l0) (hc0:l0.length≤c0) (hr1:Kd.C (Kd.int .i64) w A1 l1.length l1) (hc1:l1.length≤c1) (h:spec_l02Reach.f k l0 l1 a2=some r) :
  Calls Try.prog 97 #[.slice A0 l0.length c0,.slice A1 l1.length c1,.int .i64 a2] w fun e w'=>∃ v0_:Value,e = .returned (v0_)∧Kd.R (Kd.int .i64) 3 w' w.heap.size (fun _=>True) v0_ r∧Below w.heap.size w w':=by
 have HR0:=aM hr0
 have HC0:=aM hc0
 clear hr0 hc0
 have HR1:=aM hr1
 have HC1:=aM hc1
 clear hr1 hc1
 have HB:=aM (Below.refl w.heap.size w)
 have H:(spec_l02Reach.l0 k l0 l1 (([a2]:List Int)) 0)=some r:=h
 clear h
 obtain ⟨y310,hy310⟩:∃ y_:List Int,y_=(([a2]:List Int)):=⟨_,rfl⟩
 replace H:(spec_l02Reach.l0 k l0 l1 y310 0)=some r:=by first|(rw [hy310];with_reducible exact H)|(have H2_:=(Option.bind_some _ _).symm.trans H;rw [hy310];with_reducible exact H2_)|(have H2_:=(Option.bind_some _ _).symm.trans H;with_reducible exact H2_)|with_reducible exact H|(rw [hy310];exact H)|exact H
 have Ny310:=aM hy310
 clear hy310
 have H':=aM H
 clear H
 go_enter Try.func97,Try.ntmps97
 go_wp2_with (first|((with_reducible refine gate_dst (N:=12) rfl ?_);refine Kd.R_lit (Kd.int .i64) _ 3 ?hg (N:=12) ?hd (xs:=([a2]:List Int)) (inner:=[.int .i64 a2]) (ok:=fun _=>True) (okp:=fun _=>True) ?hr ?hp (fun _ hk=>hk) trivial (Below.refl _ _) (Nat.le_refl _) (by simp) ?_;(case hd=>rfl);(case hg=>rfl);(case hr=>first|(go_simp;done)|(go_simp;rfl));(case hp=>exact(Reps.one (show Kd.M (Kd.int .i64) _ _ _ a2 [.int .i64 a2] from rfl) (Reps.none _ _)));intro v311 w4 ho5 hb hg_ hnew_;clear hg_ hnew_;(first|rw [← Ny310.out] at ho5|(simp only [Int.reduceToNat] at ho5;rw [← Ny310.out] at ho5));have HO312:=aM (Kd.R_lower ho5 (below_size (bX HB.out)));replace HB:=aM (below_step (bX HB.out) hb);clear hb ho5))
 go_loopg [7,8] k (fun kq v7 v8 w'=>∃ (x7_1:List Int) (x8_1:Int),v8 = .int .i64 x8_1∧Aside0 (spec_l02Reach.l0 kq l0 l1 x7_1 x8_1=some r)∧Aside0 (kq≤k)∧Aside0 (Kd.R (Kd.int .i64) 3 w' w.heap.size (fun _=>True) v7 x7_1)∧Aside0 (Below w.heap.size w w'))
 case atStart=>exact ⟨(y310),(0),vX,H',⟨Nat.le_refl _⟩,⟨rX HO312.out⟩,⟨bX HB.out⟩⟩
 case round =>
 clear H'
 try clear c1
 obtain ⟨x7_1,x8_1,rfl,HA,HK1,HO_7,HB⟩:=hrel
 cases gk with
 | zero=>exact absurd HA.out (by simp [spec_l02Reach.l0])
 | succ k1 =>
 have H:=HA.out
 clear HA
 simp only [spec_l02Reach.l0] at H
 by_cases c6:x8_1<(x7_1.length:Int)
 {
 rw [if_pos c6] at H
 have c6b0:=decide_eq_true c6
 clear c6
 by_cases c7:0≤x8_1
 {
 rw [if_pos c7] at H
 have c7b0:=decide_eq_true c7
 clear c7
 by_cases c8:0≤(rd x7_1 x8_1)
 {
 rw [if_pos c8] at H
 have c8b0:=decide_eq_true c8
 clear c8
 by_cases c9:(rd x7_1 x8_1)<(l0.length:Int)
 {
 rw [if_pos c9] at H
 have c9b0:=decide_eq_true c9
 clear c9
 by_cases c10:(rd x7_1 x8_1)<(l1.length:Int)
 {
 rw [if_pos c10] at H
 have c10b0:=decide_eq_true c10
 clear c10
 obtain ⟨y317,hy317⟩:∃ y_:List Int,y_=(([rd l0 (rd x7_1 x8_1),rd l1 (rd x7_1 x8_1)]:List Int)):=⟨_,rfl⟩
 replace H:(spec_l02Reach.l1 k1 l0 l1 x7_1 x8_1 y317 (y317.length:Int) 0)=some r:=by first|(rw [hy317];with_reducible exact H)|(have H2_:=(Option.bind_some _ _).symm.trans H;rw [hy317];with_reducible exact H2_)|(have H2_:=(Option.bind_some _ _).symm.trans H;with_reducible exact H2_)|with_reducible exact H|(rw [hy317];exact H)|exact H
 have Ny317:=aM hy317
 clear hy317
 have H':=aM H
 clear H
 obtain ⟨Ao11,co11,eo11⟩:=Kd.R_slice HO_7.out
 subst eo11
 try go_wp2
 replace HO_7:=aM (Kd.R_drew HO_7.out)
 replace HB:=aM (below_drew1 HB.out)
 have p313:0≤(x8_1:Int):=dX
 have q313:x8_1<(x7_1.length:Int):=dX
 obtain ⟨ad313,e313,hx313_0⟩:=Kd.at_int (Kd.R_reads' HO_7.out).2.2 x8_1 p313 q313
 cases e313
 replace p313:=eq_true p313
 replace q313:=eq_true q313
 have p314:0≤((rd x7_1 x8_1):Int):=dX
 have q314:(rd x7_1 x8_1)<(l0.length:Int):=dX
 obtain ⟨ad314,e314,hx314_0⟩:=Kd.at_int HR0.out (rd x7_1 x8_1) p314 q314
 have hw314_0:=hx314_0
 cases e314
 replace hx314_0:=(HB.out.cell (World.block_lt_of_cell? w _ hx314_0)).trans hx314_0
 replace p314:=eq_true p314
 replace q314:=eq_true q314
 have p315:0≤(x8_1:Int):=dX
 have q315:x8_1<(x7_1.length:Int):=dX
 obtain ⟨ad315,e315,hx315_0⟩:=Kd.at_int (Kd.R_reads' HO_7.out).2.2 x8_1 p315 q315
 obtain rfl:ad313=ad315:=(by injection e315)
 replace p315:=eq_true p315
 replace q315:=eq_true q315
 have p316:0≤((rd x7_1 x8_1):Int):=dX
 have q316:(rd x7_1 x8_1)<(l1.length:Int):=dX
 obtain ⟨ad316,e316,hx316_0⟩:=Kd.at_int HR1.out (rd x7_1 x8_1) p316 q316
 have hw316_0:=hx316_0
 cases e316
 replace hx316_0:=(HB.out.cell (World.block_lt_of_cell? w _ hx316_0)).trans hx316_0
 replace p316:=eq_true p316
 replace q316:=eq_true q316
 refine start_ (n:=17) (S:=fun w'=>w'.cell? (ad313.add (x8_1).toNat)=some (.int .i64 (rd x7_1 x8_1))∧w'.cell? (ad314.add ((rd x7_1 x8_1)).toNat)=some (.int .i64 (rd l0 (rd x7_1 x8_1)))∧w'.cell? (ad313.add (x8_1).toNat)=some (.int .i64 (rd x7_1 x8_1))∧w'.cell? (ad316.add ((rd x7_1 x8_1)).toNat)=some (.int .i64 (rd l1 (rd x7_1 x8_1)))) (ds:=[]) #[ff,ff,ff,ff,ff,ff,ff,ff,ff,ff,ff,ff,ff,ff,ff,ff,ff] (by kernel_rfl) rfl rfl ⟨hx313_0,((HB.out.cell (World.block_lt_of_cell? w _ hw314_0)).trans hw314_0),hx315_0,((HB.out.cell (World.block_lt_of_cell? w _ hw316_0)).trans hw316_0)⟩ (fun hHeld => ?_);refine with_tabW spec_l02Reach.tab5 spec_l02Reach.bits5 (fun HT_ HW_ => ?_)
 generalize wr.drew=w12 at HO_7 HB hx313_0 hx314_0 hx315_0 hx316_0 hHeld ⊢
 refine pX 0 19 (fl 17 1) rfl rfl HT_.out ?_
 refine pX 1 20 (fl 17 3) rfl rfl HT_.out ?_
 refine pX 2 21 (fl 17 7) rfl rfl HT_.out ?_
 refine pX 3 22 (fl 17 15) rfl rfl HT_.out ?_
 refine pX 7 26 (fl 17 143) rfl rfl HT_.out ?_
 refine pX 8 27 (fl 17 399) rfl rfl HT_.out ?_
 refine pX 9 28 (fl 17 911) rfl rfl HT_.out ?_
 refine pX 10 29 (fl 17 1935) rfl rfl HT_.out ?_
 refine pX 16 35 (fl 17 67471) rfl rfl HT_.out ?_
 refine tX4 4 23 (fl 17 67487) rfl rfl HT_.out HW_.out hHeld ?_
 refine pX 5 24 (fl 17 67519) rfl rfl HT_.out ?_
 refine tX4 6 25 (fl 17 67583) rfl rfl HT_.out HW_.out hHeld ?_
 refine tX4 11 30 (fl 17 69631) rfl rfl HT_.out HW_.out hHeld ?_
 refine pX 12 31 (fl 17 73727) rfl rfl HT_.out ?_
 refine tX4 13 32 (fl 17 81919) rfl rfl HT_.out HW_.out hHeld ?_
 refine one_ (i:=14) (N:=some 33) #[tt,tt,tt,tt,tt,tt,tt,tt,tt,tt,tt,tt,tt,tt,tt,ff,tt] rfl rfl (one_of HT_.out (by kernel_rfl)) (by decide) (fun K hK => ?_)
 refine Kd.R_lit_step (Kd.int .i64) _ 3 ?hg (N:=33) ?hd (xs:=([rd l0 (rd x7_1 x8_1),rd l1 (rd x7_1 x8_1)]:List Int)) (inner:=[.int .i64 (rd l0 (rd x7_1 x8_1)),.int .i64 (rd l1 (rd x7_1 x8_1))]) (ok:=fun _=>True) (okp:=fun _=>True) ?hr ?hp (fun _ hk=>hk) trivial (Below.refl _ _) (Nat.le_refl _) (by simp) ?_;(case hd=>rfl);(case hg=>rfl);(case hr=>first|(go_simp;done)|(go_simp;rfl));(case hp=>exact(Reps.one (show Kd.M (Kd.int .i64) _ _ _ (rd l0 (rd x7_1 x8_1)) [.int .i64 (rd l0 (rd x7_1 x8_1))] from rfl) (Reps.one (show Kd.M (Kd.int .i64) _ _ _ (rd l1 (rd x7_1 x8_1)) [.int .i64 (rd l1 (rd x7_1 x8_1))] from rfl) (Reps.none _ _))))
 intro v318 w13 ho14 hb hg_ hnew_
 have HS0_:=(hb.cell (World.block_lt_of_cell? _ _ (hHeld.1))).trans (hHeld.1)
 have HS2_:=(hb.cell (World.block_lt_of_cell? _ _ (hHeld.2.2.1))).trans (hHeld.2.2.1)
 clear hg_ hnew_
 (first|rw [← Ny317.out] at ho14|(simp only [Int.reduceToNat] at ho14;rw [← Ny317.out] at ho14))
 have HO319:=aM (Kd.R_lower (Kd.R_new' ho14 (Kd.R_lt (rX HO_7.out))) (below_size (bX HB.out)))
 replace HO_7:=aM (Kd.R_elder' (rX HO_7.out) (Kd.R_base ho14) hb)
 replace HB:=aM (below_step (bX HB.out) hb)
 clear hb ho14
 obtain ⟨Ao15,co15,eo15⟩:=Kd.R_slice HO319.out
 (first|subst eo15|(injection eo15 with f1_ f2_ f3_;have f4_:=f1_.symm;have f5_:=f3_.symm;clear f1_ f2_ f3_;subst f4_;subst f5_))
 refine hK.out _ _ ⟨HS0_,((HB.out.cell (World.block_lt_of_cell? w _ hw314_0)).trans hw314_0),HS2_,((HB.out.cell (World.block_lt_of_cell? w _ hw316_0)).trans hw316_0)⟩ (fun hHeld => ?_)
 clear hK K
 refine norm_ (a':=?_) ?_ ?_
 rotate_left
 {
 show Act.put _ (some 33) _=_
 simp only [Act.put,zA,zB,zC,i64_w,i32_w]
 rfl
 }
 refine pX 15 34 (fl 17 131071) rfl rfl HT_.out ?_
 refine done_ (done_of HT_.out (by kernel_rfl)) ?_
 try go_wp2
 go_loopg [7,35] k1 (fun kq v7 v35 w'=>∃ (x7_2:List Int) (x35_2:Int),v35 = .int .i64 x35_2∧Aside0 (spec_l02Reach.l1 kq l0 l1 x7_2 x8_1 y317 (y317.length:Int) x35_2=some r)∧Aside0 (kq≤k1)∧Aside0 (Kd.R (Kd.int .i64) 3 w' w.heap.size (fun k_=>some k_≠((.slice Ao15 y317.length co15):Value).ownBlock) v7 x7_2)∧Aside0 (Kd.R (Kd.int .i64) 3 w' w.heap.size (fun k_=>some k_≠(v7:Value).ownBlock) (.slice Ao15 y317.length co15) y317)∧Aside0 (Below w.heap.size w w'))
 case atStart=>exact ⟨(x7_1),(0),vX,H',⟨Nat.le_refl _⟩,⟨rM HO_7.out (fun _ hk=>hk.2)⟩,⟨rM HO319.out (fun _ hk=>hk.2)⟩,⟨bX HB.out⟩⟩
 case round =>
 clear H'
 try clear c1
 try clear c6
 try clear c6b0
 try clear c7
 try clear c7b0
 try clear c8
 try clear c8b0
 try clear c9
 try clear c9b0
 try clear c10
 try clear c10b0
 try clear hx313_0
 try clear hx314_0
 try clear hx315_0
 try clear hx316_0
 try clear p313
 try clear p314
 try clear p315
 try clear p316
 try clear q313
 try clear q314
 try clear q315
 try clear q316
 obtain ⟨x7_2,x35_2,rfl,HA,HK2,HO_7,HO_33,HB⟩:=hrel
 cases gk with
 | zero=>exact absurd HA.out (by simp [spec_l02Reach.l1])
 | succ k2 =>
 have H:=HA.out
 clear HA
 simp only [spec_l02Reach.l1] at H
 by_cases c16:x35_2<(y317.length:Int)
 {
 rw [if_pos c16] at H
 have c16b0:=decide_eq_true c16
 clear c16
 by_cases c17:0≤x35_2
 {
 rw [if_pos c17] at H
 have c17b0:=decide_eq_true c17
 clear c17
 by_cases c18:x35_2<(y317.length:Int)
 {
 rw [if_pos c18] at H
 have c18b0:=decide_eq_true c18
 clear c18
 replace H:=oB H
 obtain ⟨t321,A190,H⟩:=H
 have A19:=aM A190
 clear A190
 by_cases c20:t321=true
 {
 subst c20
 have H1:(spec_l02Reach.l1 k2 l0 l1 x7_2 x8_1 y317 (y317.length:Int) (wrap64 (x35_2+1)))=some r:=by rw [if_pos rfl] at H;exact H
 clear H
 have H:=H1
 clear H1
 have H':=aM H
 clear H
 have p320:0≤(x35_2:Int):=dX
 have q320:x35_2<(y317.length:Int):=dX
 obtain ⟨ad320,e320,hx320_0⟩:=Kd.at_int (Kd.R_reads' HO_33.out).2.2 x35_2 p320 q320
 cases e320
 replace p320:=eq_true p320
 replace q320:=eq_true q320
 obtain ⟨Ao21,co21,eo21⟩:=Kd.R_slice HO_7.out
 subst eo21
 go_wp2_with (first|((with_reducible refine gate_callee (f:=119) rfl ?_);refine goesL_ (some 41) rfl rfl Try.func119 (by kernel_rfl) rfl #[.slice Ao21 x7_2.length co21,.int .i64 (rd y317 x35_2)] rfl aX ?_;(with_reducible refine(spec_l02Has.calls k2 _ _ x7_2 (rd y317 x35_2) true _ ?side1 ?side2 A19.out).mono ?_);(case side1=>exact cX (Kd.R_reads' HO_7.out).2.2);(case side2=>exact(Kd.R_reads' HO_7.out).2.1);rintro e w' ⟨rfl,⟨nd,rfl⟩⟩;refine ⟨_,rfl,?_⟩))
 go_roundg k2
 case measure=>have:=HK1.out;have:=HK2.out;omega
 case rel=>exact ⟨(x7_2),(wrap64 (x35_2+1)),vX,H',⟨by have:=HK1.out;have:=HK2.out;omega⟩,⟨rX HO_7.out⟩,⟨rX HO_33.out⟩,⟨bX HB.out⟩⟩
 }
 {
 replace c20:=Bool.eq_false_iff.mpr c20
 subst c20
 have H1:(if x7_2.length<17592186044416 then (spec_l02Reach.l1 k2 l0 l1 (x7_2 ++ [rd y317 x35_2]) x8_1 y317 (y317.length:Int) (wrap64 (x35_2+1))) else (none))=some r:=by rw [if_neg (show ¬ (false=true) by decide)] at H;exact H
 clear H
 have H:=H1
 clear H1
 by_cases c22:x7_2.length<17592186044416
 {
 rw [if_pos c22] at H
 have LMc22:=aM c22
 clear c22
 obtain ⟨y322,hy322⟩:∃ y_:List Int,y_=(x7_2 ++ [rd y317 x35_2]):=⟨_,rfl⟩
 replace H:(spec_l02Reach.l1 k2 l0 l1 y322 x8_1 y317 (y317.length:Int) (wrap64 (x35_2+1)))=some r:=by first|(rw [hy322];with_reducible exact H)|(have H2_:=(Option.bind_some _ _).symm.trans H;rw [hy322];with_reducible exact H2_)|(have H2_:=(Option.bind_some _ _).symm.trans H;with_reducible exact H2_)|with_reducible exact H|(rw [hy322];exact H)|exact H
 have Ny322:=aM hy322
 clear hy322
 have H':=aM H
 clear H
 have p320:0≤(x35_2:Int):=dX
 have q320:x35_2<(y317.length:Int):=dX
 obtain ⟨ad320,e320,hx320_0⟩:=Kd.at_int (Kd.R_reads' HO_33.out).2.2 x35_2 p320 q320
 cases e320
 replace p320:=eq_true p320
 replace q320:=eq_true q320
 obtain ⟨Ao23,co23,eo23⟩:=Kd.R_slice HO_7.out
 subst eo23
 go_wp2_with (first|((with_reducible refine gate_callee (f:=119) rfl ?_);refine goesL_ (some 41) rfl rfl Try.func119 (by kernel_rfl) rfl #[.slice Ao23 x7_2.length co23,.int .i64 (rd y317 x35_2)] rfl aX ?_;(with_reducible refine(spec_l02Has.calls k2 _ _ x7_2 (rd y317 x35_2) false _ ?side1 ?side2 A19.out).mono ?_);(case side1=>exact cX (Kd.R_reads' HO_7.out).2.2);(case side2=>exact(Kd.R_reads' HO_7.out).2.1);rintro e w' ⟨rfl,⟨nd,rfl⟩⟩;refine ⟨_,rfl,?_⟩)|((with_reducible refine gate_builtin (b:=.append) (xs:=#[.tmp 43,.tmp 45]) rfl ?_);at_builtin;refine Kd.R_append (Kd.int .i64) (w0:=w) w.heap.size rfl (.tmp 43) (.tmp 45) 22 3 (.int .i64 0) 8 rfl Try.underlying22 info3 rfl (by decide) (by omega) (.slice Ao23 x7_2.length co23) x7_2 (rd y317 x35_2) [.int .i64 (rd y317 x35_2)] (fun k_=>some k_≠(.slice (some ad320) y317.length co15:Value).ownBlock) (fun _=>False) rfl rfl ?aP (fun _ hk=>hk.elim) ?aF ?aO ?aB ?aS ?aL ?_;(case aP=>exact rfl);(case aB=>exact(bX HB.out));(case aF=>exact(fun k_ hk=>Kd.fresh' (Kd.R_lt (rX HO_33.out)) k_ hk));(case aO=>exact(rX HO_7.out));(case aS=>exact(below_size (bX HB.out)));(case aL=>have:=LMc22.out;omega);intro v323 w24 ho hb hg hat;rw [← Ny322.out] at ho;replace HO_33:=aM (Kd.R_after (ok:=(fun _=>True)) (rM HO_33.out (fun _ hk=>⟨trivial,hk⟩)) hg hat);replace HB:=aM (hb);have HO324:=aM (ho);clear HO_7 ho hb hg hat))
 go_roundg k2
 case measure=>have:=HK1.out;have:=HK2.out;omega
 case rel=>exact ⟨(y322),(wrap64 (x35_2+1)),vX,H',⟨by have:=HK1.out;have:=HK2.out;omega⟩,⟨rX HO324.out⟩,⟨rM HO_33.out (fun _ hk=>hk.2)⟩,⟨bX HB.out⟩⟩
 }
 {
 rw [if_neg c22] at H
 exact absurd H (by simp)
 }
 }
 }
 {
 rw [if_neg c18] at H
 exact absurd H (by simp)
 }
 }
 {
 rw [if_neg c17] at H
 exact absurd H (by simp)
 }
 }
 {
 rw [if_neg c16] at H
 have c16b0:=decide_eq_false c16
 clear c16
 have H':=aM H
 clear H
 go_wp2
 go_roundg k2
 case measure=>have:=HK1.out;have:=HK2.out;omega
 case rel=>exact ⟨(x7_2),(wrap64 (x8_1+1)),vX,H',⟨by have:=HK1.out;have:=HK2.out;omega⟩,⟨rM HO_7.out (fun _ hk=>trivial)⟩,⟨bX HB.out⟩⟩
 }
 }
 {
 rw [if_neg c10] at H
 exact absurd H (by simp)
 }
 }
 {
 rw [if_neg c9] at H
 exact absurd H (by simp)
 }
 }
 {
 rw [if_neg c8] at H
 exact absurd H (by simp)
 }
 }
 {
 rw [if_neg c7] at H
 exact absurd H (by simp)
 }
 }
 {
 rw [if_neg c6] at H
 have c6b0:=decide_eq_false c6
 clear c6
 obtain rfl:=Option.some.inj H
 obtain ⟨Ao25,co25,eo25⟩:=Kd.R_slice HO_7.out
 subst eo25
 go_wp2
 go_ret
 exact ⟨_,eX,by(with_reducible repeat(first|apply rA|apply rN|apply rD));exact HO_7.out,bX HB.out⟩
 }

/-! ### spec_IsTransitive: function 59 -/
def spec_IsTransitive.f (k:Nat) (l0:List Int) (l1:List Int):Option (Bool):=(spec_PermOk.f l0).bind fun t325=>(if t325=true then ((spec_PermOk.f l1).bind fun t326=>(if t326=true then (if (l0.length:Int)=(l1.length:Int) then (if (l0.length:Int) > 0 then ((spec_l02Reach.f k l0 l1 0).bind fun t327=>(some ((t327.length:Int) == (l0.length:Int)))) else (some false)) else (some false)) else (some false))) else (some false))
theorem spec_IsTransitive.calls (k:Nat) (A0:Option Addr) (c0:Nat) (l0:List Int) (A1:Option Addr) (c1:Nat) (l1:List Int) (r:Bool) (w:World) (hr0:Kd.C (Kd.int .i64) w A0 l0.length l0) (hc0:l0.length≤c0) (hr1:Kd.C (Kd.int .i64) w A1 l1.length l1) (hc1:l1.length≤c1) (h:spec_IsTransitive.f k l0 l1=some r) :
  Calls Try.prog 59 #[.slice A0 l0.length c0,.slice A1 l1.length c1] w fun e w'=>e = .returned (.bool r)∧Below w.heap.size w w':=by
 have HR0:=aM hr0
 have HC0:=aM hc0
 clear hr0 hc0
 have HR1:=aM hr1
 have HC1:=aM hc1
 clear hr1 hc1
 have HB:=aM (Below.refl w.heap.size w)
 have H:((spec_PermOk.f l0).bind fun t325=>(if t325=true then ((spec_PermOk.f l1).bind fun t326=>(if t326=true then (if (l0.length:Int)=(l1.length:Int) then (if (l0.length:Int) > 0 then ((spec_l02Reach.f k l0 l1 0).bind fun t327=>(some ((t327.length:Int) == (l0.length:Int)))) else (some false)) else (some false)) else (some false))) else (some false)))=some r:=h
 clear h
 replace H:=oB H
 obtain ⟨t325,A30,H⟩:=H
 have A3:=aM A30
 clear A30
 by_cases c4:t325=true
 {
 subst c4
 have H1:((spec_PermOk.f l1).bind fun t326=>(if t326=true then (if (l0.length:Int)=(l1.length:Int) then (if (l0.length:Int) > 0 then ((spec_l02Reach.f k l0 l1 0).bind fun t327=>(some ((t327.length:Int) == (l0.length:Int)))) else (some false)) else (some false)) else (some false)))=some r:=by rw [if_pos rfl] at H;exact H
 clear H
 have H:=H1
 clear H1
 replace H:=oB H
 obtain ⟨t326,A50,H⟩:=H
 have A5:=aM A50
 clear A50
 by_cases c6:t326=true
 {
 subst c6
 have H1:(if (l0.length:Int)=(l1.length:Int) then (if (l0.length:Int) > 0 then ((spec_l02Reach.f k l0 l1 0).bind fun t327=>(some ((t327.length:Int) == (l0.length:Int)))) else (some false)) else (some false))=some r:=by rw [if_pos rfl] at H;exact H
 clear H
 have H:=H1
 clear H1
 by_cases c7:(l0.length:Int)=(l1.length:Int)
 {
 rw [if_pos c7] at H
 have c7b0:((l0.length:Int) == (l1.length:Int))=true:=beq_iff_eq.mpr c7
 have c7b1:((l0.length:Int) != (l1.length:Int))=false:=bne_eq_false_iff_eq.mpr c7
 have c7b2:(l0.length == l1.length)=true:=by first|simpa using c7|(simp at c7 ⊢;omega)
 clear c7
 by_cases c8:(l0.length:Int) > 0
 {
 rw [if_pos c8] at H
 have c8b0:=decide_eq_true c8
 have c8b1:decide (0<l0.length)=true:=decide_eq_true (by omega)
 clear c8
 replace H:=oB H
 obtain ⟨t327,A90,H⟩:=H
 have A9:=aM A90
 clear A90
 obtain rfl:=Option.some.inj H
 go_enter Try.func59,Try.ntmps59
 go_wp2_with (first|((with_reducible refine gate_callee (f:=96) rfl ?_);refine goesL_ (some 6) rfl rfl Try.func96 (by kernel_rfl) rfl #[.slice A0 l0.length c0] rfl aX ?_;(with_reducible refine(spec_PermOk.calls _ _ l0 true _ ?side1 ?side2 A3.out).mono ?_);(case side1=>exact cX HR0.out);(case side2=>exact HC0.out);rintro e w' ⟨rfl,⟨nd,rfl⟩⟩;refine ⟨_,rfl,?_⟩)|(go_at_call 96;(with_reducible refine(spec_PermOk.calls _ _ l1 true _ ?side1 ?side2 A5.out).mono ?_);(case side1=>exact cX HR1.out);(case side2=>exact HC1.out);rintro e w' ⟨rfl,⟨nd,rfl⟩⟩)|(go_at_call 97;(with_reducible refine(spec_l02Reach.calls k _ _ l0 _ _ l1 0 t327 _ ?side1 ?side2 ?side3 ?side4 A9.out).mono ?_);(case side1=>exact cX HR0.out);(case side2=>exact HC0.out);(case side3=>exact cX HR1.out);(case side4=>exact HC1.out);rintro e w10 ⟨v328,rfl,ho0,hb⟩;have HO329:=aM (Kd.R_lower ho0 (below_size (bX HB.out)));replace HB:=aM (below_step (bX HB.out) hb);(try clear hb);(try clear ho0);obtain ⟨Ao11,co11,eo11⟩:=Kd.R_slice HO329.out;subst eo11))
 go_ret
 exact ⟨eX,bX HB.out⟩
 }
 {
 rw [if_neg c8] at H
 have c8b0:=decide_eq_false c8
 have c8b1:decide (0<l0.length)=false:=decide_eq_false (by omega)
 clear c8
 obtain rfl:=Option.some.inj H
 go_enter Try.func59,Try.ntmps59
 go_wp2_with (first|((with_reducible refine gate_callee (f:=96) rfl ?_);refine goesL_ (some 6) rfl rfl Try.func96 (by kernel_rfl) rfl #[.slice A0 l0.length c0] rfl aX ?_;(with_reducible refine(spec_PermOk.calls _ _ l0 true _ ?side1 ?side2 A3.out).mono ?_);(case side1=>exact cX HR0.out);(case side2=>exact HC0.out);rintro e w' ⟨rfl,⟨nd,rfl⟩⟩;refine ⟨_,rfl,?_⟩)|(go_at_call 96;(with_reducible refine(spec_PermOk.calls _ _ l1 true _ ?side1 ?side2 A5.out).mono ?_);(case side1=>exact cX HR1.out);(case side2=>exact HC1.out);rintro e w' ⟨rfl,⟨nd,rfl⟩⟩))
 go_ret
 exact ⟨eX,bX HB.out⟩
 }
 }
 {
 rw [if_neg c7] at H
 have c7b0:((l0.length:Int) == (l1.length:Int))=false:=beq_eq_false_iff_ne.mpr c7
 have c7b1:((l0.length:Int) != (l1.length:Int))=true:=bne_iff_ne.mpr c7
 have c7b2:(l0.length == l1.length)=false:=by first|simpa using c7|(simp at c7 ⊢;omega)
 obtain rfl:=Option.some.inj H
 go_enter Try.func59,Try.ntmps59
 go_wp2_with (first|((with_reducible refine gate_callee (f:=96) rfl ?_);refine goesL_ (some 6) rfl rfl Try.func96 (by kernel_rfl) rfl #[.slice A0 l0.length c0] rfl aX ?_;(with_reducible refine(spec_PermOk.calls _ _ l0 true _ ?side1 ?side2 A3.out).mono ?_);(case side1=>exact cX HR0.out);(case side2=>exact HC0.out);rintro e w' ⟨rfl,⟨nd,rfl⟩⟩;refine ⟨_,rfl,?_⟩)|(go_at_call 96;(with_reducible refine(spec_PermOk.calls _ _ l1 true _ ?side1 ?side2 A5.out).mono ?_);(case side1=>exact cX HR1.out);(case side2=>exact HC1.out);rintro e w' ⟨rfl,⟨nd,rfl⟩⟩))
 go_ret
 exact ⟨eX,bX HB.out⟩
 }
 }
 {
 replace c6:=Bool.eq_false_iff.mpr c6
 subst c6
 have H1:(some false)=some r:=by rw [if_neg (show ¬ (false=true) by decide)] at H;exact H
 clear H
 have H:=H1
 clear H1
 obtain rfl:=Option.some.inj H
 go_enter Try.func59,Try.ntmps59
 go_wp2_with (first|((with_reducible refine gate_callee (f:=96) rfl ?_);refine goesL_ (some 6) rfl rfl Try.func96 (by kernel_rfl) rfl #[.slice A0 l0.length c0] rfl aX ?_;(with_reducible refine(spec_PermOk.calls _ _ l0 true _ ?side1 ?side2 A3.out).mono ?_);(case side1=>exact cX HR0.out);(case side2=>exact HC0.out);rintro e w' ⟨rfl,⟨nd,rfl⟩⟩;refine ⟨_,rfl,?_⟩)|(go_at_call 96;(with_reducible refine(spec_PermOk.calls _ _ l1 false _ ?side1 ?side2 A5.out).mono ?_);(case side1=>exact cX HR1.out);(case side2=>exact HC1.out);rintro e w' ⟨rfl,⟨nd,rfl⟩⟩))
 go_ret
 exact ⟨eX,bX HB.out⟩
 }
 }
 {
 replace c4:=Bool.eq_false_iff.mpr c4
 subst c4
 have H1:(some false)=some r:=by rw [if_neg (show ¬ (false=true) by decide)] at H;exact H
 clear H
 have H:=H1
 clear H1
 obtain rfl:=Option.some.inj H
 go_enter Try.func59,Try.ntmps59
 go_wp2_with (first|((with_reducible refine gate_callee (f:=96) rfl ?_);refine goesL_ (some 6) rfl rfl Try.func96 (by kernel_rfl) rfl #[.slice A0 l0.length c0] rfl aX ?_;(with_reducible refine(spec_PermOk.calls _ _ l0 false _ ?side1 ?side2 A3.out).mono ?_);(case side1=>exact cX HR0.out);(case side2=>exact HC0.out);rintro e w' ⟨rfl,⟨nd,rfl⟩⟩;refine ⟨_,rfl,?_⟩))
 go_ret
 exact ⟨eX,bX HB.out⟩
 }

/-! ### spec_SurfaceOk: function 39 -/
def spec_SurfaceOk.f (k:Nat) (l0_0:List Int) (l0_1:List Int):Option (Bool):=(spec_IsTransitive.f k l0_0 l0_1).bind fun t331=>(some t331)
theorem spec_SurfaceOk.calls (k:Nat) (A0_0:Option Addr) (c0_0:Nat) (l0_0:List Int) (A0_1:Option Addr) (c0_1:Nat) (l0_1:List Int) (r:Bool) (w:World) (hr0_0:Kd.C (Kd.int .i64) w A0_0 l0_0.length l0_0) (hc0_0:l0_0.length≤c0_0) (hr0_1:Kd.C (Kd.int .i64) w A0_1 l0_1.length l0_1) (hc0_1:l0_1.length≤c0_1) (h:spec_SurfaceOk.f k l0_0 l0_1=some r) :
  Calls Try.prog 39 #[.agg #[.slice A0_0 l0_0.length c0_0,.slice A0_1 l0_1.length c0_1]] w fun e w'=>e = .returned (.bool r)∧Below w.heap.size w w':=by
 have hu27:=Try.underlying27
 have HR0_0:=aM hr0_0
 have HC0_0:=aM hc0_0
 clear hr0_0 hc0_0
 have HR0_1:=aM hr0_1
 have HC0_1:=aM hc0_1
 clear hr0_1 hc0_1
 have HB:=aM (Below.refl w.heap.size w)
 have H:((spec_IsTransitive.f k l0_0 l0_1).bind fun t331=>(some t331))=some r:=h
 clear h
 replace H:=oB H
 obtain ⟨t331,A20,H⟩:=H
 have A2:=aM A20
 clear A20
 obtain rfl:=Option.some.inj H
 go_enter Try.func39,Try.ntmps39
 go_wp2_with (first|((with_reducible refine gate_dst (N:=1) rfl ?_);refine bEv (cs:=#[.slice A0_0 l0_0.length c0_0,.slice A0_1 l0_1.length c0_1]) (t:=27) ?_;intro gb330 hg w3 hbox hb;have BK330:=aM (hbox);have GW330:=aM ((szX (below_size (bX HB.out)) hg:w.heap.size≤gb330));have GE330:=GW330;replace HB:=aM (below_step (bX HB.out) hb);clear hb hbox hg;obtain ⟨hcz4_0,hcz4_1,hfz4_0,hfz4_1⟩:=f2Z BK330.out)|((with_reducible refine gate_callee (f:=59) rfl ?_);refine goesL_ (some 7) rfl rfl Try.func59 (by kernel_rfl) rfl #[.slice A0_0 l0_0.length c0_0,.slice A0_1 l0_1.length c0_1] rfl aX ?_;(with_reducible refine(spec_IsTransitive.calls k _ _ l0_0 _ _ l0_1 t331 _ ?side1 ?side2 ?side3 ?side4 A2.out).mono ?_);(case side1=>exact cX (Kd.C_below HR0_0.out HB.out));(case side2=>exact HC0_0.out);(case side3=>exact cX (Kd.C_below HR0_1.out HB.out));(case side4=>exact HC0_1.out);rintro e w5 ⟨rfl,hb⟩;refine ⟨_,rfl,?_⟩;replace BK330:=aM (bbX BK330.out hb);replace HB:=aM (below_step (bX1 HB.out GE330.out) hb);(try clear hb)))
 go_ret
 exact ⟨eX,bX1 HB.out GE330.out⟩

/-- A state of type 76 at block g of W; what its slices lead to came in by w0. -/
def IsS76 (w0 W:World) (g:Nat) (f0:List Int) (f1:Int) (f2:Int):Prop:=∃ A0 c0,W.heap[g]? = some (.cells #[.slice A0 f0.length c0,.int .i64 f1,.int .i64 f2] 76 (0,0))∧w0.heap.size≤g∧Kd.C (Kd.int .u8) w0 A0 f0.length f0
theorem IsS76.grown {w0 W:World} {g:Nat} {f0:List Int} {f1:Int} {f2:Int} {W1:World} {row:Option Nat} (h:IsS76 w0 W g f0 f1 f2) (hw:W.grownBy W1 row) (hne:some g≠row):IsS76 w0 W1 g f0 f1 f2:=by
 obtain ⟨A0,c0,hb,hg,hr0⟩:=h
 exact ⟨A0,c0,blk_grown hb hw hne,hg,hr0⟩
theorem IsS76.own_neN {w0 W:World} {g:Nat} {f0:List Int} {f1:Int} {f2:Int} {α:Type} {d:Kd α} {e:Nat} {base:Nat} {ok:Nat→Prop} {v:Value} {xs:List α} (h:IsS76 w0 W g f0 f1 f2) (ho:Kd.N d e W base ok v xs) (ht:e≠76):some g≠v.ownBlock:=by
 obtain ⟨A0,c0,hb,hg,hr0⟩:=h
 exact Kd.N_ne ho hb ht
theorem IsS76.fresh {w0 W:World} {g:Nat} {f0:List Int} {f1:Int} {f2:Int} (h:IsS76 w0 W g f0 f1 f2):∀ k,W.heap.size≤k→k≠g:=by
 obtain ⟨A0,c0,hb,hg,hr0⟩:=h
 exact Kd.freshB hb
theorem IsS76.kept {w0 W:World} {g:Nat} {f0:List Int} {f1:Int} {f2:Int} {W1:World} {S:Nat→Prop} (h:IsS76 w0 W g f0 f1 f2) (hk:Kept W W1 S) (hne:¬ S g):IsS76 w0 W1 g f0 f1 f2:=by
 obtain ⟨A0,c0,hb,hg,hr0⟩:=h
 exact ⟨A0,c0,blk_kept hb hk hne,hg,hr0⟩
theorem IsS76.below {w0 W:World} {g:Nat} {f0:List Int} {f1:Int} {f2:Int} {W1:World} (h:IsS76 w0 W g f0 f1 f2) (hw:Below W.heap.size W W1):IsS76 w0 W1 g f0 f1 f2:=h.grown (grown_of_below hw none) (by simp)
theorem IsS76.alloc {w0 W:World} {g:Nat} {f0:List Int} {f1:Int} {f2:Int} (h:IsS76 w0 W g f0 f1 f2) (o:Obj):IsS76 w0 (W.alloc o) g f0 f1 f2:=h.below (below_alloc (Below.refl _ _) o)
theorem IsS76.drewN {w0 W:World} {g:Nat} {f0:List Int} {f1:Int} {f2:Int} (h:IsS76 w0 W g f0 f1 f2) (m:Nat):IsS76 w0 (W.drewN m) g f0 f1 f2:=h
theorem IsS76.drew {w0 W:World} {g:Nat} {f0:List Int} {f1:Int} {f2:Int} (h:IsS76 w0 W g f0 f1 f2):IsS76 w0 W.drew g f0 f1 f2:=h
theorem IsS76.at_ {w0 W:World} {g:Nat} {f0:List Int} {f1:Int} {f2:Int} {w':World} {m:Nat} (hq:W.drewN m=w') (h:IsS76 w0 W g f0 f1 f2):IsS76 w0 w' g f0 f1 f2:=by subst hq;exact IsS76.drewN h m
theorem IsS76.apart {w0 W:World} {g:Nat} {f0:List Int} {f1:Int} {f2:Int} {α:Type} {d:Kd α} {e:Nat} {base:Nat} {ok:Nat→Prop} {v:Value} {xs:List α} (h:IsS76 w0 W g f0 f1 f2) (ho:d.R e W base ok v xs) (ht:∀ q,q∈e :: d.E→q≠76):d.R e W base (fun k=>ok k∧k≠g) v xs:=by
 obtain ⟨A0,c0,hb,hg,hr0⟩:=h
 exact Kd.R_types ho hb ht
theorem IsS76.own_ne {w0 W:World} {g:Nat} {f0:List Int} {f1:Int} {f2:Int} {α:Type} {d:Kd α} {e:Nat} {base:Nat} {ok:Nat→Prop} {v:Value} {xs:List α} (h:IsS76 w0 W g f0 f1 f2) (ho:d.R e W base ok v xs) (ht:e≠76):some g≠v.ownBlock:=by
 obtain ⟨A0,c0,hb,hg,hr0⟩:=h
 exact Kd.R_ne ho hb ht
theorem IsS76.apartQ {w0 W:World} {g:Nat} {f0:List Int} {f1:Int} {f2:Int} {α:Type} {d:Kd α} {e:Nat} {base:Nat} {ok:Nat→Prop} {v:Value} {xs:List α} (h:IsS76 w0 W g f0 f1 f2) (ho:d.Q e W base ok v xs) (ht:∀ q,q∈e :: d.E→q≠76):d.Q e W base (fun k=>ok k∧k≠g) v xs:=by
 obtain ⟨A0,c0,hb,hg,hr0⟩:=h
 exact Kd.Q_types ho hb ht
theorem IsS76.own_neQ {w0 W:World} {g:Nat} {f0:List Int} {f1:Int} {f2:Int} {α:Type} {d:Kd α} {e:Nat} {base:Nat} {ok:Nat→Prop} {v:Value} {xs:List α} (h:IsS76 w0 W g f0 f1 f2) (ho:d.Q e W base ok v xs) (ht:e≠76):some g≠v.ownBlock:=by
 obtain ⟨A0,c0,hb,hg,hr0⟩:=h
 exact Kd.Q_ne ho hb ht
theorem IsS76.apartS {w0 W:World} {g:Nat} {f0:List Int} {f1:Int} {f2:Int} {α:Type} {d:Kd α} {e:Nat} {base:Nat} {ok:Nat→Prop} {v:Value} {xs:List α} (h:IsS76 w0 W g f0 f1 f2) (ho:d.S e W base ok v xs) (ht:∀ q,q∈e :: d.E→q≠76):d.S e W base (fun k=>ok k∧k≠g) v xs:=by
 obtain ⟨A0,c0,hb,hg,hr0⟩:=h
 exact Kd.S_types ho hb ht
theorem IsS76.own_neS {w0 W:World} {g:Nat} {f0:List Int} {f1:Int} {f2:Int} {α:Type} {d:Kd α} {e:Nat} {base:Nat} {ok:Nat→Prop} {v:Value} {xs:List α} (h:IsS76 w0 W g f0 f1 f2) (ho:d.S e W base ok v xs) (ht:e≠76):some g≠v.ownBlock:=by
 obtain ⟨A0,c0,hb,hg,hr0⟩:=h
 exact Kd.S_ne ho hb ht
theorem IsS76.lt {w0 W:World} {g:Nat} {f0:List Int} {f1:Int} {f2:Int} (h:IsS76 w0 W g f0 f1 f2):g<W.heap.size:=by
 obtain ⟨A0,c0,hb,hg,hr0⟩:=h
 exact blk_lt hb
theorem IsS76.ge {w0 W:World} {g:Nat} {f0:List Int} {f1:Int} {f2:Int} (h:IsS76 w0 W g f0 f1 f2):w0.heap.size≤g:=by
 obtain ⟨A0,c0,hb,hg,hr0⟩:=h
 exact hg
theorem IsS76.ne_blk {w0 W:World} {g:Nat} {f0:List Int} {f1:Int} {f2:Int} {a:Nat} {cs:Array Value} {t:TypeId} {fr:Nat × Nat} (h:IsS76 w0 W g f0 f1 f2) (hb2:W.heap[a]? = some (.cells cs t fr)) (ht:t≠76):g≠a:=by
 obtain ⟨A0,c0,hb,hg,hr0⟩:=h
 rintro rfl
 rw [hb] at hb2
 injection hb2 with hb2
 injection hb2 with _ ht2
 exact ht ht2.symm
theorem IsS76.far {w0 W:World} {g:Nat} {f0:List Int} {f1:Int} {f2:Int} {p:Addr} (h:IsS76 w0 W g f0 f1 f2) (hne:g≠p.block) (u:Value):IsS76 w0 (W.setCell p u) g f0 f1 f2:=by
 obtain ⟨A0,c0,hb,hg,hr0⟩:=h
 exact ⟨A0,c0,blk_far hb hne u,hg,hr0⟩
theorem cellS76_0 {W:World} {g:Nat} {A0:Option Addr} {c0:Nat} {f0:List Int} {f1:Int} {f2:Int} (h:W.heap[g]? = some (.cells #[.slice A0 f0.length c0,.int .i64 f1,.int .i64 f2] 76 (0,0))):W.cell? ⟨g,0,none⟩=some (.slice A0 f0.length c0):=(blk_cell h 0).trans rfl
theorem cellS76_1 {W:World} {g:Nat} {A0:Option Addr} {c0:Nat} {f0:List Int} {f1:Int} {f2:Int} (h:W.heap[g]? = some (.cells #[.slice A0 f0.length c0,.int .i64 f1,.int .i64 f2] 76 (0,0))):W.cell? ⟨g,1,none⟩=some (.int .i64 f1):=(blk_cell h 1).trans rfl
theorem IsS76.set_1 {w0 W:World} {g:Nat} {f0:List Int} {f1:Int} {f2:Int} (h:IsS76 w0 W g f0 f1 f2) (x:Int):IsS76 w0 (W.setCell ⟨g,1,none⟩ (.int .i64 x)) g f0 x f2:=by
 obtain ⟨A0,c0,hb,hg,hr0⟩:=h
 exact ⟨A0,c0,by simpa using blk_set hb 1 (.int .i64 x),hg,hr0⟩
theorem cellS76_2 {W:World} {g:Nat} {A0:Option Addr} {c0:Nat} {f0:List Int} {f1:Int} {f2:Int} (h:W.heap[g]? = some (.cells #[.slice A0 f0.length c0,.int .i64 f1,.int .i64 f2] 76 (0,0))):W.cell? ⟨g,2,none⟩=some (.int .i64 f2):=(blk_cell h 2).trans rfl
theorem IsS76.set_2 {w0 W:World} {g:Nat} {f0:List Int} {f1:Int} {f2:Int} (h:IsS76 w0 W g f0 f1 f2) (x:Int):IsS76 w0 (W.setCell ⟨g,2,none⟩ (.int .i64 x)) g f0 f1 x:=by
 obtain ⟨A0,c0,hb,hg,hr0⟩:=h
 exact ⟨A0,c0,by simpa using blk_set hb 2 (.int .i64 x),hg,hr0⟩
theorem IsS76.new (w0 W:World) (A0:Option Addr) (c0:Nat) (f0:List Int) (f1:Int) (f2:Int) (hB:Below w0.heap.size w0 W) (hr0:Kd.C (Kd.int .u8) w0 A0 f0.length f0):IsS76 w0 (W.alloc (.cells #[.slice A0 f0.length c0,.int .i64 f1,.int .i64 f2] 76)) W.heap.size f0 f1 f2:=⟨A0,c0,by simpa using heap_alloc_new W _,hB.size,hr0⟩

/-! ### spec_l01Byte: function 37 -/
def spec_l01Byte.f (s0_0:List Int) (s0_1:Int) (s0_2:Int):Option (Int × Int × Int):=if s0_1<(s0_0.length:Int) then (if 0≤s0_1 then (some (Go.bits .and .i64 (wrap64 ((Go.bits .and .i64 (Go.bits .xor .i64 ((wrap64 ((wrap64 (s0_2*6364136223846793005))+1442695040888963407)) / 8589934592) ((wrap64 ((wrap64 (s0_2*6364136223846793005))+1442695040888963407)) / 35184372088832)) 255)+(wrap64 (rd s0_0 s0_1)))) 255,wrap64 (s0_1+1),wrap64 ((wrap64 (s0_2*6364136223846793005))+1442695040888963407))) else (none)) else (some (Go.bits .and .i64 (Go.bits .xor .i64 ((wrap64 ((wrap64 (s0_2*6364136223846793005))+1442695040888963407)) / 8589934592) ((wrap64 ((wrap64 (s0_2*6364136223846793005))+1442695040888963407)) / 35184372088832)) 255,s0_1,wrap64 ((wrap64 (s0_2*6364136223846793005))+1442695040888963407)))
theorem spec_l01Byte.calls (g:Nat) (s0_0:List Int) (s0_1:Int) (s0_2:Int) (r1:Int) (r2:Int) (r3:Int) (w0 w:World) (hI:IsS76 w0 w g s0_0 s0_1 s0_2) (hB:Below w0.heap.size w0 w) (h:spec_l01Byte.f s0_0 s0_1 s0_2=some (r1,r2,r3)) :
  Calls Try.prog 37 #[.pointer (some ⟨g,0,none⟩)] w fun e w'=>e = .returned (.int .i64 r1)∧IsS76 w0 w' g s0_0 r2 r3∧Below w0.heap.size w0 w'∧KeepBut w w' g none:=by
 have HI0:=aM hI
 have HK:=aM (KeepBut.refl w g none)
 have HL:=aM hB.size
 clear hI
 have HW0:=aM hB.size
 have HB:=aM hB
 clear hB
 have H:(if s0_1<(s0_0.length:Int) then (if 0≤s0_1 then (some (Go.bits .and .i64 (wrap64 ((Go.bits .and .i64 (Go.bits .xor .i64 ((wrap64 ((wrap64 (s0_2*6364136223846793005))+1442695040888963407)) / 8589934592) ((wrap64 ((wrap64 (s0_2*6364136223846793005))+1442695040888963407)) / 35184372088832)) 255)+(wrap64 (rd s0_0 s0_1)))) 255,wrap64 (s0_1+1),wrap64 ((wrap64 (s0_2*6364136223846793005))+1442695040888963407))) else (none)) else (some (Go.bits .and .i64 (Go.bits .xor .i64 ((wrap64 ((wrap64 (s0_2*6364136223846793005))+1442695040888963407)) / 8589934592) ((wrap64 ((wrap64 (s0_2*6364136223846793005))+1442695040888963407)) / 35184372088832)) 255,s0_1,wrap64 ((wrap64 (s0_2*6364136223846793005))+1442695040888963407))))=some (r1,r2,r3):=h
 clear h
 by_cases c2:s0_1<(s0_0.length:Int)
 {
 rw [if_pos c2] at H
 have c2b0:=decide_eq_true c2
 clear c2
 by_cases c3:0≤s0_1
 {
 rw [if_pos c3] at H
 have c3b0:=decide_eq_true c3
 clear c3
 simp only [Option.some.injEq,Prod.mk.injEq] at H
 obtain ⟨rfl,rfl,rfl⟩:=H
 obtain ⟨ASz4_0,cSz4_0,HGz4,hgz4,HSz4_0⟩:=HI0.out
 have hcz4_0:=cellS76_0 HGz4
 have hcz4_1:=cellS76_1 HGz4
 have hcz4_2:=cellS76_2 HGz4
 have hfz4_1:=blk_frozen HGz4 1
 have hfz4_2:=blk_frozen HGz4 2
 clear HGz4 hgz4
 have p332:0≤(s0_1:Int):=dX
 have q332:s0_1<(s0_0.length:Int):=dX
 obtain ⟨ad332,e332,hx332_0⟩:=Kd.at_int HSz4_0 s0_1 p332 q332
 cases e332
 have hn332_0:ad332.block≠g:=Nat.ne_of_lt (Nat.lt_of_lt_of_le (by have:=World.block_lt_of_cell? _ _ hx332_0;first|rwa [add_block] at this|exact this) (IsS76.ge HI0.out))
 replace hx332_0:=pw_cell_below HB.out hx332_0
 replace hx332_0:=(cell_far (p:=⟨g,2,none⟩) (by first|(rw [add_block];exact hn332_0)|(show (Addr.add _ _).block≠_;rw [add_block];exact hn332_0)|exact hn332_0) (.int .i64 (wrap64 ((wrap64 (s0_2*6364136223846793005))+1442695040888963407)))).trans hx332_0
 (try have hy332_0:=fun (n_:Nat)=>(show (((w.drewN n_).setCell ⟨g,2,none⟩ (.int .i64 (wrap64 ((wrap64 (s0_2*6364136223846793005))+1442695040888963407))))).cell? _=some _ from hx332_0))
 clear hn332_0
 replace p332:=eq_true p332
 replace q332:=eq_true q332
 go_enter Try.func37,Try.ntmps37
 go_wp2
 repeat(go_quiet (fail);try go_wp2)
 go_ret
 exact ⟨eX,by repeat(first|(with_reducible first|exact HI0.out|apply IsS76.alloc|apply IsS76.drewN|apply IsS76.drew|apply IsS76.set_1|apply IsS76.set_2)|exact HI0.out),bX1 HB.out (IsS76.ge HI0.out),by repeat(first|(with_reducible first|exact HK.out|apply KeepBut.set_|apply keep_drewN|apply keep_drew|apply keep_alloc)|exact HK.out)⟩
 }
 {
 rw [if_neg c3] at H
 exact absurd H (by simp)
 }
 }
 {
 rw [if_neg c2] at H
 have c2b0:=decide_eq_false c2
 clear c2
 simp only [Option.some.injEq,Prod.mk.injEq] at H
 obtain ⟨rfl,rfl,rfl⟩:=H
 obtain ⟨ASz5_0,cSz5_0,HGz5,hgz5,HSz5_0⟩:=HI0.out
 have hcz5_0:=cellS76_0 HGz5
 have hcz5_1:=cellS76_1 HGz5
 have hcz5_2:=cellS76_2 HGz5
 have hfz5_1:=blk_frozen HGz5 1
 have hfz5_2:=blk_frozen HGz5 2
 clear HGz5 hgz5
 go_enter Try.func37,Try.ntmps37
 go_wp2
 repeat(go_quiet (fail);try go_wp2)
 go_ret
 exact ⟨eX,by repeat(first|(with_reducible first|exact HI0.out|apply IsS76.alloc|apply IsS76.drewN|apply IsS76.drew|apply IsS76.set_1|apply IsS76.set_2)|exact HI0.out),bX1 HB.out (IsS76.ge HI0.out),by repeat(first|(with_reducible first|exact HK.out|apply KeepBut.set_|apply keep_drewN|apply keep_drew|apply keep_alloc)|exact HK.out)⟩
 }

/-! ### spec_l01Below: function 47 -/
def spec_l01Below.f (s0_0:List Int) (s0_1:Int) (s0_2:Int) (a1:Int):Option (Int × Int × Int):=if a1≤0 then (some (0,s0_1,s0_2)) else (if a1≤256 then ((spec_l01Byte.f s0_0 s0_1 s0_2).bind fun bt333=>(if a1=0 then (none) else (some (Int.tmod bt333.1 a1,bt333.2.1,bt333.2.2)))) else ((spec_l01Byte.f s0_0 s0_1 s0_2).bind fun bt336=>((spec_l01Byte.f s0_0 bt336.2.1 bt336.2.2).bind fun bt339=>((spec_l01Byte.f s0_0 bt339.2.1 bt339.2.2).bind fun bt342=>((spec_l01Byte.f s0_0 bt342.2.1 bt342.2.2).bind fun bt345=>(if a1=0 then (none) else (some (Int.tmod (wrap64 ((wrap64 ((wrap64 ((wrap64 (bt336.1*16777216))+(wrap64 (bt339.1*65536))))+(wrap64 (bt342.1*256))))+bt345.1)) a1,bt345.2.1,bt345.2.2))))))))
theorem spec_l01Below.calls (g:Nat) (s0_0:List Int) (s0_1:Int) (s0_2:Int) (a1:Int) (r1:Int) (r2:Int) (r3:Int) (w0 w:World) (hI:IsS76 w0 w g s0_0 s0_1 s0_2) (hB:Below w0.heap.size w0 w) (h:spec_l01Below.f s0_0 s0_1 s0_2 a1=some (r1,r2,r3)) :
  Calls Try.prog 47 #[.pointer (some ⟨g,0,none⟩),.int .i64 a1] w fun e w'=>e = .returned (.int .i64 r1)∧IsS76 w0 w' g s0_0 r2 r3∧Below w0.heap.size w0 w'∧KeepBut w w' g none:=by
 have HI0:=aM hI
 have HK:=aM (KeepBut.refl w g none)
 have HL:=aM hB.size
 clear hI
 have HW0:=aM hB.size
 have HB:=aM hB
 clear hB
 have H:(if a1≤0 then (some (0,s0_1,s0_2)) else (if a1≤256 then ((spec_l01Byte.f s0_0 s0_1 s0_2).bind fun bt333=>(if a1=0 then (none) else (some (Int.tmod bt333.1 a1,bt333.2.1,bt333.2.2)))) else ((spec_l01Byte.f s0_0 s0_1 s0_2).bind fun bt336=>((spec_l01Byte.f s0_0 bt336.2.1 bt336.2.2).bind fun bt339=>((spec_l01Byte.f s0_0 bt339.2.1 bt339.2.2).bind fun bt342=>((spec_l01Byte.f s0_0 bt342.2.1 bt342.2.2).bind fun bt345=>(if a1=0 then (none) else (some (Int.tmod (wrap64 ((wrap64 ((wrap64 ((wrap64 (bt336.1*16777216))+(wrap64 (bt339.1*65536))))+(wrap64 (bt342.1*256))))+bt345.1)) a1,bt345.2.1,bt345.2.2)))))))))=some (r1,r2,r3):=h
 clear h
 by_cases c3:a1≤0
 {
 rw [if_pos c3] at H
 have c3b0:=decide_eq_true c3
 clear c3
 simp only [Option.some.injEq,Prod.mk.injEq] at H
 obtain ⟨rfl,rfl,rfl⟩:=H
 go_enter Try.func47,Try.ntmps47
 go_wp2
 go_ret
 exact ⟨eX,by repeat(first|(with_reducible first|exact HI0.out|apply IsS76.alloc|apply IsS76.drewN|apply IsS76.drew|apply IsS76.set_1|apply IsS76.set_2)|exact HI0.out),bX1 HB.out (IsS76.ge HI0.out),by repeat(first|(with_reducible first|exact HK.out|apply KeepBut.set_|apply keep_drewN|apply keep_drew|apply keep_alloc)|exact HK.out)⟩
 }
 {
 rw [if_neg c3] at H
 have c3b0:=decide_eq_false c3
 clear c3
 by_cases c4:a1≤256
 {
 rw [if_pos c4] at H
 have c4b0:=decide_eq_true c4
 clear c4
 replace H:=oB H
 obtain ⟨⟨t333,t334,t335⟩,A50,H⟩:=H
 replace H:(if a1=0 then (none) else (some (Int.tmod t333 a1,t334,t335)))=some (r1,r2,r3):=H
 have A5:=aM A50
 clear A50
 by_cases c6:a1=0
 {
 rw [if_pos c6] at H
 exact absurd H (by simp)
 }
 {
 rw [if_neg c6] at H
 have c6b0:(a1 == 0)=false:=beq_eq_false_iff_ne.mpr c6
 have c6b1:(a1 != 0)=true:=bne_iff_ne.mpr c6
 simp only [Option.some.injEq,Prod.mk.injEq] at H
 obtain ⟨rfl,rfl,rfl⟩:=H
 go_enter Try.func47,Try.ntmps47
 go_wp2_with (first|((with_reducible refine gate_callee (f:=37) rfl ?_);refine goesL_ (some 14) rfl rfl Try.func37 (by kernel_rfl) rfl #[.pointer (some ⟨g,0,none⟩)] rfl aX ?_;(with_reducible refine(spec_l01Byte.calls g s0_0 s0_1 s0_2 t333 t334 t335 w0 _ ?side1 ?side2 A5.out).mono ?_);(case side1=>repeat(first|(with_reducible first|exact HI0.out|apply IsS76.alloc|apply IsS76.drewN|apply IsS76.drew|apply IsS76.set_1|apply IsS76.set_2)|exact HI0.out));(case side2=>repeat(first|(with_reducible first|exact HB.out|apply bA|apply bN|apply bD|refine below_set ?_ (IsS76.ge HI0.out))|exact HB.out));rintro e w7 ⟨rfl,hi,hb,hk⟩;refine ⟨_,rfl,?_⟩;replace HK:=aM (KeepBut.trans (by repeat(first|(with_reducible first|exact HK.out|apply KeepBut.set_|apply keep_drewN|apply keep_drew|apply keep_alloc)|exact HK.out)) hk (.inl rfl));replace HB:=aM (hb);replace HI0:=aM (hi);(try clear hb);(try clear hk);(try clear hi)))
 go_ret
 exact ⟨eX,by repeat(first|(with_reducible first|exact HI0.out|apply IsS76.alloc|apply IsS76.drewN|apply IsS76.drew|apply IsS76.set_1|apply IsS76.set_2)|exact HI0.out),bX1 HB.out (IsS76.ge HI0.out),by repeat(first|(with_reducible first|exact HK.out|apply KeepBut.set_|apply keep_drewN|apply keep_drew|apply keep_alloc)|exact HK.out)⟩
 }
 }
 {
 rw [if_neg c4] at H
 have c4b0:=decide_eq_false c4
 clear c4
 replace H:=oB H
 obtain ⟨⟨t336,t337,t338⟩,A80,H⟩:=H
 replace H:((spec_l01Byte.f s0_0 t337 t338).bind fun bt339=>((spec_l01Byte.f s0_0 bt339.2.1 bt339.2.2).bind fun bt342=>((spec_l01Byte.f s0_0 bt342.2.1 bt342.2.2).bind fun bt345=>(if a1=0 then (none) else (some (Int.tmod (wrap64 ((wrap64 ((wrap64 ((wrap64 (t336*16777216))+(wrap64 (bt339.1*65536))))+(wrap64 (bt342.1*256))))+bt345.1)) a1,bt345.2.1,bt345.2.2))))))=some (r1,r2,r3):=H
 have A8:=aM A80
 clear A80
 replace H:=oB H
 obtain ⟨⟨t339,t340,t341⟩,A90,H⟩:=H
 replace H:((spec_l01Byte.f s0_0 t340 t341).bind fun bt342=>((spec_l01Byte.f s0_0 bt342.2.1 bt342.2.2).bind fun bt345=>(if a1=0 then (none) else (some (Int.tmod (wrap64 ((wrap64 ((wrap64 ((wrap64 (t336*16777216))+(wrap64 (t339*65536))))+(wrap64 (bt342.1*256))))+bt345.1)) a1,bt345.2.1,bt345.2.2)))))=some (r1,r2,r3):=H
 have A9:=aM A90
 clear A90
 replace H:=oB H
 obtain ⟨⟨t342,t343,t344⟩,A100,H⟩:=H
 replace H:((spec_l01Byte.f s0_0 t343 t344).bind fun bt345=>(if a1=0 then (none) else (some (Int.tmod (wrap64 ((wrap64 ((wrap64 ((wrap64 (t336*16777216))+(wrap64 (t339*65536))))+(wrap64 (t342*256))))+bt345.1)) a1,bt345.2.1,bt345.2.2))))=some (r1,r2,r3):=H
 have A10:=aM A100
 clear A100
 replace H:=oB H
 obtain ⟨⟨t345,t346,t347⟩,A110,H⟩:=H
 replace H:(if a1=0 then (none) else (some (Int.tmod (wrap64 ((wrap64 ((wrap64 ((wrap64 (t336*16777216))+(wrap64 (t339*65536))))+(wrap64 (t342*256))))+t345)) a1,t346,t347)))=some (r1,r2,r3):=H
 have A11:=aM A110
 clear A110
 by_cases c12:a1=0
 {
 rw [if_pos c12] at H
 exact absurd H (by simp)
 }
 {
 rw [if_neg c12] at H
 have c12b0:(a1 == 0)=false:=beq_eq_false_iff_ne.mpr c12
 have c12b1:(a1 != 0)=true:=bne_iff_ne.mpr c12
 simp only [Option.some.injEq,Prod.mk.injEq] at H
 obtain ⟨rfl,rfl,rfl⟩:=H
 go_enter Try.func47,Try.ntmps47
 go_wp2_with (first|((with_reducible refine gate_callee (f:=37) rfl ?_);refine goesL_ (some 18) rfl rfl Try.func37 (by kernel_rfl) rfl #[.pointer (some ⟨g,0,none⟩)] rfl aX ?_;(with_reducible refine(spec_l01Byte.calls g s0_0 s0_1 s0_2 t336 t337 t338 w0 _ ?side1 ?side2 A8.out).mono ?_);(case side1=>repeat(first|(with_reducible first|exact HI0.out|apply IsS76.alloc|apply IsS76.drewN|apply IsS76.drew|apply IsS76.set_1|apply IsS76.set_2)|exact HI0.out));(case side2=>repeat(first|(with_reducible first|exact HB.out|apply bA|apply bN|apply bD|refine below_set ?_ (IsS76.ge HI0.out))|exact HB.out));rintro e w13 ⟨rfl,hi,hb,hk⟩;refine ⟨_,rfl,?_⟩;replace HK:=aM (KeepBut.trans (by repeat(first|(with_reducible first|exact HK.out|apply KeepBut.set_|apply keep_drewN|apply keep_drew|apply keep_alloc)|exact HK.out)) hk (.inl rfl));replace HB:=aM (hb);replace HI0:=aM (hi);(try clear hb);(try clear hk);(try clear hi))|((with_reducible refine gate_callee (f:=37) rfl ?_);refine goesL_ (some 20) rfl rfl Try.func37 (by kernel_rfl) rfl #[.pointer (some ⟨g,0,none⟩)] rfl aX ?_;(with_reducible refine(spec_l01Byte.calls g s0_0 t337 t338 t339 t340 t341 w0 _ ?side1 ?side2 A9.out).mono ?_);(case side1=>repeat(first|(with_reducible first|exact HI0.out|apply IsS76.alloc|apply IsS76.drewN|apply IsS76.drew|apply IsS76.set_1|apply IsS76.set_2)|exact HI0.out));(case side2=>repeat(first|(with_reducible first|exact HB.out|apply bA|apply bN|apply bD|refine below_set ?_ (IsS76.ge HI0.out))|exact HB.out));rintro e w14 ⟨rfl,hi,hb,hk⟩;refine ⟨_,rfl,?_⟩;replace HK:=aM (KeepBut.trans (by repeat(first|(with_reducible first|exact HK.out|apply KeepBut.set_|apply keep_drewN|apply keep_drew|apply keep_alloc)|exact HK.out)) hk (.inl rfl));replace HB:=aM (hb);replace HI0:=aM (hi);(try clear hb);(try clear hk);(try clear hi))|((with_reducible refine gate_callee (f:=37) rfl ?_);refine goesL_ (some 22) rfl rfl Try.func37 (by kernel_rfl) rfl #[.pointer (some ⟨g,0,none⟩)] rfl aX ?_;(with_reducible refine(spec_l01Byte.calls g s0_0 t340 t341 t342 t343 t344 w0 _ ?side1 ?side2 A10.out).mono ?_);(case side1=>repeat(first|(with_reducible first|exact HI0.out|apply IsS76.alloc|apply IsS76.drewN|apply IsS76.drew|apply IsS76.set_1|apply IsS76.set_2)|exact HI0.out));(case side2=>repeat(first|(with_reducible first|exact HB.out|apply bA|apply bN|apply bD|refine below_set ?_ (IsS76.ge HI0.out))|exact HB.out));rintro e w15 ⟨rfl,hi,hb,hk⟩;refine ⟨_,rfl,?_⟩;replace HK:=aM (KeepBut.trans (by repeat(first|(with_reducible first|exact HK.out|apply KeepBut.set_|apply keep_drewN|apply keep_drew|apply keep_alloc)|exact HK.out)) hk (.inl rfl));replace HB:=aM (hb);replace HI0:=aM (hi);(try clear hb);(try clear hk);(try clear hi))|((with_reducible refine gate_callee (f:=37) rfl ?_);refine goesL_ (some 24) rfl rfl Try.func37 (by kernel_rfl) rfl #[.pointer (some ⟨g,0,none⟩)] rfl aX ?_;(with_reducible refine(spec_l01Byte.calls g s0_0 t343 t344 t345 t346 t347 w0 _ ?side1 ?side2 A11.out).mono ?_);(case side1=>repeat(first|(with_reducible first|exact HI0.out|apply IsS76.alloc|apply IsS76.drewN|apply IsS76.drew|apply IsS76.set_1|apply IsS76.set_2)|exact HI0.out));(case side2=>repeat(first|(with_reducible first|exact HB.out|apply bA|apply bN|apply bD|refine below_set ?_ (IsS76.ge HI0.out))|exact HB.out));rintro e w16 ⟨rfl,hi,hb,hk⟩;refine ⟨_,rfl,?_⟩;replace HK:=aM (KeepBut.trans (by repeat(first|(with_reducible first|exact HK.out|apply KeepBut.set_|apply keep_drewN|apply keep_drew|apply keep_alloc)|exact HK.out)) hk (.inl rfl));replace HB:=aM (hb);replace HI0:=aM (hi);(try clear hb);(try clear hk);(try clear hi)))
 go_ret
 exact ⟨eX,by repeat(first|(with_reducible first|exact HI0.out|apply IsS76.alloc|apply IsS76.drewN|apply IsS76.drew|apply IsS76.set_1|apply IsS76.set_2)|exact HI0.out),bX1 HB.out (IsS76.ge HI0.out),by repeat(first|(with_reducible first|exact HK.out|apply KeepBut.set_|apply keep_drewN|apply keep_drew|apply keep_alloc)|exact HK.out)⟩
 }
 }
 }

/-! ### spec_l02Draw: function 48 -/
def spec_l02Draw.l0 : Nat→Int→List Int→Int→List Int→Int→Int→Option (List Int × Int × Int)
 | 0,_,_,_,_,_,_=>none
 | k+1,x1,x5,x6,x1000,x1001,x1002=>if x6<x1 then ((spec_l01Below.f x1000 x1001 x1002 (wrap64 (x6+1))).bind fun bt351=>(if x5.length<17592186044416 then ((some (x5 ++ [x6]:List Int)).bind fun y354=>(if 0≤bt351.1 then (if bt351.1<(y354.length:Int) then (if 0≤x6 then (if x6<(y354.length:Int) then (spec_l02Draw.l0 k x1 ((y354.set (x6:Int).toNat (rd y354 bt351.1)).set (bt351.1:Int).toNat x6) (wrap64 (x6+1)) x1000 bt351.2.1 bt351.2.2) else (none)) else (none)) else (none)) else (none))) else (none))) else (some (x5,x1001,x1002))
def spec_l02Draw.f (k:Nat) (s0_0:List Int) (s0_1:Int) (s0_2:Int) (a1:Int):Option (List Int × Int × Int):=spec_l02Draw.l0 k a1 (([]:List Int)) 0 s0_0 s0_1 s0_2
theorem spec_l02Draw.calls (k:Nat) (g:Nat) (s0_0:List Int) (s0_1:Int) (s0_2:Int) (a1:Int) (r1:List Int) (r2:Int) (r3:Int) (w0 w:World) (hI:IsS76 w0 w g s0_0 s0_1 s0_2) (hB:Below w0.heap.size w0 w) (h:spec_l02Draw.f k s0_0 s0_1 s0_2 a1=some (r1,r2,r3)) :
  Calls Try.prog 48 #[.pointer (some ⟨g,0,none⟩),.int .i64 a1] w fun e w'=>∃ v0_:Value,e = .returned (v0_)∧Kd.R (Kd.int .i64) 3 w' w.heap.size (fun _=>True) v0_ r1∧IsS76 w0 w' g s0_0 r2 r3∧Below w0.heap.size w0 w'∧KeepBut w w' g none:=by
 have HI0:=aM hI
 have HK:=aM (KeepBut.refl w g none)
 have HL:=aM hB.size
 clear hI
 have HW0:=aM hB.size
 have HB:=aM hB
 clear hB
 have H:(spec_l02Draw.l0 k a1 (([]:List Int)) 0 s0_0 s0_1 s0_2)=some (r1,r2,r3):=h
 clear h
 obtain ⟨y348,hy348⟩:∃ y_:List Int,y_=(([]:List Int)):=⟨_,rfl⟩
 replace H:(spec_l02Draw.l0 k a1 y348 0 s0_0 s0_1 s0_2)=some (r1,r2,r3):=by first|(rw [hy348];with_reducible exact H)|(have H2_:=(Option.bind_some _ _).symm.trans H;rw [hy348];with_reducible exact H2_)|(have H2_:=(Option.bind_some _ _).symm.trans H;with_reducible exact H2_)|with_reducible exact H|(rw [hy348];exact H)|exact H
 have Ny348:=aM hy348
 clear hy348
 have H':=aM H
 clear H
 go_enter Try.func48,Try.ntmps48
 go_wp2_with (first|((with_reducible refine gate_dst (N:=8) rfl ?_);refine Kd.R_lit (Kd.int .i64) _ 3 ?hg (N:=8) ?hd (xs:=([]:List Int)) (inner:=[]) (ok:=fun _=>True) (okp:=fun _=>True) ?hr ?hp (fun _ hk=>hk) trivial (Below.refl _ _) (Nat.le_refl _) (by simp) ?_;(case hd=>rfl);(case hg=>rfl);(case hr=>first|(go_simp;done)|(go_simp;rfl));(case hp=>exact(Reps.none _ _));intro v349 w3 ho4 hb hg_ hnew_;clear hg_ hnew_;(first|rw [← Ny348.out] at ho4|(simp only [Int.reduceToNat] at ho4;rw [← Ny348.out] at ho4));have HO350:=aM (Kd.R_lower ho4 (keep_size (w:=w) (g:=g) (row:=none) (by repeat(first|(with_reducible first|exact HK.out|apply KeepBut.set_|apply keep_drewN|apply keep_drew|apply keep_alloc)|exact HK.out))));replace HK:=aM (KeepBut.trans (by repeat(first|(with_reducible first|exact HK.out|apply KeepBut.set_|apply keep_drewN|apply keep_drew|apply keep_alloc)|exact HK.out)) (KeepBut.of_below hb g none) (.inl rfl));replace HB:=aM (below_step (bX1 HB.out (IsS76.ge HI0.out)) hb);replace HI0:=aM (IsS76.below (by repeat(first|(with_reducible first|exact HI0.out|apply IsS76.alloc|apply IsS76.drewN|apply IsS76.drew|apply IsS76.set_1|apply IsS76.set_2)|exact HI0.out)) hb);clear hb ho4))
 go_loopg [5,6] k (fun kq v5 v6 w'=>∃ (x5_1:List Int) (x6_1:Int) (x1001_1:Int) (x1002_1:Int),v6 = .int .i64 x6_1∧Aside0 (spec_l02Draw.l0 kq a1 x5_1 x6_1 s0_0 x1001_1 x1002_1=some (r1,r2,r3))∧Aside0 (kq≤k)∧Aside0 (Kd.R (Kd.int .i64) 3 w' w.heap.size (fun _=>True) v5 x5_1)∧Aside0 (IsS76 w0 w' g s0_0 x1001_1 x1002_1)∧Aside0 (KeepBut w w' g none)∧Aside0 (Below w0.heap.size w0 w'))
 case atStart=>exact ⟨(y348),(0),(s0_1),(s0_2),vX,H',⟨Nat.le_refl _⟩,⟨rX HO350.out⟩,⟨by repeat(first|(with_reducible first|exact HI0.out|apply IsS76.alloc|apply IsS76.drewN|apply IsS76.drew|apply IsS76.set_1|apply IsS76.set_2)|exact HI0.out)⟩,⟨by repeat(first|(with_reducible first|exact HK.out|apply KeepBut.set_|apply keep_drewN|apply keep_drew|apply keep_alloc)|exact HK.out)⟩,⟨bX1 HB.out (IsS76.ge HI0.out)⟩⟩
 case round =>
 clear H'
 obtain ⟨x5_1,x6_1,x1001_1,x1002_1,rfl,HA,HK1,HO_5,HI0,HK,HB⟩:=hrel
 cases gk with
 | zero=>exact absurd HA.out (by simp [spec_l02Draw.l0])
 | succ k1 =>
 have H:=HA.out
 clear HA
 simp only [spec_l02Draw.l0] at H
 by_cases c5:x6_1<a1
 {
 rw [if_pos c5] at H
 have c5b0:=decide_eq_true c5
 clear c5
 replace H:=oB H
 obtain ⟨⟨t351,t352,t353⟩,A60,H⟩:=H
 replace H:(if x5_1.length<17592186044416 then ((some (x5_1 ++ [x6_1]:List Int)).bind fun y354=>(if 0≤t351 then (if t351<(y354.length:Int) then (if 0≤x6_1 then (if x6_1<(y354.length:Int) then (spec_l02Draw.l0 k1 a1 ((y354.set (x6_1:Int).toNat (rd y354 t351)).set (t351:Int).toNat x6_1) (wrap64 (x6_1+1)) s0_0 t352 t353) else (none)) else (none)) else (none)) else (none))) else (none))=some (r1,r2,r3):=H
 have A6:=aM A60
 clear A60
 by_cases c7:x5_1.length<17592186044416
 {
 rw [if_pos c7] at H
 have LMc7:=aM c7
 clear c7
 obtain ⟨y354,hy354⟩:∃ y_:List Int,y_=(x5_1 ++ [x6_1]):=⟨_,rfl⟩
 replace H:(if 0≤t351 then (if t351<(y354.length:Int) then (if 0≤x6_1 then (if x6_1<(y354.length:Int) then (spec_l02Draw.l0 k1 a1 ((y354.set (x6_1:Int).toNat (rd y354 t351)).set (t351:Int).toNat x6_1) (wrap64 (x6_1+1)) s0_0 t352 t353) else (none)) else (none)) else (none)) else (none))=some (r1,r2,r3):=by first|(rw [hy354];with_reducible exact H)|(have H2_:=(Option.bind_some _ _).symm.trans H;rw [hy354];with_reducible exact H2_)|(have H2_:=(Option.bind_some _ _).symm.trans H;with_reducible exact H2_)|with_reducible exact H|(rw [hy354];exact H)|exact H
 have Ny354:=aM hy354
 clear hy354
 by_cases c8:0≤t351
 {
 rw [if_pos c8] at H
 have c8b0:=decide_eq_true c8
 clear c8
 by_cases c9:t351<(y354.length:Int)
 {
 rw [if_pos c9] at H
 have c9b0:=decide_eq_true c9
 clear c9
 by_cases c10:0≤x6_1
 {
 rw [if_pos c10] at H
 have c10b0:=decide_eq_true c10
 clear c10
 by_cases c11:x6_1<(y354.length:Int)
 {
 rw [if_pos c11] at H
 have c11b0:=decide_eq_true c11
 clear c11
 obtain ⟨y358,hy358⟩:∃ y_:List Int,y_=(y354.set (x6_1:Int).toNat (rd y354 t351)):=⟨_,rfl⟩
 replace H:(spec_l02Draw.l0 k1 a1 (y358.set (t351:Int).toNat x6_1) (wrap64 (x6_1+1)) s0_0 t352 t353)=some (r1,r2,r3):=by first|(rw [hy358];with_reducible exact H)|(have H2_:=(Option.bind_some _ _).symm.trans H;rw [hy358];with_reducible exact H2_)|(have H2_:=(Option.bind_some _ _).symm.trans H;with_reducible exact H2_)|with_reducible exact H|(rw [hy358];exact H)|exact H
 have Ny358:=aM hy358
 clear hy358
 obtain ⟨y359,hy359⟩:∃ y_:List Int,y_=(y358.set (t351:Int).toNat x6_1):=⟨_,rfl⟩
 replace H:(spec_l02Draw.l0 k1 a1 y359 (wrap64 (x6_1+1)) s0_0 t352 t353)=some (r1,r2,r3):=by first|(rw [hy359];with_reducible exact H)|(have H2_:=(Option.bind_some _ _).symm.trans H;rw [hy359];with_reducible exact H2_)|(have H2_:=(Option.bind_some _ _).symm.trans H;with_reducible exact H2_)|with_reducible exact H|(rw [hy359];exact H)|exact H
 have Ny359:=aM hy359
 clear hy359
 have H':=aM H
 clear H
 go_wp2_with (first|((with_reducible refine gate_callee (f:=47) rfl ?_);refine goesL_ (some 17) rfl rfl Try.func47 (by kernel_rfl) rfl #[.pointer (some ⟨g,0,none⟩),.int .i64 (wrap64 (x6_1+1))] rfl aX ?_;(with_reducible refine(spec_l01Below.calls g s0_0 x1001_1 x1002_1 (wrap64 (x6_1+1)) t351 t352 t353 w0 _ ?side1 ?side2 A6.out).mono ?_);(case side1=>repeat(first|(with_reducible first|exact HI0.out|apply IsS76.alloc|apply IsS76.drewN|apply IsS76.drew|apply IsS76.set_1|apply IsS76.set_2)|exact HI0.out));(case side2=>repeat(first|(with_reducible first|exact HB.out|apply bA|apply bN|apply bD|refine below_set ?_ (IsS76.ge HI0.out))|exact HB.out));rintro e w14 ⟨rfl,hi,hb,hk⟩;refine ⟨_,rfl,?_⟩;replace HO_5:=aM (Kd.R_mono (Kd.R_keep (IsS76.apart (show IsS76 w0 _ g s0_0 x1001_1 x1002_1 from by repeat(first|(with_reducible first|exact HI0.out|apply IsS76.alloc|apply IsS76.drewN|apply IsS76.drew|apply IsS76.set_1|apply IsS76.set_2)|exact HI0.out)) (rX HO_5.out) (by decide)) hk (fun _ h=>h.2)) (fun _ h=>h.1));replace HK:=aM (KeepBut.trans (by repeat(first|(with_reducible first|exact HK.out|apply KeepBut.set_|apply keep_drewN|apply keep_drew|apply keep_alloc)|exact HK.out)) hk (.inl rfl));replace HB:=aM (hb);replace HI0:=aM (hi);(try clear hb);(try clear hk);(try clear hi))|((with_reducible refine gate_builtin (b:=.append) (xs:=#[.tmp 18,.tmp 20]) rfl ?_);at_builtin;refine Kd.R_append (Kd.int .i64) w.heap.size rfl (.tmp 18) (.tmp 20) 22 3 (.int .i64 0) 8 rfl Try.underlying22 info3 rfl (by decide) (by omega) u5 x5_1 x6_1 [.int .i64 x6_1] (fun _=>True) (fun _=>False) rfl rfl ?aP (fun _ hk=>hk.elim) ?aF ?aO (Below.refl _ _) ?aS ?aL ?_;(case aP=>exact rfl);(case aF=>exact(fun _ _=>trivial));(case aO=>exact(rX HO_5.out));(case aS=>exact(keep_size (w:=w) (g:=g) (row:=none) (by repeat(first|(with_reducible first|exact HK.out|apply KeepBut.set_|apply keep_drewN|apply keep_drew|apply keep_alloc)|exact HK.out))));(case aL=>have:=LMc7.out;omega);intro v355 w15 ho hb hg hat;rw [← Ny354.out] at ho;replace HB:=aM (below_weaken (bX1 HB.out (IsS76.ge HI0.out)) HL.out hb);replace HI0:=aM (IsS76.grown (by repeat(first|(with_reducible first|exact HI0.out|apply IsS76.alloc|apply IsS76.drewN|apply IsS76.drew|apply IsS76.set_1|apply IsS76.set_2)|exact HI0.out)) hg (IsS76.own_ne HI0.out HO_5.out (by decide)));replace HK:=aM (KeepBut.trans (by repeat(first|(with_reducible first|exact HK.out|apply KeepBut.set_|apply keep_drewN|apply keep_drew|apply keep_alloc)|exact HK.out)) (KeepBut.of_grown hg g) (Kd.R_base2 HO_5.out));have HO356:=aM (ho);clear HO_5 ho hb hg hat;obtain ⟨Ao16,co16,eo16⟩:=Kd.R_slice HO356.out;subst eo16;have p357:0≤(t351:Int):=dX;have q357:t351<(y354.length:Int):=dX;obtain ⟨ad357,e357,hx357_0⟩:=Kd.at_int (Kd.R_reads' HO356.out).2.2 t351 p357 q357;cases e357;replace p357:=eq_true p357;replace q357:=eq_true q357;have p12:0≤(x6_1:Int):=dX;have q12:(x6_1:Int)<((y354.length:Int):Int):=dX;obtain ⟨go12,co12,eo12,gb12,gl12,cl12,HG12⟩:=Kd.R_form HO356.out (by omega);(first|cases eo12|(injection eo12 with ea_ en_ ec_;(first|subst ea_|(injection ea_ with ea_;subst ea_));subst ec_;clear en_));have GB12:=aM gb12;have GG12:=aM HG12;clear gb12 gl12 HG12;(first|simp only [add_plain] at hx357_0|skip);obtain ⟨hx12_0,hf12_0⟩:=Kd.R_celln 0 HO356.out (x6_1:Int) p12 q12;replace p12:=eq_true p12;replace q12:=eq_true q12;obtain ⟨hy17_,hz17_⟩:=Kd.R_celln 0 HO356.out (x6_1:Int) (dX) (dX);have HP17:=Kd.R_putg HO356.out (x6_1:Int) (rd y354 t351))|((with_reducible refine gate_store (t:=3) (p:=28) rfl ?_);refine store_event (t:=3) (p:=28) (v:=?vo_w18) (w1:=(w15.setCell ⟨go12,(x6_1:Int).toNat,none⟩ (.int .i64 (rd y354 t351)))) ?hg ?ho ?hn ?hr ?_;(case ho=>rfl);(case hg=>rfl);(case hn=>rfl);(case hr=>first|(go_simp;done)|(go_simp;rfl));intro w18 hw;have hg:w15.grownBy w18 (some go12):=(by rw [hw];exact HP17.2);have hp_:Kd.R (Kd.int .i64) 3 w18 w.heap.size (fun _=>True) (.slice (some ⟨go12,0,none⟩) y354.length co16) y358:=(by rw [hw,Ny358.out];exact HP17.1);clear HP17;replace HI0:=aM (IsS76.grown (by repeat(first|(with_reducible first|exact HI0.out|apply IsS76.alloc|apply IsS76.drewN|apply IsS76.drew|apply IsS76.set_1|apply IsS76.set_2)|exact HI0.out)) hg (IsS76.own_ne HI0.out HO356.out (by decide)));replace HB:=aM ((by rw [hw];exact below_set (HB.out) (Nat.le_trans HL.out GB12.out):Below w0.heap.size w0 w18));replace HK:=aM (KeepBut.trans (by repeat(first|(with_reducible first|exact HK.out|apply KeepBut.set_|apply keep_drewN|apply keep_drew|apply keep_alloc)|exact HK.out)) (KeepBut.of_grown hg g) (Kd.R_base2 HO356.out));replace HO356:=aM (hp_);clear hg hw hp_;have p13:0≤(t351:Int):=dX;have q13:(t351:Int)<((y354.length:Int):Int):=dX;obtain ⟨hx13_0,hf13_0⟩:=Kd.R_celln 0 HO356.out (t351:Int) p13 q13;replace p13:=eq_true p13;replace q13:=eq_true q13;obtain ⟨hy19_,hz19_⟩:=Kd.R_celln 0 HO356.out (t351:Int) (dX) (dX);have HP19:=Kd.R_putg HO356.out (t351:Int) x6_1)|((with_reducible refine gate_store (t:=3) (p:=32) rfl ?_);refine store_event (t:=3) (p:=32) (v:=?vo_w20) (w1:=(w18.setCell ⟨go12,(t351:Int).toNat,none⟩ (.int .i64 x6_1))) ?hg ?ho ?hn ?hr ?_;(case ho=>rfl);(case hg=>rfl);(case hn=>rfl);(case hr=>first|(go_simp;done)|(go_simp;rfl));intro w20 hw;have hg:w18.grownBy w20 (some go12):=(by rw [hw];exact HP19.2);have hp_:Kd.R (Kd.int .i64) 3 w20 w.heap.size (fun _=>True) (.slice (some ⟨go12,0,none⟩) y354.length co16) y359:=(by rw [hw,Ny359.out];exact HP19.1);clear HP19;replace HI0:=aM (IsS76.grown (by repeat(first|(with_reducible first|exact HI0.out|apply IsS76.alloc|apply IsS76.drewN|apply IsS76.drew|apply IsS76.set_1|apply IsS76.set_2)|exact HI0.out)) hg (IsS76.own_ne HI0.out HO356.out (by decide)));replace HB:=aM ((by rw [hw];exact below_set (HB.out) (Nat.le_trans HL.out GB12.out):Below w0.heap.size w0 w20));replace HK:=aM (KeepBut.trans (by repeat(first|(with_reducible first|exact HK.out|apply KeepBut.set_|apply keep_drewN|apply keep_drew|apply keep_alloc)|exact HK.out)) (KeepBut.of_grown hg g) (Kd.R_base2 HO356.out));replace HO356:=aM (hp_);clear hg hw hp_))
 go_roundg k1
 case measure=>have:=HK1.out;omega
 case rel=>exact ⟨(y359),(wrap64 (x6_1+1)),(t352),(t353),vX,H',⟨by have:=HK1.out;omega⟩,⟨rX HO356.out⟩,⟨by repeat(first|(with_reducible first|exact HI0.out|apply IsS76.alloc|apply IsS76.drewN|apply IsS76.drew|apply IsS76.set_1|apply IsS76.set_2)|exact HI0.out)⟩,⟨by repeat(first|(with_reducible first|exact HK.out|apply KeepBut.set_|apply keep_drewN|apply keep_drew|apply keep_alloc)|exact HK.out)⟩,⟨bX1 HB.out (IsS76.ge HI0.out)⟩⟩
 }
 {
 rw [if_neg c11] at H
 exact absurd H (by simp)
 }
 }
 {
 rw [if_neg c10] at H
 exact absurd H (by simp)
 }
 }
 {
 rw [if_neg c9] at H
 exact absurd H (by simp)
 }
 }
 {
 rw [if_neg c8] at H
 exact absurd H (by simp)
 }
 }
 {
 rw [if_neg c7] at H
 exact absurd H (by simp)
 }
 }
 {
 rw [if_neg c5] at H
 have c5b0:=decide_eq_false c5
 clear c5
 simp only [Option.some.injEq,Prod.mk.injEq] at H
 obtain ⟨rfl,rfl,rfl⟩:=H
 go_wp2
 go_ret
 exact ⟨_,eX,by(with_reducible repeat(first|apply rA|apply rN|apply rD));exact HO_5.out,by repeat(first|(with_reducible first|exact HI0.out|apply IsS76.alloc|apply IsS76.drewN|apply IsS76.drew|apply IsS76.set_1|apply IsS76.set_2)|exact HI0.out),bX1 HB.out (IsS76.ge HI0.out),by repeat(first|(with_reducible first|exact HK.out|apply KeepBut.set_|apply keep_drewN|apply keep_drew|apply keep_alloc)|exact HK.out)⟩
 }

/-! ### spec_l02Identity: function 72 -/
def spec_l02Identity.l0 : Nat→Int→List Int→Int→Option (List Int)
 | 0,_,_,_=>none
 | k+1,x0,x3,x4=>if x4<x0 then (if x3.length<17592186044416 then (spec_l02Identity.l0 k x0 (x3 ++ [x4]) (wrap64 (x4+1))) else (none)) else (some x3)
def spec_l02Identity.f (k:Nat) (a0:Int):Option (List Int):=spec_l02Identity.l0 k a0 (([]:List Int)) 0
theorem spec_l02Identity.calls (k:Nat) (a0:Int) (r:List Int) (w:World) (h:spec_l02Identity.f k a0=some r) :
  Calls Try.prog 72 #[.int .i64 a0] w fun e w'=>∃ v0_:Value,e = .returned (v0_)∧Kd.R (Kd.int .i64) 3 w' w.heap.size (fun _=>True) v0_ r∧Below w.heap.size w w':=by
 have HB:=aM (Below.refl w.heap.size w)
 have H:(spec_l02Identity.l0 k a0 (([]:List Int)) 0)=some r:=h
 clear h
 obtain ⟨y360,hy360⟩:∃ y_:List Int,y_=(([]:List Int)):=⟨_,rfl⟩
 replace H:(spec_l02Identity.l0 k a0 y360 0)=some r:=by first|(rw [hy360];with_reducible exact H)|(have H2_:=(Option.bind_some _ _).symm.trans H;rw [hy360];with_reducible exact H2_)|(have H2_:=(Option.bind_some _ _).symm.trans H;with_reducible exact H2_)|with_reducible exact H|(rw [hy360];exact H)|exact H
 have Ny360:=aM hy360
 clear hy360
 have H':=aM H
 clear H
 go_enter Try.func72,Try.ntmps72
 go_wp2_with (first|((with_reducible refine gate_dst (N:=5) rfl ?_);refine Kd.R_lit (Kd.int .i64) _ 3 ?hg (N:=5) ?hd (xs:=([]:List Int)) (inner:=[]) (ok:=fun _=>True) (okp:=fun _=>True) ?hr ?hp (fun _ hk=>hk) trivial (Below.refl _ _) (Nat.le_refl _) (by simp) ?_;(case hd=>rfl);(case hg=>rfl);(case hr=>first|(go_simp;done)|(go_simp;rfl));(case hp=>exact(Reps.none _ _));intro v361 w2 ho3 hb hg_ hnew_;clear hg_ hnew_;(first|rw [← Ny360.out] at ho3|(simp only [Int.reduceToNat] at ho3;rw [← Ny360.out] at ho3));have HO362:=aM (Kd.R_lower ho3 (below_size (bX HB.out)));replace HB:=aM (below_step (bX HB.out) hb);clear hb ho3))
 go_loopg [3,4] k (fun kq v3 v4 w'=>∃ (x3_1:List Int) (x4_1:Int),v4 = .int .i64 x4_1∧Aside0 (spec_l02Identity.l0 kq a0 x3_1 x4_1=some r)∧Aside0 (kq≤k)∧Aside0 (Kd.R (Kd.int .i64) 3 w' w.heap.size (fun _=>True) v3 x3_1)∧Aside0 (Below w.heap.size w w'))
 case atStart=>exact ⟨(y360),(0),vX,H',⟨Nat.le_refl _⟩,⟨rX HO362.out⟩,⟨bX HB.out⟩⟩
 case round =>
 clear H'
 obtain ⟨x3_1,x4_1,rfl,HA,HK1,HO_3,HB⟩:=hrel
 cases gk with
 | zero=>exact absurd HA.out (by simp [spec_l02Identity.l0])
 | succ k1 =>
 have H:=HA.out
 clear HA
 simp only [spec_l02Identity.l0] at H
 by_cases c4:x4_1<a0
 {
 rw [if_pos c4] at H
 have c4b0:=decide_eq_true c4
 clear c4
 by_cases c5:x3_1.length<17592186044416
 {
 rw [if_pos c5] at H
 have LMc5:=aM c5
 clear c5
 obtain ⟨y363,hy363⟩:∃ y_:List Int,y_=(x3_1 ++ [x4_1]):=⟨_,rfl⟩
 replace H:(spec_l02Identity.l0 k1 a0 y363 (wrap64 (x4_1+1)))=some r:=by first|(rw [hy363];with_reducible exact H)|(have H2_:=(Option.bind_some _ _).symm.trans H;rw [hy363];with_reducible exact H2_)|(have H2_:=(Option.bind_some _ _).symm.trans H;with_reducible exact H2_)|with_reducible exact H|(rw [hy363];exact H)|exact H
 have Ny363:=aM hy363
 clear hy363
 have H':=aM H
 clear H
 go_wp2_with (first|((with_reducible refine gate_builtin (b:=.append) (xs:=#[.tmp 11,.tmp 13]) rfl ?_);at_builtin;refine Kd.R_append (Kd.int .i64) (w0:=w) w.heap.size rfl (.tmp 11) (.tmp 13) 22 3 (.int .i64 0) 8 rfl Try.underlying22 info3 rfl (by decide) (by omega) u3 x3_1 x4_1 [.int .i64 x4_1] (fun _=>True) (fun _=>False) rfl rfl ?aP (fun _ hk=>hk.elim) ?aF ?aO ?aB ?aS ?aL ?_;(case aP=>exact rfl);(case aB=>exact(bX HB.out));(case aF=>exact(fun _ _=>trivial));(case aO=>exact(rX HO_3.out));(case aS=>exact(below_size (bX HB.out)));(case aL=>have:=LMc5.out;omega);intro v364 w6 ho hb hg hat;rw [← Ny363.out] at ho;replace HB:=aM (hb);have HO365:=aM (ho);clear HO_3 ho hb hg hat))
 go_roundg k1
 case measure=>have:=HK1.out;omega
 case rel=>exact ⟨(y363),(wrap64 (x4_1+1)),vX,H',⟨by have:=HK1.out;omega⟩,⟨rX HO365.out⟩,⟨bX HB.out⟩⟩
 }
 {
 rw [if_neg c5] at H
 exact absurd H (by simp)
 }
 }
 {
 rw [if_neg c4] at H
 have c4b0:=decide_eq_false c4
 clear c4
 obtain rfl:=Option.some.inj H
 go_wp2
 go_ret
 exact ⟨_,eX,by(with_reducible repeat(first|apply rA|apply rN|apply rD));exact HO_3.out,bX HB.out⟩
 }

end Go.Proofs.Ytmhjcbcjpidegaa.S
