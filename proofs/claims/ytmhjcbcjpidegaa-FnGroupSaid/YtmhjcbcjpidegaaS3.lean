-- PRINTED by print.py (a twelfth state) out of the translation. Not trusted: Lean checks it.
import Derived.Test.YtmhjcbcjpidegaaS0
import Derived.Test.YtmhjcbcjpidegaaS1
import Derived.Test.YtmhjcbcjpidegaaS2
namespace Go.Proofs.Ytmhjcbcjpidegaa.S
set_option maxHeartbeats 8000000
set_option maxRecDepth 100000
open Go.RowKit Go.Proofs.YtmhjcbcjpidegaaW.PrintWords Go.Proofs.YtmhjcbcjpidegaaW.PrintLast Go.Proofs.YtmhjcbcjpidegaaW.PrintMore
attribute [local go_sem] max2_int min2_int max_two min_two max_three min_three max_four min_four   -- for this text's walks alone
set_option linter.unusedVariables false
set_option linter.unusedSimpArgs false

/-! ### impl_CanonOf: function 50 -/
/-! by hand -/
/-- The first of the least, from an element on. -/
def minGo (k:Nat) (m:S27):List S27→Option S27
  | []=>some m
  | x :: xs=>(impl_compareSurfaces.f k x.f0 x.f1 m.f0 m.f1).bind fun c=>minGo k (if c<0 then x else m) xs
def impl_CanonOf.f (k:Nat) (l0_0 l0_1:List Int):Option (List Int × List Int × Bool):=(impl_namedFrom.f k l0_0 l0_1).bind fun l=>if l.length≤1000 then (if l=[] then some ([],[],false) else (minGo k (rd_T27 l 0) (l.drop 1)).bind fun s=>some (s.f0,s.f1,true)) else none
/-- A surface that is read: two rows. -/
structure SurfC (w:World) (A0 A1:Option Addr) (c0 c1:Nat) (x y:List Int):Prop where
  l0:x.length≤c0
  g0:Kd.C (Kd.int .i64) w A0 x.length x
  l1:y.length≤c1
  g1:Kd.C (Kd.int .i64) w A1 y.length y
theorem SurfC.below {w w':World} {A0 A1:Option Addr} {c0 c1:Nat} {x y:List Int} (h:SurfC w A0 A1 c0 c1 x y) (hb:Below w.heap.size w w'):SurfC w' A0 A1 c0 c1 x y:=⟨h.l0,Kd.C_below h.g0 hb,h.l1,Kd.C_below h.g1 hb⟩
/-- The same, with the blocks it lies in. -/
def SurfF (w:World) (ok:Nat→Prop) (A0 A1:Option Addr) (c0 c1:Nat) (x y:List Int):Prop:=Foot (fun W=>SurfC W A0 A1 c0 c1 x y) w ok
theorem SurfF.below {w w':World} {ok:Nat→Prop} {A0 A1:Option Addr} {c0 c1:Nat} {x y:List Int} (h:SurfF w ok A0 A1 c0 c1 x y) (hb:Below w.heap.size w w'):SurfC w' A0 A1 c0 c1 x y:=h w' (fun k _ hlt=>hb.block k hlt)
theorem SurfF.l0 {w:World} {ok:Nat→Prop} {A0 A1:Option Addr} {c0 c1:Nat} {x y:List Int} (h:SurfF w ok A0 A1 c0 c1 x y):x.length≤c0:=(Foot.now h).l0
theorem SurfF.l1 {w:World} {ok:Nat→Prop} {A0 A1:Option Addr} {c0 c1:Nat} {x y:List Int} (h:SurfF w ok A0 A1 c0 c1 x y):y.length≤c1:=(Foot.now h).l1
theorem cell_same {w W:World} {p:Addr} {b:Nat} (hp:p.block=b) (h:W.heap[b]? = w.heap[b]?):W.cell? p=w.cell? p:=by
 unfold World.cell?
 rw [hp,h]
theorem canon_add_block (a:Addr) (n:Nat):(a.add n).block=a.block:=by
 unfold Addr.add
 split <;> rfl
theorem surf_elem {w:World} {ok:Nat→Prop} {A:Option Addr} {l:List S27} (hF:Kd.F k27 w ok A l.length l) (hA:∀ a,A=some a→ok a.block∧a.block<w.heap.size) (i:Int) (h0:0≤i) (h1:i<l.length) :
    ∃ ad C0 d0 C1 d1,A=some ad∧w.cell? (ad.add (i.toNat*2))=some (.slice C0 (rd_T27 l i).f0.length d0)∧w.cell? ⟨(ad.add (i.toNat*2)).block,(ad.add (i.toNat*2)).off+1,none⟩=some (.slice C1 (rd_T27 l i).f1.length d1)∧SurfF w ok C0 C1 d0 d1 (rd_T27 l i).f0 (rd_T27 l i).f1:=by
 obtain ⟨ad,C0,d0,C1,d1,rfl,hx0,hx1,l0,g0,l1,g1⟩:=at_T27 (Kd.F_now hF) i h0 h1
 refine ⟨ad,C0,d0,C1,d1,rfl,hx0,hx1,fun W hW => ?_⟩
 obtain ⟨ad2,E0,f0,E1,f1,e2,hy0,hy1,m0,n0,m1,n1⟩:=at_T27 (hF W hW) i h0 h1
 cases e2
 have hb:=hA ad rfl
 have q:=hW _ hb.1 hb.2
 rw [cell_same (canon_add_block _ _) q,hx0] at hy0
 rw [cell_same (p:=⟨(ad.add (i.toNat*2)).block,(ad.add (i.toNat*2)).off+1,none⟩) (canon_add_block _ _) q,hx1] at hy1
 have z0:=Option.some.inj hy0
 have z1:=Option.some.inj hy1
 injection z0 with a1 a2 a3
 injection z1 with b1 b2 b3
 subst a1 a3 b1 b3
 exact ⟨m0,n0,m1,n1⟩
theorem minf_calls (k:Nat) (A0:Option Addr) (c0:Nat) (l0:List S27) (r:S27) (w:World) (ok:Nat→Prop) (hr0:Kd.F k27 w ok A0 l0.length l0) (hA:∀ a,A0=some a→ok a.block∧a.block<w.heap.size) (hn:0<l0.length) (hbig:l0.length≤1000) (h:minGo k (rd_T27 l0 0) (l0.drop 1)=some r) :
    Calls Try.prog 74 #[.slice A0 l0.length c0,.func (.func 75) #[] #[]] w fun e w'=>∃ B0 b0 B1 b1,e = .returned (.agg #[.slice B0 r.f0.length b0,.slice B1 r.f1.length b1])∧SurfF w ok B0 B1 b0 b1 r.f0 r.f1∧Below w.heap.size w w':=by
  have hu:=Try.underlying27
  have HR0:=aM hr0
  clear hr0
  have HADR:=aM hA
  clear hA
  have HA:=aM h
  clear h
  have HB:=aM (Below.refl w.heap.size w)
  obtain ⟨ad,B0,b0,B1,b1,ead,hx0,hx1,gx⟩:=surf_elem HR0.out HADR.out 0 (Int.le_refl 0) (by omega)
  cases ead
  have GX:=aM gx
  clear gx
  have hb1:decide ((l0.length:Int)<1)=false:=decide_eq_false (by omega)
  have hp0:decide ((0:Int)<(l0.length:Int))=true:=decide_eq_true (by omega)
  have hp1:(0:Int)<(l0.length:Int):=by omega
  have e0:ad.add (Int.toNat 0*2)=ad:=by cases ad;rfl
  rw [e0] at hx0 hx1
  clear e0
  have HN:=aM hn
  have HG:=aM hbig
  clear hn hbig
  generalize (rd_T27 l0 0)=m0 at *
  go_enter Try.func74,Try.ntmps74
  go_wp2_with (first
    | ((with_reducible refine gate_dst (N:=4) rfl ?_);refine bEv (cs:=#[.slice none 0 0,.slice none 0 0]) (t:=27) ?_;intro gb4 hg4 w4 hbox4 hb4;have BK4:=aM hbox4;have HB4:=aM hb4;have GB4:=aM hg4;clear hbox4 hb4 hg4;replace hx0:=(HB4.out.cell (World.block_lt_of_cell? w _ hx0)).trans hx0;replace hx1:=(HB4.out.cell (World.block_lt_of_cell? w _ hx1)).trans hx1)
    | ((with_reducible refine gate_dst (N:=5) rfl ?_);refine bEv (cs:=#[.slice none 0 0,.slice none 0 0]) (t:=27) ?_;intro gb5 hg5 w5 hbox5 hb5;have BK5:=aM hbox5;have HB5:=aM hb5;have GB5:=aM hg5;clear hbox5 hb5 hg5)
    | (refine wpList_store_row rfl 27 (.tmp 5) (.tmp 13) rfl gb5 #[.slice B0 m0.f0.length b0,.slice B1 m0.f1.length b1] rfl rfl 27 #[.slice none 0 0,.slice none 0 0] BK5.out (by kernel_rfl) rfl (by simp [Value.oneCell']) ?_))
  have H45:w.heap.size≤gb5:=by rw [GB5.out];exact below_size HB4.out
  have HG5:=aM H45
  have HG4:Aside0 (w.heap.size≤gb4):=⟨by rw [GB4.out];exact Nat.le_refl _⟩
  have HNE:Aside0 (gb4≠gb5):=⟨by have h1:=blk_lt BK4.out;have h2:=GB5.out;omega⟩
  clear H45
  have HC5:=aM (show (w5.setRow gb5 #[.slice B0 m0.f0.length b0,.slice B1 m0.f1.length b1]).heap[gb5]? = some (.cells #[.slice B0 m0.f0.length b0,.slice B1 m0.f1.length b1] 27 (0,0)) from setRow_heap w5 gb5 _ _ _ _ BK5.out)
  have HC4:=aM (show (w5.setRow gb5 #[.slice B0 m0.f0.length b0,.slice B1 m0.f1.length b1]).heap[gb4]? = some (.cells #[.slice none 0 0,.slice none 0 0] 27 (0,0)) from (setRow_other w5 gb5 gb4 _ HNE.out).trans (blk_below BK4.out HB5.out))
  have HBB:=aM (show Below w.heap.size w (w5.setRow gb5 #[.slice B0 m0.f0.length b0,.slice B1 m0.f1.length b1]) from below_setRow (below_step HB4.out HB5.out) HG5.out _)
  go_loopg [6] l0.length (fun kq v6 w'=>∃ (i:Int) (m:S27) (B0:Option Addr) (b0:Nat) (B1:Option Addr) (b1:Nat),v6 = .int .i64 i∧Aside0 (1≤i∧i≤l0.length∧(kq:Int)+i=l0.length+1)∧Aside0 (minGo k m (l0.drop i.toNat)=some r)∧Aside0 (w'.heap[gb5]? = some (.cells #[.slice B0 m.f0.length b0,.slice B1 m.f1.length b1] 27 (0,0)))∧Aside0 (w'.heap[gb4]? = some (.cells #[.slice none 0 0,.slice none 0 0] 27 (0,0)))∧Aside0 (SurfF w ok B0 B1 b0 b1 m.f0 m.f1)∧Aside0 (Below w.heap.size w w'))
  case atStart=>exact ⟨1,m0,B0,b0,B1,b1,rfl,⟨by have:=HN.out;omega⟩,HA,HC5,HC4,GX,HBB⟩
  case round =>
    clear HC5 HC4 HBB GX hx0 hx1 BK4 BK5 HB4 HB5 GB4 GB5 HA HB hp0 hp1 hb1
    obtain ⟨i,m,B0,b0,B1,b1,rfl,HI,HA,HC5,HC4,GX,HB⟩:=hrel
    obtain ⟨hi0,hi1,hik⟩:=HI.out
    clear HI
    obtain ⟨k1,rfl⟩:∃ q,gk=q+1:=⟨gk - 1,by omega⟩
    have HK:=aM hik
    clear hik
    have hcz0:wr.cell? ⟨gb5,0,none⟩=some (.slice B0 m.f0.length b0):=(blk_cell HC5.out 0).trans rfl
    have hcz1:wr.cell? ⟨gb5,1,none⟩=some (.slice B1 m.f1.length b1):=(blk_cell HC5.out 1).trans rfl
    by_cases hlt:i<(l0.length:Int)
    · have c1:decide (i<(l0.length:Int))=true:=decide_eq_true hlt
      have hi00:0≤i:=by omega
      obtain ⟨ad2,C0,d0,C1,d1,e2,hy0,hy1,gy⟩:=surf_elem HR0.out HADR.out i hi00 hlt
      cases e2
      have HY0:=aM hy0
      have HY1:=aM hy1
      have GY:=aM gy
      clear gy
      replace hy0:=(HB.out.cell (World.block_lt_of_cell? w _ hy0)).trans hy0
      replace hy1:=(HB.out.cell (World.block_lt_of_cell? w _ hy1)).trans hy1
      have hdrop:l0.drop i.toNat=rd_T27 l0 i :: l0.drop (i+1).toNat:=by
        have h1:i.toNat<l0.length:=by omega
        rw [show (i+1).toNat=i.toNat+1 by omega,List.drop_eq_getElem_cons h1]
        simp [rd_T27,List.getD,h1]
      have hgo:=HA.out
      rw [hdrop,minGo] at hgo
      clear HA hdrop
      generalize rd_T27 l0 i=x at *
      obtain ⟨c,hc,hgo⟩:=oB hgo
      have HCC:=aM hc
      have HGO:=aM hgo
      clear hc hgo
      have p0:decide (0≤i)=true:=decide_eq_true hi00
      have HW:=aM (show wrap64 (i+1)=i+1 from by have:=HG.out;unfold wrap64;omega)
      have HI0:=aM hi00
      have HI1:=aM hlt
      replace hi00:=eq_true hi00
      replace hlt:=eq_true hlt
      clear hi0 hi1
      by_cases hcl:c<0
      · have c2:decide (c<0)=true:=decide_eq_true hcl
        have HG2:=aM (show minGo k x (l0.drop (i+1).toNat)=some r from by have:=HGO.out;rwa [if_pos hcl] at this)
        clear hcl HGO
        go_wp2
        refine start_ (n:=8) (S:=fun w'=>w'.cell? (ad.add (i.toNat*2))=some (.slice C0 x.f0.length d0)∧w'.cell? ⟨(ad.add (i.toNat*2)).block,(ad.add (i.toNat*2)).off+1,none⟩=some (.slice C1 x.f1.length d1)∧w'.cell? ⟨gb5,0,none⟩=some (.slice B0 m.f0.length b0)∧w'.cell? ⟨gb5,1,none⟩=some (.slice B1 m.f1.length b1)) (ds:=[]) #[ff,ff,ff,ff,ff,ff,ff,ff] (by kernel_rfl) rfl rfl ⟨hy0,hy1,hcz0,hcz1⟩ (fun hHeld => ?_)
        replace HC5:=aM (show wr.drew.heap[gb5]? = _ from HC5.out)
        replace HC4:=aM (show wr.drew.heap[gb4]? = _ from HC4.out)
        replace HB:=aM (below_drew1 HB.out)
        clear hy0 hy1 hcz0 hcz1
        generalize wr.drew=W at HC5 HC4 HB hHeld ⊢
        refine pure_ (i:=0) (N:=some 20) (v:=?_) (a':=?_) #[tt,ff,ff,ff,ff,ff,ff,ff] rfl rfl (by kernel_rfl) (fun _ _ _ h=>h) (Or.inl ⟨by kernel_rfl,?_⟩) ?_ ?_
        rotate_left
        · intro w'
          go_simp
          with_reducible rfl
        rotate_left
        · simp only [Act.put,List.setIfInBounds_toArray,List.set_cons_zero,List.set_cons_succ,i64_w,i32_w]
          rfl
        refine pure_ (i:=1) (N:=some 21) (v:=?_) (a':=?_) #[tt,tt,ff,ff,ff,ff,ff,ff] rfl rfl (by kernel_rfl) (fun _ _ _ h=>h) (Or.inl ⟨by kernel_rfl,?_⟩) ?_ ?_
        rotate_left
        · intro w'
          go_simp
          with_reducible rfl
        rotate_left
        · simp only [Act.put,List.setIfInBounds_toArray,List.set_cons_zero,List.set_cons_succ,i64_w,i32_w]
          rfl
        refine pure_ (i:=2) (N:=some 22) (v:=?_) (a':=?_) #[tt,tt,tt,ff,ff,ff,ff,ff] rfl rfl (by kernel_rfl) (fun _ _ _ h=>h) (Or.inl ⟨by kernel_rfl,?_⟩) ?_ ?_
        rotate_left
        · intro w'
          go_simp
          with_reducible rfl
        rotate_left
        · simp only [Act.put,List.setIfInBounds_toArray,List.set_cons_zero,List.set_cons_succ,i64_w,i32_w]
          rfl
        refine pure_ (i:=3) (N:=some 23) (v:=?_) (a':=?_) #[tt,tt,tt,tt,ff,ff,ff,ff] rfl rfl (by kernel_rfl) (fun _ _ _ h=>h) (Or.inl ⟨by kernel_rfl,?_⟩) ?_ ?_
        rotate_left
        · intro w'
          go_simp
          with_reducible rfl
        rotate_left
        · simp only [Act.put,List.setIfInBounds_toArray,List.set_cons_zero,List.set_cons_succ,i64_w,i32_w]
          rfl
        refine take_ (i:=4) (N:=some 24) (v:=?_) (a':=?_) #[tt,tt,tt,tt,tt,ff,ff,ff] rfl rfl (by kernel_rfl) (fun _ _ _ h=>h) (Or.inl ⟨by kernel_rfl,?_⟩) hHeld ?_ ?_
        rotate_left
        · rintro w' ⟨s0,s1,s2,s3⟩
          go_simp
          with_reducible rfl
        rotate_left
        · simp only [Act.put,List.setIfInBounds_toArray,List.set_cons_zero,List.set_cons_succ,i64_w,i32_w]
          rfl
        refine take_ (i:=5) (N:=some 25) (v:=?_) (a':=?_) #[tt,tt,tt,tt,tt,tt,ff,ff] rfl rfl (by kernel_rfl) (fun _ _ _ h=>h) (Or.inl ⟨by kernel_rfl,?_⟩) hHeld ?_ ?_
        rotate_left
        · rintro w' ⟨s0,s1,s2,s3⟩
          go_simp
          with_reducible rfl
        rotate_left
        · simp only [Act.put,List.setIfInBounds_toArray,List.set_cons_zero,List.set_cons_succ,i64_w,i32_w]
          rfl
        refine one_ (i:=6) (N:=some 26) #[tt,tt,tt,tt,tt,tt,tt,ff] rfl rfl (by kernel_rfl) (by decide) (fun K hK => ?_)
        refine call_ 75 #[.agg #[.slice C0 x.f0.length d0,.slice C1 x.f1.length d1],.agg #[.slice B0 m.f0.length b0,.slice B1 m.f1.length b1]] (by rfl) rfl ?hrun ?_
        case hrun=>unfold execOp;simp [resolve,Deferred.ofValue,invoke,Act.eval,enters_ Try.func75 (by kernel_rfl) rfl]
        refine(impl_compareSurfaces.calls k C0 d0 x.f0 C1 d1 x.f1 B0 b0 m.f0 B1 b1 m.f1 c _ (GY.out.below HB.out).g0 GY.out.l0 (GY.out.below HB.out).g1 GY.out.l1 (GX.out.below HB.out).g0 GX.out.l0 (GX.out.below HB.out).g1 GX.out.l1 HCC.out).mono ?_
        rintro e w6 ⟨rfl,hb⟩
        refine ⟨_,rfl,?_⟩
        have HC5':=aM (blk_below HC5.out hb)
        have HC4':=aM (blk_below HC4.out hb)
        have HB':=aM (below_step HB.out hb)
        have hy0:=(HB'.out.cell (World.block_lt_of_cell? w _ HY0.out)).trans HY0.out
        have hy1:=(HB'.out.cell (World.block_lt_of_cell? w _ HY1.out)).trans HY1.out
        clear HC5 HC4 HB hb
        refine hK.out _ _ ⟨hy0,hy1,(blk_cell HC5'.out 0).trans rfl,(blk_cell HC5'.out 1).trans rfl⟩ (fun hHeld => ?_)
        clear hK K
        refine norm_ (a':=?_) ?_ ?_
        rotate_left
        · show Act.put _ (some 26) _=_
          simp only [Act.put,List.setIfInBounds_toArray,List.set_cons_zero,List.set_cons_succ,i64_w,i32_w]
          rfl
        refine pure_ (i:=7) (N:=some 27) (v:=?_) (a':=?_) #[tt,tt,tt,tt,tt,tt,tt,tt] rfl rfl (by kernel_rfl) (fun _ _ _ h=>h) (Or.inl ⟨by kernel_rfl,?_⟩) ?_ ?_
        rotate_left
        · intro w'
          go_simp
          with_reducible rfl
        rotate_left
        · simp only [Act.put,List.setIfInBounds_toArray,List.set_cons_zero,List.set_cons_succ,i64_w,i32_w]
          rfl
        refine done_ (by kernel_rfl) ?_
        clear hHeld
        go_wp2_with (refine wpList_store_row rfl 27 (.tmp 5) (.tmp 31) rfl gb5 #[.slice C0 x.f0.length d0,.slice C1 x.f1.length d1] rfl rfl 27 #[.slice B0 m.f0.length b0,.slice B1 m.f1.length b1] HC5'.out (by kernel_rfl) rfl (by simp [Value.oneCell']) ?_)
        go_roundg k1
        case measure=>have:=HK.out;omega
        case rel=>exact ⟨i+1,x,C0,d0,C1,d1,by rw [HW.out],⟨by have:=HK.out;have:=HI1.out;have:=HI0.out;omega⟩,HG2,⟨setRow_heap _ gb5 _ _ _ _ HC5'.out⟩,⟨(setRow_other _ gb5 gb4 _ HNE.out).trans HC4'.out⟩,GY,⟨below_setRow HB'.out HG5.out _⟩⟩
      · have c2:decide (c<0)=false:=decide_eq_false hcl
        have HG2:=aM (show minGo k m (l0.drop (i+1).toNat)=some r from by have:=HGO.out;rwa [if_neg hcl] at this)
        clear hcl HGO
        go_wp2
        refine start_ (n:=8) (S:=fun w'=>w'.cell? (ad.add (i.toNat*2))=some (.slice C0 x.f0.length d0)∧w'.cell? ⟨(ad.add (i.toNat*2)).block,(ad.add (i.toNat*2)).off+1,none⟩=some (.slice C1 x.f1.length d1)∧w'.cell? ⟨gb5,0,none⟩=some (.slice B0 m.f0.length b0)∧w'.cell? ⟨gb5,1,none⟩=some (.slice B1 m.f1.length b1)) (ds:=[]) #[ff,ff,ff,ff,ff,ff,ff,ff] (by kernel_rfl) rfl rfl ⟨hy0,hy1,hcz0,hcz1⟩ (fun hHeld => ?_)
        replace HC5:=aM (show wr.drew.heap[gb5]? = _ from HC5.out)
        replace HC4:=aM (show wr.drew.heap[gb4]? = _ from HC4.out)
        replace HB:=aM (below_drew1 HB.out)
        clear hy0 hy1 hcz0 hcz1
        generalize wr.drew=W at HC5 HC4 HB hHeld ⊢
        refine pure_ (i:=0) (N:=some 20) (v:=?_) (a':=?_) #[tt,ff,ff,ff,ff,ff,ff,ff] rfl rfl (by kernel_rfl) (fun _ _ _ h=>h) (Or.inl ⟨by kernel_rfl,?_⟩) ?_ ?_
        rotate_left
        · intro w'
          go_simp
          with_reducible rfl
        rotate_left
        · simp only [Act.put,List.setIfInBounds_toArray,List.set_cons_zero,List.set_cons_succ,i64_w,i32_w]
          rfl
        refine pure_ (i:=1) (N:=some 21) (v:=?_) (a':=?_) #[tt,tt,ff,ff,ff,ff,ff,ff] rfl rfl (by kernel_rfl) (fun _ _ _ h=>h) (Or.inl ⟨by kernel_rfl,?_⟩) ?_ ?_
        rotate_left
        · intro w'
          go_simp
          with_reducible rfl
        rotate_left
        · simp only [Act.put,List.setIfInBounds_toArray,List.set_cons_zero,List.set_cons_succ,i64_w,i32_w]
          rfl
        refine pure_ (i:=2) (N:=some 22) (v:=?_) (a':=?_) #[tt,tt,tt,ff,ff,ff,ff,ff] rfl rfl (by kernel_rfl) (fun _ _ _ h=>h) (Or.inl ⟨by kernel_rfl,?_⟩) ?_ ?_
        rotate_left
        · intro w'
          go_simp
          with_reducible rfl
        rotate_left
        · simp only [Act.put,List.setIfInBounds_toArray,List.set_cons_zero,List.set_cons_succ,i64_w,i32_w]
          rfl
        refine pure_ (i:=3) (N:=some 23) (v:=?_) (a':=?_) #[tt,tt,tt,tt,ff,ff,ff,ff] rfl rfl (by kernel_rfl) (fun _ _ _ h=>h) (Or.inl ⟨by kernel_rfl,?_⟩) ?_ ?_
        rotate_left
        · intro w'
          go_simp
          with_reducible rfl
        rotate_left
        · simp only [Act.put,List.setIfInBounds_toArray,List.set_cons_zero,List.set_cons_succ,i64_w,i32_w]
          rfl
        refine take_ (i:=4) (N:=some 24) (v:=?_) (a':=?_) #[tt,tt,tt,tt,tt,ff,ff,ff] rfl rfl (by kernel_rfl) (fun _ _ _ h=>h) (Or.inl ⟨by kernel_rfl,?_⟩) hHeld ?_ ?_
        rotate_left
        · rintro w' ⟨s0,s1,s2,s3⟩
          go_simp
          with_reducible rfl
        rotate_left
        · simp only [Act.put,List.setIfInBounds_toArray,List.set_cons_zero,List.set_cons_succ,i64_w,i32_w]
          rfl
        refine take_ (i:=5) (N:=some 25) (v:=?_) (a':=?_) #[tt,tt,tt,tt,tt,tt,ff,ff] rfl rfl (by kernel_rfl) (fun _ _ _ h=>h) (Or.inl ⟨by kernel_rfl,?_⟩) hHeld ?_ ?_
        rotate_left
        · rintro w' ⟨s0,s1,s2,s3⟩
          go_simp
          with_reducible rfl
        rotate_left
        · simp only [Act.put,List.setIfInBounds_toArray,List.set_cons_zero,List.set_cons_succ,i64_w,i32_w]
          rfl
        refine one_ (i:=6) (N:=some 26) #[tt,tt,tt,tt,tt,tt,tt,ff] rfl rfl (by kernel_rfl) (by decide) (fun K hK => ?_)
        refine call_ 75 #[.agg #[.slice C0 x.f0.length d0,.slice C1 x.f1.length d1],.agg #[.slice B0 m.f0.length b0,.slice B1 m.f1.length b1]] (by rfl) rfl ?hrun ?_
        case hrun=>unfold execOp;simp [resolve,Deferred.ofValue,invoke,Act.eval,enters_ Try.func75 (by kernel_rfl) rfl]
        refine(impl_compareSurfaces.calls k C0 d0 x.f0 C1 d1 x.f1 B0 b0 m.f0 B1 b1 m.f1 c _ (GY.out.below HB.out).g0 GY.out.l0 (GY.out.below HB.out).g1 GY.out.l1 (GX.out.below HB.out).g0 GX.out.l0 (GX.out.below HB.out).g1 GX.out.l1 HCC.out).mono ?_
        rintro e w6 ⟨rfl,hb⟩
        refine ⟨_,rfl,?_⟩
        have HC5':=aM (blk_below HC5.out hb)
        have HC4':=aM (blk_below HC4.out hb)
        have HB':=aM (below_step HB.out hb)
        have hy0:=(HB'.out.cell (World.block_lt_of_cell? w _ HY0.out)).trans HY0.out
        have hy1:=(HB'.out.cell (World.block_lt_of_cell? w _ HY1.out)).trans HY1.out
        clear HC5 HC4 HB hb
        refine hK.out _ _ ⟨hy0,hy1,(blk_cell HC5'.out 0).trans rfl,(blk_cell HC5'.out 1).trans rfl⟩ (fun hHeld => ?_)
        clear hK K
        refine norm_ (a':=?_) ?_ ?_
        rotate_left
        · show Act.put _ (some 26) _=_
          simp only [Act.put,List.setIfInBounds_toArray,List.set_cons_zero,List.set_cons_succ,i64_w,i32_w]
          rfl
        refine pure_ (i:=7) (N:=some 27) (v:=?_) (a':=?_) #[tt,tt,tt,tt,tt,tt,tt,tt] rfl rfl (by kernel_rfl) (fun _ _ _ h=>h) (Or.inl ⟨by kernel_rfl,?_⟩) ?_ ?_
        rotate_left
        · intro w'
          go_simp
          with_reducible rfl
        rotate_left
        · simp only [Act.put,List.setIfInBounds_toArray,List.set_cons_zero,List.set_cons_succ,i64_w,i32_w]
          rfl
        refine done_ (by kernel_rfl) ?_
        clear hHeld
        clear hy0 hy1
        go_wp2
        go_roundg k1
        case measure=>have:=HK.out;omega
        case rel=>exact ⟨i+1,m,B0,b0,B1,b1,by rw [HW.out],⟨by have:=HK.out;have:=HI1.out;have:=HI0.out;omega⟩,HG2,HC5',HC4',GX,HB'⟩
    · have hie:i=l0.length:=by omega
      have hr:m=r:=by
        have h:=HA.out
        rw [show l0.drop i.toNat=[] from by rw [hie];simp,minGo] at h
        exact Option.some.inj h
      subst hr
      have c1:decide (i<(l0.length:Int))=false:=decide_eq_false hlt
      clear hlt hie hi0 hi1
      go_wp2_with (refine wpList_store_row rfl 27 (.tmp 4) (.tmp 32) rfl gb4 #[.slice B0 m.f0.length b0,.slice B1 m.f1.length b1] rfl rfl 27 #[.slice none 0 0,.slice none 0 0] HC4.out (by kernel_rfl) rfl (by simp [Value.oneCell']) ?_)
      have HCF:=aM (setRow_heap wr gb4 _ #[.slice B0 m.f0.length b0,.slice B1 m.f1.length b1] _ _ HC4.out)
      refine bodyPost_ret (results_cell_row rfl _ _ gb4 27 #[.slice B0 m.f0.length b0,.slice B1 m.f1.length b1] (0,0) _ rfl HCF.out hu rfl (by kernel_rfl)) rfl ?_
      exact ⟨B0,b0,B1,b1,rfl,GX.out,below_setRow HB.out HG4.out _⟩
/-- What a row of rows' value is. -/
theorem S_sliceC {α:Type} {d:Kd α} {e base:Nat} {ok:Nat→Prop} {w:World} {v:Value} {xs:List α} (h:Kd.S d e w base ok v xs):∃ A c,v = .slice A xs.length c∧xs.length≤c∧Kd.F d w (fun k=>base≤k) A xs.length xs∧∀ a,A=some a→base≤a.block∧a.block<w.heap.size:=by
 obtain ⟨A,c,rfl⟩:=Kd.R_slice (Kd.S_R h)
 have:=Kd.R_reads' (Kd.S_R h)
 refine ⟨A,c,rfl,this.2.1,Kd.S_F (Kd.S_mono (Kd.S_bound h) (fun k hk=>hk.2.1)),fun a ha => ?_⟩
 subst ha
 exact ⟨Kd.R_base (Kd.S_R h) _ rfl,Kd.R_lt (Kd.S_R h) _ rfl⟩
theorem SurfF.setRow {w w4:World} {N g:Nat} {A0 A1:Option Addr} {c0 c1:Nat} {x y:List Int} (h:SurfF w (fun k=>N≤k) A0 A1 c0 c1 x y) (hb:Below w.heap.size w w4) (hg:g<N) (cs:Array Value):SurfC (w4.setRow g cs) A0 A1 c0 c1 x y:=h _ (fun k hk hlt=>(setRow_other w4 g k cs (by omega)).trans (hb.block k hlt))
theorem SurfF.setRowF {w w4:World} {N L g:Nat} {A0 A1:Option Addr} {c0 c1:Nat} {x y:List Int} (h:SurfF w (fun k=>N≤k) A0 A1 c0 c1 x y) (hb:Below w.heap.size w w4) (hg:g<N) (hL:L≤N) (cs:Array Value):SurfF (w4.setRow g cs) (fun k=>L≤k) A0 A1 c0 c1 x y:=Foot.mono (Foot.step h (fun k hk hlt=>(setRow_other w4 g k cs (by omega)).trans (hb.block k hlt))) (fun _ hk=>Nat.le_trans hL hk)
theorem impl_CanonOf.callsF (k:Nat) (A0_0:Option Addr) (c0_0:Nat) (l0_0:List Int) (A0_1:Option Addr) (c0_1:Nat) (l0_1:List Int) (r1 r2:List Int) (r3:Bool) (w:World) (hs:SurfC w A0_0 A0_1 c0_0 c0_1 l0_0 l0_1) (h:impl_CanonOf.f k l0_0 l0_1=some (r1,r2,r3)) :
    Calls Try.prog 50 #[.agg #[.slice A0_0 l0_0.length c0_0,.slice A0_1 l0_1.length c0_1]] w fun e w'=>∃ B0 b0 B1 b1,e = .returned (.tuple #[.agg #[.slice B0 r1.length b0,.slice B1 r2.length b1],.bool r3])∧SurfF w' (fun k=>w.heap.size≤k) B0 B1 b0 b1 r1 r2∧Below w.heap.size w w':=by
  have hu:=Try.underlying27
  have HS:=aM hs
  clear hs
  unfold impl_CanonOf.f at h
  obtain ⟨l,hl,h⟩:=oB h
  have HL:=aM hl
  clear hl
  have H:=aM h
  clear h
  go_enter Try.func50,Try.ntmps50
  have HQ:∀ (W:World),Below w.heap.size w W→Calls Try.prog 73 #[.agg #[.slice A0_0 l0_0.length c0_0,.slice A0_1 l0_1.length c0_1]] W fun e w'=>∃ A c,e = .returned (.slice A l.length c)∧l.length≤c∧(Kd.F k27 w' (fun k=>W.heap.size≤k) A l.length l∧∀ a,A=some a→W.heap.size≤a.block∧a.block<w'.heap.size)∧Below W.heap.size W w':=fun W hW=>by
    refine(impl_namedFrom.calls k _ _ l0_0 _ _ l0_1 l W (HS.out.below hW).g0 HS.out.l0 (HS.out.below hW).g1 HS.out.l1 HL.out).mono ?_
    rintro e w' ⟨v,rfl,hv,hb⟩
    obtain ⟨A,c,rfl,hc,hC⟩:=S_sliceC hv
    exact ⟨A,c,rfl,hc,hC,hb⟩
  have HQ2:=aM HQ
  clear HQ
  by_cases hz:l=[]
  · have h:=H.out
    subst hz
    rw [if_pos (by simp),if_pos rfl] at h
    simp only [Option.some.injEq,Prod.mk.injEq] at h
    obtain ⟨rfl,rfl,rfl⟩:=h
    clear H HL
    go_wp2_with (first
      | ((with_reducible refine gate_dst (N:=1) rfl ?_);refine bEv (cs:=#[.slice A0_0 l0_0.length c0_0,.slice A0_1 l0_1.length c0_1]) (t:=27) ?_;intro gb1 hg1 w1 hbox1 hb1;have BK1:=aM hbox1;have HB1:=aM hb1;clear hbox1 hb1 hg1)
      | ((with_reducible refine gate_dst (N:=2) rfl ?_);refine bEv (cs:=#[.slice none 0 0,.slice none 0 0]) (t:=27) ?_;intro gb2 hg2 w2 hbox2 hb2;have BK2:=aM hbox2;have HB2:=aM (below_step HB1.out hb2);have HG2:=aM (show w.heap.size≤gb2 by rw [hg2];exact below_size HB1.out);have BK12:=aM (blk_below BK1.out hb2);clear BK1 HB1;have hc10:w2.cell? ⟨gb1,0,none⟩=some (.slice A0_0 l0_0.length c0_0):=(blk_cell BK12.out 0).trans rfl;have hc11:w2.cell? ⟨gb1,1,none⟩=some (.slice A0_1 l0_1.length c0_1):=(blk_cell BK12.out 1).trans rfl;clear hbox2 hb2 hg2)
      | (go_at_call 73;refine(HQ2.out _ HB2.out).mono ?_;rintro e w3 ⟨A,c,rfl,hc,hC,hb⟩;have HB3:=aM (below_step HB2.out hb);have BK3:=aM (blk_below BK2.out hb);clear hc10 hc11 hb hc hC HB2 BK2)
      | (refine wpList_store_row rfl 27 (.tmp 2) (.tmp 10) rfl gb2 #[.slice none 0 0,.slice none 0 0] rfl rfl 27 #[.slice none 0 0,.slice none 0 0] BK3.out (by kernel_rfl) rfl (by simp [Value.oneCell']) ?_))
    have HCF:=aM (setRow_heap w3 gb2 _ #[.slice none 0 0,.slice none 0 0] _ _ BK3.out)
    refine bodyPost_ret (results_ct rfl _ _ gb2 27 #[.slice none 0 0,.slice none 0 0] (0,0) _ rfl HCF.out hu rfl (by kernel_rfl)) rfl ?_
    exact ⟨none,0,none,0,rfl,fun _ _=>⟨Nat.le_refl _,Kd.C_nil _ _,Nat.le_refl _,Kd.C_nil _ _⟩,below_setRow HB3.out HG2.out _⟩
  · have h:=H.out
    by_cases hbig:l.length≤1000
    · rw [if_pos hbig,if_neg hz] at h
      obtain ⟨s,hs,h⟩:=oB h
      simp only [Option.some.injEq,Prod.mk.injEq] at h
      obtain ⟨rfl,rfl,rfl⟩:=h
      have HM:=aM hs
      clear hs H HL
      have hn:0<l.length:=List.length_pos_iff.mpr hz
      have hn0:decide ((l.length:Int)=0)=false:=decide_eq_false (by omega)
      have hn1:((l.length:Int) == 0)=false:=by simpa using hz
      have HN:=aM hn
      have HG:=aM hbig
      have hn2:(l.length=0)=False:=by simp;exact hz
      have hn3:((l.length:Int)=0)=False:=by simp;exact hz
      clear hn hbig hz
      go_wp2_with (first
        | ((with_reducible refine gate_dst (N:=1) rfl ?_);refine bEv (cs:=#[.slice A0_0 l0_0.length c0_0,.slice A0_1 l0_1.length c0_1]) (t:=27) ?_;intro gb1 hg1 w1 hbox1 hb1;have BK1:=aM hbox1;have HB1:=aM hb1;clear hbox1 hb1 hg1)
        | ((with_reducible refine gate_dst (N:=2) rfl ?_);refine bEv (cs:=#[.slice none 0 0,.slice none 0 0]) (t:=27) ?_;intro gb2 hg2 w2 hbox2 hb2;have BK2:=aM hbox2;have HB2:=aM (below_step HB1.out hb2);have HG2:=aM (show w.heap.size≤gb2 by rw [hg2];exact below_size HB1.out);have BK12:=aM (blk_below BK1.out hb2);clear BK1 HB1;have hc10:w2.cell? ⟨gb1,0,none⟩=some (.slice A0_0 l0_0.length c0_0):=(blk_cell BK12.out 0).trans rfl;have hc11:w2.cell? ⟨gb1,1,none⟩=some (.slice A0_1 l0_1.length c0_1):=(blk_cell BK12.out 1).trans rfl;clear hbox2 hb2 hg2)
        | (go_at_call 73;refine(HQ2.out _ HB2.out).mono ?_;rintro e w3 ⟨A,c,rfl,hc,hC,hb⟩;have HB3:=aM (below_step HB2.out hb);have BK3:=aM (blk_below BK2.out hb);have HC3:=aM hC;have HL2:=aM (below_size HB2.out);clear hc10 hc11 hb hc hC HB2)
        | (go_at_call 74;refine(minf_calls k A c l s _ _ HC3.out.1 HC3.out.2 HN.out HG.out HM.out).mono ?_;rintro e w4 ⟨B0,b0,B1,b1,rfl,hS,hb⟩;have HB4:=aM (below_step HB3.out hb);have BK4:=aM (blk_below BK3.out hb);have HS4:=aM (SurfF.setRowF hS hb (show gb2<w2.heap.size from blk_lt BK2.out) HL2.out);clear hb hS HB3 BK3)
        | (refine wpList_store_row rfl 27 (.tmp 2) (.tmp 12) rfl gb2 #[.slice B0 s.f0.length b0,.slice B1 s.f1.length b1] rfl rfl 27 #[.slice none 0 0,.slice none 0 0] BK4.out (by kernel_rfl) rfl (by simp [Value.oneCell']) ?_))
      have HCF:=aM (setRow_heap w4 gb2 _ #[.slice B0 s.f0.length b0,.slice B1 s.f1.length b1] _ _ BK4.out)
      refine bodyPost_ret (results_ct rfl _ _ gb2 27 #[.slice B0 s.f0.length b0,.slice B1 s.f1.length b1] (0,0) _ rfl HCF.out hu rfl (by kernel_rfl)) rfl ?_
      exact ⟨B0,b0,B1,b1,rfl,HS4.out _,below_setRow HB4.out HG2.out _⟩
    · rw [if_neg hbig] at h
      exact absurd h (by simp)
theorem impl_CanonOf.calls (k:Nat) (A0_0:Option Addr) (c0_0:Nat) (l0_0:List Int) (A0_1:Option Addr) (c0_1:Nat) (l0_1:List Int) (r1 r2:List Int) (r3:Bool) (w:World) (hs:SurfC w A0_0 A0_1 c0_0 c0_1 l0_0 l0_1) (h:impl_CanonOf.f k l0_0 l0_1=some (r1,r2,r3)) :
    Calls Try.prog 50 #[.agg #[.slice A0_0 l0_0.length c0_0,.slice A0_1 l0_1.length c0_1]] w fun e w'=>∃ B0 b0 B1 b1,e = .returned (.tuple #[.agg #[.slice B0 r1.length b0,.slice B1 r2.length b1],.bool r3])∧SurfC w' B0 B1 b0 b1 r1 r2∧Below w.heap.size w w' :=
  (impl_CanonOf.callsF k A0_0 c0_0 l0_0 A0_1 c0_1 l0_1 r1 r2 r3 w hs h).mono fun e w' ⟨B0,b0,B1,b1,he,hS,hb⟩=>⟨B0,b0,B1,b1,he,Foot.now hS,hb⟩

/-! ### impl_copyInts: function 94 -/
def impl_copyInts.f (l0:List Int):Option (List Int):=(some (([]:List Int):List Int)).bind fun y197=>(if y197.length+l0.length<17592186044416 then (some (y197 ++ l0)) else (none))
theorem impl_copyInts.calls (A0:Option Addr) (c0:Nat) (l0:List Int) (r:List Int) (w:World) (hr0:Kd.C (Kd.int .i64) w A0 l0.length l0) (hc0:l0.length≤c0) (h:impl_copyInts.f l0=some r) :
  Calls Try.prog 94 #[.slice A0 l0.length c0] w fun e w'=>∃ v0_:Value,e = .returned (v0_)∧Kd.R (Kd.int .i64) 3 w' w.heap.size (fun _=>True) v0_ r∧Below w.heap.size w w':=by
 have HR0:=aM hr0
 have HC0:=aM hc0
 clear hr0 hc0
 have HB:=aM (Below.refl w.heap.size w)
 have H:((some (([]:List Int):List Int)).bind fun y197=>(if y197.length+l0.length<17592186044416 then (some (y197 ++ l0)) else (none)))=some r:=h
 clear h
 obtain ⟨y197,hy197⟩:∃ y_:List Int,y_=(([]:List Int)):=⟨_,rfl⟩
 replace H:(if y197.length+l0.length<17592186044416 then (some (y197 ++ l0)) else (none))=some r:=by first|(rw [hy197];with_reducible exact H)|(have H2_:=(Option.bind_some _ _).symm.trans H;rw [hy197];with_reducible exact H2_)|(have H2_:=(Option.bind_some _ _).symm.trans H;with_reducible exact H2_)|with_reducible exact H|(rw [hy197];exact H)|exact H
 have Ny197:=aM hy197
 clear hy197
 by_cases c2:y197.length+l0.length<17592186044416
 {
 rw [if_pos c2] at H
 have LMc2:=aM c2
 clear c2
 obtain ⟨y200,hy200⟩:∃ y_:List Int,y_=(y197 ++ l0):=⟨_,rfl⟩
 replace H:(some y200)=some r:=by first|(rw [hy200];with_reducible exact H)|(have H2_:=(Option.bind_some _ _).symm.trans H;rw [hy200];with_reducible exact H2_)|(have H2_:=(Option.bind_some _ _).symm.trans H;with_reducible exact H2_)|with_reducible exact H|(rw [hy200];exact H)|exact H
 have Ny200:=aM hy200
 clear hy200
 obtain rfl:=Option.some.inj H
 go_enter Try.func94,Try.ntmps94
 go_wp2_with (first|((with_reducible refine gate_dst (N:=3) rfl ?_);refine Kd.R_lit (Kd.int .i64) _ 3 ?hg (N:=3) ?hd (xs:=([]:List Int)) (inner:=[]) (ok:=fun _=>True) (okp:=fun _=>True) ?hr ?hp (fun _ hk=>hk) trivial (Below.refl _ _) (Nat.le_refl _) (by simp) ?_;(case hd=>rfl);(case hg=>rfl);(case hr=>first|(go_simp;done)|(go_simp;rfl));(case hp=>exact(Reps.none _ _));intro v198 w3 ho4 hb hg_ hnew_;clear hg_ hnew_;(first|rw [← Ny197.out] at ho4|(simp only [Int.reduceToNat] at ho4;rw [← Ny197.out] at ho4));have HO199:=aM (Kd.R_lower ho4 (below_size (bX HB.out)));replace HB:=aM (below_step (bX HB.out) hb);clear hb ho4)|((with_reducible refine gate_builtin (b:=.append) (xs:=#[.tmp 3,.tmp 4]) rfl ?_);at_builtin;refine Kd.R_append_rows (Kd.int .i64) (w0:=w) w.heap.size rfl (.tmp 3) (.tmp 4) 22 3 (.int .i64 0) 8 rfl Try.underlying22 info3 rfl (by decide) (by omega) v198 y197 l0 _ _ _ (fun _=>True) (fun _=>False) rfl rfl ?aO ?aR (fun _ _ h=>h) (fun _ h=>h.elim) ?aF ?aB ?aS ?aL ?_;(case aR=>exact cX (Kd.C_below HR0.out HB.out));(case aB=>exact(bX HB.out));(case aF=>exact(fun _ _=>trivial));(case aO=>exact(rX HO199.out));(case aS=>exact(below_size (bX HB.out)));(case aL=>have:=LMc2.out;omega);intro v201 w5 ho hb hg hat;rw [← Ny200.out] at ho;replace HB:=aM (hb);have HO202:=aM (ho);clear HO199 ho hb hg hat))
 go_ret
 exact ⟨_,eX,by(with_reducible repeat(first|apply rA|apply rN|apply rD));exact HO202.out,bX HB.out⟩
 }
 {
 rw [if_neg c2] at H
 exact absurd H (by simp)
 }

/-! ### impl_ThenPerm: function 109 -/
mutual
def impl_ThenPerm.j0 : Nat→List Int→List Int→Bool→Option (List Int)
 | 0,_,_,_=>none
 | k+1,x0,x1,x22=>if x22=true then (some ([]:List Int)) else (if 0≤(x0.length:Int) then (if ((x0.length:Int):Int).toNat≤35184372088832 then (impl_ThenPerm.l0 k x1 (List.replicate ((x0.length:Int):Int).toNat 0) x0 (x0.length:Int) 0) else (none)) else (none))
def impl_ThenPerm.l0 : Nat→List Int→List Int→List Int→Int→Int→Option (List Int)
 | 0,_,_,_,_,_=>none
 | k+1,x1,x5,x26,x27,x28=>if x28<x27 then (if 0≤x28 then (if x28<(x26.length:Int) then (if 0≤(rd x26 x28) then (if (rd x26 x28)<(x1.length:Int) then (if x28<(x5.length:Int) then (impl_ThenPerm.l0 k x1 (x5.set (x28:Int).toNat (rd x1 (rd x26 x28))) x26 x27 (wrap64 (x28+1))) else (none)) else (none)) else (none)) else (none)) else (none)) else (some x5)
end
def impl_ThenPerm.f (k:Nat) (l0:List Int) (l1:List Int):Option (List Int):=(impl_PermOk.f l0).bind fun t203=>(if t203=true then ((impl_PermOk.f l1).bind fun t204=>(if t204=true then (impl_ThenPerm.j0 k l0 l1 ((l0.length:Int) != (l1.length:Int))) else (impl_ThenPerm.j0 k l0 l1 true))) else (impl_ThenPerm.j0 k l0 l1 true))
theorem impl_ThenPerm.calls (k:Nat) (A0:Option Addr) (c0:Nat) (l0:List Int) (A1:Option Addr) (c1:Nat) (l1:List Int) (r:List Int) (w:World) (hr0:Kd.C (Kd.int .i64) w A0 l0.length l0) (hc0:l0.length≤c0) (hr1:Kd.C (Kd.int .i64) w A1 l1.length l1) (hc1:l1.length≤c1) (h:impl_ThenPerm.f k l0 l1=some r) :
  Calls Try.prog 109 #[.slice A0 l0.length c0,.slice A1 l1.length c1] w fun e w'=>∃ v0_:Value,e = .returned (v0_)∧Kd.R (Kd.int .i64) 3 w' w.heap.size (fun _=>True) v0_ r∧Below w.heap.size w w':=by
 have HR0:=aM hr0
 have HC0:=aM hc0
 clear hr0 hc0
 have HR1:=aM hr1
 have HC1:=aM hc1
 clear hr1 hc1
 have HB:=aM (Below.refl w.heap.size w)
 have H:((impl_PermOk.f l0).bind fun t203=>(if t203=true then ((impl_PermOk.f l1).bind fun t204=>(if t204=true then (impl_ThenPerm.j0 k l0 l1 ((l0.length:Int) != (l1.length:Int))) else (impl_ThenPerm.j0 k l0 l1 true))) else (impl_ThenPerm.j0 k l0 l1 true)))=some r:=h
 clear h
 have HC3:=aM H
 clear H
 go_enter Try.func109,Try.ntmps109
 go_upto_region 1 with (fail)
 go_cut [22] (fun v22 wc=>∃ (kq:Nat) (x22_2:Bool),v22 = .bool x22_2∧Aside0 (impl_ThenPerm.j0 kq l0 l1 x22_2=some r)∧Aside0 (kq≤k)∧Aside0 (Below w.heap.size w wc))
 case first =>
  have H:=HC3.out
  clear HC3
  replace H:=oB H
  obtain ⟨t203,A40,H⟩:=H
  have A4:=aM A40
  clear A40
  by_cases c5:t203=true
  {
  subst c5
  have H1:((impl_PermOk.f l1).bind fun t204=>(if t204=true then (impl_ThenPerm.j0 k l0 l1 ((l0.length:Int) != (l1.length:Int))) else (impl_ThenPerm.j0 k l0 l1 true)))=some r:=by rw [if_pos rfl] at H;exact H
  clear H
  have H:=H1
  clear H1
  replace H:=oB H
  obtain ⟨t204,A60,H⟩:=H
  have A6:=aM A60
  clear A60
  by_cases c7:t204=true
  {
  subst c7
  have H1:(impl_ThenPerm.j0 k l0 l1 ((l0.length:Int) != (l1.length:Int)))=some r:=by rw [if_pos rfl] at H;exact H
  clear H
  have H:=H1
  clear H1
  have H':=aM H
  clear H
  go_wp2_with (first|((with_reducible refine gate_callee (f:=117) rfl ?_);refine goesL_ (some 9) rfl rfl Try.func117 (by kernel_rfl) rfl #[.slice A0 l0.length c0] rfl aX ?_;(with_reducible refine(impl_PermOk.calls _ _ l0 true _ ?side1 ?side2 A4.out).mono ?_);(case side1=>exact cX (Kd.C_below HR0.out HB.out));(case side2=>exact HC0.out);rintro e w8 ⟨rfl,hb⟩;refine ⟨_,rfl,?_⟩;replace HB:=aM (below_step (bX HB.out) hb);(try clear hb);(try clear hk))|(go_at_call 117;(with_reducible refine(impl_PermOk.calls _ _ l1 true _ ?side1 ?side2 A6.out).mono ?_);(case side1=>exact cX (Kd.C_below HR1.out HB.out));(case side2=>exact HC1.out);rintro e w9 ⟨rfl,hb⟩;replace HB:=aM (below_step (bX HB.out) hb);(try clear hb);(try clear hk)))
  go_meet
  case rel=>exact ⟨_,(((l0.length:Int) != (l1.length:Int))),vX,H',⟨by first|omega|exact Nat.le_refl _⟩,⟨bX HB.out⟩⟩
  }
  {
  replace c7:=Bool.eq_false_iff.mpr c7
  subst c7
  have H1:(impl_ThenPerm.j0 k l0 l1 true)=some r:=by rw [if_neg (show ¬ (false=true) by decide)] at H;exact H
  clear H
  have H:=H1
  clear H1
  have H':=aM H
  clear H
  go_wp2_with (first|((with_reducible refine gate_callee (f:=117) rfl ?_);refine goesL_ (some 9) rfl rfl Try.func117 (by kernel_rfl) rfl #[.slice A0 l0.length c0] rfl aX ?_;(with_reducible refine(impl_PermOk.calls _ _ l0 true _ ?side1 ?side2 A4.out).mono ?_);(case side1=>exact cX (Kd.C_below HR0.out HB.out));(case side2=>exact HC0.out);rintro e w10 ⟨rfl,hb⟩;refine ⟨_,rfl,?_⟩;replace HB:=aM (below_step (bX HB.out) hb);(try clear hb);(try clear hk))|(go_at_call 117;(with_reducible refine(impl_PermOk.calls _ _ l1 false _ ?side1 ?side2 A6.out).mono ?_);(case side1=>exact cX (Kd.C_below HR1.out HB.out));(case side2=>exact HC1.out);rintro e w11 ⟨rfl,hb⟩;replace HB:=aM (below_step (bX HB.out) hb);(try clear hb);(try clear hk)))
  go_meet
  case rel=>exact ⟨_,(true),vX,H',⟨by first|omega|exact Nat.le_refl _⟩,⟨bX HB.out⟩⟩
  }
  }
  {
  replace c5:=Bool.eq_false_iff.mpr c5
  subst c5
  have H1:(impl_ThenPerm.j0 k l0 l1 true)=some r:=by rw [if_neg (show ¬ (false=true) by decide)] at H;exact H
  clear H
  have H:=H1
  clear H1
  have H':=aM H
  clear H
  go_wp2_with (first|((with_reducible refine gate_callee (f:=117) rfl ?_);refine goesL_ (some 9) rfl rfl Try.func117 (by kernel_rfl) rfl #[.slice A0 l0.length c0] rfl aX ?_;(with_reducible refine(impl_PermOk.calls _ _ l0 false _ ?side1 ?side2 A4.out).mono ?_);(case side1=>exact cX (Kd.C_below HR0.out HB.out));(case side2=>exact HC0.out);rintro e w12 ⟨rfl,hb⟩;refine ⟨_,rfl,?_⟩;replace HB:=aM (below_step (bX HB.out) hb);(try clear hb);(try clear hk)))
  go_meet
  case rel=>exact ⟨_,(true),vX,H',⟨by first|omega|exact Nat.le_refl _⟩,⟨bX HB.out⟩⟩
  }
 case rest =>
 clear HC3
 try clear c1
 try clear c5
 try clear c7
 obtain ⟨kq,x22_2,rfl,HA,HJ2,HB⟩:=hcut
 cases kq with
 | zero=>exact absurd HA.out (by simp [impl_ThenPerm.j0])
 | succ kj2 =>
 have H:=HA.out
 clear HA
 simp only [impl_ThenPerm.j0] at H
 by_cases c13:x22_2=true
 {
 subst c13
 have H1:(some ([]:List Int))=some r:=by rw [if_pos rfl] at H;exact H
 clear H
 have H:=H1
 clear H1
 obtain rfl:=Option.some.inj H
 go_wp2
 go_ret
 exact ⟨_,eX,by first|exact Kd.R_nil _ _ _ _ _|exact Kd.N_nil _ _ _ _ _|exact Kd.V_nil _ _ _ _ _|exact Kd.Q_nil _ _ _ _ _|exact Kd.S_nil _ _ _ _ _,bX HB.out⟩
 }
 {
 replace c13:=Bool.eq_false_iff.mpr c13
 subst c13
 have H1:(if 0≤(l0.length:Int) then (if ((l0.length:Int):Int).toNat≤35184372088832 then (impl_ThenPerm.l0 kj2 l1 (List.replicate ((l0.length:Int):Int).toNat 0) l0 (l0.length:Int) 0) else (none)) else (none))=some r:=by rw [if_neg (show ¬ (false=true) by decide)] at H;exact H
 clear H
 have H:=H1
 clear H1
 by_cases c14:0≤(l0.length:Int)
 {
 rw [if_pos c14] at H
 have c14b0:=eq_true c14
 have c14b1:=decide_eq_true c14
 clear c14
 by_cases c15:((l0.length:Int):Int).toNat≤35184372088832
 {
 rw [if_pos c15] at H
 have c15b0:=eq_true c15
 have c15b1:=decide_eq_true c15
 clear c15
 obtain ⟨y205,hy205⟩:∃ y_:List Int,y_=(List.replicate ((l0.length:Int):Int).toNat 0):=⟨_,rfl⟩
 replace H:(impl_ThenPerm.l0 kj2 l1 y205 l0 (l0.length:Int) 0)=some r:=by first|(rw [hy205];with_reducible exact H)|(have H2_:=(Option.bind_some _ _).symm.trans H;rw [hy205];with_reducible exact H2_)|(have H2_:=(Option.bind_some _ _).symm.trans H;with_reducible exact H2_)|with_reducible exact H|(rw [hy205];exact H)|exact H
 have Ny205:=aM hy205
 clear hy205
 have H':=aM H
 clear H
 go_wp2_with (first|((with_reducible refine gate_dst (N:=25) rfl ?_);(try(refine gate_guard (by rfl) ?_;dsimp only));refine Kd.R_make (Kd.int .i64) _ 3 rfl (N:=25) rfl 22 _ _ rfl (l0.length:Int) rfl rfl Try.underlying22 (.int .i64 0) 8 info3 rfl (by decide) (by omega) 0 (ok:=fun _=>True) (okp:=fun _=>True) rfl (fun _ hk=>hk) trivial (dX) (Nat.le_trans (Nat.mul_le_mul_right _ (dX:(l0.length:Int).toNat≤35184372088832)) (by omega)) (Below.refl _ _) (Nat.le_refl _) ?_;intro v206 w16 ho17 hb hg_ hnew_;clear hg_ hnew_;(first|rw [← Ny205.out] at ho17|(simp only [Int.reduceToNat] at ho17;rw [← Ny205.out] at ho17));have HO207:=aM (Kd.R_lower ho17 (below_size (bX HB.out)));replace HB:=aM (below_step (bX HB.out) hb);clear hb ho17))
 go_loopg [28] kj2 (fun kq v28 w'=>∃ (x5_2:List Int) (x28_2:Int),v28 = .int .i64 x28_2∧Aside0 (impl_ThenPerm.l0 kq l1 x5_2 l0 (l0.length:Int) x28_2=some r)∧Aside0 (kq≤kj2)∧Aside0 (Kd.R (Kd.int .i64) 3 w' w.heap.size (fun _=>True) v206 x5_2)∧Aside0 (Below w.heap.size w w'))
 case atStart=>exact ⟨(y205),(0),vX,H',⟨Nat.le_refl _⟩,⟨rX HO207.out⟩,⟨bX HB.out⟩⟩
 case round =>
 clear H'
 try clear c1
 try clear c5
 try clear c7
 try clear c13
 try clear c14
 try clear c14b0
 try clear c14b1
 try clear c15
 try clear c15b0
 try clear c15b1
 obtain ⟨x5_2,x28_2,rfl,HA,HK2,HO_5,HB⟩:=hrel
 cases gk with
 | zero=>exact absurd HA.out (by simp [impl_ThenPerm.l0])
 | succ k2 =>
 have H:=HA.out
 clear HA
 simp only [impl_ThenPerm.l0] at H
 by_cases c18:x28_2<(l0.length:Int)
 {
 rw [if_pos c18] at H
 have c18b0:=decide_eq_true c18
 clear c18
 by_cases c19:0≤x28_2
 {
 rw [if_pos c19] at H
 have c19b0:=decide_eq_true c19
 clear c19
 by_cases c20:x28_2<(l0.length:Int)
 {
 rw [if_pos c20] at H
 have c20b0:=decide_eq_true c20
 clear c20
 by_cases c21:0≤(rd l0 x28_2)
 {
 rw [if_pos c21] at H
 have c21b0:=decide_eq_true c21
 clear c21
 by_cases c22:(rd l0 x28_2)<(l1.length:Int)
 {
 rw [if_pos c22] at H
 have c22b0:=decide_eq_true c22
 clear c22
 by_cases c23:x28_2<(x5_2.length:Int)
 {
 rw [if_pos c23] at H
 have c23b0:=decide_eq_true c23
 clear c23
 obtain ⟨y210,hy210⟩:∃ y_:List Int,y_=(x5_2.set (x28_2:Int).toNat (rd l1 (rd l0 x28_2))):=⟨_,rfl⟩
 replace H:(impl_ThenPerm.l0 k2 l1 y210 l0 (l0.length:Int) (wrap64 (x28_2+1)))=some r:=by first|(rw [hy210];with_reducible exact H)|(have H2_:=(Option.bind_some _ _).symm.trans H;rw [hy210];with_reducible exact H2_)|(have H2_:=(Option.bind_some _ _).symm.trans H;with_reducible exact H2_)|with_reducible exact H|(rw [hy210];exact H)|exact H
 have Ny210:=aM hy210
 clear hy210
 have H':=aM H
 clear H
 have p208:0≤(x28_2:Int):=dX
 have q208:x28_2<(l0.length:Int):=dX
 obtain ⟨ad208,e208,hx208_0⟩:=Kd.at_int HR0.out x28_2 p208 q208
 cases e208
 replace hx208_0:=(HB.out.cell (World.block_lt_of_cell? w _ hx208_0)).trans hx208_0
 replace p208:=eq_true p208
 replace q208:=eq_true q208
 have p209:0≤((rd l0 x28_2):Int):=dX
 have q209:(rd l0 x28_2)<(l1.length:Int):=dX
 obtain ⟨ad209,e209,hx209_0⟩:=Kd.at_int HR1.out (rd l0 x28_2) p209 q209
 cases e209
 replace hx209_0:=(HB.out.cell (World.block_lt_of_cell? w _ hx209_0)).trans hx209_0
 replace p209:=eq_true p209
 replace q209:=eq_true q209
 have p24:0≤(x28_2:Int):=dX
 have q24:(x28_2:Int)<((x5_2.length:Int):Int):=dX
 obtain ⟨go24,co24,eo24,gb24,gl24,cl24,HG24⟩:=Kd.R_form HO_5.out (by omega)
 (first|cases eo24|(injection eo24 with ea_ en_ ec_;(first|subst ea_|(injection ea_ with ea_;subst ea_));subst ec_;clear en_))
 have GB24:=aM gb24
 have GG24:=aM HG24
 clear gb24 gl24 HG24
 obtain ⟨hx24_0,hf24_0⟩:=Kd.R_celln 0 HO_5.out (x28_2:Int) p24 q24
 replace p24:=eq_true p24
 replace q24:=eq_true q24
 have HP25:=Kd.R_putg HO_5.out (x28_2:Int) (rd l1 (rd l0 x28_2))
 go_wp2_with (first|((with_reducible refine gate_store (t:=3) (p:=39) rfl ?_);refine store_event (t:=3) (p:=39) (v:=?vo_w26) (w1:=(wr.setCell ⟨go24,(x28_2:Int).toNat,none⟩ (.int .i64 (rd l1 (rd l0 x28_2))))) ?hg ?ho ?hn ?hr ?_;(case ho=>rfl);(case hg=>rfl);(case hn=>rfl);(case hr=>first|(go_simp;done)|(go_simp;rfl));intro w26 hw;have hg:wr.grownBy w26 (some go24):=(by rw [hw];exact HP25.2);have hp_:Kd.R (Kd.int .i64) 3 w26 w.heap.size (fun _=>True) (.slice (some ⟨go24,0,none⟩) x5_2.length co24) y210:=(by rw [hw,Ny210.out];exact HP25.1);clear HP25;replace HO_5:=aM (hp_);replace HB:=aM ((by rw [hw];exact below_set (HB.out) GB24.out:Below w.heap.size w w26));clear hg hw hp_))
 go_roundg k2
 case measure=>have:=HJ2.out;have:=HK2.out;omega
 case rel=>exact ⟨(y210),(wrap64 (x28_2+1)),vX,H',⟨by have:=HJ2.out;have:=HK2.out;omega⟩,⟨rX HO_5.out⟩,⟨bX HB.out⟩⟩
 }
 {
 rw [if_neg c23] at H
 exact absurd H (by simp)
 }
 }
 {
 rw [if_neg c22] at H
 exact absurd H (by simp)
 }
 }
 {
 rw [if_neg c21] at H
 exact absurd H (by simp)
 }
 }
 {
 rw [if_neg c20] at H
 exact absurd H (by simp)
 }
 }
 {
 rw [if_neg c19] at H
 exact absurd H (by simp)
 }
 }
 {
 rw [if_neg c18] at H
 have c18b0:=decide_eq_false c18
 clear c18
 obtain rfl:=Option.some.inj H
 go_wp2
 go_ret
 exact ⟨_,eX,by(with_reducible repeat(first|apply rA|apply rN|apply rD));exact HO_5.out,bX HB.out⟩
 }
 }
 {
 rw [if_neg c15] at H
 exact absurd H (by simp)
 }
 }
 {
 rw [if_neg c14] at H
 exact absurd H (by simp)
 }
 }

/-! ### impl_InversePerm: function 110 -/
def impl_InversePerm.l0 : Nat→List Int→List Int→Int→Int→Option (List Int)
 | 0,_,_,_,_=>none
 | k+1,x3,x12,x13,x14=>if x14<x13 then (if 0≤x14 then (if x14<(x12.length:Int) then (if 0≤(rd x12 x14) then (if (rd x12 x14)<(x3.length:Int) then (impl_InversePerm.l0 k (x3.set ((rd x12 x14):Int).toNat x14) x12 x13 (wrap64 (x14+1))) else (none)) else (none)) else (none)) else (none)) else (some x3)
def impl_InversePerm.f (k:Nat) (l0:List Int):Option (List Int):=(impl_PermOk.f l0).bind fun t211=>(if t211=true then (if 0≤(l0.length:Int) then (if ((l0.length:Int):Int).toNat≤35184372088832 then (impl_InversePerm.l0 k (List.replicate ((l0.length:Int):Int).toNat 0) l0 (l0.length:Int) 0) else (none)) else (none)) else (some ([]:List Int)))
theorem impl_InversePerm.calls (k:Nat) (A0:Option Addr) (c0:Nat) (l0:List Int) (r:List Int) (w:World) (hr0:Kd.C (Kd.int .i64) w A0 l0.length l0) (hc0:l0.length≤c0) (h:impl_InversePerm.f k l0=some r) :
  Calls Try.prog 110 #[.slice A0 l0.length c0] w fun e w'=>∃ v0_:Value,e = .returned (v0_)∧Kd.R (Kd.int .i64) 3 w' w.heap.size (fun _=>True) v0_ r∧Below w.heap.size w w':=by
 have HR0:=aM hr0
 have HC0:=aM hc0
 clear hr0 hc0
 have HB:=aM (Below.refl w.heap.size w)
 have H:((impl_PermOk.f l0).bind fun t211=>(if t211=true then (if 0≤(l0.length:Int) then (if ((l0.length:Int):Int).toNat≤35184372088832 then (impl_InversePerm.l0 k (List.replicate ((l0.length:Int):Int).toNat 0) l0 (l0.length:Int) 0) else (none)) else (none)) else (some ([]:List Int))))=some r:=h
 clear h
 replace H:=oB H
 obtain ⟨t211,A20,H⟩:=H
 have A2:=aM A20
 clear A20
 by_cases c3:t211=true
 {
 subst c3
 have H1:(if 0≤(l0.length:Int) then (if ((l0.length:Int):Int).toNat≤35184372088832 then (impl_InversePerm.l0 k (List.replicate ((l0.length:Int):Int).toNat 0) l0 (l0.length:Int) 0) else (none)) else (none))=some r:=by rw [if_pos rfl] at H;exact H
 clear H
 have H:=H1
 clear H1
 by_cases c4:0≤(l0.length:Int)
 {
 rw [if_pos c4] at H
 have c4b0:=eq_true c4
 have c4b1:=decide_eq_true c4
 clear c4
 by_cases c5:((l0.length:Int):Int).toNat≤35184372088832
 {
 rw [if_pos c5] at H
 have c5b0:=eq_true c5
 have c5b1:=decide_eq_true c5
 clear c5
 obtain ⟨y212,hy212⟩:∃ y_:List Int,y_=(List.replicate ((l0.length:Int):Int).toNat 0):=⟨_,rfl⟩
 replace H:(impl_InversePerm.l0 k y212 l0 (l0.length:Int) 0)=some r:=by first|(rw [hy212];with_reducible exact H)|(have H2_:=(Option.bind_some _ _).symm.trans H;rw [hy212];with_reducible exact H2_)|(have H2_:=(Option.bind_some _ _).symm.trans H;with_reducible exact H2_)|with_reducible exact H|(rw [hy212];exact H)|exact H
 have Ny212:=aM hy212
 clear hy212
 have H':=aM H
 clear H
 go_enter Try.func110,Try.ntmps110
 go_wp2_with (first|((with_reducible refine gate_callee (f:=117) rfl ?_);refine goesL_ (some 7) rfl rfl Try.func117 (by kernel_rfl) rfl #[.slice A0 l0.length c0] rfl aX ?_;(with_reducible refine(impl_PermOk.calls _ _ l0 true _ ?side1 ?side2 A2.out).mono ?_);(case side1=>exact cX HR0.out);(case side2=>exact HC0.out);rintro e w6 ⟨rfl,hb⟩;refine ⟨_,rfl,?_⟩;replace HB:=aM (below_step (bX HB.out) hb);(try clear hb);(try clear hk))|((with_reducible refine gate_dst (N:=11) rfl ?_);refine Kd.R_make (Kd.int .i64) _ 3 rfl (N:=11) rfl 22 _ _ rfl (l0.length:Int) rfl rfl Try.underlying22 (.int .i64 0) 8 info3 rfl (by decide) (by omega) 0 (ok:=fun _=>True) (okp:=fun _=>True) rfl (fun _ hk=>hk) trivial (dX) (Nat.le_trans (Nat.mul_le_mul_right _ (dX:(l0.length:Int).toNat≤35184372088832)) (by omega)) (Below.refl _ _) (Nat.le_refl _) ?_;intro v213 w7 ho8 hb hg_ hnew_;clear hg_ hnew_;(first|rw [← Ny212.out] at ho8|(simp only [Int.reduceToNat] at ho8;rw [← Ny212.out] at ho8));have HO214:=aM (Kd.R_lower ho8 (below_size (bX HB.out)));replace HB:=aM (below_step (bX HB.out) hb);clear hb ho8))
 go_loopg [14] k (fun kq v14 w'=>∃ (x3_1:List Int) (x14_1:Int),v14 = .int .i64 x14_1∧Aside0 (impl_InversePerm.l0 kq x3_1 l0 (l0.length:Int) x14_1=some r)∧Aside0 (kq≤k)∧Aside0 (Kd.R (Kd.int .i64) 3 w' w.heap.size (fun _=>True) v213 x3_1)∧Aside0 (Below w.heap.size w w'))
 case atStart=>exact ⟨(y212),(0),vX,H',⟨Nat.le_refl _⟩,⟨rX HO214.out⟩,⟨bX HB.out⟩⟩
 case round =>
 clear H'
 try clear c3
 try clear c4
 try clear c4b0
 try clear c4b1
 try clear c5
 try clear c5b0
 try clear c5b1
 obtain ⟨x3_1,x14_1,rfl,HA,HK1,HO_3,HB⟩:=hrel
 cases gk with
 | zero=>exact absurd HA.out (by simp [impl_InversePerm.l0])
 | succ k1 =>
 have H:=HA.out
 clear HA
 simp only [impl_InversePerm.l0] at H
 by_cases c9:x14_1<(l0.length:Int)
 {
 rw [if_pos c9] at H
 have c9b0:=decide_eq_true c9
 clear c9
 by_cases c10:0≤x14_1
 {
 rw [if_pos c10] at H
 have c10b0:=decide_eq_true c10
 clear c10
 by_cases c11:x14_1<(l0.length:Int)
 {
 rw [if_pos c11] at H
 have c11b0:=decide_eq_true c11
 clear c11
 by_cases c12:0≤(rd l0 x14_1)
 {
 rw [if_pos c12] at H
 have c12b0:=decide_eq_true c12
 clear c12
 by_cases c13:(rd l0 x14_1)<(x3_1.length:Int)
 {
 rw [if_pos c13] at H
 have c13b0:=decide_eq_true c13
 clear c13
 obtain ⟨y216,hy216⟩:∃ y_:List Int,y_=(x3_1.set ((rd l0 x14_1):Int).toNat x14_1):=⟨_,rfl⟩
 replace H:(impl_InversePerm.l0 k1 y216 l0 (l0.length:Int) (wrap64 (x14_1+1)))=some r:=by first|(rw [hy216];with_reducible exact H)|(have H2_:=(Option.bind_some _ _).symm.trans H;rw [hy216];with_reducible exact H2_)|(have H2_:=(Option.bind_some _ _).symm.trans H;with_reducible exact H2_)|with_reducible exact H|(rw [hy216];exact H)|exact H
 have Ny216:=aM hy216
 clear hy216
 have H':=aM H
 clear H
 have p215:0≤(x14_1:Int):=dX
 have q215:x14_1<(l0.length:Int):=dX
 obtain ⟨ad215,e215,hx215_0⟩:=Kd.at_int HR0.out x14_1 p215 q215
 cases e215
 replace hx215_0:=(HB.out.cell (World.block_lt_of_cell? w _ hx215_0)).trans hx215_0
 replace p215:=eq_true p215
 replace q215:=eq_true q215
 have p14:0≤((rd l0 x14_1):Int):=dX
 have q14:((rd l0 x14_1):Int)<((x3_1.length:Int):Int):=dX
 obtain ⟨go14,co14,eo14,gb14,gl14,cl14,HG14⟩:=Kd.R_form HO_3.out (by omega)
 (first|cases eo14|(injection eo14 with ea_ en_ ec_;(first|subst ea_|(injection ea_ with ea_;subst ea_));subst ec_;clear en_))
 have GB14:=aM gb14
 have GG14:=aM HG14
 clear gb14 gl14 HG14
 obtain ⟨hx14_0,hf14_0⟩:=Kd.R_celln 0 HO_3.out ((rd l0 x14_1):Int) p14 q14
 replace p14:=eq_true p14
 replace q14:=eq_true q14
 have HP15:=Kd.R_putg HO_3.out ((rd l0 x14_1):Int) x14_1
 go_wp2_with (first|((with_reducible refine gate_store (t:=3) (p:=22) rfl ?_);refine store_event (t:=3) (p:=22) (v:=?vo_w16) (w1:=(wr.setCell ⟨go14,((rd l0 x14_1):Int).toNat,none⟩ (.int .i64 x14_1))) ?hg ?ho ?hn ?hr ?_;(case ho=>rfl);(case hg=>rfl);(case hn=>rfl);(case hr=>first|(go_simp;done)|(go_simp;rfl));intro w16 hw;have hg:wr.grownBy w16 (some go14):=(by rw [hw];exact HP15.2);have hp_:Kd.R (Kd.int .i64) 3 w16 w.heap.size (fun _=>True) (.slice (some ⟨go14,0,none⟩) x3_1.length co14) y216:=(by rw [hw,Ny216.out];exact HP15.1);clear HP15;replace HO_3:=aM (hp_);replace HB:=aM ((by rw [hw];exact below_set (HB.out) GB14.out:Below w.heap.size w w16));clear hg hw hp_))
 go_roundg k1
 case measure=>have:=HK1.out;omega
 case rel=>exact ⟨(y216),(wrap64 (x14_1+1)),vX,H',⟨by have:=HK1.out;omega⟩,⟨rX HO_3.out⟩,⟨bX HB.out⟩⟩
 }
 {
 rw [if_neg c13] at H
 exact absurd H (by simp)
 }
 }
 {
 rw [if_neg c12] at H
 exact absurd H (by simp)
 }
 }
 {
 rw [if_neg c11] at H
 exact absurd H (by simp)
 }
 }
 {
 rw [if_neg c10] at H
 exact absurd H (by simp)
 }
 }
 {
 rw [if_neg c9] at H
 have c9b0:=decide_eq_false c9
 clear c9
 obtain rfl:=Option.some.inj H
 go_wp2
 go_ret
 exact ⟨_,eX,by(with_reducible repeat(first|apply rA|apply rN|apply rD));exact HO_3.out,bX HB.out⟩
 }
 }
 {
 rw [if_neg c5] at H
 exact absurd H (by simp)
 }
 }
 {
 rw [if_neg c4] at H
 exact absurd H (by simp)
 }
 }
 {
 replace c3:=Bool.eq_false_iff.mpr c3
 subst c3
 have H1:(some ([]:List Int))=some r:=by rw [if_neg (show ¬ (false=true) by decide)] at H;exact H
 clear H
 have H:=H1
 clear H1
 obtain rfl:=Option.some.inj H
 go_enter Try.func110,Try.ntmps110
 go_wp2_with (first|((with_reducible refine gate_callee (f:=117) rfl ?_);refine goesL_ (some 7) rfl rfl Try.func117 (by kernel_rfl) rfl #[.slice A0 l0.length c0] rfl aX ?_;(with_reducible refine(impl_PermOk.calls _ _ l0 false _ ?side1 ?side2 A2.out).mono ?_);(case side1=>exact cX HR0.out);(case side2=>exact HC0.out);rintro e w17 ⟨rfl,hb⟩;refine ⟨_,rfl,?_⟩;replace HB:=aM (below_step (bX HB.out) hb);(try clear hb);(try clear hk)))
 go_ret
 exact ⟨_,eX,by first|exact Kd.R_nil _ _ _ _ _|exact Kd.N_nil _ _ _ _ _|exact Kd.V_nil _ _ _ _ _|exact Kd.Q_nil _ _ _ _ _|exact Kd.S_nil _ _ _ _ _,bX HB.out⟩
 }

/-! ### impl_ShearSurface: function 76 -/
def impl_ShearSurface.f (k:Nat) (l0_0:List Int) (l0_1:List Int):Option (List Int × List Int × Bool):=(impl_SurfaceOk.f k l0_0 l0_1).bind fun t219=>(if t219=true then ((impl_copyInts.f l0_0).bind fun t220=>((impl_InversePerm.f k l0_0).bind fun t223=>((impl_ThenPerm.f k t223 l0_1).bind fun t226=>(some (t220,t226,true))))) else (some (([]:List Int),([]:List Int),false)))
def impl_ShearSurface.T3 : Bool × List (List Nat × List Nat):=(true,[([],[]),([0],[0]),([1],[1]),([],[]),([3],[3]),([4,2],[4]),([],[]),([6],[6]),([5,7,5],[5,7]),([2,8],[2,8]),([9,8,0,1,2,3,4,5,6,7,8,9],[9]),([10,0,1,2,3,4,5,6,7,8,9,10],[])])
def impl_ShearSurface.B3 : List Nat:=[0,1,3,0,8,31,0,64,255,511,1023,2047]
theorem impl_ShearSurface.tab3 : rtab .any (opsOf Try.f76 3)=impl_ShearSurface.T3:=by kernel_rfl
theorem impl_ShearSurface.bits3 : waitsOk impl_ShearSurface.T3.2 impl_ShearSurface.B3=true:=by kernel_rfl
theorem impl_ShearSurface.calls (k:Nat) (A0_0:Option Addr) (c0_0:Nat) (l0_0:List Int) (A0_1:Option Addr) (c0_1:Nat) (l0_1:List Int) (r1:List Int) (r2:List Int) (r3:Bool) (w:World) (hr0_0:Kd.C (Kd.int .i64) w A0_0 l0_0.length l0_0) (hc0_0:l0_0.length≤c0_0) (hr0_1:Kd.C (Kd.int .i64) w A0_1 l0_1.length l0_1) (hc0_1:l0_1.length≤c0_1) (h:impl_ShearSurface.f k l0_0 l0_1=some (r1,r2,r3)) :
  Calls Try.prog 76 #[.agg #[.slice A0_0 l0_0.length c0_0,.slice A0_1 l0_1.length c0_1]] w fun e w'=>∃ v0_ v1_:Value,e = .returned (.tuple #[.agg #[v0_,v1_],.bool r3])∧Kd.R (Kd.int .i64) 3 w' w.heap.size (fun k_=>some k_≠(v1_:Value).ownBlock) v0_ r1∧Kd.R (Kd.int .i64) 3 w' w.heap.size (fun k_=>some k_≠(v0_:Value).ownBlock) v1_ r2∧Below w.heap.size w w':=by
 have hu27:=Try.underlying27
 have HR0_0:=aM hr0_0
 have HC0_0:=aM hc0_0
 clear hr0_0 hc0_0
 have HR0_1:=aM hr0_1
 have HC0_1:=aM hc0_1
 clear hr0_1 hc0_1
 have HB:=aM (Below.refl w.heap.size w)
 have H:((impl_SurfaceOk.f k l0_0 l0_1).bind fun t219=>(if t219=true then ((impl_copyInts.f l0_0).bind fun t220=>((impl_InversePerm.f k l0_0).bind fun t223=>((impl_ThenPerm.f k t223 l0_1).bind fun t226=>(some (t220,t226,true))))) else (some (([]:List Int),([]:List Int),false))))=some (r1,r2,r3):=h
 clear h
 replace H:=oB H
 obtain ⟨t219,A20,H⟩:=H
 have A2:=aM A20
 clear A20
 by_cases c3:t219=true
 {
 subst c3
 have H1:((impl_copyInts.f l0_0).bind fun t220=>((impl_InversePerm.f k l0_0).bind fun t223=>((impl_ThenPerm.f k t223 l0_1).bind fun t226=>(some (t220,t226,true)))))=some (r1,r2,r3):=by rw [if_pos rfl] at H;exact H
 clear H
 have H:=H1
 clear H1
 replace H:=oB H
 obtain ⟨t220,A40,H⟩:=H
 have A4:=aM A40
 clear A40
 replace H:=oB H
 obtain ⟨t223,A50,H⟩:=H
 have A5:=aM A50
 clear A50
 replace H:=oB H
 obtain ⟨t226,A60,H⟩:=H
 have A6:=aM A60
 clear A60
 simp only [Option.some.injEq,Prod.mk.injEq] at H
 obtain ⟨rfl,rfl,rfl⟩:=H
 go_enter Try.func76,Try.ntmps76
 try go_wp2_with (first|((with_reducible refine gate_dst (N:=1) rfl ?_);refine bEv (cs:=#[.slice A0_0 l0_0.length c0_0,.slice A0_1 l0_1.length c0_1]) (t:=27) ?_;intro gb217 hg w7 hbox hb;have BK217:=aM (hbox);have GW217:=aM ((szX (below_size (bX HB.out)) hg:w.heap.size≤gb217));have GE217:=GW217;replace HB:=aM (below_step (bX HB.out) hb);clear hb hbox hg)|((with_reducible refine gate_dst (N:=2) rfl ?_);refine bEv (cs:=#[.slice none 0 0,.slice none 0 0]) (t:=27) ?_;intro gb218 hg w8 hbox hb;have BK218:=aM (hbox);have GW218:=aM ((szX (below_size (bX1 HB.out GE217.out)) hg:w.heap.size≤gb218));have GE218:=GW218;replace HB:=aM (below_step (bX1 HB.out GE217.out) hb);have NB217_218:=aM (neX BK217.out hg);have NB218_217:=aM (nfX BK217.out hg);replace BK217:=aM (bbX BK217.out hb);clear hb hbox hg;have hnb9:=NB217_218.out;have hnc9:=NB218_217.out;obtain ⟨hcz10_0,hcz10_1,hfz10_0,hfz10_1⟩:=f2Z BK217.out)|((with_reducible refine gate_callee (f:=56) rfl ?_);refine goesL_ (some 5) rfl rfl Try.func56 (by kernel_rfl) rfl #[.agg #[.slice A0_0 l0_0.length c0_0,.slice A0_1 l0_1.length c0_1]] rfl aX ?_;(with_reducible refine(impl_SurfaceOk.calls k _ _ l0_0 _ _ l0_1 true _ ?side1 ?side2 ?side3 ?side4 A2.out).mono ?_);(case side1=>exact cX (Kd.C_below HR0_0.out HB.out));(case side2=>exact HC0_0.out);(case side3=>exact cX (Kd.C_below HR0_1.out HB.out));(case side4=>exact HC0_1.out);rintro e w11 ⟨rfl,hb⟩;refine ⟨_,rfl,?_⟩;replace BK217:=aM (bbX BK217.out hb);replace BK218:=aM (bbX BK218.out hb);replace HB:=aM (below_step (bX2 HB.out GE217.out GE218.out) hb);(try clear hb);(try clear hk)))
 replace BK217:=aM (blk_drew BK217.out)
 replace BK218:=aM (blk_drew BK218.out)
 replace HB:=aM (below_drew1 HB.out)
 refine start_ (n:=12) (S:=fun w'=>w'.cell? ⟨gb217,0,none⟩=some (.slice A0_0 l0_0.length c0_0)∧w'.cell? ⟨gb217,1,none⟩=some (.slice A0_1 l0_1.length c0_1)) (ds:=[]) #[ff,ff,ff,ff,ff,ff,ff,ff,ff,ff,ff,ff] (by kernel_rfl) rfl rfl ⟨cz20 BK217.out,cz21 BK217.out⟩ (fun hHeld => ?_);refine with_tabW impl_ShearSurface.tab3 impl_ShearSurface.bits3 (fun HT_ HW_ => ?_)
 generalize w11.drew=w12 at BK217 BK218 HB hHeld ⊢
 refine pX 0 8 (fl 12 1) rfl rfl HT_.out ?_
 refine pX 3 11 (fl 12 9) rfl rfl HT_.out ?_
 refine pX 6 14 (fl 12 73) rfl rfl HT_.out ?_
 refine tX2 1 9 (fl 12 75) rfl rfl HT_.out HW_.out hHeld ?_
 refine tX2 4 12 (fl 12 91) rfl rfl HT_.out HW_.out hHeld ?_
 refine tX2 7 15 (fl 12 219) rfl rfl HT_.out HW_.out hHeld ?_
 refine one_ (i:=2) (N:=some 10) #[tt,tt,tt,tt,tt,ff,tt,tt,ff,ff,ff,ff] rfl rfl (one_of HT_.out (by kernel_rfl)) (by decide) (fun K hK => ?_)
 refine goes_ Try.func94 (by kernel_rfl) rfl #[.slice A0_0 l0_0.length c0_0] (by rfl) rfl rfl aX ?_
 with_reducible refine(impl_copyInts.calls _ _ l0_0 t220 _ ?side1 ?side2 A4.out).mono ?_
 (case side1=>exact cX (Kd.C_below HR0_0.out HB.out))
 (case side2=>exact HC0_0.out)
 rintro e w13 ⟨v221,rfl,ho0,hb⟩
 refine ⟨_,rfl,?_⟩
 have HO222:=aM (Kd.R_lower ho0 (below_size (bX2 HB.out GE217.out GE218.out)))
 replace BK217:=aM (bbX BK217.out hb)
 replace BK218:=aM (bbX BK218.out hb)
 replace HB:=aM (below_step (bX2 HB.out GE217.out GE218.out) hb)
 (try clear hb)
 (try clear hk)
 (try clear ho0)
 refine hK.out _ _ ⟨cz20 BK217.out,cz21 BK217.out⟩ (fun hHeld => ?_)
 clear hK K
 refine norm_ (a':=?_) ?_ ?_
 rotate_left
 {
 show Act.put _ (some 10) _=_
 simp only [Act.put,zA,zB,zC,i64_w,i32_w]
 rfl
 }
 refine one_ (i:=5) (N:=some 13) #[tt,tt,tt,tt,tt,tt,tt,tt,ff,ff,ff,ff] rfl rfl (one_of HT_.out (by kernel_rfl)) (by decide) (fun K hK => ?_)
 refine goes_ Try.func110 (by kernel_rfl) rfl #[.slice A0_0 l0_0.length c0_0] (by rfl) rfl rfl aX ?_
 with_reducible refine(impl_InversePerm.calls k _ _ l0_0 t223 _ ?side1 ?side2 A5.out).mono ?_
 (case side1=>exact cX (Kd.C_below HR0_0.out HB.out))
 (case side2=>exact HC0_0.out)
 rintro e w14 ⟨v224,rfl,ho0,hb⟩
 refine ⟨_,rfl,?_⟩
 have HO225:=aM (Kd.R_lower (Kd.R_new' ho0 (Kd.R_lt (rX HO222.out))) (below_size (bX2 HB.out GE217.out GE218.out)))
 replace HO222:=aM (Kd.R_elder' (rX HO222.out) (Kd.R_base ho0) hb)
 replace BK217:=aM (bbX BK217.out hb)
 replace BK218:=aM (bbX BK218.out hb)
 replace HB:=aM (below_step (bX2 HB.out GE217.out GE218.out) hb)
 (try clear hb)
 (try clear hk)
 (try clear ho0)
 obtain ⟨Ao15,co15,eo15⟩:=Kd.R_slice HO225.out
 (first|subst eo15|(injection eo15 with f1_ f2_ f3_;have f4_:=f1_.symm;have f5_:=f3_.symm;clear f1_ f2_ f3_;subst f4_;subst f5_))
 refine hK.out _ _ ⟨cz20 BK217.out,cz21 BK217.out⟩ (fun hHeld => ?_)
 clear hK K
 refine norm_ (a':=?_) ?_ ?_
 rotate_left
 {
 show Act.put _ (some 13) _=_
 simp only [Act.put,zA,zB,zC,i64_w,i32_w]
 rfl
 }
 refine one_ (i:=8) (N:=some 16) #[tt,tt,tt,tt,tt,tt,tt,tt,tt,ff,ff,ff] rfl rfl (one_of HT_.out (by kernel_rfl)) (by decide) (fun K hK => ?_)
 refine goes_ Try.func109 (by kernel_rfl) rfl #[.slice Ao15 t223.length co15,.slice A0_1 l0_1.length c0_1] (by rfl) rfl rfl aX ?_
 with_reducible refine(impl_ThenPerm.calls k _ _ t223 _ _ l0_1 t226 _ ?side1 ?side2 ?side3 ?side4 A6.out).mono ?_
 (case side1=>exact cX (Kd.R_reads' HO225.out).2.2)
 (case side2=>exact(Kd.R_reads' HO225.out).2.1)
 (case side3=>exact cX (Kd.C_below HR0_1.out HB.out))
 (case side4=>exact HC0_1.out)
 rintro e w16 ⟨v227,rfl,ho0,hb⟩
 refine ⟨_,rfl,?_⟩
 have HO228:=aM (Kd.R_lower (Kd.R_new' (Kd.R_new' ho0 (Kd.R_lt (rX HO222.out))) (Kd.R_lt (rX HO225.out))) (below_size (bX2 HB.out GE217.out GE218.out)))
 replace HO222:=aM (Kd.R_elder' (rX HO222.out) (Kd.R_base ho0) hb)
 replace HO225:=aM (Kd.R_elder' (rX HO225.out) (Kd.R_base ho0) hb)
 replace BK217:=aM (bbX BK217.out hb)
 replace BK218:=aM (bbX BK218.out hb)
 replace HB:=aM (below_step (bX2 HB.out GE217.out GE218.out) hb)
 (try clear hb)
 (try clear hk)
 (try clear ho0)
 obtain ⟨Ao17,co17,eo17⟩:=Kd.R_slice HO228.out
 (first|subst eo17|(injection eo17 with f1_ f2_ f3_;have f4_:=f1_.symm;have f5_:=f3_.symm;clear f1_ f2_ f3_;subst f4_;subst f5_))
 obtain ⟨Ao18,co18,eo18⟩:=Kd.R_slice HO222.out
 (first|subst eo18|(injection eo18 with f1_ f2_ f3_;have f4_:=f1_.symm;have f5_:=f3_.symm;clear f1_ f2_ f3_;subst f4_;subst f5_))
 refine hK.out _ _ ⟨cz20 BK217.out,cz21 BK217.out⟩ (fun hHeld => ?_)
 clear hK K
 refine norm_ (a':=?_) ?_ ?_
 rotate_left
 {
 show Act.put _ (some 16) _=_
 simp only [Act.put,zA,zB,zC,i64_w,i32_w]
 rfl
 }
 refine pX 9 17 (fl 12 1023) rfl rfl HT_.out ?_
 refine one_ (i:=10) (N:=none) #[tt,tt,tt,tt,tt,tt,tt,tt,tt,tt,tt,ff] rfl rfl (one_of HT_.out (by kernel_rfl)) (by decide) (fun K hK => ?_)
 have hs19:w16.cell? ⟨gb218,0,none⟩=some (.slice none 0 0):=cz20 BK218.out
 have hfs19:=blk_frozen BK218.out 0
 have hns19_0:=NB217_218.out
 have hms19_0:=NB218_217.out
 have hs20:w16.cell? ⟨gb218,1,none⟩=some (.slice none 0 0):=cz21 BK218.out
 have hfs20:=blk_frozen BK218.out 1
 have hns20_0:=NB217_218.out
 have hms20_0:=NB218_217.out
 refine skip_ (w1:=?_) (by rfl) rfl ?_ ?_
 rotate_left
 {
 go_simp
 rfl
 }
 refine hK.out _ _ ⟨((cell_far (p:=⟨gb218,_,none⟩) NB217_218.out _).trans (((cell_far (p:=⟨gb218,_,none⟩) NB217_218.out _).trans (hHeld.1)))),((cell_far (p:=⟨gb218,_,none⟩) NB217_218.out _).trans (((cell_far (p:=⟨gb218,_,none⟩) NB217_218.out _).trans (hHeld.2))))⟩ (fun hHeld => ?_)
 clear hK K
 refine pX 11 3 (fl 12 4095) rfl rfl HT_.out ?_
 refine done_ (done_of HT_.out (by kernel_rfl)) ?_
 try go_wp2
 refine bodyPost_ret (results_ct rfl _ _ gb218 27 #[.slice Ao18 t220.length co18,.slice Ao17 t226.length co17] (0,0) _ rfl (by(with_reducible repeat(first|refine kN ?_ _|refine kD ?_|refine kA ?_ _));refine blk_put (cs:=#[.slice Ao18 t220.length co18,.slice none 0 0]) ?_ 1 _ rfl;(with_reducible repeat(first|refine kN ?_ _|refine kD ?_|refine kA ?_ _));refine blk_put (cs:=#[.slice none 0 0,.slice none 0 0]) ?_ 0 _ rfl;(with_reducible repeat(first|refine kN ?_ _|refine kD ?_|refine kA ?_ _));exact BK218.out) Try.underlying27 rfl (by kernel_rfl)) rfl ?_
 exact ⟨_,_,eX,by(with_reducible repeat(first|apply rA|apply rN|apply rD));exact Kd.R_mono (Kd.R_far (p:=⟨gb218,1,none⟩) (Kd.R_far (p:=⟨gb218,0,none⟩) (Kd.R_types HO222.out BK218.out (by decide)) (fun _ hk=>hk.2) (.slice Ao18 t220.length co18)) (fun _ hk=>hk.2) (.slice Ao17 t226.length co17)) (fun _ hk=>hk.1.2),by(with_reducible repeat(first|apply rA|apply rN|apply rD));exact Kd.R_mono (Kd.R_far (p:=⟨gb218,1,none⟩) (Kd.R_far (p:=⟨gb218,0,none⟩) (Kd.R_types HO228.out BK218.out (by decide)) (fun _ hk=>hk.2) (.slice Ao18 t220.length co18)) (fun _ hk=>hk.2) (.slice Ao17 t226.length co17)) (fun _ hk=>hk.1.1.2),bX2 HB.out GE217.out GE218.out⟩
 }
 {
 replace c3:=Bool.eq_false_iff.mpr c3
 subst c3
 have H1:(some (([]:List Int),([]:List Int),false))=some (r1,r2,r3):=by rw [if_neg (show ¬ (false=true) by decide)] at H;exact H
 clear H
 have H:=H1
 clear H1
 simp only [Option.some.injEq,Prod.mk.injEq] at H
 obtain ⟨rfl,rfl,rfl⟩:=H
 go_enter Try.func76,Try.ntmps76
 go_wp2_with (first|((with_reducible refine gate_dst (N:=1) rfl ?_);refine bEv (cs:=#[.slice A0_0 l0_0.length c0_0,.slice A0_1 l0_1.length c0_1]) (t:=27) ?_;intro gb217 hg w21 hbox hb;have BK217:=aM (hbox);have GW217:=aM ((szX (below_size (bX HB.out)) hg:w.heap.size≤gb217));have GE217:=GW217;replace HB:=aM (below_step (bX HB.out) hb);clear hb hbox hg)|((with_reducible refine gate_dst (N:=2) rfl ?_);refine bEv (cs:=#[.slice none 0 0,.slice none 0 0]) (t:=27) ?_;intro gb218 hg w22 hbox hb;have BK218:=aM (hbox);have GW218:=aM ((szX (below_size (bX1 HB.out GE217.out)) hg:w.heap.size≤gb218));have GE218:=GW218;replace HB:=aM (below_step (bX1 HB.out GE217.out) hb);have NB217_218:=aM (neX BK217.out hg);have NB218_217:=aM (nfX BK217.out hg);replace BK217:=aM (bbX BK217.out hb);clear hb hbox hg;have hnb23:=NB217_218.out;have hnc23:=NB218_217.out;obtain ⟨hcz24_0,hcz24_1,hfz24_0,hfz24_1⟩:=f2Z BK217.out)|((with_reducible refine gate_callee (f:=56) rfl ?_);refine goesL_ (some 5) rfl rfl Try.func56 (by kernel_rfl) rfl #[.agg #[.slice A0_0 l0_0.length c0_0,.slice A0_1 l0_1.length c0_1]] rfl aX ?_;(with_reducible refine(impl_SurfaceOk.calls k _ _ l0_0 _ _ l0_1 false _ ?side1 ?side2 ?side3 ?side4 A2.out).mono ?_);(case side1=>exact cX (Kd.C_below HR0_0.out HB.out));(case side2=>exact HC0_0.out);(case side3=>exact cX (Kd.C_below HR0_1.out HB.out));(case side4=>exact HC0_1.out);rintro e w25 ⟨rfl,hb⟩;refine ⟨_,rfl,?_⟩;replace BK217:=aM (bbX BK217.out hb);replace BK218:=aM (bbX BK218.out hb);replace HB:=aM (below_step (bX2 HB.out GE217.out GE218.out) hb);(try clear hb);(try clear hk);obtain ⟨hcz26_0,hcz26_1,hfz26_0,hfz26_1⟩:=f2Z BK218.out))
 refine bodyPost_ret (results_ct rfl _ _ gb218 27 #[.slice none 0 0,.slice none 0 0] (0,0) _ rfl (by(with_reducible repeat(first|refine kN ?_ _|refine kD ?_|refine kA ?_ _));refine blk_put (cs:=#[.slice none 0 0,.slice none 0 0]) ?_ 1 _ rfl;(with_reducible repeat(first|refine kN ?_ _|refine kD ?_|refine kA ?_ _));refine blk_put (cs:=#[.slice none 0 0,.slice none 0 0]) ?_ 0 _ rfl;(with_reducible repeat(first|refine kN ?_ _|refine kD ?_|refine kA ?_ _));exact BK218.out) Try.underlying27 rfl (by kernel_rfl)) rfl ?_
 exact ⟨_,_,eX,by first|exact Kd.R_nil _ _ _ _ _|exact Kd.N_nil _ _ _ _ _|exact Kd.V_nil _ _ _ _ _|exact Kd.Q_nil _ _ _ _ _|exact Kd.S_nil _ _ _ _ _,by first|exact Kd.R_nil _ _ _ _ _|exact Kd.N_nil _ _ _ _ _|exact Kd.V_nil _ _ _ _ _|exact Kd.Q_nil _ _ _ _ _|exact Kd.S_nil _ _ _ _ _,bX2 HB.out GE217.out GE218.out⟩
 }

/-! ### impl_UnshearSurface: function 77 -/
def impl_UnshearSurface.f (k:Nat) (l0_0:List Int) (l0_1:List Int):Option (List Int × List Int × Bool):=(impl_SurfaceOk.f k l0_0 l0_1).bind fun t231=>(if t231=true then ((impl_copyInts.f l0_0).bind fun t232=>((impl_ThenPerm.f k l0_0 l0_1).bind fun t235=>(some (t232,t235,true)))) else (some (([]:List Int),([]:List Int),false)))
def impl_UnshearSurface.T3 : Bool × List (List Nat × List Nat):=(true,[([],[]),([0],[0]),([1],[1]),([],[]),([3],[3]),([],[]),([5],[5]),([4,6,2],[4,6]),([2,7],[2,7]),([8,7,0,1,2,3,4,5,6,7,8],[8]),([9,0,1,2,3,4,5,6,7,8,9],[])])
def impl_UnshearSurface.B3 : List Nat:=[0,1,3,0,8,0,32,127,255,511,1023]
theorem impl_UnshearSurface.tab3 : rtab .any (opsOf Try.f77 3)=impl_UnshearSurface.T3:=by kernel_rfl
theorem impl_UnshearSurface.bits3 : waitsOk impl_UnshearSurface.T3.2 impl_UnshearSurface.B3=true:=by kernel_rfl
theorem impl_UnshearSurface.calls (k:Nat) (A0_0:Option Addr) (c0_0:Nat) (l0_0:List Int) (A0_1:Option Addr) (c0_1:Nat) (l0_1:List Int) (r1:List Int) (r2:List Int) (r3:Bool) (w:World) (hr0_0:Kd.C (Kd.int .i64) w A0_0 l0_0.length l0_0) (hc0_0:l0_0.length≤c0_0) (hr0_1:Kd.C (Kd.int .i64) w A0_1 l0_1.length l0_1) (hc0_1:l0_1.length≤c0_1) (h:impl_UnshearSurface.f k l0_0 l0_1=some (r1,r2,r3)) :
  Calls Try.prog 77 #[.agg #[.slice A0_0 l0_0.length c0_0,.slice A0_1 l0_1.length c0_1]] w fun e w'=>∃ v0_ v1_:Value,e = .returned (.tuple #[.agg #[v0_,v1_],.bool r3])∧Kd.R (Kd.int .i64) 3 w' w.heap.size (fun k_=>some k_≠(v1_:Value).ownBlock) v0_ r1∧Kd.R (Kd.int .i64) 3 w' w.heap.size (fun k_=>some k_≠(v0_:Value).ownBlock) v1_ r2∧Below w.heap.size w w':=by
 have hu27:=Try.underlying27
 have HR0_0:=aM hr0_0
 have HC0_0:=aM hc0_0
 clear hr0_0 hc0_0
 have HR0_1:=aM hr0_1
 have HC0_1:=aM hc0_1
 clear hr0_1 hc0_1
 have HB:=aM (Below.refl w.heap.size w)
 have H:((impl_SurfaceOk.f k l0_0 l0_1).bind fun t231=>(if t231=true then ((impl_copyInts.f l0_0).bind fun t232=>((impl_ThenPerm.f k l0_0 l0_1).bind fun t235=>(some (t232,t235,true)))) else (some (([]:List Int),([]:List Int),false))))=some (r1,r2,r3):=h
 clear h
 replace H:=oB H
 obtain ⟨t231,A20,H⟩:=H
 have A2:=aM A20
 clear A20
 by_cases c3:t231=true
 {
 subst c3
 have H1:((impl_copyInts.f l0_0).bind fun t232=>((impl_ThenPerm.f k l0_0 l0_1).bind fun t235=>(some (t232,t235,true))))=some (r1,r2,r3):=by rw [if_pos rfl] at H;exact H
 clear H
 have H:=H1
 clear H1
 replace H:=oB H
 obtain ⟨t232,A40,H⟩:=H
 have A4:=aM A40
 clear A40
 replace H:=oB H
 obtain ⟨t235,A50,H⟩:=H
 have A5:=aM A50
 clear A50
 simp only [Option.some.injEq,Prod.mk.injEq] at H
 obtain ⟨rfl,rfl,rfl⟩:=H
 go_enter Try.func77,Try.ntmps77
 try go_wp2_with (first|((with_reducible refine gate_dst (N:=1) rfl ?_);refine bEv (cs:=#[.slice A0_0 l0_0.length c0_0,.slice A0_1 l0_1.length c0_1]) (t:=27) ?_;intro gb229 hg w6 hbox hb;have BK229:=aM (hbox);have GW229:=aM ((szX (below_size (bX HB.out)) hg:w.heap.size≤gb229));have GE229:=GW229;replace HB:=aM (below_step (bX HB.out) hb);clear hb hbox hg)|((with_reducible refine gate_dst (N:=2) rfl ?_);refine bEv (cs:=#[.slice none 0 0,.slice none 0 0]) (t:=27) ?_;intro gb230 hg w7 hbox hb;have BK230:=aM (hbox);have GW230:=aM ((szX (below_size (bX1 HB.out GE229.out)) hg:w.heap.size≤gb230));have GE230:=GW230;replace HB:=aM (below_step (bX1 HB.out GE229.out) hb);have NB229_230:=aM (neX BK229.out hg);have NB230_229:=aM (nfX BK229.out hg);replace BK229:=aM (bbX BK229.out hb);clear hb hbox hg;have hnb8:=NB229_230.out;have hnc8:=NB230_229.out;obtain ⟨hcz9_0,hcz9_1,hfz9_0,hfz9_1⟩:=f2Z BK229.out)|((with_reducible refine gate_callee (f:=56) rfl ?_);refine goesL_ (some 5) rfl rfl Try.func56 (by kernel_rfl) rfl #[.agg #[.slice A0_0 l0_0.length c0_0,.slice A0_1 l0_1.length c0_1]] rfl aX ?_;(with_reducible refine(impl_SurfaceOk.calls k _ _ l0_0 _ _ l0_1 true _ ?side1 ?side2 ?side3 ?side4 A2.out).mono ?_);(case side1=>exact cX (Kd.C_below HR0_0.out HB.out));(case side2=>exact HC0_0.out);(case side3=>exact cX (Kd.C_below HR0_1.out HB.out));(case side4=>exact HC0_1.out);rintro e w10 ⟨rfl,hb⟩;refine ⟨_,rfl,?_⟩;replace BK229:=aM (bbX BK229.out hb);replace BK230:=aM (bbX BK230.out hb);replace HB:=aM (below_step (bX2 HB.out GE229.out GE230.out) hb);(try clear hb);(try clear hk)))
 replace BK229:=aM (blk_drew BK229.out)
 replace BK230:=aM (blk_drew BK230.out)
 replace HB:=aM (below_drew1 HB.out)
 refine start_ (n:=11) (S:=fun w'=>w'.cell? ⟨gb229,0,none⟩=some (.slice A0_0 l0_0.length c0_0)∧w'.cell? ⟨gb229,1,none⟩=some (.slice A0_1 l0_1.length c0_1)) (ds:=[]) #[ff,ff,ff,ff,ff,ff,ff,ff,ff,ff,ff] (by kernel_rfl) rfl rfl ⟨cz20 BK229.out,cz21 BK229.out⟩ (fun hHeld => ?_);refine with_tabW impl_UnshearSurface.tab3 impl_UnshearSurface.bits3 (fun HT_ HW_ => ?_)
 generalize w10.drew=w11 at BK229 BK230 HB hHeld ⊢
 refine pX 0 8 (fl 11 1) rfl rfl HT_.out ?_
 refine pX 3 11 (fl 11 9) rfl rfl HT_.out ?_
 refine pX 5 13 (fl 11 41) rfl rfl HT_.out ?_
 refine tX2 1 9 (fl 11 43) rfl rfl HT_.out HW_.out hHeld ?_
 refine tX2 4 12 (fl 11 59) rfl rfl HT_.out HW_.out hHeld ?_
 refine tX2 6 14 (fl 11 123) rfl rfl HT_.out HW_.out hHeld ?_
 refine one_ (i:=2) (N:=some 10) #[tt,tt,tt,tt,tt,tt,tt,ff,ff,ff,ff] rfl rfl (one_of HT_.out (by kernel_rfl)) (by decide) (fun K hK => ?_)
 refine goes_ Try.func94 (by kernel_rfl) rfl #[.slice A0_0 l0_0.length c0_0] (by rfl) rfl rfl aX ?_
 with_reducible refine(impl_copyInts.calls _ _ l0_0 t232 _ ?side1 ?side2 A4.out).mono ?_
 (case side1=>exact cX (Kd.C_below HR0_0.out HB.out))
 (case side2=>exact HC0_0.out)
 rintro e w12 ⟨v233,rfl,ho0,hb⟩
 refine ⟨_,rfl,?_⟩
 have HO234:=aM (Kd.R_lower ho0 (below_size (bX2 HB.out GE229.out GE230.out)))
 replace BK229:=aM (bbX BK229.out hb)
 replace BK230:=aM (bbX BK230.out hb)
 replace HB:=aM (below_step (bX2 HB.out GE229.out GE230.out) hb)
 (try clear hb)
 (try clear hk)
 (try clear ho0)
 refine hK.out _ _ ⟨cz20 BK229.out,cz21 BK229.out⟩ (fun hHeld => ?_)
 clear hK K
 refine norm_ (a':=?_) ?_ ?_
 rotate_left
 {
 show Act.put _ (some 10) _=_
 simp only [Act.put,zA,zB,zC,i64_w,i32_w]
 rfl
 }
 refine one_ (i:=7) (N:=some 15) #[tt,tt,tt,tt,tt,tt,tt,tt,ff,ff,ff] rfl rfl (one_of HT_.out (by kernel_rfl)) (by decide) (fun K hK => ?_)
 refine goes_ Try.func109 (by kernel_rfl) rfl #[.slice A0_0 l0_0.length c0_0,.slice A0_1 l0_1.length c0_1] (by rfl) rfl rfl aX ?_
 with_reducible refine(impl_ThenPerm.calls k _ _ l0_0 _ _ l0_1 t235 _ ?side1 ?side2 ?side3 ?side4 A5.out).mono ?_
 (case side1=>exact cX (Kd.C_below HR0_0.out HB.out))
 (case side2=>exact HC0_0.out)
 (case side3=>exact cX (Kd.C_below HR0_1.out HB.out))
 (case side4=>exact HC0_1.out)
 rintro e w13 ⟨v236,rfl,ho0,hb⟩
 refine ⟨_,rfl,?_⟩
 have HO237:=aM (Kd.R_lower (Kd.R_new' ho0 (Kd.R_lt (rX HO234.out))) (below_size (bX2 HB.out GE229.out GE230.out)))
 replace HO234:=aM (Kd.R_elder' (rX HO234.out) (Kd.R_base ho0) hb)
 replace BK229:=aM (bbX BK229.out hb)
 replace BK230:=aM (bbX BK230.out hb)
 replace HB:=aM (below_step (bX2 HB.out GE229.out GE230.out) hb)
 (try clear hb)
 (try clear hk)
 (try clear ho0)
 obtain ⟨Ao14,co14,eo14⟩:=Kd.R_slice HO237.out
 (first|subst eo14|(injection eo14 with f1_ f2_ f3_;have f4_:=f1_.symm;have f5_:=f3_.symm;clear f1_ f2_ f3_;subst f4_;subst f5_))
 obtain ⟨Ao15,co15,eo15⟩:=Kd.R_slice HO234.out
 (first|subst eo15|(injection eo15 with f1_ f2_ f3_;have f4_:=f1_.symm;have f5_:=f3_.symm;clear f1_ f2_ f3_;subst f4_;subst f5_))
 refine hK.out _ _ ⟨cz20 BK229.out,cz21 BK229.out⟩ (fun hHeld => ?_)
 clear hK K
 refine norm_ (a':=?_) ?_ ?_
 rotate_left
 {
 show Act.put _ (some 15) _=_
 simp only [Act.put,zA,zB,zC,i64_w,i32_w]
 rfl
 }
 refine pX 8 16 (fl 11 511) rfl rfl HT_.out ?_
 refine one_ (i:=9) (N:=none) #[tt,tt,tt,tt,tt,tt,tt,tt,tt,tt,ff] rfl rfl (one_of HT_.out (by kernel_rfl)) (by decide) (fun K hK => ?_)
 have hs16:w13.cell? ⟨gb230,0,none⟩=some (.slice none 0 0):=cz20 BK230.out
 have hfs16:=blk_frozen BK230.out 0
 have hns16_0:=NB229_230.out
 have hms16_0:=NB230_229.out
 have hs17:w13.cell? ⟨gb230,1,none⟩=some (.slice none 0 0):=cz21 BK230.out
 have hfs17:=blk_frozen BK230.out 1
 have hns17_0:=NB229_230.out
 have hms17_0:=NB230_229.out
 refine skip_ (w1:=?_) (by rfl) rfl ?_ ?_
 rotate_left
 {
 go_simp
 rfl
 }
 refine hK.out _ _ ⟨((cell_far (p:=⟨gb230,_,none⟩) NB229_230.out _).trans (((cell_far (p:=⟨gb230,_,none⟩) NB229_230.out _).trans (hHeld.1)))),((cell_far (p:=⟨gb230,_,none⟩) NB229_230.out _).trans (((cell_far (p:=⟨gb230,_,none⟩) NB229_230.out _).trans (hHeld.2))))⟩ (fun hHeld => ?_)
 clear hK K
 refine pX 10 3 (fl 11 2047) rfl rfl HT_.out ?_
 refine done_ (done_of HT_.out (by kernel_rfl)) ?_
 try go_wp2
 refine bodyPost_ret (results_ct rfl _ _ gb230 27 #[.slice Ao15 t232.length co15,.slice Ao14 t235.length co14] (0,0) _ rfl (by(with_reducible repeat(first|refine kN ?_ _|refine kD ?_|refine kA ?_ _));refine blk_put (cs:=#[.slice Ao15 t232.length co15,.slice none 0 0]) ?_ 1 _ rfl;(with_reducible repeat(first|refine kN ?_ _|refine kD ?_|refine kA ?_ _));refine blk_put (cs:=#[.slice none 0 0,.slice none 0 0]) ?_ 0 _ rfl;(with_reducible repeat(first|refine kN ?_ _|refine kD ?_|refine kA ?_ _));exact BK230.out) Try.underlying27 rfl (by kernel_rfl)) rfl ?_
 exact ⟨_,_,eX,by(with_reducible repeat(first|apply rA|apply rN|apply rD));exact Kd.R_mono (Kd.R_far (p:=⟨gb230,1,none⟩) (Kd.R_far (p:=⟨gb230,0,none⟩) (Kd.R_types HO234.out BK230.out (by decide)) (fun _ hk=>hk.2) (.slice Ao15 t232.length co15)) (fun _ hk=>hk.2) (.slice Ao14 t235.length co14)) (fun _ hk=>hk.1.2),by(with_reducible repeat(first|apply rA|apply rN|apply rD));exact Kd.R_mono (Kd.R_far (p:=⟨gb230,1,none⟩) (Kd.R_far (p:=⟨gb230,0,none⟩) (Kd.R_types HO237.out BK230.out (by decide)) (fun _ hk=>hk.2) (.slice Ao15 t232.length co15)) (fun _ hk=>hk.2) (.slice Ao14 t235.length co14)) (fun _ hk=>hk.1.2),bX2 HB.out GE229.out GE230.out⟩
 }
 {
 replace c3:=Bool.eq_false_iff.mpr c3
 subst c3
 have H1:(some (([]:List Int),([]:List Int),false))=some (r1,r2,r3):=by rw [if_neg (show ¬ (false=true) by decide)] at H;exact H
 clear H
 have H:=H1
 clear H1
 simp only [Option.some.injEq,Prod.mk.injEq] at H
 obtain ⟨rfl,rfl,rfl⟩:=H
 go_enter Try.func77,Try.ntmps77
 go_wp2_with (first|((with_reducible refine gate_dst (N:=1) rfl ?_);refine bEv (cs:=#[.slice A0_0 l0_0.length c0_0,.slice A0_1 l0_1.length c0_1]) (t:=27) ?_;intro gb229 hg w18 hbox hb;have BK229:=aM (hbox);have GW229:=aM ((szX (below_size (bX HB.out)) hg:w.heap.size≤gb229));have GE229:=GW229;replace HB:=aM (below_step (bX HB.out) hb);clear hb hbox hg)|((with_reducible refine gate_dst (N:=2) rfl ?_);refine bEv (cs:=#[.slice none 0 0,.slice none 0 0]) (t:=27) ?_;intro gb230 hg w19 hbox hb;have BK230:=aM (hbox);have GW230:=aM ((szX (below_size (bX1 HB.out GE229.out)) hg:w.heap.size≤gb230));have GE230:=GW230;replace HB:=aM (below_step (bX1 HB.out GE229.out) hb);have NB229_230:=aM (neX BK229.out hg);have NB230_229:=aM (nfX BK229.out hg);replace BK229:=aM (bbX BK229.out hb);clear hb hbox hg;have hnb20:=NB229_230.out;have hnc20:=NB230_229.out;obtain ⟨hcz21_0,hcz21_1,hfz21_0,hfz21_1⟩:=f2Z BK229.out)|((with_reducible refine gate_callee (f:=56) rfl ?_);refine goesL_ (some 5) rfl rfl Try.func56 (by kernel_rfl) rfl #[.agg #[.slice A0_0 l0_0.length c0_0,.slice A0_1 l0_1.length c0_1]] rfl aX ?_;(with_reducible refine(impl_SurfaceOk.calls k _ _ l0_0 _ _ l0_1 false _ ?side1 ?side2 ?side3 ?side4 A2.out).mono ?_);(case side1=>exact cX (Kd.C_below HR0_0.out HB.out));(case side2=>exact HC0_0.out);(case side3=>exact cX (Kd.C_below HR0_1.out HB.out));(case side4=>exact HC0_1.out);rintro e w22 ⟨rfl,hb⟩;refine ⟨_,rfl,?_⟩;replace BK229:=aM (bbX BK229.out hb);replace BK230:=aM (bbX BK230.out hb);replace HB:=aM (below_step (bX2 HB.out GE229.out GE230.out) hb);(try clear hb);(try clear hk);obtain ⟨hcz23_0,hcz23_1,hfz23_0,hfz23_1⟩:=f2Z BK230.out))
 refine bodyPost_ret (results_ct rfl _ _ gb230 27 #[.slice none 0 0,.slice none 0 0] (0,0) _ rfl (by(with_reducible repeat(first|refine kN ?_ _|refine kD ?_|refine kA ?_ _));refine blk_put (cs:=#[.slice none 0 0,.slice none 0 0]) ?_ 1 _ rfl;(with_reducible repeat(first|refine kN ?_ _|refine kD ?_|refine kA ?_ _));refine blk_put (cs:=#[.slice none 0 0,.slice none 0 0]) ?_ 0 _ rfl;(with_reducible repeat(first|refine kN ?_ _|refine kD ?_|refine kA ?_ _));exact BK230.out) Try.underlying27 rfl (by kernel_rfl)) rfl ?_
 exact ⟨_,_,eX,by first|exact Kd.R_nil _ _ _ _ _|exact Kd.N_nil _ _ _ _ _|exact Kd.V_nil _ _ _ _ _|exact Kd.Q_nil _ _ _ _ _|exact Kd.S_nil _ _ _ _ _,by first|exact Kd.R_nil _ _ _ _ _|exact Kd.N_nil _ _ _ _ _|exact Kd.V_nil _ _ _ _ _|exact Kd.Q_nil _ _ _ _ _|exact Kd.S_nil _ _ _ _ _,bX2 HB.out GE229.out GE230.out⟩
 }

/-! ### impl_TurnSurface: function 78 -/
def impl_TurnSurface.f (k:Nat) (l0_0:List Int) (l0_1:List Int):Option (List Int × List Int × Bool):=(impl_SurfaceOk.f k l0_0 l0_1).bind fun t240=>(if t240=true then ((impl_InversePerm.f k l0_1).bind fun t241=>((impl_copyInts.f l0_0).bind fun t244=>(some (t241,t244,true)))) else (some (([]:List Int),([]:List Int),false)))
def impl_TurnSurface.T3 : Bool × List (List Nat × List Nat):=(true,[([],[]),([0],[0]),([1],[1]),([],[]),([3],[3]),([4,2],[4]),([2,5],[2,5]),([6,5,0,1,2,3,4,5,6],[6]),([7,0,1,2,3,4,5,6,7],[])])
def impl_TurnSurface.B3 : List Nat:=[0,1,3,0,8,31,63,127,255]
theorem impl_TurnSurface.tab3 : rtab .any (opsOf Try.f78 3)=impl_TurnSurface.T3:=by kernel_rfl
theorem impl_TurnSurface.bits3 : waitsOk impl_TurnSurface.T3.2 impl_TurnSurface.B3=true:=by kernel_rfl
theorem impl_TurnSurface.calls (k:Nat) (A0_0:Option Addr) (c0_0:Nat) (l0_0:List Int) (A0_1:Option Addr) (c0_1:Nat) (l0_1:List Int) (r1:List Int) (r2:List Int) (r3:Bool) (w:World) (hr0_0:Kd.C (Kd.int .i64) w A0_0 l0_0.length l0_0) (hc0_0:l0_0.length≤c0_0) (hr0_1:Kd.C (Kd.int .i64) w A0_1 l0_1.length l0_1) (hc0_1:l0_1.length≤c0_1) (h:impl_TurnSurface.f k l0_0 l0_1=some (r1,r2,r3)) :
  Calls Try.prog 78 #[.agg #[.slice A0_0 l0_0.length c0_0,.slice A0_1 l0_1.length c0_1]] w fun e w'=>∃ v0_ v1_:Value,e = .returned (.tuple #[.agg #[v0_,v1_],.bool r3])∧Kd.R (Kd.int .i64) 3 w' w.heap.size (fun k_=>some k_≠(v1_:Value).ownBlock) v0_ r1∧Kd.R (Kd.int .i64) 3 w' w.heap.size (fun k_=>some k_≠(v0_:Value).ownBlock) v1_ r2∧Below w.heap.size w w':=by
 have hu27:=Try.underlying27
 have HR0_0:=aM hr0_0
 have HC0_0:=aM hc0_0
 clear hr0_0 hc0_0
 have HR0_1:=aM hr0_1
 have HC0_1:=aM hc0_1
 clear hr0_1 hc0_1
 have HB:=aM (Below.refl w.heap.size w)
 have H:((impl_SurfaceOk.f k l0_0 l0_1).bind fun t240=>(if t240=true then ((impl_InversePerm.f k l0_1).bind fun t241=>((impl_copyInts.f l0_0).bind fun t244=>(some (t241,t244,true)))) else (some (([]:List Int),([]:List Int),false))))=some (r1,r2,r3):=h
 clear h
 replace H:=oB H
 obtain ⟨t240,A20,H⟩:=H
 have A2:=aM A20
 clear A20
 by_cases c3:t240=true
 {
 subst c3
 have H1:((impl_InversePerm.f k l0_1).bind fun t241=>((impl_copyInts.f l0_0).bind fun t244=>(some (t241,t244,true))))=some (r1,r2,r3):=by rw [if_pos rfl] at H;exact H
 clear H
 have H:=H1
 clear H1
 replace H:=oB H
 obtain ⟨t241,A40,H⟩:=H
 have A4:=aM A40
 clear A40
 replace H:=oB H
 obtain ⟨t244,A50,H⟩:=H
 have A5:=aM A50
 clear A50
 simp only [Option.some.injEq,Prod.mk.injEq] at H
 obtain ⟨rfl,rfl,rfl⟩:=H
 go_enter Try.func78,Try.ntmps78
 try go_wp2_with (first|((with_reducible refine gate_dst (N:=1) rfl ?_);refine bEv (cs:=#[.slice A0_0 l0_0.length c0_0,.slice A0_1 l0_1.length c0_1]) (t:=27) ?_;intro gb238 hg w6 hbox hb;have BK238:=aM (hbox);have GW238:=aM ((szX (below_size (bX HB.out)) hg:w.heap.size≤gb238));have GE238:=GW238;replace HB:=aM (below_step (bX HB.out) hb);clear hb hbox hg)|((with_reducible refine gate_dst (N:=2) rfl ?_);refine bEv (cs:=#[.slice none 0 0,.slice none 0 0]) (t:=27) ?_;intro gb239 hg w7 hbox hb;have BK239:=aM (hbox);have GW239:=aM ((szX (below_size (bX1 HB.out GE238.out)) hg:w.heap.size≤gb239));have GE239:=GW239;replace HB:=aM (below_step (bX1 HB.out GE238.out) hb);have NB238_239:=aM (neX BK238.out hg);have NB239_238:=aM (nfX BK238.out hg);replace BK238:=aM (bbX BK238.out hb);clear hb hbox hg;have hnb8:=NB238_239.out;have hnc8:=NB239_238.out;obtain ⟨hcz9_0,hcz9_1,hfz9_0,hfz9_1⟩:=f2Z BK238.out)|((with_reducible refine gate_callee (f:=56) rfl ?_);refine goesL_ (some 5) rfl rfl Try.func56 (by kernel_rfl) rfl #[.agg #[.slice A0_0 l0_0.length c0_0,.slice A0_1 l0_1.length c0_1]] rfl aX ?_;(with_reducible refine(impl_SurfaceOk.calls k _ _ l0_0 _ _ l0_1 true _ ?side1 ?side2 ?side3 ?side4 A2.out).mono ?_);(case side1=>exact cX (Kd.C_below HR0_0.out HB.out));(case side2=>exact HC0_0.out);(case side3=>exact cX (Kd.C_below HR0_1.out HB.out));(case side4=>exact HC0_1.out);rintro e w10 ⟨rfl,hb⟩;refine ⟨_,rfl,?_⟩;replace BK238:=aM (bbX BK238.out hb);replace BK239:=aM (bbX BK239.out hb);replace HB:=aM (below_step (bX2 HB.out GE238.out GE239.out) hb);(try clear hb);(try clear hk)))
 replace BK238:=aM (blk_drew BK238.out)
 replace BK239:=aM (blk_drew BK239.out)
 replace HB:=aM (below_drew1 HB.out)
 refine start_ (n:=9) (S:=fun w'=>w'.cell? ⟨gb238,0,none⟩=some (.slice A0_0 l0_0.length c0_0)∧w'.cell? ⟨gb238,1,none⟩=some (.slice A0_1 l0_1.length c0_1)) (ds:=[]) #[ff,ff,ff,ff,ff,ff,ff,ff,ff] (by kernel_rfl) rfl rfl ⟨cz20 BK238.out,cz21 BK238.out⟩ (fun hHeld => ?_);refine with_tabW impl_TurnSurface.tab3 impl_TurnSurface.bits3 (fun HT_ HW_ => ?_)
 generalize w10.drew=w11 at BK238 BK239 HB hHeld ⊢
 refine pX 0 8 (fl 9 1) rfl rfl HT_.out ?_
 refine pX 3 11 (fl 9 9) rfl rfl HT_.out ?_
 refine tX2 1 9 (fl 9 11) rfl rfl HT_.out HW_.out hHeld ?_
 refine tX2 4 12 (fl 9 27) rfl rfl HT_.out HW_.out hHeld ?_
 refine one_ (i:=2) (N:=some 10) #[tt,tt,tt,tt,tt,ff,ff,ff,ff] rfl rfl (one_of HT_.out (by kernel_rfl)) (by decide) (fun K hK => ?_)
 refine goes_ Try.func110 (by kernel_rfl) rfl #[.slice A0_1 l0_1.length c0_1] (by rfl) rfl rfl aX ?_
 with_reducible refine(impl_InversePerm.calls k _ _ l0_1 t241 _ ?side1 ?side2 A4.out).mono ?_
 (case side1=>exact cX (Kd.C_below HR0_1.out HB.out))
 (case side2=>exact HC0_1.out)
 rintro e w12 ⟨v242,rfl,ho0,hb⟩
 refine ⟨_,rfl,?_⟩
 have HO243:=aM (Kd.R_lower ho0 (below_size (bX2 HB.out GE238.out GE239.out)))
 replace BK238:=aM (bbX BK238.out hb)
 replace BK239:=aM (bbX BK239.out hb)
 replace HB:=aM (below_step (bX2 HB.out GE238.out GE239.out) hb)
 (try clear hb)
 (try clear hk)
 (try clear ho0)
 refine hK.out _ _ ⟨cz20 BK238.out,cz21 BK238.out⟩ (fun hHeld => ?_)
 clear hK K
 refine norm_ (a':=?_) ?_ ?_
 rotate_left
 {
 show Act.put _ (some 10) _=_
 simp only [Act.put,zA,zB,zC,i64_w,i32_w]
 rfl
 }
 refine one_ (i:=5) (N:=some 13) #[tt,tt,tt,tt,tt,tt,ff,ff,ff] rfl rfl (one_of HT_.out (by kernel_rfl)) (by decide) (fun K hK => ?_)
 refine goes_ Try.func94 (by kernel_rfl) rfl #[.slice A0_0 l0_0.length c0_0] (by rfl) rfl rfl aX ?_
 with_reducible refine(impl_copyInts.calls _ _ l0_0 t244 _ ?side1 ?side2 A5.out).mono ?_
 (case side1=>exact cX (Kd.C_below HR0_0.out HB.out))
 (case side2=>exact HC0_0.out)
 rintro e w13 ⟨v245,rfl,ho0,hb⟩
 refine ⟨_,rfl,?_⟩
 have HO246:=aM (Kd.R_lower (Kd.R_new' ho0 (Kd.R_lt (rX HO243.out))) (below_size (bX2 HB.out GE238.out GE239.out)))
 replace HO243:=aM (Kd.R_elder' (rX HO243.out) (Kd.R_base ho0) hb)
 replace BK238:=aM (bbX BK238.out hb)
 replace BK239:=aM (bbX BK239.out hb)
 replace HB:=aM (below_step (bX2 HB.out GE238.out GE239.out) hb)
 (try clear hb)
 (try clear hk)
 (try clear ho0)
 obtain ⟨Ao14,co14,eo14⟩:=Kd.R_slice HO246.out
 (first|subst eo14|(injection eo14 with f1_ f2_ f3_;have f4_:=f1_.symm;have f5_:=f3_.symm;clear f1_ f2_ f3_;subst f4_;subst f5_))
 obtain ⟨Ao15,co15,eo15⟩:=Kd.R_slice HO243.out
 (first|subst eo15|(injection eo15 with f1_ f2_ f3_;have f4_:=f1_.symm;have f5_:=f3_.symm;clear f1_ f2_ f3_;subst f4_;subst f5_))
 refine hK.out _ _ ⟨cz20 BK238.out,cz21 BK238.out⟩ (fun hHeld => ?_)
 clear hK K
 refine norm_ (a':=?_) ?_ ?_
 rotate_left
 {
 show Act.put _ (some 13) _=_
 simp only [Act.put,zA,zB,zC,i64_w,i32_w]
 rfl
 }
 refine pX 6 14 (fl 9 127) rfl rfl HT_.out ?_
 refine one_ (i:=7) (N:=none) #[tt,tt,tt,tt,tt,tt,tt,tt,ff] rfl rfl (one_of HT_.out (by kernel_rfl)) (by decide) (fun K hK => ?_)
 have hs16:w13.cell? ⟨gb239,0,none⟩=some (.slice none 0 0):=cz20 BK239.out
 have hfs16:=blk_frozen BK239.out 0
 have hns16_0:=NB238_239.out
 have hms16_0:=NB239_238.out
 have hs17:w13.cell? ⟨gb239,1,none⟩=some (.slice none 0 0):=cz21 BK239.out
 have hfs17:=blk_frozen BK239.out 1
 have hns17_0:=NB238_239.out
 have hms17_0:=NB239_238.out
 refine skip_ (w1:=?_) (by rfl) rfl ?_ ?_
 rotate_left
 {
 go_simp
 rfl
 }
 refine hK.out _ _ ⟨((cell_far (p:=⟨gb239,_,none⟩) NB238_239.out _).trans (((cell_far (p:=⟨gb239,_,none⟩) NB238_239.out _).trans (hHeld.1)))),((cell_far (p:=⟨gb239,_,none⟩) NB238_239.out _).trans (((cell_far (p:=⟨gb239,_,none⟩) NB238_239.out _).trans (hHeld.2))))⟩ (fun hHeld => ?_)
 clear hK K
 refine pX 8 3 (fl 9 511) rfl rfl HT_.out ?_
 refine done_ (done_of HT_.out (by kernel_rfl)) ?_
 try go_wp2
 refine bodyPost_ret (results_ct rfl _ _ gb239 27 #[.slice Ao15 t241.length co15,.slice Ao14 t244.length co14] (0,0) _ rfl (by(with_reducible repeat(first|refine kN ?_ _|refine kD ?_|refine kA ?_ _));refine blk_put (cs:=#[.slice Ao15 t241.length co15,.slice none 0 0]) ?_ 1 _ rfl;(with_reducible repeat(first|refine kN ?_ _|refine kD ?_|refine kA ?_ _));refine blk_put (cs:=#[.slice none 0 0,.slice none 0 0]) ?_ 0 _ rfl;(with_reducible repeat(first|refine kN ?_ _|refine kD ?_|refine kA ?_ _));exact BK239.out) Try.underlying27 rfl (by kernel_rfl)) rfl ?_
 exact ⟨_,_,eX,by(with_reducible repeat(first|apply rA|apply rN|apply rD));exact Kd.R_mono (Kd.R_far (p:=⟨gb239,1,none⟩) (Kd.R_far (p:=⟨gb239,0,none⟩) (Kd.R_types HO243.out BK239.out (by decide)) (fun _ hk=>hk.2) (.slice Ao15 t241.length co15)) (fun _ hk=>hk.2) (.slice Ao14 t244.length co14)) (fun _ hk=>hk.1.2),by(with_reducible repeat(first|apply rA|apply rN|apply rD));exact Kd.R_mono (Kd.R_far (p:=⟨gb239,1,none⟩) (Kd.R_far (p:=⟨gb239,0,none⟩) (Kd.R_types HO246.out BK239.out (by decide)) (fun _ hk=>hk.2) (.slice Ao15 t241.length co15)) (fun _ hk=>hk.2) (.slice Ao14 t244.length co14)) (fun _ hk=>hk.1.2),bX2 HB.out GE238.out GE239.out⟩
 }
 {
 replace c3:=Bool.eq_false_iff.mpr c3
 subst c3
 have H1:(some (([]:List Int),([]:List Int),false))=some (r1,r2,r3):=by rw [if_neg (show ¬ (false=true) by decide)] at H;exact H
 clear H
 have H:=H1
 clear H1
 simp only [Option.some.injEq,Prod.mk.injEq] at H
 obtain ⟨rfl,rfl,rfl⟩:=H
 go_enter Try.func78,Try.ntmps78
 go_wp2_with (first|((with_reducible refine gate_dst (N:=1) rfl ?_);refine bEv (cs:=#[.slice A0_0 l0_0.length c0_0,.slice A0_1 l0_1.length c0_1]) (t:=27) ?_;intro gb238 hg w18 hbox hb;have BK238:=aM (hbox);have GW238:=aM ((szX (below_size (bX HB.out)) hg:w.heap.size≤gb238));have GE238:=GW238;replace HB:=aM (below_step (bX HB.out) hb);clear hb hbox hg)|((with_reducible refine gate_dst (N:=2) rfl ?_);refine bEv (cs:=#[.slice none 0 0,.slice none 0 0]) (t:=27) ?_;intro gb239 hg w19 hbox hb;have BK239:=aM (hbox);have GW239:=aM ((szX (below_size (bX1 HB.out GE238.out)) hg:w.heap.size≤gb239));have GE239:=GW239;replace HB:=aM (below_step (bX1 HB.out GE238.out) hb);have NB238_239:=aM (neX BK238.out hg);have NB239_238:=aM (nfX BK238.out hg);replace BK238:=aM (bbX BK238.out hb);clear hb hbox hg;have hnb20:=NB238_239.out;have hnc20:=NB239_238.out;obtain ⟨hcz21_0,hcz21_1,hfz21_0,hfz21_1⟩:=f2Z BK238.out)|((with_reducible refine gate_callee (f:=56) rfl ?_);refine goesL_ (some 5) rfl rfl Try.func56 (by kernel_rfl) rfl #[.agg #[.slice A0_0 l0_0.length c0_0,.slice A0_1 l0_1.length c0_1]] rfl aX ?_;(with_reducible refine(impl_SurfaceOk.calls k _ _ l0_0 _ _ l0_1 false _ ?side1 ?side2 ?side3 ?side4 A2.out).mono ?_);(case side1=>exact cX (Kd.C_below HR0_0.out HB.out));(case side2=>exact HC0_0.out);(case side3=>exact cX (Kd.C_below HR0_1.out HB.out));(case side4=>exact HC0_1.out);rintro e w22 ⟨rfl,hb⟩;refine ⟨_,rfl,?_⟩;replace BK238:=aM (bbX BK238.out hb);replace BK239:=aM (bbX BK239.out hb);replace HB:=aM (below_step (bX2 HB.out GE238.out GE239.out) hb);(try clear hb);(try clear hk);obtain ⟨hcz23_0,hcz23_1,hfz23_0,hfz23_1⟩:=f2Z BK239.out))
 refine bodyPost_ret (results_ct rfl _ _ gb239 27 #[.slice none 0 0,.slice none 0 0] (0,0) _ rfl (by(with_reducible repeat(first|refine kN ?_ _|refine kD ?_|refine kA ?_ _));refine blk_put (cs:=#[.slice none 0 0,.slice none 0 0]) ?_ 1 _ rfl;(with_reducible repeat(first|refine kN ?_ _|refine kD ?_|refine kA ?_ _));refine blk_put (cs:=#[.slice none 0 0,.slice none 0 0]) ?_ 0 _ rfl;(with_reducible repeat(first|refine kN ?_ _|refine kD ?_|refine kA ?_ _));exact BK239.out) Try.underlying27 rfl (by kernel_rfl)) rfl ?_
 exact ⟨_,_,eX,by first|exact Kd.R_nil _ _ _ _ _|exact Kd.N_nil _ _ _ _ _|exact Kd.V_nil _ _ _ _ _|exact Kd.Q_nil _ _ _ _ _|exact Kd.S_nil _ _ _ _ _,by first|exact Kd.R_nil _ _ _ _ _|exact Kd.N_nil _ _ _ _ _|exact Kd.V_nil _ _ _ _ _|exact Kd.Q_nil _ _ _ _ _|exact Kd.S_nil _ _ _ _ _,bX2 HB.out GE238.out GE239.out⟩
 }

/-! ### impl_UnturnSurface: function 79 -/
def impl_UnturnSurface.f (k:Nat) (l0_0:List Int) (l0_1:List Int):Option (List Int × List Int × Bool):=(impl_SurfaceOk.f k l0_0 l0_1).bind fun t249=>(if t249=true then ((impl_copyInts.f l0_1).bind fun t250=>((impl_InversePerm.f k l0_0).bind fun t253=>(some (t250,t253,true)))) else (some (([]:List Int),([]:List Int),false)))
def impl_UnturnSurface.T3 : Bool × List (List Nat × List Nat):=(true,[([],[]),([0],[0]),([1],[1]),([],[]),([3],[3]),([4,2],[4]),([2,5],[2,5]),([6,5,0,1,2,3,4,5,6],[6]),([7,0,1,2,3,4,5,6,7],[])])
def impl_UnturnSurface.B3 : List Nat:=[0,1,3,0,8,31,63,127,255]
theorem impl_UnturnSurface.tab3 : rtab .any (opsOf Try.f79 3)=impl_UnturnSurface.T3:=by kernel_rfl
theorem impl_UnturnSurface.bits3 : waitsOk impl_UnturnSurface.T3.2 impl_UnturnSurface.B3=true:=by kernel_rfl
theorem impl_UnturnSurface.calls (k:Nat) (A0_0:Option Addr) (c0_0:Nat) (l0_0:List Int) (A0_1:Option Addr) (c0_1:Nat) (l0_1:List Int) (r1:List Int) (r2:List Int) (r3:Bool) (w:World) (hr0_0:Kd.C (Kd.int .i64) w A0_0 l0_0.length l0_0) (hc0_0:l0_0.length≤c0_0) (hr0_1:Kd.C (Kd.int .i64) w A0_1 l0_1.length l0_1) (hc0_1:l0_1.length≤c0_1) (h:impl_UnturnSurface.f k l0_0 l0_1=some (r1,r2,r3)) :
  Calls Try.prog 79 #[.agg #[.slice A0_0 l0_0.length c0_0,.slice A0_1 l0_1.length c0_1]] w fun e w'=>∃ v0_ v1_:Value,e = .returned (.tuple #[.agg #[v0_,v1_],.bool r3])∧Kd.R (Kd.int .i64) 3 w' w.heap.size (fun k_=>some k_≠(v1_:Value).ownBlock) v0_ r1∧Kd.R (Kd.int .i64) 3 w' w.heap.size (fun k_=>some k_≠(v0_:Value).ownBlock) v1_ r2∧Below w.heap.size w w':=by
 have hu27:=Try.underlying27
 have HR0_0:=aM hr0_0
 have HC0_0:=aM hc0_0
 clear hr0_0 hc0_0
 have HR0_1:=aM hr0_1
 have HC0_1:=aM hc0_1
 clear hr0_1 hc0_1
 have HB:=aM (Below.refl w.heap.size w)
 have H:((impl_SurfaceOk.f k l0_0 l0_1).bind fun t249=>(if t249=true then ((impl_copyInts.f l0_1).bind fun t250=>((impl_InversePerm.f k l0_0).bind fun t253=>(some (t250,t253,true)))) else (some (([]:List Int),([]:List Int),false))))=some (r1,r2,r3):=h
 clear h
 replace H:=oB H
 obtain ⟨t249,A20,H⟩:=H
 have A2:=aM A20
 clear A20
 by_cases c3:t249=true
 {
 subst c3
 have H1:((impl_copyInts.f l0_1).bind fun t250=>((impl_InversePerm.f k l0_0).bind fun t253=>(some (t250,t253,true))))=some (r1,r2,r3):=by rw [if_pos rfl] at H;exact H
 clear H
 have H:=H1
 clear H1
 replace H:=oB H
 obtain ⟨t250,A40,H⟩:=H
 have A4:=aM A40
 clear A40
 replace H:=oB H
 obtain ⟨t253,A50,H⟩:=H
 have A5:=aM A50
 clear A50
 simp only [Option.some.injEq,Prod.mk.injEq] at H
 obtain ⟨rfl,rfl,rfl⟩:=H
 go_enter Try.func79,Try.ntmps79
 try go_wp2_with (first|((with_reducible refine gate_dst (N:=1) rfl ?_);refine bEv (cs:=#[.slice A0_0 l0_0.length c0_0,.slice A0_1 l0_1.length c0_1]) (t:=27) ?_;intro gb247 hg w6 hbox hb;have BK247:=aM (hbox);have GW247:=aM ((szX (below_size (bX HB.out)) hg:w.heap.size≤gb247));have GE247:=GW247;replace HB:=aM (below_step (bX HB.out) hb);clear hb hbox hg)|((with_reducible refine gate_dst (N:=2) rfl ?_);refine bEv (cs:=#[.slice none 0 0,.slice none 0 0]) (t:=27) ?_;intro gb248 hg w7 hbox hb;have BK248:=aM (hbox);have GW248:=aM ((szX (below_size (bX1 HB.out GE247.out)) hg:w.heap.size≤gb248));have GE248:=GW248;replace HB:=aM (below_step (bX1 HB.out GE247.out) hb);have NB247_248:=aM (neX BK247.out hg);have NB248_247:=aM (nfX BK247.out hg);replace BK247:=aM (bbX BK247.out hb);clear hb hbox hg;have hnb8:=NB247_248.out;have hnc8:=NB248_247.out;obtain ⟨hcz9_0,hcz9_1,hfz9_0,hfz9_1⟩:=f2Z BK247.out)|((with_reducible refine gate_callee (f:=56) rfl ?_);refine goesL_ (some 5) rfl rfl Try.func56 (by kernel_rfl) rfl #[.agg #[.slice A0_0 l0_0.length c0_0,.slice A0_1 l0_1.length c0_1]] rfl aX ?_;(with_reducible refine(impl_SurfaceOk.calls k _ _ l0_0 _ _ l0_1 true _ ?side1 ?side2 ?side3 ?side4 A2.out).mono ?_);(case side1=>exact cX (Kd.C_below HR0_0.out HB.out));(case side2=>exact HC0_0.out);(case side3=>exact cX (Kd.C_below HR0_1.out HB.out));(case side4=>exact HC0_1.out);rintro e w10 ⟨rfl,hb⟩;refine ⟨_,rfl,?_⟩;replace BK247:=aM (bbX BK247.out hb);replace BK248:=aM (bbX BK248.out hb);replace HB:=aM (below_step (bX2 HB.out GE247.out GE248.out) hb);(try clear hb);(try clear hk)))
 replace BK247:=aM (blk_drew BK247.out)
 replace BK248:=aM (blk_drew BK248.out)
 replace HB:=aM (below_drew1 HB.out)
 refine start_ (n:=9) (S:=fun w'=>w'.cell? ⟨gb247,0,none⟩=some (.slice A0_0 l0_0.length c0_0)∧w'.cell? ⟨gb247,1,none⟩=some (.slice A0_1 l0_1.length c0_1)) (ds:=[]) #[ff,ff,ff,ff,ff,ff,ff,ff,ff] (by kernel_rfl) rfl rfl ⟨cz20 BK247.out,cz21 BK247.out⟩ (fun hHeld => ?_);refine with_tabW impl_UnturnSurface.tab3 impl_UnturnSurface.bits3 (fun HT_ HW_ => ?_)
 generalize w10.drew=w11 at BK247 BK248 HB hHeld ⊢
 refine pX 0 8 (fl 9 1) rfl rfl HT_.out ?_
 refine pX 3 11 (fl 9 9) rfl rfl HT_.out ?_
 refine tX2 1 9 (fl 9 11) rfl rfl HT_.out HW_.out hHeld ?_
 refine tX2 4 12 (fl 9 27) rfl rfl HT_.out HW_.out hHeld ?_
 refine one_ (i:=2) (N:=some 10) #[tt,tt,tt,tt,tt,ff,ff,ff,ff] rfl rfl (one_of HT_.out (by kernel_rfl)) (by decide) (fun K hK => ?_)
 refine goes_ Try.func94 (by kernel_rfl) rfl #[.slice A0_1 l0_1.length c0_1] (by rfl) rfl rfl aX ?_
 with_reducible refine(impl_copyInts.calls _ _ l0_1 t250 _ ?side1 ?side2 A4.out).mono ?_
 (case side1=>exact cX (Kd.C_below HR0_1.out HB.out))
 (case side2=>exact HC0_1.out)
 rintro e w12 ⟨v251,rfl,ho0,hb⟩
 refine ⟨_,rfl,?_⟩
 have HO252:=aM (Kd.R_lower ho0 (below_size (bX2 HB.out GE247.out GE248.out)))
 replace BK247:=aM (bbX BK247.out hb)
 replace BK248:=aM (bbX BK248.out hb)
 replace HB:=aM (below_step (bX2 HB.out GE247.out GE248.out) hb)
 (try clear hb)
 (try clear hk)
 (try clear ho0)
 refine hK.out _ _ ⟨cz20 BK247.out,cz21 BK247.out⟩ (fun hHeld => ?_)
 clear hK K
 refine norm_ (a':=?_) ?_ ?_
 rotate_left
 {
 show Act.put _ (some 10) _=_
 simp only [Act.put,zA,zB,zC,i64_w,i32_w]
 rfl
 }
 refine one_ (i:=5) (N:=some 13) #[tt,tt,tt,tt,tt,tt,ff,ff,ff] rfl rfl (one_of HT_.out (by kernel_rfl)) (by decide) (fun K hK => ?_)
 refine goes_ Try.func110 (by kernel_rfl) rfl #[.slice A0_0 l0_0.length c0_0] (by rfl) rfl rfl aX ?_
 with_reducible refine(impl_InversePerm.calls k _ _ l0_0 t253 _ ?side1 ?side2 A5.out).mono ?_
 (case side1=>exact cX (Kd.C_below HR0_0.out HB.out))
 (case side2=>exact HC0_0.out)
 rintro e w13 ⟨v254,rfl,ho0,hb⟩
 refine ⟨_,rfl,?_⟩
 have HO255:=aM (Kd.R_lower (Kd.R_new' ho0 (Kd.R_lt (rX HO252.out))) (below_size (bX2 HB.out GE247.out GE248.out)))
 replace HO252:=aM (Kd.R_elder' (rX HO252.out) (Kd.R_base ho0) hb)
 replace BK247:=aM (bbX BK247.out hb)
 replace BK248:=aM (bbX BK248.out hb)
 replace HB:=aM (below_step (bX2 HB.out GE247.out GE248.out) hb)
 (try clear hb)
 (try clear hk)
 (try clear ho0)
 obtain ⟨Ao14,co14,eo14⟩:=Kd.R_slice HO255.out
 (first|subst eo14|(injection eo14 with f1_ f2_ f3_;have f4_:=f1_.symm;have f5_:=f3_.symm;clear f1_ f2_ f3_;subst f4_;subst f5_))
 obtain ⟨Ao15,co15,eo15⟩:=Kd.R_slice HO252.out
 (first|subst eo15|(injection eo15 with f1_ f2_ f3_;have f4_:=f1_.symm;have f5_:=f3_.symm;clear f1_ f2_ f3_;subst f4_;subst f5_))
 refine hK.out _ _ ⟨cz20 BK247.out,cz21 BK247.out⟩ (fun hHeld => ?_)
 clear hK K
 refine norm_ (a':=?_) ?_ ?_
 rotate_left
 {
 show Act.put _ (some 13) _=_
 simp only [Act.put,zA,zB,zC,i64_w,i32_w]
 rfl
 }
 refine pX 6 14 (fl 9 127) rfl rfl HT_.out ?_
 refine one_ (i:=7) (N:=none) #[tt,tt,tt,tt,tt,tt,tt,tt,ff] rfl rfl (one_of HT_.out (by kernel_rfl)) (by decide) (fun K hK => ?_)
 have hs16:w13.cell? ⟨gb248,0,none⟩=some (.slice none 0 0):=cz20 BK248.out
 have hfs16:=blk_frozen BK248.out 0
 have hns16_0:=NB247_248.out
 have hms16_0:=NB248_247.out
 have hs17:w13.cell? ⟨gb248,1,none⟩=some (.slice none 0 0):=cz21 BK248.out
 have hfs17:=blk_frozen BK248.out 1
 have hns17_0:=NB247_248.out
 have hms17_0:=NB248_247.out
 refine skip_ (w1:=?_) (by rfl) rfl ?_ ?_
 rotate_left
 {
 go_simp
 rfl
 }
 refine hK.out _ _ ⟨((cell_far (p:=⟨gb248,_,none⟩) NB247_248.out _).trans (((cell_far (p:=⟨gb248,_,none⟩) NB247_248.out _).trans (hHeld.1)))),((cell_far (p:=⟨gb248,_,none⟩) NB247_248.out _).trans (((cell_far (p:=⟨gb248,_,none⟩) NB247_248.out _).trans (hHeld.2))))⟩ (fun hHeld => ?_)
 clear hK K
 refine pX 8 3 (fl 9 511) rfl rfl HT_.out ?_
 refine done_ (done_of HT_.out (by kernel_rfl)) ?_
 try go_wp2
 refine bodyPost_ret (results_ct rfl _ _ gb248 27 #[.slice Ao15 t250.length co15,.slice Ao14 t253.length co14] (0,0) _ rfl (by(with_reducible repeat(first|refine kN ?_ _|refine kD ?_|refine kA ?_ _));refine blk_put (cs:=#[.slice Ao15 t250.length co15,.slice none 0 0]) ?_ 1 _ rfl;(with_reducible repeat(first|refine kN ?_ _|refine kD ?_|refine kA ?_ _));refine blk_put (cs:=#[.slice none 0 0,.slice none 0 0]) ?_ 0 _ rfl;(with_reducible repeat(first|refine kN ?_ _|refine kD ?_|refine kA ?_ _));exact BK248.out) Try.underlying27 rfl (by kernel_rfl)) rfl ?_
 exact ⟨_,_,eX,by(with_reducible repeat(first|apply rA|apply rN|apply rD));exact Kd.R_mono (Kd.R_far (p:=⟨gb248,1,none⟩) (Kd.R_far (p:=⟨gb248,0,none⟩) (Kd.R_types HO252.out BK248.out (by decide)) (fun _ hk=>hk.2) (.slice Ao15 t250.length co15)) (fun _ hk=>hk.2) (.slice Ao14 t253.length co14)) (fun _ hk=>hk.1.2),by(with_reducible repeat(first|apply rA|apply rN|apply rD));exact Kd.R_mono (Kd.R_far (p:=⟨gb248,1,none⟩) (Kd.R_far (p:=⟨gb248,0,none⟩) (Kd.R_types HO255.out BK248.out (by decide)) (fun _ hk=>hk.2) (.slice Ao15 t250.length co15)) (fun _ hk=>hk.2) (.slice Ao14 t253.length co14)) (fun _ hk=>hk.1.2),bX2 HB.out GE247.out GE248.out⟩
 }
 {
 replace c3:=Bool.eq_false_iff.mpr c3
 subst c3
 have H1:(some (([]:List Int),([]:List Int),false))=some (r1,r2,r3):=by rw [if_neg (show ¬ (false=true) by decide)] at H;exact H
 clear H
 have H:=H1
 clear H1
 simp only [Option.some.injEq,Prod.mk.injEq] at H
 obtain ⟨rfl,rfl,rfl⟩:=H
 go_enter Try.func79,Try.ntmps79
 go_wp2_with (first|((with_reducible refine gate_dst (N:=1) rfl ?_);refine bEv (cs:=#[.slice A0_0 l0_0.length c0_0,.slice A0_1 l0_1.length c0_1]) (t:=27) ?_;intro gb247 hg w18 hbox hb;have BK247:=aM (hbox);have GW247:=aM ((szX (below_size (bX HB.out)) hg:w.heap.size≤gb247));have GE247:=GW247;replace HB:=aM (below_step (bX HB.out) hb);clear hb hbox hg)|((with_reducible refine gate_dst (N:=2) rfl ?_);refine bEv (cs:=#[.slice none 0 0,.slice none 0 0]) (t:=27) ?_;intro gb248 hg w19 hbox hb;have BK248:=aM (hbox);have GW248:=aM ((szX (below_size (bX1 HB.out GE247.out)) hg:w.heap.size≤gb248));have GE248:=GW248;replace HB:=aM (below_step (bX1 HB.out GE247.out) hb);have NB247_248:=aM (neX BK247.out hg);have NB248_247:=aM (nfX BK247.out hg);replace BK247:=aM (bbX BK247.out hb);clear hb hbox hg;have hnb20:=NB247_248.out;have hnc20:=NB248_247.out;obtain ⟨hcz21_0,hcz21_1,hfz21_0,hfz21_1⟩:=f2Z BK247.out)|((with_reducible refine gate_callee (f:=56) rfl ?_);refine goesL_ (some 5) rfl rfl Try.func56 (by kernel_rfl) rfl #[.agg #[.slice A0_0 l0_0.length c0_0,.slice A0_1 l0_1.length c0_1]] rfl aX ?_;(with_reducible refine(impl_SurfaceOk.calls k _ _ l0_0 _ _ l0_1 false _ ?side1 ?side2 ?side3 ?side4 A2.out).mono ?_);(case side1=>exact cX (Kd.C_below HR0_0.out HB.out));(case side2=>exact HC0_0.out);(case side3=>exact cX (Kd.C_below HR0_1.out HB.out));(case side4=>exact HC0_1.out);rintro e w22 ⟨rfl,hb⟩;refine ⟨_,rfl,?_⟩;replace BK247:=aM (bbX BK247.out hb);replace BK248:=aM (bbX BK248.out hb);replace HB:=aM (below_step (bX2 HB.out GE247.out GE248.out) hb);(try clear hb);(try clear hk);obtain ⟨hcz23_0,hcz23_1,hfz23_0,hfz23_1⟩:=f2Z BK248.out))
 refine bodyPost_ret (results_ct rfl _ _ gb248 27 #[.slice none 0 0,.slice none 0 0] (0,0) _ rfl (by(with_reducible repeat(first|refine kN ?_ _|refine kD ?_|refine kA ?_ _));refine blk_put (cs:=#[.slice none 0 0,.slice none 0 0]) ?_ 1 _ rfl;(with_reducible repeat(first|refine kN ?_ _|refine kD ?_|refine kA ?_ _));refine blk_put (cs:=#[.slice none 0 0,.slice none 0 0]) ?_ 0 _ rfl;(with_reducible repeat(first|refine kN ?_ _|refine kD ?_|refine kA ?_ _));exact BK248.out) Try.underlying27 rfl (by kernel_rfl)) rfl ?_
 exact ⟨_,_,eX,by first|exact Kd.R_nil _ _ _ _ _|exact Kd.N_nil _ _ _ _ _|exact Kd.V_nil _ _ _ _ _|exact Kd.Q_nil _ _ _ _ _|exact Kd.S_nil _ _ _ _ _,by first|exact Kd.R_nil _ _ _ _ _|exact Kd.N_nil _ _ _ _ _|exact Kd.V_nil _ _ _ _ _|exact Kd.Q_nil _ _ _ _ _|exact Kd.S_nil _ _ _ _ _,bX2 HB.out GE247.out GE248.out⟩
 }

end Go.Proofs.Ytmhjcbcjpidegaa.S
