-- PRINTED by print.py (a twelfth state) out of the translation. Not trusted: Lean checks it.
import Derived.Test.YthhdgeafdnikcaaDoorS0
namespace Go.Proofs.YthhdgeafdnikcaaDoor.S
set_option maxHeartbeats 8000000
set_option maxRecDepth 100000
open Go.RowKit Go.Proofs.YthhdgeafdnikcaaDoorW.PrintWords Go.Proofs.YthhdgeafdnikcaaDoorW.PrintLast Go.Proofs.YthhdgeafdnikcaaDoorW.PrintMore
attribute [local go_sem] max2_int min2_int max_two min_two max_three min_three max_four min_four   -- for this text's walks alone
set_option linter.unusedVariables false
set_option linter.unusedSimpArgs false

/-- A state of type 56 at block g of W; what its slices lead to came in by w0. -/
def IsS56 (w0 W:World) (g:Nat) (f0:List Int) (f1:Int) (f2:Int):Prop:=∃ A0 c0,W.heap[g]? = some (.cells #[.slice A0 f0.length c0,.int .i64 f1,.int .i64 f2] 56 (0,0))∧w0.heap.size≤g∧Kd.C (Kd.int .u8) w0 A0 f0.length f0
theorem IsS56.grown {w0 W:World} {g:Nat} {f0:List Int} {f1:Int} {f2:Int} {W1:World} {row:Option Nat} (h:IsS56 w0 W g f0 f1 f2) (hw:W.grownBy W1 row) (hne:some g≠row):IsS56 w0 W1 g f0 f1 f2:=by
 obtain ⟨A0,c0,hb,hg,hr0⟩:=h
 exact ⟨A0,c0,blk_grown hb hw hne,hg,hr0⟩
theorem IsS56.own_neN {w0 W:World} {g:Nat} {f0:List Int} {f1:Int} {f2:Int} {α:Type} {d:Kd α} {e:Nat} {base:Nat} {ok:Nat→Prop} {v:Value} {xs:List α} (h:IsS56 w0 W g f0 f1 f2) (ho:Kd.N d e W base ok v xs) (ht:e≠56):some g≠v.ownBlock:=by
 obtain ⟨A0,c0,hb,hg,hr0⟩:=h
 exact Kd.N_ne ho hb ht
theorem IsS56.fresh {w0 W:World} {g:Nat} {f0:List Int} {f1:Int} {f2:Int} (h:IsS56 w0 W g f0 f1 f2):∀ k,W.heap.size≤k→k≠g:=by
 obtain ⟨A0,c0,hb,hg,hr0⟩:=h
 exact Kd.freshB hb
theorem IsS56.kept {w0 W:World} {g:Nat} {f0:List Int} {f1:Int} {f2:Int} {W1:World} {S:Nat→Prop} (h:IsS56 w0 W g f0 f1 f2) (hk:Kept W W1 S) (hne:¬ S g):IsS56 w0 W1 g f0 f1 f2:=by
 obtain ⟨A0,c0,hb,hg,hr0⟩:=h
 exact ⟨A0,c0,blk_kept hb hk hne,hg,hr0⟩
theorem IsS56.below {w0 W:World} {g:Nat} {f0:List Int} {f1:Int} {f2:Int} {W1:World} (h:IsS56 w0 W g f0 f1 f2) (hw:Below W.heap.size W W1):IsS56 w0 W1 g f0 f1 f2:=h.grown (grown_of_below hw none) (by simp)
theorem IsS56.alloc {w0 W:World} {g:Nat} {f0:List Int} {f1:Int} {f2:Int} (h:IsS56 w0 W g f0 f1 f2) (o:Obj):IsS56 w0 (W.alloc o) g f0 f1 f2:=h.below (below_alloc (Below.refl _ _) o)
theorem IsS56.drewN {w0 W:World} {g:Nat} {f0:List Int} {f1:Int} {f2:Int} (h:IsS56 w0 W g f0 f1 f2) (m:Nat):IsS56 w0 (W.drewN m) g f0 f1 f2:=h
theorem IsS56.drew {w0 W:World} {g:Nat} {f0:List Int} {f1:Int} {f2:Int} (h:IsS56 w0 W g f0 f1 f2):IsS56 w0 W.drew g f0 f1 f2:=h
theorem IsS56.at_ {w0 W:World} {g:Nat} {f0:List Int} {f1:Int} {f2:Int} {w':World} {m:Nat} (hq:W.drewN m=w') (h:IsS56 w0 W g f0 f1 f2):IsS56 w0 w' g f0 f1 f2:=by subst hq;exact IsS56.drewN h m
theorem IsS56.apart {w0 W:World} {g:Nat} {f0:List Int} {f1:Int} {f2:Int} {α:Type} {d:Kd α} {e:Nat} {base:Nat} {ok:Nat→Prop} {v:Value} {xs:List α} (h:IsS56 w0 W g f0 f1 f2) (ho:d.R e W base ok v xs) (ht:∀ q,q∈e :: d.E→q≠56):d.R e W base (fun k=>ok k∧k≠g) v xs:=by
 obtain ⟨A0,c0,hb,hg,hr0⟩:=h
 exact Kd.R_types ho hb ht
theorem IsS56.own_ne {w0 W:World} {g:Nat} {f0:List Int} {f1:Int} {f2:Int} {α:Type} {d:Kd α} {e:Nat} {base:Nat} {ok:Nat→Prop} {v:Value} {xs:List α} (h:IsS56 w0 W g f0 f1 f2) (ho:d.R e W base ok v xs) (ht:e≠56):some g≠v.ownBlock:=by
 obtain ⟨A0,c0,hb,hg,hr0⟩:=h
 exact Kd.R_ne ho hb ht
theorem IsS56.apartQ {w0 W:World} {g:Nat} {f0:List Int} {f1:Int} {f2:Int} {α:Type} {d:Kd α} {e:Nat} {base:Nat} {ok:Nat→Prop} {v:Value} {xs:List α} (h:IsS56 w0 W g f0 f1 f2) (ho:d.Q e W base ok v xs) (ht:∀ q,q∈e :: d.E→q≠56):d.Q e W base (fun k=>ok k∧k≠g) v xs:=by
 obtain ⟨A0,c0,hb,hg,hr0⟩:=h
 exact Kd.Q_types ho hb ht
theorem IsS56.own_neQ {w0 W:World} {g:Nat} {f0:List Int} {f1:Int} {f2:Int} {α:Type} {d:Kd α} {e:Nat} {base:Nat} {ok:Nat→Prop} {v:Value} {xs:List α} (h:IsS56 w0 W g f0 f1 f2) (ho:d.Q e W base ok v xs) (ht:e≠56):some g≠v.ownBlock:=by
 obtain ⟨A0,c0,hb,hg,hr0⟩:=h
 exact Kd.Q_ne ho hb ht
theorem IsS56.apartS {w0 W:World} {g:Nat} {f0:List Int} {f1:Int} {f2:Int} {α:Type} {d:Kd α} {e:Nat} {base:Nat} {ok:Nat→Prop} {v:Value} {xs:List α} (h:IsS56 w0 W g f0 f1 f2) (ho:d.S e W base ok v xs) (ht:∀ q,q∈e :: d.E→q≠56):d.S e W base (fun k=>ok k∧k≠g) v xs:=by
 obtain ⟨A0,c0,hb,hg,hr0⟩:=h
 exact Kd.S_types ho hb ht
theorem IsS56.own_neS {w0 W:World} {g:Nat} {f0:List Int} {f1:Int} {f2:Int} {α:Type} {d:Kd α} {e:Nat} {base:Nat} {ok:Nat→Prop} {v:Value} {xs:List α} (h:IsS56 w0 W g f0 f1 f2) (ho:d.S e W base ok v xs) (ht:e≠56):some g≠v.ownBlock:=by
 obtain ⟨A0,c0,hb,hg,hr0⟩:=h
 exact Kd.S_ne ho hb ht
theorem IsS56.lt {w0 W:World} {g:Nat} {f0:List Int} {f1:Int} {f2:Int} (h:IsS56 w0 W g f0 f1 f2):g<W.heap.size:=by
 obtain ⟨A0,c0,hb,hg,hr0⟩:=h
 exact blk_lt hb
theorem IsS56.ge {w0 W:World} {g:Nat} {f0:List Int} {f1:Int} {f2:Int} (h:IsS56 w0 W g f0 f1 f2):w0.heap.size≤g:=by
 obtain ⟨A0,c0,hb,hg,hr0⟩:=h
 exact hg
theorem IsS56.ne_blk {w0 W:World} {g:Nat} {f0:List Int} {f1:Int} {f2:Int} {a:Nat} {cs:Array Value} {t:TypeId} {fr:Nat × Nat} (h:IsS56 w0 W g f0 f1 f2) (hb2:W.heap[a]? = some (.cells cs t fr)) (ht:t≠56):g≠a:=by
 obtain ⟨A0,c0,hb,hg,hr0⟩:=h
 rintro rfl
 rw [hb] at hb2
 injection hb2 with hb2
 injection hb2 with _ ht2
 exact ht ht2.symm
theorem IsS56.far {w0 W:World} {g:Nat} {f0:List Int} {f1:Int} {f2:Int} {p:Addr} (h:IsS56 w0 W g f0 f1 f2) (hne:g≠p.block) (u:Value):IsS56 w0 (W.setCell p u) g f0 f1 f2:=by
 obtain ⟨A0,c0,hb,hg,hr0⟩:=h
 exact ⟨A0,c0,blk_far hb hne u,hg,hr0⟩
theorem cellS56_0 {W:World} {g:Nat} {A0:Option Addr} {c0:Nat} {f0:List Int} {f1:Int} {f2:Int} (h:W.heap[g]? = some (.cells #[.slice A0 f0.length c0,.int .i64 f1,.int .i64 f2] 56 (0,0))):W.cell? ⟨g,0,none⟩=some (.slice A0 f0.length c0):=(blk_cell h 0).trans rfl
theorem cellS56_1 {W:World} {g:Nat} {A0:Option Addr} {c0:Nat} {f0:List Int} {f1:Int} {f2:Int} (h:W.heap[g]? = some (.cells #[.slice A0 f0.length c0,.int .i64 f1,.int .i64 f2] 56 (0,0))):W.cell? ⟨g,1,none⟩=some (.int .i64 f1):=(blk_cell h 1).trans rfl
theorem IsS56.set_1 {w0 W:World} {g:Nat} {f0:List Int} {f1:Int} {f2:Int} (h:IsS56 w0 W g f0 f1 f2) (x:Int):IsS56 w0 (W.setCell ⟨g,1,none⟩ (.int .i64 x)) g f0 x f2:=by
 obtain ⟨A0,c0,hb,hg,hr0⟩:=h
 exact ⟨A0,c0,by simpa using blk_set hb 1 (.int .i64 x),hg,hr0⟩
theorem cellS56_2 {W:World} {g:Nat} {A0:Option Addr} {c0:Nat} {f0:List Int} {f1:Int} {f2:Int} (h:W.heap[g]? = some (.cells #[.slice A0 f0.length c0,.int .i64 f1,.int .i64 f2] 56 (0,0))):W.cell? ⟨g,2,none⟩=some (.int .i64 f2):=(blk_cell h 2).trans rfl
theorem IsS56.set_2 {w0 W:World} {g:Nat} {f0:List Int} {f1:Int} {f2:Int} (h:IsS56 w0 W g f0 f1 f2) (x:Int):IsS56 w0 (W.setCell ⟨g,2,none⟩ (.int .i64 x)) g f0 f1 x:=by
 obtain ⟨A0,c0,hb,hg,hr0⟩:=h
 exact ⟨A0,c0,by simpa using blk_set hb 2 (.int .i64 x),hg,hr0⟩
theorem IsS56.new (w0 W:World) (A0:Option Addr) (c0:Nat) (f0:List Int) (f1:Int) (f2:Int) (hB:Below w0.heap.size w0 W) (hr0:Kd.C (Kd.int .u8) w0 A0 f0.length f0):IsS56 w0 (W.alloc (.cells #[.slice A0 f0.length c0,.int .i64 f1,.int .i64 f2] 56)) W.heap.size f0 f1 f2:=⟨A0,c0,by simpa using heap_alloc_new W _,hB.size,hr0⟩

/-! ### s_l01New: function 16 -/
def s_l01New.l0 : Nat→List Int→Int→Int→Option (List Int × Int × Int)
 | 0,_,_,_=>none
 | k+1,x0,x3,x4=>if x4<(x0.length:Int) then (if x4<4000 then (if 0≤x4 then (s_l01New.l0 k x0 (Go.bits .and .i64 (wrap64 ((wrap64 ((wrap64 (x3*109))+(wrap64 (rd x0 x4))))+7)) 1073741823) (wrap64 (x4+1))) else (none)) else (some (x0,0,x3))) else (some (x0,0,x3))
def s_l01New.f (k:Nat) (l0:List Int):Option (List Int × Int × Int):=s_l01New.l0 k l0 (wrap64 (2073+(l0.length:Int))) 0
theorem s_l01New.calls (k:Nat) (A0:Option Addr) (c0:Nat) (l0:List Int) (r1:List Int) (r2:Int) (r3:Int) (w0 w:World) (hB:Below w0.heap.size w0 w) (hr0:Kd.C (Kd.int .u8) w0 A0 l0.length l0) (hc0:l0.length≤c0) (h:s_l01New.f k l0=some (r1,r2,r3)) :
  Calls Tryd.prog 16 #[.slice A0 l0.length c0] w fun e w'=>∃ g_:Nat,e = .returned (.pointer (some ⟨g_,0,none⟩))∧IsS56 w0 w' g_ r1 r2 r3∧Below w0.heap.size w0 w'∧Below w.heap.size w w':=by
 have hu56:=Tryd.underlying56
 have HR0:=aM hr0
 have HC0:=aM hc0
 clear hr0 hc0
 have HBW:=aM (Below.refl w.heap.size w)
 have HW0:=aM hB.size
 have HB:=aM hB
 clear hB
 have H:(s_l01New.l0 k l0 (wrap64 (2073+(l0.length:Int))) 0)=some (r1,r2,r3):=h
 clear h
 have H':=aM H
 clear H
 go_enter Tryd.func16,Tryd.ntmps16
 go_wp2
 go_loopg [3,4] k (fun kq v3 v4 w'=>∃ (x3_1:Int) (x4_1:Int),v3 = .int .i64 x3_1∧v4 = .int .i64 x4_1∧Aside0 (s_l01New.l0 kq l0 x3_1 x4_1=some (r1,r2,r3))∧Aside0 (kq≤k)∧Aside0 (Below w0.heap.size w0 w')∧Aside0 (Below w.heap.size w w'))
 case atStart=>exact ⟨(wrap64 (2073+(l0.length:Int))),(0),vX,vX,H',⟨Nat.le_refl _⟩,⟨bX HB.out⟩,⟨by repeat(first|(with_reducible first|exact HBW.out|apply below_alloc|apply pw_below_drewN|apply below_drew1)|exact HBW.out)⟩⟩
 case round =>
 clear H'
 obtain ⟨x3_1,x4_1,rfl,rfl,HA,HK1,HB,HBW⟩:=hrel
 cases gk with
 | zero=>exact absurd HA.out (by simp [s_l01New.l0])
 | succ k1 =>
 have H:=HA.out
 clear HA
 simp only [s_l01New.l0] at H
 by_cases c2:x4_1<(l0.length:Int)
 {
 rw [if_pos c2] at H
 have c2b0:=decide_eq_true c2
 clear c2
 by_cases c3:x4_1<4000
 {
 rw [if_pos c3] at H
 have c3b0:=decide_eq_true c3
 clear c3
 by_cases c4:0≤x4_1
 {
 rw [if_pos c4] at H
 have c4b0:=decide_eq_true c4
 clear c4
 have H':=aM H
 clear H
 have p101:0≤(x4_1:Int):=dX
 have q101:x4_1<(l0.length:Int):=dX
 obtain ⟨ad101,e101,hx101_0⟩:=Kd.at_int HR0.out x4_1 p101 q101
 cases e101
 replace hx101_0:=pw_cell_below HB.out hx101_0
 replace p101:=eq_true p101
 replace q101:=eq_true q101
 go_wp2
 go_roundg k1
 case measure=>have:=HK1.out;omega
 case rel=>exact ⟨(Go.bits .and .i64 (wrap64 ((wrap64 ((wrap64 (x3_1*109))+(wrap64 (rd l0 x4_1))))+7)) 1073741823),(wrap64 (x4_1+1)),vX,vX,H',⟨by have:=HK1.out;omega⟩,⟨bX HB.out⟩,⟨by repeat(first|(with_reducible first|exact HBW.out|apply below_alloc|apply pw_below_drewN|apply below_drew1)|exact HBW.out)⟩⟩
 }
 {
 rw [if_neg c4] at H
 exact absurd H (by simp)
 }
 }
 {
 rw [if_neg c3] at H
 have c3b0:=decide_eq_false c3
 clear c3
 simp only [Option.some.injEq,Prod.mk.injEq] at H
 obtain ⟨rfl,rfl,rfl⟩:=H
 go_wp2_with (first|((with_reducible refine gate_dst (N:=31) rfl ?_);refine bEv (cs:=#[.slice A0 l0.length c0,.int .i64 0,.int .i64 x3_1]) (t:=56) ?_;intro gb102 hg w5 hbox hb;replace HB:=aM (below_step (bX HB.out) hb);have BK102:=aM (hbox);have GW102:=aM ((by rw [hg];exact(below_size (by repeat(first|(with_reducible first|exact HBW.out|apply below_alloc|apply pw_below_drewN|apply below_drew1)|exact HBW.out))):w.heap.size≤gb102));have GE102:=aM ((Nat.le_trans HW0.out (by rw [hg];exact(below_size (by repeat(first|(with_reducible first|exact HBW.out|apply below_alloc|apply pw_below_drewN|apply below_drew1)|exact HBW.out))):w.heap.size≤gb102):w0.heap.size≤gb102));replace HBW:=aM (below_step HBW.out hb);clear hb hbox hg))
 go_ret
 exact ⟨_,rfl,(show IsS56 w0 _ gb102 l0 0 x3_1 from ⟨_,_,kX BK102.out,GE102.out,HR0.out⟩),bX1 HB.out GE102.out,by repeat(first|(with_reducible first|exact HBW.out|apply below_alloc|apply pw_below_drewN|apply below_drew1|refine below_set ?_ GW102.out)|exact HBW.out)⟩
 }
 }
 {
 rw [if_neg c2] at H
 have c2b0:=decide_eq_false c2
 clear c2
 simp only [Option.some.injEq,Prod.mk.injEq] at H
 obtain ⟨rfl,rfl,rfl⟩:=H
 go_wp2_with (first|((with_reducible refine gate_dst (N:=31) rfl ?_);refine bEv (cs:=#[.slice A0 l0.length c0,.int .i64 0,.int .i64 x3_1]) (t:=56) ?_;intro gb103 hg w6 hbox hb;replace HB:=aM (below_step (bX HB.out) hb);have BK103:=aM (hbox);have GW103:=aM ((by rw [hg];exact(below_size (by repeat(first|(with_reducible first|exact HBW.out|apply below_alloc|apply pw_below_drewN|apply below_drew1)|exact HBW.out))):w.heap.size≤gb103));have GE103:=aM ((Nat.le_trans HW0.out (by rw [hg];exact(below_size (by repeat(first|(with_reducible first|exact HBW.out|apply below_alloc|apply pw_below_drewN|apply below_drew1)|exact HBW.out))):w.heap.size≤gb103):w0.heap.size≤gb103));replace HBW:=aM (below_step HBW.out hb);clear hb hbox hg))
 go_ret
 exact ⟨_,rfl,(show IsS56 w0 _ gb103 l0 0 x3_1 from ⟨_,_,kX BK103.out,GE103.out,HR0.out⟩),bX1 HB.out GE103.out,by repeat(first|(with_reducible first|exact HBW.out|apply below_alloc|apply pw_below_drewN|apply below_drew1|refine below_set ?_ GW103.out)|exact HBW.out)⟩
 }
theorem s_l01New.calls2 (k:Nat) (A0:Option Addr) (c0:Nat) (l0:List Int) (r1:List Int) (r2:Int) (r3:Int) (w0 w:World) (hB:Below w0.heap.size w0 w) (hr0:Kd.C (Kd.int .u8) w0 A0 l0.length l0) (hc0:l0.length≤c0) (h:s_l01New.f k l0=some (r1,r2,r3)) :
  Calls Tryd.prog 16 #[.slice A0 l0.length c0] w fun e w'=>∃ g_:Nat,e = .returned (.pointer (some ⟨g_,0,none⟩))∧IsS56 w0 w' g_ r1 r2 r3∧Below w0.heap.size w0 w'∧Below w.heap.size w w'∧w.heap.size≤g_:=by
 have hu56:=Tryd.underlying56
 have HR0:=aM hr0
 have HC0:=aM hc0
 clear hr0 hc0
 have HBW:=aM (Below.refl w.heap.size w)
 have HW0:=aM hB.size
 have HB:=aM hB
 clear hB
 have H:(s_l01New.l0 k l0 (wrap64 (2073+(l0.length:Int))) 0)=some (r1,r2,r3):=h
 clear h
 have H':=aM H
 clear H
 go_enter Tryd.func16,Tryd.ntmps16
 go_wp2
 go_loopg [3,4] k (fun kq v3 v4 w'=>∃ (x3_1:Int) (x4_1:Int),v3 = .int .i64 x3_1∧v4 = .int .i64 x4_1∧Aside0 (s_l01New.l0 kq l0 x3_1 x4_1=some (r1,r2,r3))∧Aside0 (kq≤k)∧Aside0 (Below w0.heap.size w0 w')∧Aside0 (Below w.heap.size w w'))
 case atStart=>exact ⟨(wrap64 (2073+(l0.length:Int))),(0),vX,vX,H',⟨Nat.le_refl _⟩,⟨bX HB.out⟩,⟨by repeat(first|(with_reducible first|exact HBW.out|apply below_alloc|apply pw_below_drewN|apply below_drew1)|exact HBW.out)⟩⟩
 case round =>
 clear H'
 obtain ⟨x3_1,x4_1,rfl,rfl,HA,HK1,HB,HBW⟩:=hrel
 cases gk with
 | zero=>exact absurd HA.out (by simp [s_l01New.l0])
 | succ k1 =>
 have H:=HA.out
 clear HA
 simp only [s_l01New.l0] at H
 by_cases c2:x4_1<(l0.length:Int)
 {
 rw [if_pos c2] at H
 have c2b0:=decide_eq_true c2
 clear c2
 by_cases c3:x4_1<4000
 {
 rw [if_pos c3] at H
 have c3b0:=decide_eq_true c3
 clear c3
 by_cases c4:0≤x4_1
 {
 rw [if_pos c4] at H
 have c4b0:=decide_eq_true c4
 clear c4
 have H':=aM H
 clear H
 have p101:0≤(x4_1:Int):=dX
 have q101:x4_1<(l0.length:Int):=dX
 obtain ⟨ad101,e101,hx101_0⟩:=Kd.at_int HR0.out x4_1 p101 q101
 cases e101
 replace hx101_0:=pw_cell_below HB.out hx101_0
 replace p101:=eq_true p101
 replace q101:=eq_true q101
 go_wp2
 go_roundg k1
 case measure=>have:=HK1.out;omega
 case rel=>exact ⟨(Go.bits .and .i64 (wrap64 ((wrap64 ((wrap64 (x3_1*109))+(wrap64 (rd l0 x4_1))))+7)) 1073741823),(wrap64 (x4_1+1)),vX,vX,H',⟨by have:=HK1.out;omega⟩,⟨bX HB.out⟩,⟨by repeat(first|(with_reducible first|exact HBW.out|apply below_alloc|apply pw_below_drewN|apply below_drew1)|exact HBW.out)⟩⟩
 }
 {
 rw [if_neg c4] at H
 exact absurd H (by simp)
 }
 }
 {
 rw [if_neg c3] at H
 have c3b0:=decide_eq_false c3
 clear c3
 simp only [Option.some.injEq,Prod.mk.injEq] at H
 obtain ⟨rfl,rfl,rfl⟩:=H
 go_wp2_with (first|((with_reducible refine gate_dst (N:=31) rfl ?_);refine bEv (cs:=#[.slice A0 l0.length c0,.int .i64 0,.int .i64 x3_1]) (t:=56) ?_;intro gb102 hg w5 hbox hb;replace HB:=aM (below_step (bX HB.out) hb);have BK102:=aM (hbox);have GW102:=aM ((by rw [hg];exact(below_size (by repeat(first|(with_reducible first|exact HBW.out|apply below_alloc|apply pw_below_drewN|apply below_drew1)|exact HBW.out))):w.heap.size≤gb102));have GE102:=aM ((Nat.le_trans HW0.out (by rw [hg];exact(below_size (by repeat(first|(with_reducible first|exact HBW.out|apply below_alloc|apply pw_below_drewN|apply below_drew1)|exact HBW.out))):w.heap.size≤gb102):w0.heap.size≤gb102));replace HBW:=aM (below_step HBW.out hb);clear hb hbox hg))
 go_ret
 exact ⟨_,rfl,(show IsS56 w0 _ gb102 l0 0 x3_1 from ⟨_,_,kX BK102.out,GE102.out,HR0.out⟩),bX1 HB.out GE102.out,by repeat(first|(with_reducible first|exact HBW.out|apply below_alloc|apply pw_below_drewN|apply below_drew1|refine below_set ?_ GW102.out)|exact HBW.out),GW102.out⟩
 }
 }
 {
 rw [if_neg c2] at H
 have c2b0:=decide_eq_false c2
 clear c2
 simp only [Option.some.injEq,Prod.mk.injEq] at H
 obtain ⟨rfl,rfl,rfl⟩:=H
 go_wp2_with (first|((with_reducible refine gate_dst (N:=31) rfl ?_);refine bEv (cs:=#[.slice A0 l0.length c0,.int .i64 0,.int .i64 x3_1]) (t:=56) ?_;intro gb103 hg w6 hbox hb;replace HB:=aM (below_step (bX HB.out) hb);have BK103:=aM (hbox);have GW103:=aM ((by rw [hg];exact(below_size (by repeat(first|(with_reducible first|exact HBW.out|apply below_alloc|apply pw_below_drewN|apply below_drew1)|exact HBW.out))):w.heap.size≤gb103));have GE103:=aM ((Nat.le_trans HW0.out (by rw [hg];exact(below_size (by repeat(first|(with_reducible first|exact HBW.out|apply below_alloc|apply pw_below_drewN|apply below_drew1)|exact HBW.out))):w.heap.size≤gb103):w0.heap.size≤gb103));replace HBW:=aM (below_step HBW.out hb);clear hb hbox hg))
 go_ret
 exact ⟨_,rfl,(show IsS56 w0 _ gb103 l0 0 x3_1 from ⟨_,_,kX BK103.out,GE103.out,HR0.out⟩),bX1 HB.out GE103.out,by repeat(first|(with_reducible first|exact HBW.out|apply below_alloc|apply pw_below_drewN|apply below_drew1|refine below_set ?_ GW103.out)|exact HBW.out),GW103.out⟩
 }

/-! ### s_l01Byte: function 34 -/
def s_l01Byte.f (s0_0:List Int) (s0_1:Int) (s0_2:Int):Option (Int × Int × Int):=if s0_1<(s0_0.length:Int) then (if 0≤s0_1 then (some (Go.bits .and .i64 (wrap64 ((Go.bits .and .i64 (Go.bits .xor .i64 ((wrap64 ((wrap64 (s0_2*6364136223846793005))+1442695040888963407)) / 8589934592) ((wrap64 ((wrap64 (s0_2*6364136223846793005))+1442695040888963407)) / 35184372088832)) 255)+(wrap64 (rd s0_0 s0_1)))) 255,wrap64 (s0_1+1),wrap64 ((wrap64 (s0_2*6364136223846793005))+1442695040888963407))) else (none)) else (some (Go.bits .and .i64 (Go.bits .xor .i64 ((wrap64 ((wrap64 (s0_2*6364136223846793005))+1442695040888963407)) / 8589934592) ((wrap64 ((wrap64 (s0_2*6364136223846793005))+1442695040888963407)) / 35184372088832)) 255,s0_1,wrap64 ((wrap64 (s0_2*6364136223846793005))+1442695040888963407)))
theorem s_l01Byte.calls (g:Nat) (s0_0:List Int) (s0_1:Int) (s0_2:Int) (r1:Int) (r2:Int) (r3:Int) (w0 w:World) (hI:IsS56 w0 w g s0_0 s0_1 s0_2) (hB:Below w0.heap.size w0 w) (h:s_l01Byte.f s0_0 s0_1 s0_2=some (r1,r2,r3)) :
  Calls Tryd.prog 34 #[.pointer (some ⟨g,0,none⟩)] w fun e w'=>e = .returned (.int .i64 r1)∧IsS56 w0 w' g s0_0 r2 r3∧Below w0.heap.size w0 w'∧KeepBut w w' g none:=by
 have HI0:=aM hI
 have HK:=aM (KeepBut.refl w g none)
 have HL:=aM hB.size
 clear hI
 have HW0:=aM hB.size
 have HB:=aM hB
 clear hB
 have H:(if s0_1<(s0_0.length:Int) then (if 0≤s0_1 then (some (Go.bits .and .i64 (wrap64 ((Go.bits .and .i64 (Go.bits .xor .i64 ((wrap64 ((wrap64 (s0_2*6364136223846793005))+1442695040888963407)) / 8589934592) ((wrap64 ((wrap64 (s0_2*6364136223846793005))+1442695040888963407)) / 35184372088832)) 255)+(wrap64 (rd s0_0 s0_1)))) 255,wrap64 (s0_1+1),wrap64 ((wrap64 (s0_2*6364136223846793005))+1442695040888963407))) else (none)) else (some (Go.bits .and .i64 (Go.bits .xor .i64 ((wrap64 ((wrap64 (s0_2*6364136223846793005))+1442695040888963407)) / 8589934592) ((wrap64 ((wrap64 (s0_2*6364136223846793005))+1442695040888963407)) / 35184372088832)) 255,s0_1,wrap64 ((wrap64 (s0_2*6364136223846793005))+1442695040888963407))))=some (r1,r2,r3):=h
 clear h
 by_cases c2:s0_1<(s0_0.length:Int)
 {
 rw [if_pos c2] at H
 have c2b0:=decide_eq_true c2
 clear c2
 by_cases c3:0≤s0_1
 {
 rw [if_pos c3] at H
 have c3b0:=decide_eq_true c3
 clear c3
 simp only [Option.some.injEq,Prod.mk.injEq] at H
 obtain ⟨rfl,rfl,rfl⟩:=H
 obtain ⟨ASz4_0,cSz4_0,HGz4,hgz4,HSz4_0⟩:=HI0.out
 have hcz4_0:=cellS56_0 HGz4
 have hcz4_1:=cellS56_1 HGz4
 have hcz4_2:=cellS56_2 HGz4
 have hfz4_1:=blk_frozen HGz4 1
 have hfz4_2:=blk_frozen HGz4 2
 clear HGz4 hgz4
 have p104:0≤(s0_1:Int):=dX
 have q104:s0_1<(s0_0.length:Int):=dX
 obtain ⟨ad104,e104,hx104_0⟩:=Kd.at_int HSz4_0 s0_1 p104 q104
 cases e104
 have hn104_0:ad104.block≠g:=Nat.ne_of_lt (Nat.lt_of_lt_of_le (by have:=World.block_lt_of_cell? _ _ hx104_0;first|rwa [add_block] at this|exact this) (IsS56.ge HI0.out))
 replace hx104_0:=pw_cell_below HB.out hx104_0
 replace hx104_0:=(cell_far (p:=⟨g,2,none⟩) (by first|(rw [add_block];exact hn104_0)|(show (Addr.add _ _).block≠_;rw [add_block];exact hn104_0)|exact hn104_0) (.int .i64 (wrap64 ((wrap64 (s0_2*6364136223846793005))+1442695040888963407)))).trans hx104_0
 (try have hy104_0:=fun (n_:Nat)=>(show (((w.drewN n_).setCell ⟨g,2,none⟩ (.int .i64 (wrap64 ((wrap64 (s0_2*6364136223846793005))+1442695040888963407))))).cell? _=some _ from hx104_0))
 clear hn104_0
 replace p104:=eq_true p104
 replace q104:=eq_true q104
 go_enter Tryd.func34,Tryd.ntmps34
 go_wp2
 repeat(go_quiet (fail);try go_wp2)
 go_ret
 exact ⟨eX,by repeat(first|(with_reducible first|exact HI0.out|apply IsS56.alloc|apply IsS56.drewN|apply IsS56.drew|apply IsS56.set_1|apply IsS56.set_2)|exact HI0.out),bX1 HB.out (IsS56.ge HI0.out),by repeat(first|(with_reducible first|exact HK.out|apply KeepBut.set_|apply keep_drewN|apply keep_drew|apply keep_alloc)|exact HK.out)⟩
 }
 {
 rw [if_neg c3] at H
 exact absurd H (by simp)
 }
 }
 {
 rw [if_neg c2] at H
 have c2b0:=decide_eq_false c2
 clear c2
 simp only [Option.some.injEq,Prod.mk.injEq] at H
 obtain ⟨rfl,rfl,rfl⟩:=H
 obtain ⟨ASz5_0,cSz5_0,HGz5,hgz5,HSz5_0⟩:=HI0.out
 have hcz5_0:=cellS56_0 HGz5
 have hcz5_1:=cellS56_1 HGz5
 have hcz5_2:=cellS56_2 HGz5
 have hfz5_1:=blk_frozen HGz5 1
 have hfz5_2:=blk_frozen HGz5 2
 clear HGz5 hgz5
 go_enter Tryd.func34,Tryd.ntmps34
 go_wp2
 repeat(go_quiet (fail);try go_wp2)
 go_ret
 exact ⟨eX,by repeat(first|(with_reducible first|exact HI0.out|apply IsS56.alloc|apply IsS56.drewN|apply IsS56.drew|apply IsS56.set_1|apply IsS56.set_2)|exact HI0.out),bX1 HB.out (IsS56.ge HI0.out),by repeat(first|(with_reducible first|exact HK.out|apply KeepBut.set_|apply keep_drewN|apply keep_drew|apply keep_alloc)|exact HK.out)⟩
 }

/-! ### s_l01Below: function 17 -/
def s_l01Below.f (s0_0:List Int) (s0_1:Int) (s0_2:Int) (a1:Int):Option (Int × Int × Int):=if a1≤0 then (some (0,s0_1,s0_2)) else (if a1≤256 then ((s_l01Byte.f s0_0 s0_1 s0_2).bind fun bt105=>(if a1=0 then (none) else (some (Int.tmod bt105.1 a1,bt105.2.1,bt105.2.2)))) else ((s_l01Byte.f s0_0 s0_1 s0_2).bind fun bt108=>((s_l01Byte.f s0_0 bt108.2.1 bt108.2.2).bind fun bt111=>((s_l01Byte.f s0_0 bt111.2.1 bt111.2.2).bind fun bt114=>((s_l01Byte.f s0_0 bt114.2.1 bt114.2.2).bind fun bt117=>(if a1=0 then (none) else (some (Int.tmod (wrap64 ((wrap64 ((wrap64 ((wrap64 (bt108.1*16777216))+(wrap64 (bt111.1*65536))))+(wrap64 (bt114.1*256))))+bt117.1)) a1,bt117.2.1,bt117.2.2))))))))
theorem s_l01Below.calls (g:Nat) (s0_0:List Int) (s0_1:Int) (s0_2:Int) (a1:Int) (r1:Int) (r2:Int) (r3:Int) (w0 w:World) (hI:IsS56 w0 w g s0_0 s0_1 s0_2) (hB:Below w0.heap.size w0 w) (h:s_l01Below.f s0_0 s0_1 s0_2 a1=some (r1,r2,r3)) :
  Calls Tryd.prog 17 #[.pointer (some ⟨g,0,none⟩),.int .i64 a1] w fun e w'=>e = .returned (.int .i64 r1)∧IsS56 w0 w' g s0_0 r2 r3∧Below w0.heap.size w0 w'∧KeepBut w w' g none:=by
 have HI0:=aM hI
 have HK:=aM (KeepBut.refl w g none)
 have HL:=aM hB.size
 clear hI
 have HW0:=aM hB.size
 have HB:=aM hB
 clear hB
 have H:(if a1≤0 then (some (0,s0_1,s0_2)) else (if a1≤256 then ((s_l01Byte.f s0_0 s0_1 s0_2).bind fun bt105=>(if a1=0 then (none) else (some (Int.tmod bt105.1 a1,bt105.2.1,bt105.2.2)))) else ((s_l01Byte.f s0_0 s0_1 s0_2).bind fun bt108=>((s_l01Byte.f s0_0 bt108.2.1 bt108.2.2).bind fun bt111=>((s_l01Byte.f s0_0 bt111.2.1 bt111.2.2).bind fun bt114=>((s_l01Byte.f s0_0 bt114.2.1 bt114.2.2).bind fun bt117=>(if a1=0 then (none) else (some (Int.tmod (wrap64 ((wrap64 ((wrap64 ((wrap64 (bt108.1*16777216))+(wrap64 (bt111.1*65536))))+(wrap64 (bt114.1*256))))+bt117.1)) a1,bt117.2.1,bt117.2.2)))))))))=some (r1,r2,r3):=h
 clear h
 by_cases c3:a1≤0
 {
 rw [if_pos c3] at H
 have c3b0:=decide_eq_true c3
 clear c3
 simp only [Option.some.injEq,Prod.mk.injEq] at H
 obtain ⟨rfl,rfl,rfl⟩:=H
 go_enter Tryd.func17,Tryd.ntmps17
 go_wp2
 go_ret
 exact ⟨eX,by repeat(first|(with_reducible first|exact HI0.out|apply IsS56.alloc|apply IsS56.drewN|apply IsS56.drew|apply IsS56.set_1|apply IsS56.set_2)|exact HI0.out),bX1 HB.out (IsS56.ge HI0.out),by repeat(first|(with_reducible first|exact HK.out|apply KeepBut.set_|apply keep_drewN|apply keep_drew|apply keep_alloc)|exact HK.out)⟩
 }
 {
 rw [if_neg c3] at H
 have c3b0:=decide_eq_false c3
 clear c3
 by_cases c4:a1≤256
 {
 rw [if_pos c4] at H
 have c4b0:=decide_eq_true c4
 clear c4
 replace H:=oB H
 obtain ⟨⟨t105,t106,t107⟩,A50,H⟩:=H
 replace H:(if a1=0 then (none) else (some (Int.tmod t105 a1,t106,t107)))=some (r1,r2,r3):=H
 have A5:=aM A50
 clear A50
 by_cases c6:a1=0
 {
 rw [if_pos c6] at H
 exact absurd H (by simp)
 }
 {
 rw [if_neg c6] at H
 have c6b0:(a1 == 0)=false:=beq_eq_false_iff_ne.mpr c6
 have c6b1:(a1 != 0)=true:=bne_iff_ne.mpr c6
 simp only [Option.some.injEq,Prod.mk.injEq] at H
 obtain ⟨rfl,rfl,rfl⟩:=H
 go_enter Tryd.func17,Tryd.ntmps17
 go_wp2_with (first|((with_reducible refine gate_callee (f:=34) rfl ?_);refine goesL_ (some 14) rfl rfl Tryd.func34 (by kernel_rfl) rfl #[.pointer (some ⟨g,0,none⟩)] rfl aX ?_;(with_reducible refine(s_l01Byte.calls g s0_0 s0_1 s0_2 t105 t106 t107 w0 _ ?side1 ?side2 A5.out).mono ?_);(case side1=>repeat(first|(with_reducible first|exact HI0.out|apply IsS56.alloc|apply IsS56.drewN|apply IsS56.drew|apply IsS56.set_1|apply IsS56.set_2)|exact HI0.out));(case side2=>repeat(first|(with_reducible first|exact HB.out|apply bA|apply bN|apply bD|refine below_set ?_ (IsS56.ge HI0.out))|exact HB.out));rintro e w7 ⟨rfl,hi,hb,hk⟩;refine ⟨_,rfl,?_⟩;replace HK:=aM (KeepBut.trans (by repeat(first|(with_reducible first|exact HK.out|apply KeepBut.set_|apply keep_drewN|apply keep_drew|apply keep_alloc)|exact HK.out)) hk (.inl rfl));replace HB:=aM (hb);replace HI0:=aM (hi);(try clear hb);(try clear hk);(try clear hi)))
 go_ret
 exact ⟨eX,by repeat(first|(with_reducible first|exact HI0.out|apply IsS56.alloc|apply IsS56.drewN|apply IsS56.drew|apply IsS56.set_1|apply IsS56.set_2)|exact HI0.out),bX1 HB.out (IsS56.ge HI0.out),by repeat(first|(with_reducible first|exact HK.out|apply KeepBut.set_|apply keep_drewN|apply keep_drew|apply keep_alloc)|exact HK.out)⟩
 }
 }
 {
 rw [if_neg c4] at H
 have c4b0:=decide_eq_false c4
 clear c4
 replace H:=oB H
 obtain ⟨⟨t108,t109,t110⟩,A80,H⟩:=H
 replace H:((s_l01Byte.f s0_0 t109 t110).bind fun bt111=>((s_l01Byte.f s0_0 bt111.2.1 bt111.2.2).bind fun bt114=>((s_l01Byte.f s0_0 bt114.2.1 bt114.2.2).bind fun bt117=>(if a1=0 then (none) else (some (Int.tmod (wrap64 ((wrap64 ((wrap64 ((wrap64 (t108*16777216))+(wrap64 (bt111.1*65536))))+(wrap64 (bt114.1*256))))+bt117.1)) a1,bt117.2.1,bt117.2.2))))))=some (r1,r2,r3):=H
 have A8:=aM A80
 clear A80
 replace H:=oB H
 obtain ⟨⟨t111,t112,t113⟩,A90,H⟩:=H
 replace H:((s_l01Byte.f s0_0 t112 t113).bind fun bt114=>((s_l01Byte.f s0_0 bt114.2.1 bt114.2.2).bind fun bt117=>(if a1=0 then (none) else (some (Int.tmod (wrap64 ((wrap64 ((wrap64 ((wrap64 (t108*16777216))+(wrap64 (t111*65536))))+(wrap64 (bt114.1*256))))+bt117.1)) a1,bt117.2.1,bt117.2.2)))))=some (r1,r2,r3):=H
 have A9:=aM A90
 clear A90
 replace H:=oB H
 obtain ⟨⟨t114,t115,t116⟩,A100,H⟩:=H
 replace H:((s_l01Byte.f s0_0 t115 t116).bind fun bt117=>(if a1=0 then (none) else (some (Int.tmod (wrap64 ((wrap64 ((wrap64 ((wrap64 (t108*16777216))+(wrap64 (t111*65536))))+(wrap64 (t114*256))))+bt117.1)) a1,bt117.2.1,bt117.2.2))))=some (r1,r2,r3):=H
 have A10:=aM A100
 clear A100
 replace H:=oB H
 obtain ⟨⟨t117,t118,t119⟩,A110,H⟩:=H
 replace H:(if a1=0 then (none) else (some (Int.tmod (wrap64 ((wrap64 ((wrap64 ((wrap64 (t108*16777216))+(wrap64 (t111*65536))))+(wrap64 (t114*256))))+t117)) a1,t118,t119)))=some (r1,r2,r3):=H
 have A11:=aM A110
 clear A110
 by_cases c12:a1=0
 {
 rw [if_pos c12] at H
 exact absurd H (by simp)
 }
 {
 rw [if_neg c12] at H
 have c12b0:(a1 == 0)=false:=beq_eq_false_iff_ne.mpr c12
 have c12b1:(a1 != 0)=true:=bne_iff_ne.mpr c12
 simp only [Option.some.injEq,Prod.mk.injEq] at H
 obtain ⟨rfl,rfl,rfl⟩:=H
 go_enter Tryd.func17,Tryd.ntmps17
 go_wp2_with (first|((with_reducible refine gate_callee (f:=34) rfl ?_);refine goesL_ (some 18) rfl rfl Tryd.func34 (by kernel_rfl) rfl #[.pointer (some ⟨g,0,none⟩)] rfl aX ?_;(with_reducible refine(s_l01Byte.calls g s0_0 s0_1 s0_2 t108 t109 t110 w0 _ ?side1 ?side2 A8.out).mono ?_);(case side1=>repeat(first|(with_reducible first|exact HI0.out|apply IsS56.alloc|apply IsS56.drewN|apply IsS56.drew|apply IsS56.set_1|apply IsS56.set_2)|exact HI0.out));(case side2=>repeat(first|(with_reducible first|exact HB.out|apply bA|apply bN|apply bD|refine below_set ?_ (IsS56.ge HI0.out))|exact HB.out));rintro e w13 ⟨rfl,hi,hb,hk⟩;refine ⟨_,rfl,?_⟩;replace HK:=aM (KeepBut.trans (by repeat(first|(with_reducible first|exact HK.out|apply KeepBut.set_|apply keep_drewN|apply keep_drew|apply keep_alloc)|exact HK.out)) hk (.inl rfl));replace HB:=aM (hb);replace HI0:=aM (hi);(try clear hb);(try clear hk);(try clear hi))|((with_reducible refine gate_callee (f:=34) rfl ?_);refine goesL_ (some 20) rfl rfl Tryd.func34 (by kernel_rfl) rfl #[.pointer (some ⟨g,0,none⟩)] rfl aX ?_;(with_reducible refine(s_l01Byte.calls g s0_0 t109 t110 t111 t112 t113 w0 _ ?side1 ?side2 A9.out).mono ?_);(case side1=>repeat(first|(with_reducible first|exact HI0.out|apply IsS56.alloc|apply IsS56.drewN|apply IsS56.drew|apply IsS56.set_1|apply IsS56.set_2)|exact HI0.out));(case side2=>repeat(first|(with_reducible first|exact HB.out|apply bA|apply bN|apply bD|refine below_set ?_ (IsS56.ge HI0.out))|exact HB.out));rintro e w14 ⟨rfl,hi,hb,hk⟩;refine ⟨_,rfl,?_⟩;replace HK:=aM (KeepBut.trans (by repeat(first|(with_reducible first|exact HK.out|apply KeepBut.set_|apply keep_drewN|apply keep_drew|apply keep_alloc)|exact HK.out)) hk (.inl rfl));replace HB:=aM (hb);replace HI0:=aM (hi);(try clear hb);(try clear hk);(try clear hi))|((with_reducible refine gate_callee (f:=34) rfl ?_);refine goesL_ (some 22) rfl rfl Tryd.func34 (by kernel_rfl) rfl #[.pointer (some ⟨g,0,none⟩)] rfl aX ?_;(with_reducible refine(s_l01Byte.calls g s0_0 t112 t113 t114 t115 t116 w0 _ ?side1 ?side2 A10.out).mono ?_);(case side1=>repeat(first|(with_reducible first|exact HI0.out|apply IsS56.alloc|apply IsS56.drewN|apply IsS56.drew|apply IsS56.set_1|apply IsS56.set_2)|exact HI0.out));(case side2=>repeat(first|(with_reducible first|exact HB.out|apply bA|apply bN|apply bD|refine below_set ?_ (IsS56.ge HI0.out))|exact HB.out));rintro e w15 ⟨rfl,hi,hb,hk⟩;refine ⟨_,rfl,?_⟩;replace HK:=aM (KeepBut.trans (by repeat(first|(with_reducible first|exact HK.out|apply KeepBut.set_|apply keep_drewN|apply keep_drew|apply keep_alloc)|exact HK.out)) hk (.inl rfl));replace HB:=aM (hb);replace HI0:=aM (hi);(try clear hb);(try clear hk);(try clear hi))|((with_reducible refine gate_callee (f:=34) rfl ?_);refine goesL_ (some 24) rfl rfl Tryd.func34 (by kernel_rfl) rfl #[.pointer (some ⟨g,0,none⟩)] rfl aX ?_;(with_reducible refine(s_l01Byte.calls g s0_0 t115 t116 t117 t118 t119 w0 _ ?side1 ?side2 A11.out).mono ?_);(case side1=>repeat(first|(with_reducible first|exact HI0.out|apply IsS56.alloc|apply IsS56.drewN|apply IsS56.drew|apply IsS56.set_1|apply IsS56.set_2)|exact HI0.out));(case side2=>repeat(first|(with_reducible first|exact HB.out|apply bA|apply bN|apply bD|refine below_set ?_ (IsS56.ge HI0.out))|exact HB.out));rintro e w16 ⟨rfl,hi,hb,hk⟩;refine ⟨_,rfl,?_⟩;replace HK:=aM (KeepBut.trans (by repeat(first|(with_reducible first|exact HK.out|apply KeepBut.set_|apply keep_drewN|apply keep_drew|apply keep_alloc)|exact HK.out)) hk (.inl rfl));replace HB:=aM (hb);replace HI0:=aM (hi);(try clear hb);(try clear hk);(try clear hi)))
 go_ret
 exact ⟨eX,by repeat(first|(with_reducible first|exact HI0.out|apply IsS56.alloc|apply IsS56.drewN|apply IsS56.drew|apply IsS56.set_1|apply IsS56.set_2)|exact HI0.out),bX1 HB.out (IsS56.ge HI0.out),by repeat(first|(with_reducible first|exact HK.out|apply KeepBut.set_|apply keep_drewN|apply keep_drew|apply keep_alloc)|exact HK.out)⟩
 }
 }
 }

/-! ### s_l01In: function 35 -/
def s_l01In.f (a0:Int) (a1:Int) (a2:Int):Option (Bool):=if a0≥a1 then (some (decide (a0≤a2))) else (some false)
theorem s_l01In.calls (a0:Int) (a1:Int) (a2:Int) (r:Bool) (w:World) (h:s_l01In.f a0 a1 a2=some r) :
  Calls Tryd.prog 35 #[.int .i64 a0,.int .i64 a1,.int .i64 a2] w fun e w'=>e = .returned (.bool r)∧Drawn0 w w':=by
 have H:(if a0≥a1 then (some (decide (a0≤a2))) else (some false))=some r:=h
 clear h
 by_cases c4:a0≥a1
 {
 rw [if_pos c4] at H
 have c4b0:=decide_eq_true c4
 clear c4
 obtain rfl:=Option.some.inj H
 go_enter Tryd.func35,Tryd.ntmps35
 go_wp2
 go_ret
 exact ⟨by first|rfl|(simp;done)|(simp [*];done),by repeat(first|exact Drawn0.refl _|apply Drawn0.step)⟩
 }
 {
 rw [if_neg c4] at H
 have c4b0:=decide_eq_false c4
 clear c4
 obtain rfl:=Option.some.inj H
 go_enter Tryd.func35,Tryd.ntmps35
 go_wp2
 go_ret
 exact ⟨by first|rfl|(simp;done)|(simp [*];done),by repeat(first|exact Drawn0.refl _|apply Drawn0.step)⟩
 }

/-! ### s_TorusOf: function 18 -/
mutual
def s_TorusOf.j0 : Nat→Int→Int→Bool→Option (List Int × List Int × Bool)
 | 0,_,_,_=>none
 | k+1,x0,x1,x21=>if x21=true then (some (([]:List Int),([]:List Int),false)) else (s_TorusOf.l0 k x0 x1 0 ([]:List Int) ([]:List Int))
def s_TorusOf.l0 : Nat→Int→Int→Int→List Int→List Int→Option (List Int × List Int × Bool)
 | 0,_,_,_,_,_=>none
 | k+1,x0,x1,x7,x124000,x124001=>if x7<(wrap64 (x0*x1)) then (if x0=0 then (none) else (if x124000.length<17592186044416 then (if (wrap64 (x0*x1))=0 then (none) else (if x124001.length<17592186044416 then (s_TorusOf.l0 k x0 x1 (wrap64 (x7+1)) (x124000 ++ [wrap64 ((wrap64 ((wrap64 (Int.tdiv x7 x0))*x0))+(Int.tmod (wrap64 ((Int.tmod x7 x0)+1)) x0))]) (x124001 ++ [Int.tmod (wrap64 (x7+x0)) (wrap64 (x0*x1))])) else (none))) else (none))) else (some (x124000,x124001,true))
end
def s_TorusOf.f (k:Nat) (a0:Int) (a1:Int):Option (List Int × List Int × Bool):=(s_l01In.f a0 1 24).bind fun t121=>(if t121=true then ((s_l01In.f a1 1 24).bind fun t122=>(if t122=true then (s_TorusOf.j0 k a0 a1 (decide ((wrap64 (a0*a1)) > 24))) else (s_TorusOf.j0 k a0 a1 true))) else (s_TorusOf.j0 k a0 a1 true))
def s_TorusOf.T7 : Bool × List (List Nat × List Nat):=(true,[([],[]),([0],[0]),([],[]),([],[]),([2,3],[2,3]),([],[]),([4,5],[4,5]),([],[]),([],[]),([7,8],[7,8]),([9],[9]),([],[]),([10,11],[10,11]),([6,12],[6,12]),([13],[13]),([1,14],[1,14]),([0,1,2,3,4,5,6,7,8,9,10,11,12,13,14,15],[]),([16,15,15,0,1,2,3,4,5,6,7,8,9,10,11,12,13,14,15],[15,16])])
def s_TorusOf.B7 : List Nat:=[0,1,0,0,12,0,60,0,0,384,896,0,3968,8188,16380,32767,65535,131071]
theorem s_TorusOf.tab7 : rtab .any (opsOf Tryd.f18 7)=s_TorusOf.T7:=by kernel_rfl
theorem s_TorusOf.bits7 : waitsOk s_TorusOf.T7.2 s_TorusOf.B7=true:=by kernel_rfl
def s_TorusOf.T8 : Bool × List (List Nat × List Nat):=(true,[([],[]),([0],[0]),([],[]),([],[]),([2,3],[2,3]),([],[]),([],[]),([5,6],[5,6]),([4,7],[4,7]),([8],[8]),([1,9],[1,9]),([0,1,2,3,4,5,6,7,8,9,10],[]),([11,10,10,0,1,2,3,4,5,6,7,8,9,10],[10,11])])
def s_TorusOf.B8 : List Nat:=[0,1,0,0,12,0,0,96,252,508,1023,2047,4095]
theorem s_TorusOf.tab8 : rtab .any (opsOf Tryd.f18 8)=s_TorusOf.T8:=by kernel_rfl
theorem s_TorusOf.bits8 : waitsOk s_TorusOf.T8.2 s_TorusOf.B8=true:=by kernel_rfl
theorem s_TorusOf.calls (k:Nat) (a0:Int) (a1:Int) (r1:List Int) (r2:List Int) (r3:Bool) (w:World) (h:s_TorusOf.f k a0 a1=some (r1,r2,r3)) :
  Calls Tryd.prog 18 #[.int .i64 a0,.int .i64 a1] w fun e w'=>∃ v0_ v1_:Value,e = .returned (.tuple #[.agg #[v0_,v1_],.bool r3])∧Kd.R (Kd.int .i64) 3 w' w.heap.size (fun k_=>some k_≠(v1_:Value).ownBlock) v0_ r1∧Kd.R (Kd.int .i64) 3 w' w.heap.size (fun k_=>some k_≠(v0_:Value).ownBlock) v1_ r2∧Below w.heap.size w w':=by
 have hu25:=Tryd.underlying25
 have HB:=aM (Below.refl w.heap.size w)
 have H:((s_l01In.f a0 1 24).bind fun t121=>(if t121=true then ((s_l01In.f a1 1 24).bind fun t122=>(if t122=true then (s_TorusOf.j0 k a0 a1 (decide ((wrap64 (a0*a1)) > 24))) else (s_TorusOf.j0 k a0 a1 true))) else (s_TorusOf.j0 k a0 a1 true)))=some (r1,r2,r3):=h
 clear h
 have HC3:=aM H
 clear H
 go_enter Tryd.func18,Tryd.ntmps18
 go_upto_region 1 with (first|((with_reducible refine gate_dst (N:=4) rfl ?_);refine bEv (cs:=#[.slice none 0 0,.slice none 0 0]) (t:=25) ?_;intro gb120 hg w4 hbox hb;have BK120:=aM (hbox);have GW120:=aM ((szX (below_size (bX HB.out)) hg:w.heap.size≤gb120));have GE120:=GW120;replace HB:=aM (below_step (bX HB.out) hb);clear hb hbox hg))
 (try simp only [Act.put,List.setIfInBounds_toArray,List.set_cons_zero,List.set_cons_succ])
 go_cut [21] (fun v21 wc=>∃ (kq:Nat) (x21_2:Bool),v21 = .bool x21_2∧Aside0 (s_TorusOf.j0 kq a0 a1 x21_2=some (r1,r2,r3))∧Aside0 (kq≤k)∧Aside0 (wc.heap[gb120]? = some (.cells #[(.slice none 0 0),(.slice none 0 0)] 25 (0,0)))∧Aside0 (Below w.heap.size w wc))
 case first =>
  have H:=HC3.out
  clear HC3
  replace H:=oB H
  obtain ⟨t121,A50,H⟩:=H
  have A5:=aM A50
  clear A50
  by_cases c6:t121=true
  {
  subst c6
  have H1:((s_l01In.f a1 1 24).bind fun t122=>(if t122=true then (s_TorusOf.j0 k a0 a1 (decide ((wrap64 (a0*a1)) > 24))) else (s_TorusOf.j0 k a0 a1 true)))=some (r1,r2,r3):=by rw [if_pos rfl] at H;exact H
  clear H
  have H:=H1
  clear H1
  replace H:=oB H
  obtain ⟨t122,A70,H⟩:=H
  have A7:=aM A70
  clear A70
  by_cases c8:t122=true
  {
  subst c8
  have H1:(s_TorusOf.j0 k a0 a1 (decide ((wrap64 (a0*a1)) > 24)))=some (r1,r2,r3):=by rw [if_pos rfl] at H;exact H
  clear H
  have H:=H1
  clear H1
  have H':=aM H
  clear H
  go_wp2_with (first|((with_reducible refine gate_callee (f:=35) rfl ?_);refine goesL_ (some 9) rfl rfl Tryd.func35 (by kernel_rfl) rfl #[.int .i64 a0,.int .i64 1,.int .i64 24] rfl aX ?_;(with_reducible refine(s_l01In.calls a0 1 24 true _ A5.out).mono ?_);rintro e w' ⟨rfl,⟨nd,rfl⟩⟩;refine ⟨_,rfl,?_⟩)|(go_at_call 35;(with_reducible refine(s_l01In.calls a1 1 24 true _ A7.out).mono ?_);rintro e w' ⟨rfl,⟨nd,rfl⟩⟩))
  go_meet
  case rel=>exact ⟨_,(decide ((wrap64 (a0*a1)) > 24)),vX,H',⟨by first|omega|exact Nat.le_refl _⟩,⟨kX BK120.out⟩,⟨bX1 HB.out GE120.out⟩⟩
  }
  {
  replace c8:=Bool.eq_false_iff.mpr c8
  subst c8
  have H1:(s_TorusOf.j0 k a0 a1 true)=some (r1,r2,r3):=by rw [if_neg (show ¬ (false=true) by decide)] at H;exact H
  clear H
  have H:=H1
  clear H1
  have H':=aM H
  clear H
  go_wp2_with (first|((with_reducible refine gate_callee (f:=35) rfl ?_);refine goesL_ (some 9) rfl rfl Tryd.func35 (by kernel_rfl) rfl #[.int .i64 a0,.int .i64 1,.int .i64 24] rfl aX ?_;(with_reducible refine(s_l01In.calls a0 1 24 true _ A5.out).mono ?_);rintro e w' ⟨rfl,⟨nd,rfl⟩⟩;refine ⟨_,rfl,?_⟩)|(go_at_call 35;(with_reducible refine(s_l01In.calls a1 1 24 false _ A7.out).mono ?_);rintro e w' ⟨rfl,⟨nd,rfl⟩⟩))
  go_meet
  case rel=>exact ⟨_,(true),vX,H',⟨by first|omega|exact Nat.le_refl _⟩,⟨kX BK120.out⟩,⟨bX1 HB.out GE120.out⟩⟩
  }
  }
  {
  replace c6:=Bool.eq_false_iff.mpr c6
  subst c6
  have H1:(s_TorusOf.j0 k a0 a1 true)=some (r1,r2,r3):=by rw [if_neg (show ¬ (false=true) by decide)] at H;exact H
  clear H
  have H:=H1
  clear H1
  have H':=aM H
  clear H
  go_wp2_with (first|((with_reducible refine gate_callee (f:=35) rfl ?_);refine goesL_ (some 9) rfl rfl Tryd.func35 (by kernel_rfl) rfl #[.int .i64 a0,.int .i64 1,.int .i64 24] rfl aX ?_;(with_reducible refine(s_l01In.calls a0 1 24 false _ A5.out).mono ?_);rintro e w' ⟨rfl,⟨nd,rfl⟩⟩;refine ⟨_,rfl,?_⟩))
  go_meet
  case rel=>exact ⟨_,(true),vX,H',⟨by first|omega|exact Nat.le_refl _⟩,⟨kX BK120.out⟩,⟨bX1 HB.out GE120.out⟩⟩
  }
 case rest =>
 clear HC3
 try clear c6
 try clear c8
 obtain ⟨kq,x21_2,rfl,HA,HJ2,BK120,HB⟩:=hcut
 cases kq with
 | zero=>exact absurd HA.out (by simp [s_TorusOf.j0])
 | succ kj2 =>
 have H:=HA.out
 clear HA
 simp only [s_TorusOf.j0] at H
 by_cases c9:x21_2=true
 {
 subst c9
 have H1:(some (([]:List Int),([]:List Int),false))=some (r1,r2,r3):=by rw [if_pos rfl] at H;exact H
 clear H
 have H:=H1
 clear H1
 simp only [Option.some.injEq,Prod.mk.injEq] at H
 obtain ⟨rfl,rfl,rfl⟩:=H
 obtain ⟨hcz10_0,hcz10_1,hfz10_0,hfz10_1⟩:=f2Z BK120.out
 go_wp2
 refine bodyPost_ret (results_ct rfl _ _ gb120 25 #[.slice none 0 0,.slice none 0 0] (0,0) _ rfl (by(with_reducible repeat(first|refine kN ?_ _|refine kD ?_|refine kA ?_ _));refine blk_put (cs:=#[.slice none 0 0,.slice none 0 0]) ?_ 1 _ rfl;(with_reducible repeat(first|refine kN ?_ _|refine kD ?_|refine kA ?_ _));refine blk_put (cs:=#[.slice none 0 0,.slice none 0 0]) ?_ 0 _ rfl;(with_reducible repeat(first|refine kN ?_ _|refine kD ?_|refine kA ?_ _));exact BK120.out) Tryd.underlying25 rfl (by kernel_rfl)) rfl ?_
 exact ⟨_,_,eX,by first|exact Kd.R_nil _ _ _ _ _|exact Kd.N_nil _ _ _ _ _|exact Kd.V_nil _ _ _ _ _|exact Kd.Q_nil _ _ _ _ _|exact Kd.S_nil _ _ _ _ _,by first|exact Kd.R_nil _ _ _ _ _|exact Kd.N_nil _ _ _ _ _|exact Kd.V_nil _ _ _ _ _|exact Kd.Q_nil _ _ _ _ _|exact Kd.S_nil _ _ _ _ _,bX1 HB.out GE120.out⟩
 }
 {
 replace c9:=Bool.eq_false_iff.mpr c9
 subst c9
 have H1:(s_TorusOf.l0 kj2 a0 a1 0 ([]:List Int) ([]:List Int))=some (r1,r2,r3):=by rw [if_neg (show ¬ (false=true) by decide)] at H;exact H
 clear H
 have H:=H1
 clear H1
 have H':=aM H
 clear H
 go_wp2_with (first|((with_reducible refine gate_dst (N:=6) rfl ?_);refine bEv (cs:=#[.slice none 0 0,.slice none 0 0]) (t:=25) ?_;intro gb123 hg w11 hbox hb;have BK123:=aM (hbox);have GW123:=aM ((szX (below_size (bX1 HB.out GE120.out)) hg:w.heap.size≤gb123));have GE123:=GW123;replace HB:=aM (below_step (bX1 HB.out GE120.out) hb);have NB120_123:=aM (neX BK120.out hg);have NB123_120:=aM (nfX BK120.out hg);replace BK120:=aM (bbX BK120.out hb);clear hb hbox hg;have hnb12:=NB123_120.out;have hnc12:=NB120_123.out;obtain ⟨hcz13_0,hcz13_1,hfz13_0,hfz13_1⟩:=f2Z BK123.out))
 go_loopg [7] kj2 (fun kq v7 w'=>∃ (x7_2:Int) (x124000_2:List Int) (x124001_2:List Int) (u124000:Value) (u124001:Value),v7 = .int .i64 x7_2∧Aside0 (s_TorusOf.l0 kq a0 a1 x7_2 x124000_2 x124001_2=some (r1,r2,r3))∧Aside0 (kq≤kj2)∧Aside0 (Kd.R (Kd.int .i64) 3 w' w.heap.size (fun k_=>some k_≠(u124001:Value).ownBlock) u124000 x124000_2)∧Aside0 (Kd.R (Kd.int .i64) 3 w' w.heap.size (fun k_=>some k_≠(u124000:Value).ownBlock) u124001 x124001_2)∧Aside0 (w'.heap[gb120]? = some (.cells #[(.slice none 0 0),(.slice none 0 0)] 25 (0,0)))∧Aside0 (w'.heap[gb123]? = some (.cells #[u124000,u124001] 25 (0,0)))∧Aside0 (Below w.heap.size w w'))
 case atStart=>exact ⟨(0),(([]:List Int)),(([]:List Int)),(.slice none 0 0),(.slice none 0 0),vX,H',⟨Nat.le_refl _⟩,⟨by first|exact Kd.R_nil _ _ _ _ _|exact Kd.N_nil _ _ _ _ _|exact Kd.V_nil _ _ _ _ _|exact Kd.Q_nil _ _ _ _ _|exact Kd.S_nil _ _ _ _ _⟩,⟨by first|exact Kd.R_nil _ _ _ _ _|exact Kd.N_nil _ _ _ _ _|exact Kd.V_nil _ _ _ _ _|exact Kd.Q_nil _ _ _ _ _|exact Kd.S_nil _ _ _ _ _⟩,⟨by(with_reducible repeat(first|refine kN ?_ _|refine kD ?_|refine kA ?_ _));refine blk_far ?_ NB120_123.out _;(with_reducible repeat(first|refine kN ?_ _|refine kD ?_|refine kA ?_ _));refine blk_far ?_ NB120_123.out _;(with_reducible repeat(first|refine kN ?_ _|refine kD ?_|refine kA ?_ _));exact BK120.out⟩,⟨by(with_reducible repeat(first|refine kN ?_ _|refine kD ?_|refine kA ?_ _));refine blk_put (cs:=#[.slice none 0 0,.slice none 0 0]) ?_ 1 _ rfl;(with_reducible repeat(first|refine kN ?_ _|refine kD ?_|refine kA ?_ _));refine blk_put (cs:=#[.slice none 0 0,.slice none 0 0]) ?_ 0 _ rfl;(with_reducible repeat(first|refine kN ?_ _|refine kD ?_|refine kA ?_ _));exact BK123.out⟩,⟨bX2 HB.out GE120.out GE123.out⟩⟩
 case round =>
 clear H'
 try clear c6
 try clear c8
 try clear c9
 try clear hcz10_0
 try clear hcz10_1
 try clear hcz13_0
 try clear hcz13_1
 try clear hfz10_0
 try clear hfz10_1
 try clear hfz13_0
 try clear hfz13_1
 obtain ⟨x7_2,x124000_2,x124001_2,u124000,u124001,rfl,HA,HK2,HO_124000,HO_124001,BK120,BK123,HB⟩:=hrel
 cases gk with
 | zero=>exact absurd HA.out (by simp [s_TorusOf.l0])
 | succ k2 =>
 have H:=HA.out
 clear HA
 simp only [s_TorusOf.l0] at H
 by_cases c14:x7_2<(wrap64 (a0*a1))
 {
 rw [if_pos c14] at H
 have c14b0:=decide_eq_true c14
 clear c14
 by_cases c15:a0=0
 {
 rw [if_pos c15] at H
 exact absurd H (by simp)
 }
 {
 rw [if_neg c15] at H
 have c15b0:(a0 == 0)=false:=beq_eq_false_iff_ne.mpr c15
 have c15b1:(a0 != 0)=true:=bne_iff_ne.mpr c15
 by_cases c16:x124000_2.length<17592186044416
 {
 rw [if_pos c16] at H
 have LMc16:=aM c16
 clear c16
 obtain ⟨y124,hy124⟩:∃ y_:List Int,y_=(x124000_2 ++ [wrap64 ((wrap64 ((wrap64 (Int.tdiv x7_2 a0))*a0))+(Int.tmod (wrap64 ((Int.tmod x7_2 a0)+1)) a0))]):=⟨_,rfl⟩
 replace H:(if (wrap64 (a0*a1))=0 then (none) else (if x124001_2.length<17592186044416 then (s_TorusOf.l0 k2 a0 a1 (wrap64 (x7_2+1)) y124 (x124001_2 ++ [Int.tmod (wrap64 (x7_2+a0)) (wrap64 (a0*a1))])) else (none)))=some (r1,r2,r3):=by first|(rw [hy124];with_reducible exact H)|(have H2_:=(Option.bind_some _ _).symm.trans H;rw [hy124];with_reducible exact H2_)|(have H2_:=(Option.bind_some _ _).symm.trans H;with_reducible exact H2_)|with_reducible exact H|(rw [hy124];exact H)|exact H
 have Ny124:=aM hy124
 clear hy124
 by_cases c17:(wrap64 (a0*a1))=0
 {
 rw [if_pos c17] at H
 exact absurd H (by simp)
 }
 {
 rw [if_neg c17] at H
 have c17b0:((wrap64 (a0*a1)) == 0)=false:=beq_eq_false_iff_ne.mpr c17
 have c17b1:((wrap64 (a0*a1)) != 0)=true:=bne_iff_ne.mpr c17
 by_cases c18:x124001_2.length<17592186044416
 {
 rw [if_pos c18] at H
 have LMc18:=aM c18
 clear c18
 obtain ⟨y127,hy127⟩:∃ y_:List Int,y_=(x124001_2 ++ [Int.tmod (wrap64 (x7_2+a0)) (wrap64 (a0*a1))]):=⟨_,rfl⟩
 replace H:(s_TorusOf.l0 k2 a0 a1 (wrap64 (x7_2+1)) y124 y127)=some (r1,r2,r3):=by first|(rw [hy127];with_reducible exact H)|(have H2_:=(Option.bind_some _ _).symm.trans H;rw [hy127];with_reducible exact H2_)|(have H2_:=(Option.bind_some _ _).symm.trans H;with_reducible exact H2_)|with_reducible exact H|(rw [hy127];exact H)|exact H
 have Ny127:=aM hy127
 clear hy127
 have H':=aM H
 clear H
 try go_wp2
 replace HO_124000:=aM (Kd.R_drew HO_124000.out)
 replace HO_124001:=aM (Kd.R_drew HO_124001.out)
 replace BK120:=aM (blk_drew BK120.out)
 replace BK123:=aM (blk_drew BK123.out)
 replace HB:=aM (below_drew1 HB.out)
 refine start_ (n:=18) (S:=fun w'=>w'.cell? ⟨gb123,0,none⟩=some (u124000)∧w'.cell? ⟨gb123,1,none⟩=some (u124001)) (ds:=[17]) #[ff,ff,ff,ff,ff,ff,ff,ff,ff,ff,ff,ff,ff,ff,ff,ff,ff,ff] (by kernel_rfl) rfl rfl ⟨cz20 BK123.out,cz21 BK123.out⟩ (fun hHeld => ?_);refine with_tabW s_TorusOf.tab7 s_TorusOf.bits7 (fun HT_ HW_ => ?_)
 generalize wr.drew=w19 at HO_124000 HO_124001 BK120 BK123 HB hHeld ⊢
 refine pX 0 31 (fl 18 1) rfl rfl HT_.out ?_
 refine pX 2 33 (fl 18 5) rfl rfl HT_.out ?_
 refine pX 3 34 (fl 18 13) rfl rfl HT_.out ?_
 refine pX 4 35 (fl 18 29) rfl rfl HT_.out ?_
 refine pX 5 36 (fl 18 61) rfl rfl HT_.out ?_
 refine pX 6 37 (fl 18 125) rfl rfl HT_.out ?_
 refine pX 7 38 (fl 18 253) rfl rfl HT_.out ?_
 refine pX 8 39 (fl 18 509) rfl rfl HT_.out ?_
 refine pX 9 40 (fl 18 1021) rfl rfl HT_.out ?_
 refine pX 10 41 (fl 18 2045) rfl rfl HT_.out ?_
 refine pX 11 42 (fl 18 4093) rfl rfl HT_.out ?_
 refine pX 12 43 (fl 18 8189) rfl rfl HT_.out ?_
 refine pX 13 44 (fl 18 16381) rfl rfl HT_.out ?_
 refine tX2 1 32 (fl 18 16383) rfl rfl HT_.out HW_.out hHeld ?_
 refine one_ (i:=14) (N:=some 45) #[tt,tt,tt,tt,tt,tt,tt,tt,tt,tt,tt,tt,tt,tt,tt,ff,ff,ff] rfl rfl (one_of HT_.out (by kernel_rfl)) (by decide) (fun K hK => ?_)
 refine value_ (w1:=?_) (v:=?_) (by rfl) rfl ?_ ?_
 rotate_left 2
 {
 go_simp
 constructor
 {
 rfl
 }
 {
 rfl
 }
 }
 refine hK.out _ _ ⟨(blk_cell (blk_alloc BK123.out _) 0).trans rfl,(blk_cell (blk_alloc BK123.out _) 1).trans rfl⟩ (fun hHeld => ?_)
 clear hK K
 refine norm_ (a':=?_) ?_ ?_
 rotate_left
 {
 show Act.put _ (some 45) _=_
 simp only [Act.put,zA,zB,zC,i64_w,i32_w]
 rfl
 }
 refine one_ (i:=15) (N:=some 46) #[tt,tt,tt,tt,tt,tt,tt,tt,tt,tt,tt,tt,tt,tt,tt,tt,ff,ff] rfl rfl (one_of HT_.out (by kernel_rfl)) (by decide) (fun K hK => ?_)
 refine Kd.R_append_step (Kd.int .i64) (w0:=w) w.heap.size (by rfl) (.tmp 32) (.tmp 45) 23 3 (.int .i64 0) 8 rfl Tryd.underlying23 info3 rfl (by decide) (by omega) u124000 x124000_2 (wrap64 ((wrap64 ((wrap64 (Int.tdiv x7_2 a0))*a0))+(Int.tmod (wrap64 ((Int.tmod x7_2 a0)+1)) a0))) [.int .i64 (wrap64 ((wrap64 ((wrap64 (Int.tdiv x7_2 a0))*a0))+(Int.tmod (wrap64 ((Int.tmod x7_2 a0)+1)) a0)))] (fun k_=>some k_≠(u124001:Value).ownBlock) (fun _=>False) rfl rfl ?aP (fun _ hk=>hk.elim) ?aF ?aO ?aB ?aS ?aL ?_
 (case aP=>exact rfl)
 (case aB=>exact(bX2 HB.out GE120.out GE123.out))
 (case aF=>exact(fun k_ hk=>Kd.fresh' (Kd.R_lt (rX HO_124001.out)) k_ hk))
 (case aO=>exact(rX HO_124000.out))
 (case aS=>exact(below_size (bX2 HB.out GE120.out GE123.out)))
 (case aL=>have:=LMc16.out;omega)
 intro v125 w20 ho hb hg hat
 rw [← Ny124.out] at ho
 replace HO_124001:=aM (Kd.R_after (ok:=(fun _=>True)) (rM HO_124001.out (fun _ hk=>⟨trivial,hk⟩)) hg hat)
 replace BK120:=aM (bgX BK120.out hg (Kd.R_ne HO_124000.out BK120.out (by decide)))
 replace BK123:=aM (bgX BK123.out hg (Kd.R_ne HO_124000.out BK123.out (by decide)))
 replace HB:=aM (hb)
 have HO126:=aM (ho)
 clear HO_124000 ho hb hg hat
 obtain ⟨Ao21,co21,eo21⟩:=Kd.R_slice HO126.out
 (first|subst eo21|(injection eo21 with f1_ f2_ f3_;have f4_:=f1_.symm;have f5_:=f3_.symm;clear f1_ f2_ f3_;subst f4_;subst f5_))
 refine hK.out _ _ ⟨cz20 BK123.out,cz21 BK123.out⟩ (fun hHeld => ?_)
 clear hK K
 refine norm_ (a':=?_) ?_ ?_
 rotate_left
 {
 show Act.put _ (some 46) _=_
 simp only [Act.put,zA,zB,zC,i64_w,i32_w]
 rfl
 }
 refine pX 16 47 (fl 18 131071) rfl rfl HT_.out ?_
 refine last_ (i:=17) (N:=none) #[tt,tt,tt,tt,tt,tt,tt,tt,tt,tt,tt,tt,tt,tt,tt,tt,tt,tt] rfl rfl (one_of HT_.out (by kernel_rfl)) (by decide) (fun K hK => ?_)
 have hs22:w20.cell? ⟨gb123,0,none⟩=some (u124000):=cz20 BK123.out
 have hfs22:=blk_frozen BK123.out 0
 have hns22_0:=NB120_123.out
 have hms22_0:=NB123_120.out
 refine skip_ (w1:=?_) (by rfl) rfl ?_ ?_
 rotate_left
 {
 go_simp
 rfl
 }
 refine hK.out _ _ ?_
 clear hK K
 refine done_ (done_of HT_.out (by kernel_rfl)) ?_
 try go_wp2
 have n0_:Aside0 (Kd.R (Kd.int .i64) 3 (w20.setCell ⟨gb123,0,none⟩ (.slice Ao21 y124.length co21)) w.heap.size (fun k_=>some k_≠(.slice Ao21 y124.length co21:Value).ownBlock) u124001 x124001_2):=⟨by(with_reducible repeat(first|apply rA|apply rN|apply rD));exact Kd.R_mono (Kd.R_far (p:=⟨gb123,0,none⟩) (Kd.R_types HO_124001.out BK123.out (by decide)) (fun _ hk=>hk.2) (.slice Ao21 y124.length co21)) (fun _ hk=>hk.1.2)⟩
 have n1_:Aside0 (Kd.R (Kd.int .i64) 3 (w20.setCell ⟨gb123,0,none⟩ (.slice Ao21 y124.length co21)) w.heap.size (fun k_=>some k_≠(u124001:Value).ownBlock) (.slice Ao21 y124.length co21) y124):=⟨by(with_reducible repeat(first|apply rA|apply rN|apply rD));exact Kd.R_mono (Kd.R_far (p:=⟨gb123,0,none⟩) (Kd.R_types HO126.out BK123.out (by decide)) (fun _ hk=>hk.2) (.slice Ao21 y124.length co21)) (fun _ hk=>hk.1)⟩
 have n2_:Aside0 ((w20.setCell ⟨gb123,0,none⟩ (.slice Ao21 y124.length co21)).heap[gb120]? = some (.cells #[.slice none 0 0,.slice none 0 0] 25 (0,0))):=⟨by(with_reducible repeat(first|refine kN ?_ _|refine kD ?_|refine kA ?_ _));refine blk_far ?_ NB120_123.out _;(with_reducible repeat(first|refine kN ?_ _|refine kD ?_|refine kA ?_ _));exact BK120.out⟩
 have n3_:Aside0 ((w20.setCell ⟨gb123,0,none⟩ (.slice Ao21 y124.length co21)).heap[gb123]? = some (.cells #[.slice Ao21 y124.length co21,u124001] 25 (0,0))):=⟨by(with_reducible repeat(first|refine kN ?_ _|refine kD ?_|refine kA ?_ _));refine blk_put (cs:=#[u124000,u124001]) ?_ 0 _ rfl;(with_reducible repeat(first|refine kN ?_ _|refine kD ?_|refine kA ?_ _));exact BK123.out⟩
 have n4_:Aside0 (Below w.heap.size w (w20.setCell ⟨gb123,0,none⟩ (.slice Ao21 y124.length co21))):=⟨bX2 HB.out GE120.out GE123.out⟩
 (try clear HO_124001)
 (try clear HO126)
 (try clear BK120)
 (try clear BK123)
 (try clear HB)
 generalize (w20.setCell ⟨gb123,0,none⟩ (.slice Ao21 y124.length co21))=w23 at n0_ n1_ n2_ n3_ n4_ ⊢
 have HO_124001:=n0_
 have HO126:=n1_
 have BK120:=n2_
 have BK123:=n3_
 have HB:=n4_
 clear n0_ n1_ n2_ n3_ n4_
 replace HO_124001:=aM (Kd.R_drew HO_124001.out)
 replace HO126:=aM (Kd.R_drew HO126.out)
 replace BK120:=aM (blk_drew BK120.out)
 replace BK123:=aM (blk_drew BK123.out)
 replace HB:=aM (below_drew1 HB.out)
 refine start_ (n:=13) (S:=fun w'=>w'.cell? ⟨gb123,0,none⟩=some (.slice Ao21 y124.length co21)∧w'.cell? ⟨gb123,1,none⟩=some (u124001)) (ds:=[12]) #[ff,ff,ff,ff,ff,ff,ff,ff,ff,ff,ff,ff,ff] (by kernel_rfl) rfl rfl ⟨cz20 BK123.out,cz21 BK123.out⟩ (fun hHeld => ?_);refine with_tabW s_TorusOf.tab8 s_TorusOf.bits8 (fun HT_ HW_ => ?_)
 generalize w23.drew=w24 at HO_124001 HO126 BK120 BK123 HB hHeld ⊢
 refine pX 0 48 (fl 13 1) rfl rfl HT_.out ?_
 refine pX 2 50 (fl 13 5) rfl rfl HT_.out ?_
 refine pX 3 51 (fl 13 13) rfl rfl HT_.out ?_
 refine pX 4 52 (fl 13 29) rfl rfl HT_.out ?_
 refine pX 5 53 (fl 13 61) rfl rfl HT_.out ?_
 refine pX 6 54 (fl 13 125) rfl rfl HT_.out ?_
 refine pX 7 55 (fl 13 253) rfl rfl HT_.out ?_
 refine pX 8 56 (fl 13 509) rfl rfl HT_.out ?_
 refine tX2 1 49 (fl 13 511) rfl rfl HT_.out HW_.out hHeld ?_
 refine one_ (i:=9) (N:=some 57) #[tt,tt,tt,tt,tt,tt,tt,tt,tt,tt,ff,ff,ff] rfl rfl (one_of HT_.out (by kernel_rfl)) (by decide) (fun K hK => ?_)
 refine value_ (w1:=?_) (v:=?_) (by rfl) rfl ?_ ?_
 rotate_left 2
 {
 go_simp
 constructor
 {
 rfl
 }
 {
 rfl
 }
 }
 refine hK.out _ _ ⟨(blk_cell (blk_alloc BK123.out _) 0).trans rfl,(blk_cell (blk_alloc BK123.out _) 1).trans rfl⟩ (fun hHeld => ?_)
 clear hK K
 refine norm_ (a':=?_) ?_ ?_
 rotate_left
 {
 show Act.put _ (some 57) _=_
 simp only [Act.put,zA,zB,zC,i64_w,i32_w]
 rfl
 }
 refine one_ (i:=10) (N:=some 58) #[tt,tt,tt,tt,tt,tt,tt,tt,tt,tt,tt,ff,ff] rfl rfl (one_of HT_.out (by kernel_rfl)) (by decide) (fun K hK => ?_)
 refine Kd.R_append_step (Kd.int .i64) (w0:=w) w.heap.size (by rfl) (.tmp 49) (.tmp 57) 23 3 (.int .i64 0) 8 rfl Tryd.underlying23 info3 rfl (by decide) (by omega) u124001 x124001_2 (Int.tmod (wrap64 (x7_2+a0)) (wrap64 (a0*a1))) [.int .i64 (Int.tmod (wrap64 (x7_2+a0)) (wrap64 (a0*a1)))] (fun k_=>some k_≠(.slice Ao21 y124.length co21:Value).ownBlock) (fun _=>False) rfl rfl ?aP (fun _ hk=>hk.elim) ?aF ?aO ?aB ?aS ?aL ?_
 (case aP=>exact rfl)
 (case aB=>exact(bX2 HB.out GE120.out GE123.out))
 (case aF=>exact(fun k_ hk=>Kd.fresh' (Kd.R_lt (rX HO126.out)) k_ hk))
 (case aO=>exact(rX HO_124001.out))
 (case aS=>exact(below_size (bX2 HB.out GE120.out GE123.out)))
 (case aL=>have:=LMc18.out;omega)
 intro v128 w25 ho hb hg hat
 rw [← Ny127.out] at ho
 replace BK120:=aM (bgX BK120.out hg (Kd.R_ne HO_124001.out BK120.out (by decide)))
 replace BK123:=aM (bgX BK123.out hg (Kd.R_ne HO_124001.out BK123.out (by decide)))
 replace HO126:=aM (Kd.R_after (ok:=(fun _=>True)) (rM HO126.out (fun _ hk=>⟨trivial,hk⟩)) hg hat)
 replace HB:=aM (hb)
 have HO129:=aM (ho)
 clear HO_124001 ho hb hg hat
 obtain ⟨Ao26,co26,eo26⟩:=Kd.R_slice HO129.out
 (first|subst eo26|(injection eo26 with f1_ f2_ f3_;have f4_:=f1_.symm;have f5_:=f3_.symm;clear f1_ f2_ f3_;subst f4_;subst f5_))
 refine hK.out _ _ ⟨cz20 BK123.out,cz21 BK123.out⟩ (fun hHeld => ?_)
 clear hK K
 refine norm_ (a':=?_) ?_ ?_
 rotate_left
 {
 show Act.put _ (some 58) _=_
 simp only [Act.put,zA,zB,zC,i64_w,i32_w]
 rfl
 }
 refine pX 11 59 (fl 13 4095) rfl rfl HT_.out ?_
 refine last_ (i:=12) (N:=none) #[tt,tt,tt,tt,tt,tt,tt,tt,tt,tt,tt,tt,tt] rfl rfl (one_of HT_.out (by kernel_rfl)) (by decide) (fun K hK => ?_)
 have hs27:w25.cell? ⟨gb123,1,none⟩=some (u124001):=cz21 BK123.out
 have hfs27:=blk_frozen BK123.out 1
 have hns27_0:=NB120_123.out
 have hms27_0:=NB123_120.out
 refine skip_ (w1:=?_) (by rfl) rfl ?_ ?_
 rotate_left
 {
 go_simp
 rfl
 }
 refine hK.out _ _ ?_
 clear hK K
 refine done_ (done_of HT_.out (by kernel_rfl)) ?_
 try go_wp2
 go_roundg k2
 case measure=>have:=HJ2.out;have:=HK2.out;omega
 case rel=>exact ⟨(wrap64 (x7_2+1)),(y124),(y127),(.slice Ao21 y124.length co21),(.slice Ao26 y127.length co26),vX,H',⟨by have:=HJ2.out;have:=HK2.out;omega⟩,⟨by(with_reducible repeat(first|apply rA|apply rN|apply rD));exact Kd.R_mono (Kd.R_far (p:=⟨gb123,1,none⟩) (Kd.R_types HO126.out BK123.out (by decide)) (fun _ hk=>hk.2) (.slice Ao26 y127.length co26)) (fun _ hk=>hk.1.2)⟩,⟨by(with_reducible repeat(first|apply rA|apply rN|apply rD));exact Kd.R_mono (Kd.R_far (p:=⟨gb123,1,none⟩) (Kd.R_types HO129.out BK123.out (by decide)) (fun _ hk=>hk.2) (.slice Ao26 y127.length co26)) (fun _ hk=>hk.1)⟩,⟨by(with_reducible repeat(first|refine kN ?_ _|refine kD ?_|refine kA ?_ _));refine blk_far ?_ NB120_123.out _;(with_reducible repeat(first|refine kN ?_ _|refine kD ?_|refine kA ?_ _));exact BK120.out⟩,⟨by(with_reducible repeat(first|refine kN ?_ _|refine kD ?_|refine kA ?_ _));refine blk_put (cs:=#[.slice Ao21 y124.length co21,u124001]) ?_ 1 _ rfl;(with_reducible repeat(first|refine kN ?_ _|refine kD ?_|refine kA ?_ _));exact BK123.out⟩,⟨bX2 HB.out GE120.out GE123.out⟩⟩
 }
 {
 rw [if_neg c18] at H
 exact absurd H (by simp)
 }
 }
 }
 {
 rw [if_neg c16] at H
 exact absurd H (by simp)
 }
 }
 }
 {
 rw [if_neg c14] at H
 have c14b0:=decide_eq_false c14
 clear c14
 simp only [Option.some.injEq,Prod.mk.injEq] at H
 obtain ⟨rfl,rfl,rfl⟩:=H
 have hnb28:=NB123_120.out
 have hnc28:=NB120_123.out
 obtain ⟨hcz29_0,hcz29_1,hfz29_0,hfz29_1⟩:=f2Z BK123.out
 obtain ⟨Ao30,co30,eo30⟩:=Kd.R_slice HO_124000.out
 subst eo30
 obtain ⟨hcz31_0,hcz31_1,hfz31_0,hfz31_1⟩:=f2Z BK120.out
 obtain ⟨Ao32,co32,eo32⟩:=Kd.R_slice HO_124001.out
 subst eo32
 go_wp2
 refine bodyPost_ret (results_ct rfl _ _ gb120 25 #[.slice Ao30 x124000_2.length co30,.slice Ao32 x124001_2.length co32] (0,0) _ rfl (by(with_reducible repeat(first|refine kN ?_ _|refine kD ?_|refine kA ?_ _));refine blk_put (cs:=#[.slice Ao30 x124000_2.length co30,.slice none 0 0]) ?_ 1 _ rfl;(with_reducible repeat(first|refine kN ?_ _|refine kD ?_|refine kA ?_ _));refine blk_put (cs:=#[.slice none 0 0,.slice none 0 0]) ?_ 0 _ rfl;(with_reducible repeat(first|refine kN ?_ _|refine kD ?_|refine kA ?_ _));exact BK120.out) Tryd.underlying25 rfl (by kernel_rfl)) rfl ?_
 exact ⟨_,_,eX,by(with_reducible repeat(first|apply rA|apply rN|apply rD));exact Kd.R_mono (Kd.R_far (p:=⟨gb120,1,none⟩) (Kd.R_far (p:=⟨gb120,0,none⟩) (Kd.R_types HO_124000.out BK120.out (by decide)) (fun _ hk=>hk.2) (.slice Ao30 x124000_2.length co30)) (fun _ hk=>hk.2) (.slice Ao32 x124001_2.length co32)) (fun _ hk=>hk.1),by(with_reducible repeat(first|apply rA|apply rN|apply rD));exact Kd.R_mono (Kd.R_far (p:=⟨gb120,1,none⟩) (Kd.R_far (p:=⟨gb120,0,none⟩) (Kd.R_types HO_124001.out BK120.out (by decide)) (fun _ hk=>hk.2) (.slice Ao30 x124000_2.length co30)) (fun _ hk=>hk.2) (.slice Ao32 x124001_2.length co32)) (fun _ hk=>hk.1),bX2 HB.out GE120.out GE123.out⟩
 }
 }

/-! ### s_l02Then: function 36 -/
def s_l02Then.l0 : Nat→List Int→List Int→List Int→Int→Int→Option (List Int)
 | 0,_,_,_,_,_=>none
 | k+1,x1,x5,x9,x10,x11=>if x11<x10 then (if 0≤x11 then (if x11<(x9.length:Int) then (if 0≤(rd x9 x11) then (if (rd x9 x11)<(x1.length:Int) then (if x5.length<17592186044416 then (s_l02Then.l0 k x1 (x5 ++ [rd x1 (rd x9 x11)]) x9 x10 (wrap64 (x11+1))) else (none)) else (none)) else (none)) else (none)) else (none)) else (some x5)
def s_l02Then.f (k:Nat) (l0:List Int) (l1:List Int):Option (List Int):=s_l02Then.l0 k l1 (([]:List Int)) l0 (l0.length:Int) 0
theorem s_l02Then.calls (k:Nat) (A0:Option Addr) (c0:Nat) (l0:List Int) (A1:Option Addr) (c1:Nat) (l1:List Int) (r:List Int) (w:World) (hr0:Kd.C (Kd.int .i64) w A0 l0.length l0) (hc0:l0.length≤c0) (hr1:Kd.C (Kd.int .i64) w A1 l1.length l1) (hc1:l1.length≤c1) (h:s_l02Then.f k l0 l1=some r) :
  Calls Tryd.prog 36 #[.slice A0 l0.length c0,.slice A1 l1.length c1] w fun e w'=>∃ v0_:Value,e = .returned (v0_)∧Kd.R (Kd.int .i64) 3 w' w.heap.size (fun _=>True) v0_ r∧Below w.heap.size w w':=by
 have HR0:=aM hr0
 have HC0:=aM hc0
 clear hr0 hc0
 have HR1:=aM hr1
 have HC1:=aM hc1
 clear hr1 hc1
 have HB:=aM (Below.refl w.heap.size w)
 have H:(s_l02Then.l0 k l1 (([]:List Int)) l0 (l0.length:Int) 0)=some r:=h
 clear h
 obtain ⟨y130,hy130⟩:∃ y_:List Int,y_=(([]:List Int)):=⟨_,rfl⟩
 replace H:(s_l02Then.l0 k l1 y130 l0 (l0.length:Int) 0)=some r:=by first|(rw [hy130];with_reducible exact H)|(have H2_:=(Option.bind_some _ _).symm.trans H;rw [hy130];with_reducible exact H2_)|(have H2_:=(Option.bind_some _ _).symm.trans H;with_reducible exact H2_)|with_reducible exact H|(rw [hy130];exact H)|exact H
 have Ny130:=aM hy130
 clear hy130
 have H':=aM H
 clear H
 go_enter Tryd.func36,Tryd.ntmps36
 go_wp2_with (first|((with_reducible refine gate_dst (N:=8) rfl ?_);refine Kd.R_lit (Kd.int .i64) _ 3 ?hg (N:=8) ?hd (xs:=([]:List Int)) (inner:=[]) (ok:=fun _=>True) (okp:=fun _=>True) ?hr ?hp (fun _ hk=>hk) trivial (Below.refl _ _) (Nat.le_refl _) (by simp) ?_;(case hd=>rfl);(case hg=>rfl);(case hr=>first|(go_simp;done)|(go_simp;rfl));(case hp=>exact(Reps.none _ _));intro v131 w3 ho4 hb hg_ hnew_;clear hg_ hnew_;(first|rw [← Ny130.out] at ho4|(simp only [Int.reduceToNat] at ho4;rw [← Ny130.out] at ho4));have HO132:=aM (Kd.R_lower ho4 (below_size (bX HB.out)));replace HB:=aM (below_step (bX HB.out) hb);clear hb ho4))
 go_loopg [5,11] k (fun kq v5 v11 w'=>∃ (x5_1:List Int) (x11_1:Int),v11 = .int .i64 x11_1∧Aside0 (s_l02Then.l0 kq l1 x5_1 l0 (l0.length:Int) x11_1=some r)∧Aside0 (kq≤k)∧Aside0 (Kd.R (Kd.int .i64) 3 w' w.heap.size (fun _=>True) v5 x5_1)∧Aside0 (Below w.heap.size w w'))
 case atStart=>exact ⟨(y130),(0),vX,H',⟨Nat.le_refl _⟩,⟨rX HO132.out⟩,⟨bX HB.out⟩⟩
 case round =>
 clear H'
 try clear c1
 obtain ⟨x5_1,x11_1,rfl,HA,HK1,HO_5,HB⟩:=hrel
 cases gk with
 | zero=>exact absurd HA.out (by simp [s_l02Then.l0])
 | succ k1 =>
 have H:=HA.out
 clear HA
 simp only [s_l02Then.l0] at H
 by_cases c5:x11_1<(l0.length:Int)
 {
 rw [if_pos c5] at H
 have c5b0:=decide_eq_true c5
 clear c5
 by_cases c6:0≤x11_1
 {
 rw [if_pos c6] at H
 have c6b0:=decide_eq_true c6
 clear c6
 by_cases c7:x11_1<(l0.length:Int)
 {
 rw [if_pos c7] at H
 have c7b0:=decide_eq_true c7
 clear c7
 by_cases c8:0≤(rd l0 x11_1)
 {
 rw [if_pos c8] at H
 have c8b0:=decide_eq_true c8
 clear c8
 by_cases c9:(rd l0 x11_1)<(l1.length:Int)
 {
 rw [if_pos c9] at H
 have c9b0:=decide_eq_true c9
 clear c9
 by_cases c10:x5_1.length<17592186044416
 {
 rw [if_pos c10] at H
 have LMc10:=aM c10
 clear c10
 obtain ⟨y135,hy135⟩:∃ y_:List Int,y_=(x5_1 ++ [rd l1 (rd l0 x11_1)]):=⟨_,rfl⟩
 replace H:(s_l02Then.l0 k1 l1 y135 l0 (l0.length:Int) (wrap64 (x11_1+1)))=some r:=by first|(rw [hy135];with_reducible exact H)|(have H2_:=(Option.bind_some _ _).symm.trans H;rw [hy135];with_reducible exact H2_)|(have H2_:=(Option.bind_some _ _).symm.trans H;with_reducible exact H2_)|with_reducible exact H|(rw [hy135];exact H)|exact H
 have Ny135:=aM hy135
 clear hy135
 have H':=aM H
 clear H
 have p133:0≤(x11_1:Int):=dX
 have q133:x11_1<(l0.length:Int):=dX
 obtain ⟨ad133,e133,hx133_0⟩:=Kd.at_int HR0.out x11_1 p133 q133
 cases e133
 replace hx133_0:=(HB.out.cell (World.block_lt_of_cell? w _ hx133_0)).trans hx133_0
 replace p133:=eq_true p133
 replace q133:=eq_true q133
 have p134:0≤((rd l0 x11_1):Int):=dX
 have q134:(rd l0 x11_1)<(l1.length:Int):=dX
 obtain ⟨ad134,e134,hx134_0⟩:=Kd.at_int HR1.out (rd l0 x11_1) p134 q134
 cases e134
 replace hx134_0:=(HB.out.cell (World.block_lt_of_cell? w _ hx134_0)).trans hx134_0
 replace p134:=eq_true p134
 replace q134:=eq_true q134
 go_wp2_with (first|((with_reducible refine gate_builtin (b:=.append) (xs:=#[.tmp 15,.tmp 20]) rfl ?_);at_builtin;refine Kd.R_append (Kd.int .i64) (w0:=w) w.heap.size rfl (.tmp 15) (.tmp 20) 23 3 (.int .i64 0) 8 rfl Tryd.underlying23 info3 rfl (by decide) (by omega) u5 x5_1 (rd l1 (rd l0 x11_1)) [.int .i64 (rd l1 (rd l0 x11_1))] (fun _=>True) (fun _=>False) rfl rfl ?aP (fun _ hk=>hk.elim) ?aF ?aO ?aB ?aS ?aL ?_;(case aP=>exact rfl);(case aB=>exact(bX HB.out));(case aF=>exact(fun _ _=>trivial));(case aO=>exact(rX HO_5.out));(case aS=>exact(below_size (bX HB.out)));(case aL=>have:=LMc10.out;omega);intro v136 w11 ho hb hg hat;rw [← Ny135.out] at ho;replace HB:=aM (hb);have HO137:=aM (ho);clear HO_5 ho hb hg hat))
 go_roundg k1
 case measure=>have:=HK1.out;omega
 case rel=>exact ⟨(y135),(wrap64 (x11_1+1)),vX,H',⟨by have:=HK1.out;omega⟩,⟨rX HO137.out⟩,⟨bX HB.out⟩⟩
 }
 {
 rw [if_neg c10] at H
 exact absurd H (by simp)
 }
 }
 {
 rw [if_neg c9] at H
 exact absurd H (by simp)
 }
 }
 {
 rw [if_neg c8] at H
 exact absurd H (by simp)
 }
 }
 {
 rw [if_neg c7] at H
 exact absurd H (by simp)
 }
 }
 {
 rw [if_neg c6] at H
 exact absurd H (by simp)
 }
 }
 {
 rw [if_neg c5] at H
 have c5b0:=decide_eq_false c5
 clear c5
 obtain rfl:=Option.some.inj H
 go_wp2
 go_ret
 exact ⟨_,eX,by(with_reducible repeat(first|apply rA|apply rN|apply rD));exact HO_5.out,bX HB.out⟩
 }

/-! ### s_l02Inverse: function 37 -/
def s_l02Inverse.l0 : Nat→List Int→List Int→Int→Int→Option (List Int)
 | 0,_,_,_,_=>none
 | k+1,x3,x9,x10,x11=>if x11<x10 then (if 0≤x11 then (if x11<(x9.length:Int) then (if 0≤(rd x9 x11) then (if (rd x9 x11)<(x3.length:Int) then (s_l02Inverse.l0 k (x3.set ((rd x9 x11):Int).toNat x11) x9 x10 (wrap64 (x11+1))) else (none)) else (none)) else (none)) else (none)) else (some x3)
def s_l02Inverse.f (k:Nat) (l0:List Int):Option (List Int):=if 0≤(l0.length:Int) then (if ((l0.length:Int):Int).toNat≤35184372088832 then (s_l02Inverse.l0 k (List.replicate ((l0.length:Int):Int).toNat 0) l0 (l0.length:Int) 0) else (none)) else (none)
theorem s_l02Inverse.calls (k:Nat) (A0:Option Addr) (c0:Nat) (l0:List Int) (r:List Int) (w:World) (hr0:Kd.C (Kd.int .i64) w A0 l0.length l0) (hc0:l0.length≤c0) (h:s_l02Inverse.f k l0=some r) :
  Calls Tryd.prog 37 #[.slice A0 l0.length c0] w fun e w'=>∃ v0_:Value,e = .returned (v0_)∧Kd.R (Kd.int .i64) 3 w' w.heap.size (fun _=>True) v0_ r∧Below w.heap.size w w':=by
 have HR0:=aM hr0
 have HC0:=aM hc0
 clear hr0 hc0
 have HB:=aM (Below.refl w.heap.size w)
 have H:(if 0≤(l0.length:Int) then (if ((l0.length:Int):Int).toNat≤35184372088832 then (s_l02Inverse.l0 k (List.replicate ((l0.length:Int):Int).toNat 0) l0 (l0.length:Int) 0) else (none)) else (none))=some r:=h
 clear h
 by_cases c2:0≤(l0.length:Int)
 {
 rw [if_pos c2] at H
 have c2b0:=eq_true c2
 have c2b1:=decide_eq_true c2
 clear c2
 by_cases c3:((l0.length:Int):Int).toNat≤35184372088832
 {
 rw [if_pos c3] at H
 have c3b0:=eq_true c3
 have c3b1:=decide_eq_true c3
 clear c3
 obtain ⟨y138,hy138⟩:∃ y_:List Int,y_=(List.replicate ((l0.length:Int):Int).toNat 0):=⟨_,rfl⟩
 replace H:(s_l02Inverse.l0 k y138 l0 (l0.length:Int) 0)=some r:=by first|(rw [hy138];with_reducible exact H)|(have H2_:=(Option.bind_some _ _).symm.trans H;rw [hy138];with_reducible exact H2_)|(have H2_:=(Option.bind_some _ _).symm.trans H;with_reducible exact H2_)|with_reducible exact H|(rw [hy138];exact H)|exact H
 have Ny138:=aM hy138
 clear hy138
 have H':=aM H
 clear H
 go_enter Tryd.func37,Tryd.ntmps37
 go_wp2_with (first|((with_reducible refine gate_dst (N:=8) rfl ?_);refine Kd.R_make (Kd.int .i64) _ 3 rfl (N:=8) rfl 23 _ _ rfl (l0.length:Int) rfl rfl Tryd.underlying23 (.int .i64 0) 8 info3 rfl (by decide) (by omega) 0 (ok:=fun _=>True) (okp:=fun _=>True) rfl (fun _ hk=>hk) trivial (dX) (Nat.le_trans (Nat.mul_le_mul_right _ (dX:(l0.length:Int).toNat≤35184372088832)) (by omega)) (Below.refl _ _) (Nat.le_refl _) ?_;intro v139 w4 ho5 hb hg_ hnew_;clear hg_ hnew_;(first|rw [← Ny138.out] at ho5|(simp only [Int.reduceToNat] at ho5;rw [← Ny138.out] at ho5));have HO140:=aM (Kd.R_lower ho5 (below_size (bX HB.out)));replace HB:=aM (below_step (bX HB.out) hb);clear hb ho5))
 go_loopg [11] k (fun kq v11 w'=>∃ (x3_1:List Int) (x11_1:Int),v11 = .int .i64 x11_1∧Aside0 (s_l02Inverse.l0 kq x3_1 l0 (l0.length:Int) x11_1=some r)∧Aside0 (kq≤k)∧Aside0 (Kd.R (Kd.int .i64) 3 w' w.heap.size (fun _=>True) v139 x3_1)∧Aside0 (Below w.heap.size w w'))
 case atStart=>exact ⟨(y138),(0),vX,H',⟨Nat.le_refl _⟩,⟨rX HO140.out⟩,⟨bX HB.out⟩⟩
 case round =>
 clear H'
 try clear c2
 try clear c2b0
 try clear c2b1
 try clear c3
 try clear c3b0
 try clear c3b1
 obtain ⟨x3_1,x11_1,rfl,HA,HK1,HO_3,HB⟩:=hrel
 cases gk with
 | zero=>exact absurd HA.out (by simp [s_l02Inverse.l0])
 | succ k1 =>
 have H:=HA.out
 clear HA
 simp only [s_l02Inverse.l0] at H
 by_cases c6:x11_1<(l0.length:Int)
 {
 rw [if_pos c6] at H
 have c6b0:=decide_eq_true c6
 clear c6
 by_cases c7:0≤x11_1
 {
 rw [if_pos c7] at H
 have c7b0:=decide_eq_true c7
 clear c7
 by_cases c8:x11_1<(l0.length:Int)
 {
 rw [if_pos c8] at H
 have c8b0:=decide_eq_true c8
 clear c8
 by_cases c9:0≤(rd l0 x11_1)
 {
 rw [if_pos c9] at H
 have c9b0:=decide_eq_true c9
 clear c9
 by_cases c10:(rd l0 x11_1)<(x3_1.length:Int)
 {
 rw [if_pos c10] at H
 have c10b0:=decide_eq_true c10
 clear c10
 obtain ⟨y142,hy142⟩:∃ y_:List Int,y_=(x3_1.set ((rd l0 x11_1):Int).toNat x11_1):=⟨_,rfl⟩
 replace H:(s_l02Inverse.l0 k1 y142 l0 (l0.length:Int) (wrap64 (x11_1+1)))=some r:=by first|(rw [hy142];with_reducible exact H)|(have H2_:=(Option.bind_some _ _).symm.trans H;rw [hy142];with_reducible exact H2_)|(have H2_:=(Option.bind_some _ _).symm.trans H;with_reducible exact H2_)|with_reducible exact H|(rw [hy142];exact H)|exact H
 have Ny142:=aM hy142
 clear hy142
 have H':=aM H
 clear H
 have p141:0≤(x11_1:Int):=dX
 have q141:x11_1<(l0.length:Int):=dX
 obtain ⟨ad141,e141,hx141_0⟩:=Kd.at_int HR0.out x11_1 p141 q141
 cases e141
 replace hx141_0:=(HB.out.cell (World.block_lt_of_cell? w _ hx141_0)).trans hx141_0
 replace p141:=eq_true p141
 replace q141:=eq_true q141
 have p11:0≤((rd l0 x11_1):Int):=dX
 have q11:((rd l0 x11_1):Int)<((x3_1.length:Int):Int):=dX
 obtain ⟨go11,co11,eo11,gb11,gl11,cl11,HG11⟩:=Kd.R_form HO_3.out (by omega)
 (first|cases eo11|(injection eo11 with ea_ en_ ec_;(first|subst ea_|(injection ea_ with ea_;subst ea_));subst ec_;clear en_))
 have GB11:=aM gb11
 have GG11:=aM HG11
 clear gb11 gl11 HG11
 obtain ⟨hx11_0,hf11_0⟩:=Kd.R_celln 0 HO_3.out ((rd l0 x11_1):Int) p11 q11
 replace p11:=eq_true p11
 replace q11:=eq_true q11
 have HP12:=Kd.R_putg HO_3.out ((rd l0 x11_1):Int) x11_1
 go_wp2_with (first|((with_reducible refine gate_store (t:=3) (p:=19) rfl ?_);refine store_event (t:=3) (p:=19) (v:=?vo_w13) (w1:=(wr.setCell ⟨go11,((rd l0 x11_1):Int).toNat,none⟩ (.int .i64 x11_1))) ?hg ?ho ?hn ?hr ?_;(case ho=>rfl);(case hg=>rfl);(case hn=>rfl);(case hr=>first|(go_simp;done)|(go_simp;rfl));intro w13 hw;have hg:wr.grownBy w13 (some go11):=(by rw [hw];exact HP12.2);have hp_:Kd.R (Kd.int .i64) 3 w13 w.heap.size (fun _=>True) (.slice (some ⟨go11,0,none⟩) x3_1.length co11) y142:=(by rw [hw,Ny142.out];exact HP12.1);clear HP12;replace HO_3:=aM (hp_);replace HB:=aM ((by rw [hw];exact below_set (HB.out) GB11.out:Below w.heap.size w w13));clear hg hw hp_))
 go_roundg k1
 case measure=>have:=HK1.out;omega
 case rel=>exact ⟨(y142),(wrap64 (x11_1+1)),vX,H',⟨by have:=HK1.out;omega⟩,⟨rX HO_3.out⟩,⟨bX HB.out⟩⟩
 }
 {
 rw [if_neg c10] at H
 exact absurd H (by simp)
 }
 }
 {
 rw [if_neg c9] at H
 exact absurd H (by simp)
 }
 }
 {
 rw [if_neg c8] at H
 exact absurd H (by simp)
 }
 }
 {
 rw [if_neg c7] at H
 exact absurd H (by simp)
 }
 }
 {
 rw [if_neg c6] at H
 have c6b0:=decide_eq_false c6
 clear c6
 obtain rfl:=Option.some.inj H
 go_wp2
 go_ret
 exact ⟨_,eX,by(with_reducible repeat(first|apply rA|apply rN|apply rD));exact HO_3.out,bX HB.out⟩
 }
 }
 {
 rw [if_neg c3] at H
 exact absurd H (by simp)
 }
 }
 {
 rw [if_neg c2] at H
 exact absurd H (by simp)
 }

/-! ### s_l05Shear: function 19 -/
def s_l05Shear.f (k:Nat) (l0_0:List Int) (l0_1:List Int):Option (List Int × List Int):=(some (([]:List Int):List Int)).bind fun y145=>(if y145.length+l0_0.length<17592186044416 then ((s_l02Inverse.f k l0_0).bind fun t151=>((s_l02Then.f k t151 l0_1).bind fun t154=>(some ((y145 ++ l0_0),t154)))) else (none))
def s_l05Shear.T1 : Bool × List (List Nat × List Nat):=(true,[([],[]),([],[]),([1],[1]),([0,2],[0,2]),([],[]),([4],[4]),([5,3],[5]),([],[]),([7],[7]),([6,8,6],[6,8]),([3,9],[3,9]),([10,9,0,1,2,3,4,5,6,7,8,9,10],[10])])
def s_l05Shear.B1 : List Nat:=[0,0,2,7,0,16,63,0,128,511,1023,2047]
theorem s_l05Shear.tab1 : rtab .any (opsOf Tryd.f19 1)=s_l05Shear.T1:=by kernel_rfl
theorem s_l05Shear.bits1 : waitsOk s_l05Shear.T1.2 s_l05Shear.B1=true:=by kernel_rfl
theorem s_l05Shear.calls (k:Nat) (A0_0:Option Addr) (c0_0:Nat) (l0_0:List Int) (A0_1:Option Addr) (c0_1:Nat) (l0_1:List Int) (r1:List Int) (r2:List Int) (w:World) (hr0_0:Kd.C (Kd.int .i64) w A0_0 l0_0.length l0_0) (hc0_0:l0_0.length≤c0_0) (hr0_1:Kd.C (Kd.int .i64) w A0_1 l0_1.length l0_1) (hc0_1:l0_1.length≤c0_1) (h:s_l05Shear.f k l0_0 l0_1=some (r1,r2)) :
  Calls Tryd.prog 19 #[.agg #[.slice A0_0 l0_0.length c0_0,.slice A0_1 l0_1.length c0_1]] w fun e w'=>∃ v0_ v1_:Value,e = .returned (.agg #[v0_,v1_])∧Kd.R (Kd.int .i64) 3 w' w.heap.size (fun k_=>some k_≠(v1_:Value).ownBlock) v0_ r1∧Kd.R (Kd.int .i64) 3 w' w.heap.size (fun k_=>some k_≠(v0_:Value).ownBlock) v1_ r2∧Below w.heap.size w w':=by
 have hu25:=Tryd.underlying25
 have HR0_0:=aM hr0_0
 have HC0_0:=aM hc0_0
 clear hr0_0 hc0_0
 have HR0_1:=aM hr0_1
 have HC0_1:=aM hc0_1
 clear hr0_1 hc0_1
 have HB:=aM (Below.refl w.heap.size w)
 have H:((some (([]:List Int):List Int)).bind fun y145=>(if y145.length+l0_0.length<17592186044416 then ((s_l02Inverse.f k l0_0).bind fun t151=>((s_l02Then.f k t151 l0_1).bind fun t154=>(some ((y145 ++ l0_0),t154)))) else (none)))=some (r1,r2):=h
 clear h
 obtain ⟨y145,hy145⟩:∃ y_:List Int,y_=(([]:List Int)):=⟨_,rfl⟩
 replace H:(if y145.length+l0_0.length<17592186044416 then ((s_l02Inverse.f k l0_0).bind fun t151=>((s_l02Then.f k t151 l0_1).bind fun t154=>(some ((y145 ++ l0_0),t154)))) else (none))=some (r1,r2):=by first|(rw [hy145];with_reducible exact H)|(have H2_:=(Option.bind_some _ _).symm.trans H;rw [hy145];with_reducible exact H2_)|(have H2_:=(Option.bind_some _ _).symm.trans H;with_reducible exact H2_)|with_reducible exact H|(rw [hy145];exact H)|exact H
 have Ny145:=aM hy145
 clear hy145
 by_cases c2:y145.length+l0_0.length<17592186044416
 {
 rw [if_pos c2] at H
 have LMc2:=aM c2
 clear c2
 obtain ⟨y148,hy148⟩:∃ y_:List Int,y_=(y145 ++ l0_0):=⟨_,rfl⟩
 replace H:((s_l02Inverse.f k l0_0).bind fun t151=>((s_l02Then.f k t151 l0_1).bind fun t154=>(some (y148,t154))))=some (r1,r2):=by first|(rw [hy148];with_reducible exact H)|(have H2_:=(Option.bind_some _ _).symm.trans H;rw [hy148];with_reducible exact H2_)|(have H2_:=(Option.bind_some _ _).symm.trans H;with_reducible exact H2_)|with_reducible exact H|(rw [hy148];exact H)|exact H
 have Ny148:=aM hy148
 clear hy148
 replace H:=oB H
 obtain ⟨t151,A30,H⟩:=H
 have A3:=aM A30
 clear A30
 replace H:=oB H
 obtain ⟨t154,A40,H⟩:=H
 have A4:=aM A40
 clear A40
 simp only [Option.some.injEq,Prod.mk.injEq] at H
 obtain ⟨rfl,rfl⟩:=H
 go_enter Tryd.func19,Tryd.ntmps19
 try go_wp2_with (first|((with_reducible refine gate_dst (N:=1) rfl ?_);refine bEv (cs:=#[.slice A0_0 l0_0.length c0_0,.slice A0_1 l0_1.length c0_1]) (t:=25) ?_;intro gb143 hg w5 hbox hb;have BK143:=aM (hbox);have GW143:=aM ((szX (below_size (bX HB.out)) hg:w.heap.size≤gb143));have GE143:=GW143;replace HB:=aM (below_step (bX HB.out) hb);clear hb hbox hg)|((with_reducible refine gate_dst (N:=2) rfl ?_);refine bEv (cs:=#[.slice none 0 0,.slice none 0 0]) (t:=25) ?_;intro gb144 hg w6 hbox hb;have BK144:=aM (hbox);have GW144:=aM ((szX (below_size (bX1 HB.out GE143.out)) hg:w.heap.size≤gb144));have GE144:=GW144;replace HB:=aM (below_step (bX1 HB.out GE143.out) hb);have NB143_144:=aM (neX BK143.out hg);have NB144_143:=aM (nfX BK143.out hg);replace BK143:=aM (bbX BK143.out hb);clear hb hbox hg))
 replace BK143:=aM (blk_drew BK143.out)
 replace BK144:=aM (blk_drew BK144.out)
 replace HB:=aM (below_drew1 HB.out)
 refine start_ (n:=12) (S:=fun w'=>w'.cell? ⟨gb143,0,none⟩=some (.slice A0_0 l0_0.length c0_0)∧w'.cell? ⟨gb143,1,none⟩=some (.slice A0_1 l0_1.length c0_1)) (ds:=[]) #[ff,ff,ff,ff,ff,ff,ff,ff,ff,ff,ff,ff] (by kernel_rfl) rfl rfl ⟨cz20 BK143.out,cz21 BK143.out⟩ (fun hHeld => ?_);refine with_tabW s_l05Shear.tab1 s_l05Shear.bits1 (fun HT_ HW_ => ?_)
 generalize w6.drew=w7 at BK143 BK144 HB hHeld ⊢
 refine pX 1 4 (fl 12 2) rfl rfl HT_.out ?_
 refine pX 4 7 (fl 12 18) rfl rfl HT_.out ?_
 refine pX 7 10 (fl 12 146) rfl rfl HT_.out ?_
 refine tX2 2 5 (fl 12 150) rfl rfl HT_.out HW_.out hHeld ?_
 refine tX2 5 8 (fl 12 182) rfl rfl HT_.out HW_.out hHeld ?_
 refine tX2 8 11 (fl 12 438) rfl rfl HT_.out HW_.out hHeld ?_
 refine one_ (i:=0) (N:=some 3) #[tt,tt,tt,ff,tt,tt,ff,tt,tt,ff,ff,ff] rfl rfl (one_of HT_.out (by kernel_rfl)) (by decide) (fun K hK => ?_)
 refine Kd.R_lit_step (Kd.int .i64) _ 3 ?hg (N:=3) ?hd (xs:=([]:List Int)) (inner:=[]) (ok:=fun _=>True) (okp:=fun _=>True) ?hr ?hp (fun _ hk=>hk) trivial (Below.refl _ _) (Nat.le_refl _) (by simp) ?_;(case hd=>rfl);(case hg=>rfl);(case hr=>first|(go_simp;done)|(go_simp;rfl));(case hp=>exact(Reps.none _ _))
 intro v146 w8 ho9 hb hg_ hnew_
 clear hg_ hnew_
 (first|rw [← Ny145.out] at ho9|(simp only [Int.reduceToNat] at ho9;rw [← Ny145.out] at ho9))
 have HO147:=aM (Kd.R_lower ho9 (below_size (bX2 HB.out GE143.out GE144.out)))
 replace BK143:=aM (bbX BK143.out hb)
 replace BK144:=aM (bbX BK144.out hb)
 replace HB:=aM (below_step (bX2 HB.out GE143.out GE144.out) hb)
 clear hb ho9
 refine hK.out _ _ ⟨cz20 BK143.out,cz21 BK143.out⟩ (fun hHeld => ?_)
 clear hK K
 refine norm_ (a':=?_) ?_ ?_
 rotate_left
 {
 show Act.put _ (some 3) _=_
 simp only [Act.put,zA,zB,zC,i64_w,i32_w]
 rfl
 }
 refine one_ (i:=3) (N:=some 6) #[tt,tt,tt,tt,tt,tt,ff,tt,tt,ff,ff,ff] rfl rfl (one_of HT_.out (by kernel_rfl)) (by decide) (fun K hK => ?_)
 refine Kd.R_append_rows_step (Kd.int .i64) (w0:=w) w.heap.size (by rfl) (.tmp 3) (.tmp 5) 23 3 (.int .i64 0) 8 rfl Tryd.underlying23 info3 rfl (by decide) (by omega) v146 y145 l0_0 _ _ _ (fun _=>True) (fun _=>False) rfl rfl ?aO ?aR (fun _ _ h=>h) (fun _ h=>h.elim) ?aF ?aB ?aS ?aL ?_
 (case aR=>exact cX (Kd.C_below HR0_0.out HB.out))
 (case aB=>exact(bX2 HB.out GE143.out GE144.out))
 (case aF=>exact(fun _ _=>trivial))
 (case aO=>exact(rX HO147.out))
 (case aS=>exact(below_size (bX2 HB.out GE143.out GE144.out)))
 (case aL=>have:=LMc2.out;omega)
 intro v149 w10 ho hb hg hat
 rw [← Ny148.out] at ho
 replace BK143:=aM (bgX BK143.out hg (Kd.R_ne HO147.out BK143.out (by decide)))
 replace BK144:=aM (bgX BK144.out hg (Kd.R_ne HO147.out BK144.out (by decide)))
 replace HB:=aM (hb)
 have HO150:=aM (ho)
 clear HO147 ho hb hg hat
 refine hK.out _ _ ⟨cz20 BK143.out,cz21 BK143.out⟩ (fun hHeld => ?_)
 clear hK K
 refine norm_ (a':=?_) ?_ ?_
 rotate_left
 {
 show Act.put _ (some 6) _=_
 simp only [Act.put,zA,zB,zC,i64_w,i32_w]
 rfl
 }
 refine one_ (i:=6) (N:=some 9) #[tt,tt,tt,tt,tt,tt,tt,tt,tt,ff,ff,ff] rfl rfl (one_of HT_.out (by kernel_rfl)) (by decide) (fun K hK => ?_)
 refine goes_ Tryd.func37 (by kernel_rfl) rfl #[.slice A0_0 l0_0.length c0_0] (by rfl) rfl rfl aX ?_
 with_reducible refine(s_l02Inverse.calls k _ _ l0_0 t151 _ ?side1 ?side2 A3.out).mono ?_
 (case side1=>exact cX (Kd.C_below HR0_0.out HB.out))
 (case side2=>exact HC0_0.out)
 rintro e w11 ⟨v152,rfl,ho0,hb⟩
 refine ⟨_,rfl,?_⟩
 have HO153:=aM (Kd.R_lower (Kd.R_new' ho0 (Kd.R_lt (rX HO150.out))) (below_size (bX2 HB.out GE143.out GE144.out)))
 replace HO150:=aM (Kd.R_elder' (rX HO150.out) (Kd.R_base ho0) hb)
 replace BK143:=aM (bbX BK143.out hb)
 replace BK144:=aM (bbX BK144.out hb)
 replace HB:=aM (below_step (bX2 HB.out GE143.out GE144.out) hb)
 (try clear hb)
 (try clear hk)
 (try clear ho0)
 obtain ⟨Ao12,co12,eo12⟩:=Kd.R_slice HO153.out
 (first|subst eo12|(injection eo12 with f1_ f2_ f3_;have f4_:=f1_.symm;have f5_:=f3_.symm;clear f1_ f2_ f3_;subst f4_;subst f5_))
 refine hK.out _ _ ⟨cz20 BK143.out,cz21 BK143.out⟩ (fun hHeld => ?_)
 clear hK K
 refine norm_ (a':=?_) ?_ ?_
 rotate_left
 {
 show Act.put _ (some 9) _=_
 simp only [Act.put,zA,zB,zC,i64_w,i32_w]
 rfl
 }
 refine one_ (i:=9) (N:=some 12) #[tt,tt,tt,tt,tt,tt,tt,tt,tt,tt,ff,ff] rfl rfl (one_of HT_.out (by kernel_rfl)) (by decide) (fun K hK => ?_)
 refine goes_ Tryd.func36 (by kernel_rfl) rfl #[.slice Ao12 t151.length co12,.slice A0_1 l0_1.length c0_1] (by rfl) rfl rfl aX ?_
 with_reducible refine(s_l02Then.calls k _ _ t151 _ _ l0_1 t154 _ ?side1 ?side2 ?side3 ?side4 A4.out).mono ?_
 (case side1=>exact cX (Kd.R_reads' HO153.out).2.2)
 (case side2=>exact(Kd.R_reads' HO153.out).2.1)
 (case side3=>exact cX (Kd.C_below HR0_1.out HB.out))
 (case side4=>exact HC0_1.out)
 rintro e w13 ⟨v155,rfl,ho0,hb⟩
 refine ⟨_,rfl,?_⟩
 have HO156:=aM (Kd.R_lower (Kd.R_new' (Kd.R_new' ho0 (Kd.R_lt (rX HO150.out))) (Kd.R_lt (rX HO153.out))) (below_size (bX2 HB.out GE143.out GE144.out)))
 replace HO150:=aM (Kd.R_elder' (rX HO150.out) (Kd.R_base ho0) hb)
 replace HO153:=aM (Kd.R_elder' (rX HO153.out) (Kd.R_base ho0) hb)
 replace BK143:=aM (bbX BK143.out hb)
 replace BK144:=aM (bbX BK144.out hb)
 replace HB:=aM (below_step (bX2 HB.out GE143.out GE144.out) hb)
 (try clear hb)
 (try clear hk)
 (try clear ho0)
 obtain ⟨Ao14,co14,eo14⟩:=Kd.R_slice HO156.out
 (first|subst eo14|(injection eo14 with f1_ f2_ f3_;have f4_:=f1_.symm;have f5_:=f3_.symm;clear f1_ f2_ f3_;subst f4_;subst f5_))
 obtain ⟨Ao15,co15,eo15⟩:=Kd.R_slice HO150.out
 (first|subst eo15|(injection eo15 with f1_ f2_ f3_;have f4_:=f1_.symm;have f5_:=f3_.symm;clear f1_ f2_ f3_;subst f4_;subst f5_))
 refine hK.out _ _ ⟨cz20 BK143.out,cz21 BK143.out⟩ (fun hHeld => ?_)
 clear hK K
 refine norm_ (a':=?_) ?_ ?_
 rotate_left
 {
 show Act.put _ (some 12) _=_
 simp only [Act.put,zA,zB,zC,i64_w,i32_w]
 rfl
 }
 refine pX 10 13 (fl 12 2047) rfl rfl HT_.out ?_
 refine one_ (i:=11) (N:=none) #[tt,tt,tt,tt,tt,tt,tt,tt,tt,tt,tt,tt] rfl rfl (one_of HT_.out (by kernel_rfl)) (by decide) (fun K hK => ?_)
 have hs16:w13.cell? ⟨gb144,0,none⟩=some (.slice none 0 0):=cz20 BK144.out
 have hfs16:=blk_frozen BK144.out 0
 have hns16_0:=NB143_144.out
 have hms16_0:=NB144_143.out
 have hs17:w13.cell? ⟨gb144,1,none⟩=some (.slice none 0 0):=cz21 BK144.out
 have hfs17:=blk_frozen BK144.out 1
 have hns17_0:=NB143_144.out
 have hms17_0:=NB144_143.out
 refine skip_ (w1:=?_) (by rfl) rfl ?_ ?_
 rotate_left
 {
 go_simp
 rfl
 }
 refine hK.out _ _ ⟨((cell_far (p:=⟨gb144,_,none⟩) NB143_144.out _).trans (((cell_far (p:=⟨gb144,_,none⟩) NB143_144.out _).trans (hHeld.1)))),((cell_far (p:=⟨gb144,_,none⟩) NB143_144.out _).trans (((cell_far (p:=⟨gb144,_,none⟩) NB143_144.out _).trans (hHeld.2))))⟩ (fun hHeld => ?_)
 clear hK K
 refine done_ (done_of HT_.out (by kernel_rfl)) ?_
 try go_wp2
 refine bodyPost_ret (results_cell_row rfl _ _ gb144 25 #[.slice Ao15 y148.length co15,.slice Ao14 t154.length co14] (0,0) _ rfl (by(with_reducible repeat(first|refine kN ?_ _|refine kD ?_|refine kA ?_ _));refine blk_put (cs:=#[.slice Ao15 y148.length co15,.slice none 0 0]) ?_ 1 _ rfl;(with_reducible repeat(first|refine kN ?_ _|refine kD ?_|refine kA ?_ _));refine blk_put (cs:=#[.slice none 0 0,.slice none 0 0]) ?_ 0 _ rfl;(with_reducible repeat(first|refine kN ?_ _|refine kD ?_|refine kA ?_ _));exact BK144.out) Tryd.underlying25 rfl (by kernel_rfl)) rfl ?_
 exact ⟨_,_,eX,by(with_reducible repeat(first|apply rA|apply rN|apply rD));exact Kd.R_mono (Kd.R_far (p:=⟨gb144,1,none⟩) (Kd.R_far (p:=⟨gb144,0,none⟩) (Kd.R_types HO150.out BK144.out (by decide)) (fun _ hk=>hk.2) (.slice Ao15 y148.length co15)) (fun _ hk=>hk.2) (.slice Ao14 t154.length co14)) (fun _ hk=>hk.1.2),by(with_reducible repeat(first|apply rA|apply rN|apply rD));exact Kd.R_mono (Kd.R_far (p:=⟨gb144,1,none⟩) (Kd.R_far (p:=⟨gb144,0,none⟩) (Kd.R_types HO156.out BK144.out (by decide)) (fun _ hk=>hk.2) (.slice Ao15 y148.length co15)) (fun _ hk=>hk.2) (.slice Ao14 t154.length co14)) (fun _ hk=>hk.1.1.2),bX2 HB.out GE143.out GE144.out⟩
 }
 {
 rw [if_neg c2] at H
 exact absurd H (by simp)
 }

/-! ### s_l02Identity: function 38 -/
def s_l02Identity.l0 : Nat→Int→List Int→Int→Option (List Int)
 | 0,_,_,_=>none
 | k+1,x0,x3,x4=>if x4<x0 then (if x3.length<17592186044416 then (s_l02Identity.l0 k x0 (x3 ++ [x4]) (wrap64 (x4+1))) else (none)) else (some x3)
def s_l02Identity.f (k:Nat) (a0:Int):Option (List Int):=s_l02Identity.l0 k a0 (([]:List Int)) 0
theorem s_l02Identity.calls (k:Nat) (a0:Int) (r:List Int) (w:World) (h:s_l02Identity.f k a0=some r) :
  Calls Tryd.prog 38 #[.int .i64 a0] w fun e w'=>∃ v0_:Value,e = .returned (v0_)∧Kd.R (Kd.int .i64) 3 w' w.heap.size (fun _=>True) v0_ r∧Below w.heap.size w w':=by
 have HB:=aM (Below.refl w.heap.size w)
 have H:(s_l02Identity.l0 k a0 (([]:List Int)) 0)=some r:=h
 clear h
 obtain ⟨y157,hy157⟩:∃ y_:List Int,y_=(([]:List Int)):=⟨_,rfl⟩
 replace H:(s_l02Identity.l0 k a0 y157 0)=some r:=by first|(rw [hy157];with_reducible exact H)|(have H2_:=(Option.bind_some _ _).symm.trans H;rw [hy157];with_reducible exact H2_)|(have H2_:=(Option.bind_some _ _).symm.trans H;with_reducible exact H2_)|with_reducible exact H|(rw [hy157];exact H)|exact H
 have Ny157:=aM hy157
 clear hy157
 have H':=aM H
 clear H
 go_enter Tryd.func38,Tryd.ntmps38
 go_wp2_with (first|((with_reducible refine gate_dst (N:=5) rfl ?_);refine Kd.R_lit (Kd.int .i64) _ 3 ?hg (N:=5) ?hd (xs:=([]:List Int)) (inner:=[]) (ok:=fun _=>True) (okp:=fun _=>True) ?hr ?hp (fun _ hk=>hk) trivial (Below.refl _ _) (Nat.le_refl _) (by simp) ?_;(case hd=>rfl);(case hg=>rfl);(case hr=>first|(go_simp;done)|(go_simp;rfl));(case hp=>exact(Reps.none _ _));intro v158 w2 ho3 hb hg_ hnew_;clear hg_ hnew_;(first|rw [← Ny157.out] at ho3|(simp only [Int.reduceToNat] at ho3;rw [← Ny157.out] at ho3));have HO159:=aM (Kd.R_lower ho3 (below_size (bX HB.out)));replace HB:=aM (below_step (bX HB.out) hb);clear hb ho3))
 go_loopg [3,4] k (fun kq v3 v4 w'=>∃ (x3_1:List Int) (x4_1:Int),v4 = .int .i64 x4_1∧Aside0 (s_l02Identity.l0 kq a0 x3_1 x4_1=some r)∧Aside0 (kq≤k)∧Aside0 (Kd.R (Kd.int .i64) 3 w' w.heap.size (fun _=>True) v3 x3_1)∧Aside0 (Below w.heap.size w w'))
 case atStart=>exact ⟨(y157),(0),vX,H',⟨Nat.le_refl _⟩,⟨rX HO159.out⟩,⟨bX HB.out⟩⟩
 case round =>
 clear H'
 obtain ⟨x3_1,x4_1,rfl,HA,HK1,HO_3,HB⟩:=hrel
 cases gk with
 | zero=>exact absurd HA.out (by simp [s_l02Identity.l0])
 | succ k1 =>
 have H:=HA.out
 clear HA
 simp only [s_l02Identity.l0] at H
 by_cases c4:x4_1<a0
 {
 rw [if_pos c4] at H
 have c4b0:=decide_eq_true c4
 clear c4
 by_cases c5:x3_1.length<17592186044416
 {
 rw [if_pos c5] at H
 have LMc5:=aM c5
 clear c5
 obtain ⟨y160,hy160⟩:∃ y_:List Int,y_=(x3_1 ++ [x4_1]):=⟨_,rfl⟩
 replace H:(s_l02Identity.l0 k1 a0 y160 (wrap64 (x4_1+1)))=some r:=by first|(rw [hy160];with_reducible exact H)|(have H2_:=(Option.bind_some _ _).symm.trans H;rw [hy160];with_reducible exact H2_)|(have H2_:=(Option.bind_some _ _).symm.trans H;with_reducible exact H2_)|with_reducible exact H|(rw [hy160];exact H)|exact H
 have Ny160:=aM hy160
 clear hy160
 have H':=aM H
 clear H
 go_wp2_with (first|((with_reducible refine gate_builtin (b:=.append) (xs:=#[.tmp 11,.tmp 13]) rfl ?_);at_builtin;refine Kd.R_append (Kd.int .i64) (w0:=w) w.heap.size rfl (.tmp 11) (.tmp 13) 23 3 (.int .i64 0) 8 rfl Tryd.underlying23 info3 rfl (by decide) (by omega) u3 x3_1 x4_1 [.int .i64 x4_1] (fun _=>True) (fun _=>False) rfl rfl ?aP (fun _ hk=>hk.elim) ?aF ?aO ?aB ?aS ?aL ?_;(case aP=>exact rfl);(case aB=>exact(bX HB.out));(case aF=>exact(fun _ _=>trivial));(case aO=>exact(rX HO_3.out));(case aS=>exact(below_size (bX HB.out)));(case aL=>have:=LMc5.out;omega);intro v161 w6 ho hb hg hat;rw [← Ny160.out] at ho;replace HB:=aM (hb);have HO162:=aM (ho);clear HO_3 ho hb hg hat))
 go_roundg k1
 case measure=>have:=HK1.out;omega
 case rel=>exact ⟨(y160),(wrap64 (x4_1+1)),vX,H',⟨by have:=HK1.out;omega⟩,⟨rX HO162.out⟩,⟨bX HB.out⟩⟩
 }
 {
 rw [if_neg c5] at H
 exact absurd H (by simp)
 }
 }
 {
 rw [if_neg c4] at H
 have c4b0:=decide_eq_false c4
 clear c4
 obtain rfl:=Option.some.inj H
 go_wp2
 go_ret
 exact ⟨_,eX,by(with_reducible repeat(first|apply rA|apply rN|apply rD));exact HO_3.out,bX HB.out⟩
 }

/-! ### s_EllOf: function 20 -/
mutual
def s_EllOf.j0 : Nat→Int→Int→Bool→Option (List Int × List Int × Bool)
 | 0,_,_,_=>none
 | k+1,x0,x1,x24=>if x24=true then (some (([]:List Int),([]:List Int),false)) else ((s_l02Identity.f k (wrap64 ((wrap64 (x0+x1)) - 1))).bind fun t166=>((s_l02Identity.f k (wrap64 ((wrap64 (x0+x1)) - 1))).bind fun t169=>(s_EllOf.l0 k x0 x1 (wrap64 ((wrap64 (x0+x1)) - 1)) 0 t166 t169)))
def s_EllOf.l0 : Nat→Int→Int→Int→Int→List Int→List Int→Option (List Int × List Int × Bool)
 | 0,_,_,_,_,_,_=>none
 | k+1,x0,x1,x6,x8,x173000,x173001=>if x8<x0 then (if x0=0 then (none) else (if 0≤x8 then (if x8<(x173000.length:Int) then (s_EllOf.l0 k x0 x1 x6 (wrap64 (x8+1)) (x173000.set (x8:Int).toNat (Int.tmod (wrap64 (x8+1)) x0)) x173001) else (none)) else (none))) else (if x1 > 1 then (if 0<(x173001.length:Int) then (s_EllOf.l1 k x6 x0 x173000 (x173001.set (0:Int).toNat x0)) else (none)) else (some (x173000,x173001,true)))
def s_EllOf.l1 : Nat→Int→Int→List Int→List Int→Option (List Int × List Int × Bool)
 | 0,_,_,_,_=>none
 | k+1,x6,x9,x173000,x173001=>if x9<x6 then (if x6=0 then (none) else (if 0≤x9 then (if x9<(x173001.length:Int) then (s_EllOf.l1 k x6 (wrap64 (x9+1)) x173000 (x173001.set (x9:Int).toNat (Int.tmod (wrap64 (x9+1)) x6))) else (none)) else (none))) else (some (x173000,x173001,true))
end
def s_EllOf.f (k:Nat) (a0:Int) (a1:Int):Option (List Int × List Int × Bool):=(s_l01In.f a0 1 24).bind fun t164=>(if t164=true then ((s_l01In.f a1 1 24).bind fun t165=>(if t165=true then (s_EllOf.j0 k a0 a1 (decide ((wrap64 ((wrap64 (a0+a1)) - 1)) > 24))) else (s_EllOf.j0 k a0 a1 true))) else (s_EllOf.j0 k a0 a1 true))
def s_EllOf.T8 : Bool × List (List Nat × List Nat):=(true,[([],[]),([0],[0]),([],[]),([],[]),([3],[3]),([],[]),([4,5],[4,5]),([1,2,0,1,2,3,4,5,6],[1,2]),([7,6,0,1,2,3,4,5,6],[6,7])])
def s_EllOf.B8 : List Nat:=[0,1,0,0,8,0,56,127,255]
theorem s_EllOf.tab8 : rtab .any (opsOf Tryd.f20 8)=s_EllOf.T8:=by kernel_rfl
theorem s_EllOf.bits8 : waitsOk s_EllOf.T8.2 s_EllOf.B8=true:=by kernel_rfl
def s_EllOf.T14 : Bool × List (List Nat × List Nat):=(true,[([],[]),([0],[0]),([],[]),([],[]),([3],[3]),([],[]),([4,5],[4,5]),([1,2,0,1,2,3,4,5,6],[1,2]),([7,6,0,1,2,3,4,5,6],[6,7])])
def s_EllOf.B14 : List Nat:=[0,1,0,0,8,0,56,127,255]
theorem s_EllOf.tab14 : rtab .any (opsOf Tryd.f20 14)=s_EllOf.T14:=by kernel_rfl
theorem s_EllOf.bits14 : waitsOk s_EllOf.T14.2 s_EllOf.B14=true:=by kernel_rfl
theorem s_EllOf.calls (k:Nat) (a0:Int) (a1:Int) (r1:List Int) (r2:List Int) (r3:Bool) (w:World) (h:s_EllOf.f k a0 a1=some (r1,r2,r3)) :
  Calls Tryd.prog 20 #[.int .i64 a0,.int .i64 a1] w fun e w'=>∃ v0_ v1_:Value,e = .returned (.tuple #[.agg #[v0_,v1_],.bool r3])∧Kd.R (Kd.int .i64) 3 w' w.heap.size (fun k_=>some k_≠(v1_:Value).ownBlock) v0_ r1∧Kd.R (Kd.int .i64) 3 w' w.heap.size (fun k_=>some k_≠(v0_:Value).ownBlock) v1_ r2∧Below w.heap.size w w':=by
 have hu25:=Tryd.underlying25
 have HB:=aM (Below.refl w.heap.size w)
 have H:((s_l01In.f a0 1 24).bind fun t164=>(if t164=true then ((s_l01In.f a1 1 24).bind fun t165=>(if t165=true then (s_EllOf.j0 k a0 a1 (decide ((wrap64 ((wrap64 (a0+a1)) - 1)) > 24))) else (s_EllOf.j0 k a0 a1 true))) else (s_EllOf.j0 k a0 a1 true)))=some (r1,r2,r3):=h
 clear h
 have HC3:=aM H
 clear H
 go_enter Tryd.func20,Tryd.ntmps20
 go_upto_region 1 with (first|((with_reducible refine gate_dst (N:=4) rfl ?_);refine bEv (cs:=#[.slice none 0 0,.slice none 0 0]) (t:=25) ?_;intro gb163 hg w4 hbox hb;have BK163:=aM (hbox);have GW163:=aM ((szX (below_size (bX HB.out)) hg:w.heap.size≤gb163));have GE163:=GW163;replace HB:=aM (below_step (bX HB.out) hb);clear hb hbox hg))
 (try simp only [Act.put,List.setIfInBounds_toArray,List.set_cons_zero,List.set_cons_succ])
 go_cut [24] (fun v24 wc=>∃ (kq:Nat) (x24_2:Bool),v24 = .bool x24_2∧Aside0 (s_EllOf.j0 kq a0 a1 x24_2=some (r1,r2,r3))∧Aside0 (kq≤k)∧Aside0 (wc.heap[gb163]? = some (.cells #[(.slice none 0 0),(.slice none 0 0)] 25 (0,0)))∧Aside0 (Below w.heap.size w wc))
 case first =>
  have H:=HC3.out
  clear HC3
  replace H:=oB H
  obtain ⟨t164,A50,H⟩:=H
  have A5:=aM A50
  clear A50
  by_cases c6:t164=true
  {
  subst c6
  have H1:((s_l01In.f a1 1 24).bind fun t165=>(if t165=true then (s_EllOf.j0 k a0 a1 (decide ((wrap64 ((wrap64 (a0+a1)) - 1)) > 24))) else (s_EllOf.j0 k a0 a1 true)))=some (r1,r2,r3):=by rw [if_pos rfl] at H;exact H
  clear H
  have H:=H1
  clear H1
  replace H:=oB H
  obtain ⟨t165,A70,H⟩:=H
  have A7:=aM A70
  clear A70
  by_cases c8:t165=true
  {
  subst c8
  have H1:(s_EllOf.j0 k a0 a1 (decide ((wrap64 ((wrap64 (a0+a1)) - 1)) > 24)))=some (r1,r2,r3):=by rw [if_pos rfl] at H;exact H
  clear H
  have H:=H1
  clear H1
  have H':=aM H
  clear H
  go_wp2_with (first|((with_reducible refine gate_callee (f:=35) rfl ?_);refine goesL_ (some 11) rfl rfl Tryd.func35 (by kernel_rfl) rfl #[.int .i64 a0,.int .i64 1,.int .i64 24] rfl aX ?_;(with_reducible refine(s_l01In.calls a0 1 24 true _ A5.out).mono ?_);rintro e w' ⟨rfl,⟨nd,rfl⟩⟩;refine ⟨_,rfl,?_⟩)|(go_at_call 35;(with_reducible refine(s_l01In.calls a1 1 24 true _ A7.out).mono ?_);rintro e w' ⟨rfl,⟨nd,rfl⟩⟩))
  go_meet
  case rel=>exact ⟨_,(decide ((wrap64 ((wrap64 (a0+a1)) - 1)) > 24)),vX,H',⟨by first|omega|exact Nat.le_refl _⟩,⟨kX BK163.out⟩,⟨bX1 HB.out GE163.out⟩⟩
  }
  {
  replace c8:=Bool.eq_false_iff.mpr c8
  subst c8
  have H1:(s_EllOf.j0 k a0 a1 true)=some (r1,r2,r3):=by rw [if_neg (show ¬ (false=true) by decide)] at H;exact H
  clear H
  have H:=H1
  clear H1
  have H':=aM H
  clear H
  go_wp2_with (first|((with_reducible refine gate_callee (f:=35) rfl ?_);refine goesL_ (some 11) rfl rfl Tryd.func35 (by kernel_rfl) rfl #[.int .i64 a0,.int .i64 1,.int .i64 24] rfl aX ?_;(with_reducible refine(s_l01In.calls a0 1 24 true _ A5.out).mono ?_);rintro e w' ⟨rfl,⟨nd,rfl⟩⟩;refine ⟨_,rfl,?_⟩)|(go_at_call 35;(with_reducible refine(s_l01In.calls a1 1 24 false _ A7.out).mono ?_);rintro e w' ⟨rfl,⟨nd,rfl⟩⟩))
  go_meet
  case rel=>exact ⟨_,(true),vX,H',⟨by first|omega|exact Nat.le_refl _⟩,⟨kX BK163.out⟩,⟨bX1 HB.out GE163.out⟩⟩
  }
  }
  {
  replace c6:=Bool.eq_false_iff.mpr c6
  subst c6
  have H1:(s_EllOf.j0 k a0 a1 true)=some (r1,r2,r3):=by rw [if_neg (show ¬ (false=true) by decide)] at H;exact H
  clear H
  have H:=H1
  clear H1
  have H':=aM H
  clear H
  go_wp2_with (first|((with_reducible refine gate_callee (f:=35) rfl ?_);refine goesL_ (some 11) rfl rfl Tryd.func35 (by kernel_rfl) rfl #[.int .i64 a0,.int .i64 1,.int .i64 24] rfl aX ?_;(with_reducible refine(s_l01In.calls a0 1 24 false _ A5.out).mono ?_);rintro e w' ⟨rfl,⟨nd,rfl⟩⟩;refine ⟨_,rfl,?_⟩))
  go_meet
  case rel=>exact ⟨_,(true),vX,H',⟨by first|omega|exact Nat.le_refl _⟩,⟨kX BK163.out⟩,⟨bX1 HB.out GE163.out⟩⟩
  }
 case rest =>
 clear HC3
 try clear c6
 try clear c8
 obtain ⟨kq,x24_2,rfl,HA,HJ2,BK163,HB⟩:=hcut
 cases kq with
 | zero=>exact absurd HA.out (by simp [s_EllOf.j0])
 | succ kj2 =>
 have H:=HA.out
 clear HA
 simp only [s_EllOf.j0] at H
 by_cases c9:x24_2=true
 {
 subst c9
 have H1:(some (([]:List Int),([]:List Int),false))=some (r1,r2,r3):=by rw [if_pos rfl] at H;exact H
 clear H
 have H:=H1
 clear H1
 simp only [Option.some.injEq,Prod.mk.injEq] at H
 obtain ⟨rfl,rfl,rfl⟩:=H
 obtain ⟨hcz10_0,hcz10_1,hfz10_0,hfz10_1⟩:=f2Z BK163.out
 go_wp2
 refine bodyPost_ret (results_ct rfl _ _ gb163 25 #[.slice none 0 0,.slice none 0 0] (0,0) _ rfl (by(with_reducible repeat(first|refine kN ?_ _|refine kD ?_|refine kA ?_ _));refine blk_put (cs:=#[.slice none 0 0,.slice none 0 0]) ?_ 1 _ rfl;(with_reducible repeat(first|refine kN ?_ _|refine kD ?_|refine kA ?_ _));refine blk_put (cs:=#[.slice none 0 0,.slice none 0 0]) ?_ 0 _ rfl;(with_reducible repeat(first|refine kN ?_ _|refine kD ?_|refine kA ?_ _));exact BK163.out) Tryd.underlying25 rfl (by kernel_rfl)) rfl ?_
 exact ⟨_,_,eX,by first|exact Kd.R_nil _ _ _ _ _|exact Kd.N_nil _ _ _ _ _|exact Kd.V_nil _ _ _ _ _|exact Kd.Q_nil _ _ _ _ _|exact Kd.S_nil _ _ _ _ _,by first|exact Kd.R_nil _ _ _ _ _|exact Kd.N_nil _ _ _ _ _|exact Kd.V_nil _ _ _ _ _|exact Kd.Q_nil _ _ _ _ _|exact Kd.S_nil _ _ _ _ _,bX1 HB.out GE163.out⟩
 }
 {
 replace c9:=Bool.eq_false_iff.mpr c9
 subst c9
 have H1:((s_l02Identity.f kj2 (wrap64 ((wrap64 (a0+a1)) - 1))).bind fun t166=>((s_l02Identity.f kj2 (wrap64 ((wrap64 (a0+a1)) - 1))).bind fun t169=>(s_EllOf.l0 kj2 a0 a1 (wrap64 ((wrap64 (a0+a1)) - 1)) 0 t166 t169)))=some (r1,r2,r3):=by rw [if_neg (show ¬ (false=true) by decide)] at H;exact H
 clear H
 have H:=H1
 clear H1
 replace H:=oB H
 obtain ⟨t166,A110,H⟩:=H
 have A11:=aM A110
 clear A110
 replace H:=oB H
 obtain ⟨t169,A120,H⟩:=H
 have A12:=aM A120
 clear A120
 have H':=aM H
 clear H
 go_wp2_with (first|((with_reducible refine gate_callee (f:=38) rfl ?_);refine goesL_ (some 31) rfl rfl Tryd.func38 (by kernel_rfl) rfl #[.int .i64 (wrap64 ((wrap64 (a0+a1)) - 1))] rfl aX ?_;(with_reducible refine(s_l02Identity.calls kj2 (wrap64 ((wrap64 (a0+a1)) - 1)) t166 _ A11.out).mono ?_);rintro e w13 ⟨v167,rfl,ho0,hb⟩;refine ⟨_,rfl,?_⟩;have HO168:=aM (Kd.R_lower ho0 (below_size (bX1 HB.out GE163.out)));replace BK163:=aM (bbX BK163.out hb);replace HB:=aM (below_step (bX1 HB.out GE163.out) hb);(try clear hb);(try clear hk);(try clear ho0))|((with_reducible refine gate_callee (f:=38) rfl ?_);refine goesL_ (some 33) rfl rfl Tryd.func38 (by kernel_rfl) rfl #[.int .i64 (wrap64 ((wrap64 (a0+a1)) - 1))] rfl aX ?_;(with_reducible refine(s_l02Identity.calls kj2 (wrap64 ((wrap64 (a0+a1)) - 1)) t169 _ A12.out).mono ?_);rintro e w14 ⟨v170,rfl,ho0,hb⟩;refine ⟨_,rfl,?_⟩;have HO171:=aM (Kd.R_lower (Kd.R_new' ho0 (Kd.R_lt (rX HO168.out))) (below_size (bX1 HB.out GE163.out)));replace HO168:=aM (Kd.R_elder' (rX HO168.out) (Kd.R_base ho0) hb);replace BK163:=aM (bbX BK163.out hb);replace HB:=aM (below_step (bX1 HB.out GE163.out) hb);(try clear hb);(try clear hk);(try clear ho0);obtain ⟨Ao15,co15,eo15⟩:=Kd.R_slice HO171.out;subst eo15;obtain ⟨Ao16,co16,eo16⟩:=Kd.R_slice HO168.out;subst eo16)|((with_reducible refine gate_dst (N:=7) rfl ?_);refine bEv (cs:=#[.slice none 0 0,.slice none 0 0]) (t:=25) ?_;intro gb172 hg w17 hbox hb;replace HO168:=aM (Kd.R_below (rX HO168.out) hb);replace HO171:=aM (Kd.R_below (rX HO171.out) hb);have BK172:=aM (hbox);have GW172:=aM ((szX (below_size (bX1 HB.out GE163.out)) hg:w.heap.size≤gb172));have GE172:=GW172;replace HB:=aM (below_step (bX1 HB.out GE163.out) hb);have NB163_172:=aM (neX BK163.out hg);have NB172_163:=aM (nfX BK163.out hg);replace BK163:=aM (bbX BK163.out hb);clear hb hbox hg;have hnb18:=NB172_163.out;have hnc18:=NB163_172.out;obtain ⟨hcz19_0,hcz19_1,hfz19_0,hfz19_1⟩:=f2Z BK172.out))
 go_loopg [8] kj2 (fun kq v8 w'=>∃ (x8_2:Int) (x173000_2:List Int) (x173001_2:List Int) (u173000:Value) (u173001:Value),v8 = .int .i64 x8_2∧Aside0 (s_EllOf.l0 kq a0 a1 (wrap64 ((wrap64 (a0+a1)) - 1)) x8_2 x173000_2 x173001_2=some (r1,r2,r3))∧Aside0 (kq≤kj2)∧Aside0 (Kd.R (Kd.int .i64) 3 w' w.heap.size (fun k_=>some k_≠(u173001:Value).ownBlock) u173000 x173000_2)∧Aside0 (Kd.R (Kd.int .i64) 3 w' w.heap.size (fun k_=>some k_≠(u173000:Value).ownBlock) u173001 x173001_2)∧Aside0 (w'.heap[gb163]? = some (.cells #[(.slice none 0 0),(.slice none 0 0)] 25 (0,0)))∧Aside0 (w'.heap[gb172]? = some (.cells #[u173000,u173001] 25 (0,0)))∧Aside0 (Below w.heap.size w w'))
 case atStart=>exact ⟨(0),(t166),(t169),(.slice Ao16 t166.length co16),(.slice Ao15 t169.length co15),vX,H',⟨Nat.le_refl _⟩,⟨by(with_reducible repeat(first|apply rA|apply rN|apply rD));exact Kd.R_mono (Kd.R_far (p:=⟨gb172,1,none⟩) (Kd.R_far (p:=⟨gb172,0,none⟩) (Kd.R_types HO168.out BK172.out (by decide)) (fun _ hk=>hk.2) (.slice Ao16 t166.length co16)) (fun _ hk=>hk.2) (.slice Ao15 t169.length co15)) (fun _ hk=>hk.1.2)⟩,⟨by(with_reducible repeat(first|apply rA|apply rN|apply rD));exact Kd.R_mono (Kd.R_far (p:=⟨gb172,1,none⟩) (Kd.R_far (p:=⟨gb172,0,none⟩) (Kd.R_types HO171.out BK172.out (by decide)) (fun _ hk=>hk.2) (.slice Ao16 t166.length co16)) (fun _ hk=>hk.2) (.slice Ao15 t169.length co15)) (fun _ hk=>hk.1.2)⟩,⟨by(with_reducible repeat(first|refine kN ?_ _|refine kD ?_|refine kA ?_ _));refine blk_far ?_ NB163_172.out _;(with_reducible repeat(first|refine kN ?_ _|refine kD ?_|refine kA ?_ _));refine blk_far ?_ NB163_172.out _;(with_reducible repeat(first|refine kN ?_ _|refine kD ?_|refine kA ?_ _));exact BK163.out⟩,⟨by(with_reducible repeat(first|refine kN ?_ _|refine kD ?_|refine kA ?_ _));refine blk_put (cs:=#[.slice Ao16 t166.length co16,.slice none 0 0]) ?_ 1 _ rfl;(with_reducible repeat(first|refine kN ?_ _|refine kD ?_|refine kA ?_ _));refine blk_put (cs:=#[.slice none 0 0,.slice none 0 0]) ?_ 0 _ rfl;(with_reducible repeat(first|refine kN ?_ _|refine kD ?_|refine kA ?_ _));exact BK172.out⟩,⟨bX2 HB.out GE163.out GE172.out⟩⟩
 case round =>
 clear H'
 try clear c6
 try clear c8
 try clear c9
 try clear hcz10_0
 try clear hcz10_1
 try clear hcz19_0
 try clear hcz19_1
 try clear hfz10_0
 try clear hfz10_1
 try clear hfz19_0
 try clear hfz19_1
 obtain ⟨x8_2,x173000_2,x173001_2,u173000,u173001,rfl,HA,HK2,HO_173000,HO_173001,BK163,BK172,HB⟩:=hrel
 cases gk with
 | zero=>exact absurd HA.out (by simp [s_EllOf.l0])
 | succ k2 =>
 have H:=HA.out
 clear HA
 simp only [s_EllOf.l0] at H
 by_cases c20:x8_2<a0
 {
 rw [if_pos c20] at H
 have c20b0:=decide_eq_true c20
 clear c20
 by_cases c21:a0=0
 {
 rw [if_pos c21] at H
 exact absurd H (by simp)
 }
 {
 rw [if_neg c21] at H
 have c21b0:(a0 == 0)=false:=beq_eq_false_iff_ne.mpr c21
 have c21b1:(a0 != 0)=true:=bne_iff_ne.mpr c21
 by_cases c22:0≤x8_2
 {
 rw [if_pos c22] at H
 have c22b0:=decide_eq_true c22
 clear c22
 by_cases c23:x8_2<(x173000_2.length:Int)
 {
 rw [if_pos c23] at H
 have c23b0:=decide_eq_true c23
 clear c23
 obtain ⟨y173,hy173⟩:∃ y_:List Int,y_=(x173000_2.set (x8_2:Int).toNat (Int.tmod (wrap64 (x8_2+1)) a0)):=⟨_,rfl⟩
 replace H:(s_EllOf.l0 k2 a0 a1 (wrap64 ((wrap64 (a0+a1)) - 1)) (wrap64 (x8_2+1)) y173 x173001_2)=some (r1,r2,r3):=by first|(rw [hy173];with_reducible exact H)|(have H2_:=(Option.bind_some _ _).symm.trans H;rw [hy173];with_reducible exact H2_)|(have H2_:=(Option.bind_some _ _).symm.trans H;with_reducible exact H2_)|with_reducible exact H|(rw [hy173];exact H)|exact H
 have Ny173:=aM hy173
 clear hy173
 have H':=aM H
 clear H
 try go_wp2
 replace HO_173000:=aM (Kd.R_drew HO_173000.out)
 replace HO_173001:=aM (Kd.R_drew HO_173001.out)
 replace BK163:=aM (blk_drew BK163.out)
 replace BK172:=aM (blk_drew BK172.out)
 replace HB:=aM (below_drew1 HB.out)
 have p24:0≤(x8_2:Int):=dX
 have q24:(x8_2:Int)<((x173000_2.length:Int):Int):=dX
 obtain ⟨go24,co24,eo24,gb24,gl24,cl24,HG24⟩:=Kd.R_form HO_173000.out (by omega)
 (first|cases eo24|(injection eo24 with ea_ en_ ec_;(first|subst ea_|(injection ea_ with ea_;subst ea_));subst ec_;clear en_))
 have GB24:=aM gb24
 have GG24:=aM HG24
 clear gb24 gl24 HG24
 obtain ⟨hx24_0,hf24_0⟩:=Kd.R_celln 0 HO_173000.out (x8_2:Int) p24 q24
 replace p24:=eq_true p24
 replace q24:=eq_true q24
 have HP26:=Kd.R_putn HO_173000.out (x8_2:Int) (Int.tmod (wrap64 (x8_2+1)) a0)
 rw [← Ny173.out] at HP26
 have HQ26:=aM HP26
 clear HP26
 refine start_ (n:=9) (S:=fun w'=>w'.cell? ⟨gb172,0,none⟩=some (.slice (some ⟨go24,0,none⟩) x173000_2.length co24)∧w'.cell? ⟨gb172,1,none⟩=some (u173001)) (ds:=[8]) #[ff,ff,ff,ff,ff,ff,ff,ff,ff] (by kernel_rfl) rfl rfl ⟨cz20 BK172.out,cz21 BK172.out⟩ (fun hHeld => ?_);refine with_tabW s_EllOf.tab8 s_EllOf.bits8 (fun HT_ HW_ => ?_)
 generalize wr.drew=w25 at HO_173000 HO_173001 BK163 BK172 HB GG24 HQ26 hf24_0 hx24_0 hHeld ⊢
 refine pX 0 40 (fl 9 1) rfl rfl HT_.out ?_
 refine pX 2 42 (fl 9 5) rfl rfl HT_.out ?_
 refine pX 3 43 (fl 9 13) rfl rfl HT_.out ?_
 refine pX 4 44 (fl 9 29) rfl rfl HT_.out ?_
 refine pX 5 45 (fl 9 61) rfl rfl HT_.out ?_
 refine pX 6 46 (fl 9 125) rfl rfl HT_.out ?_
 refine tX2 1 41 (fl 9 127) rfl rfl HT_.out HW_.out hHeld ?_
 refine pX 7 47 (fl 9 255) rfl rfl HT_.out ?_
 refine last_ (i:=8) (N:=none) #[tt,tt,tt,tt,tt,tt,tt,tt,tt] rfl rfl (one_of HT_.out (by kernel_rfl)) (by decide) (fun K hK => ?_)
 refine skip_ (w1:=?_) (by rfl) rfl ?_ ?_
 rotate_left
 {
 go_simp
 rfl
 }
 refine hK.out _ _ ?_
 clear hK K
 refine done_ (done_of HT_.out (by kernel_rfl)) ?_
 try go_wp2
 go_roundg k2
 case measure=>have:=HJ2.out;have:=HK2.out;omega
 case rel=>exact ⟨(wrap64 (x8_2+1)),(y173),(x173001_2),(.slice (some ⟨go24,0,none⟩) x173000_2.length co24),(u173001),vX,H',⟨by have:=HJ2.out;have:=HK2.out;omega⟩,⟨rX HQ26.out⟩,⟨by(with_reducible repeat(first|apply rA|apply rN|apply rD));exact Kd.R_mono (Kd.R_far (p:=⟨go24,(x8_2:Int).toNat,none⟩) (Kd.R_mono HO_173001.out (fun k_ hk=>(⟨hk,fun e_=>hk (by rw [e_];rfl)⟩:_∧k_≠go24))) (fun _ hk=>hk.2) (.int .i64 (Int.tmod (wrap64 (x8_2+1)) a0))) (fun _ hk=>hk.1)⟩,⟨by(with_reducible repeat(first|refine kN ?_ _|refine kD ?_|refine kA ?_ _));refine blk_far ?_ (by have h_:=Kd.R_ne HO_173000.out BK163.out (by decide);intro e_;exact h_ (by rw [e_];rfl)) _;(with_reducible repeat(first|refine kN ?_ _|refine kD ?_|refine kA ?_ _));exact BK163.out⟩,⟨by(with_reducible repeat(first|refine kN ?_ _|refine kD ?_|refine kA ?_ _));refine blk_far ?_ (by have h_:=Kd.R_ne HO_173000.out BK172.out (by decide);intro e_;exact h_ (by rw [e_];rfl)) _;(with_reducible repeat(first|refine kN ?_ _|refine kD ?_|refine kA ?_ _));exact BK172.out⟩,⟨bX3 HB.out GB24.out GE163.out GE172.out⟩⟩
 }
 {
 rw [if_neg c23] at H
 exact absurd H (by simp)
 }
 }
 {
 rw [if_neg c22] at H
 exact absurd H (by simp)
 }
 }
 }
 {
 rw [if_neg c20] at H
 have c20b0:=decide_eq_false c20
 clear c20
 by_cases c27:a1 > 1
 {
 rw [if_pos c27] at H
 have c27b0:=decide_eq_true c27
 clear c27
 by_cases c28:0<(x173001_2.length:Int)
 {
 rw [if_pos c28] at H
 have c28b0:=decide_eq_true c28
 have c28b1:decide (0<x173001_2.length)=true:=decide_eq_true (by omega)
 clear c28
 obtain ⟨y174,hy174⟩:∃ y_:List Int,y_=(x173001_2.set (0:Int).toNat a0):=⟨_,rfl⟩
 replace H:(s_EllOf.l1 k2 (wrap64 ((wrap64 (a0+a1)) - 1)) a0 x173000_2 y174)=some (r1,r2,r3):=by first|(rw [hy174];with_reducible exact H)|(have H2_:=(Option.bind_some _ _).symm.trans H;rw [hy174];with_reducible exact H2_)|(have H2_:=(Option.bind_some _ _).symm.trans H;with_reducible exact H2_)|with_reducible exact H|(rw [hy174];exact H)|exact H
 have Ny174:=aM hy174
 clear hy174
 have H':=aM H
 clear H
 have hnb30:=NB172_163.out
 have hnc30:=NB163_172.out
 obtain ⟨hcz31_0,hcz31_1,hfz31_0,hfz31_1⟩:=f2Z BK172.out
 have p29:0≤(0:Int):=(by omega)
 have q29:(0:Int)<((x173001_2.length:Int):Int):=dX
 have qi29:(0<x173001_2.length)=True:=eq_true (by omega)
 obtain ⟨go29,co29,eo29,gb29,gl29,cl29,HG29⟩:=Kd.R_form HO_173001.out (by omega)
 (first|cases eo29|(injection eo29 with ea_ en_ ec_;(first|subst ea_|(injection ea_ with ea_;subst ea_));subst ec_;clear en_))
 have GB29:=aM gb29
 have GG29:=aM HG29
 clear gb29 gl29 HG29
 obtain ⟨hx29_0,hf29_0⟩:=Kd.R_celln 0 HO_173001.out (0:Int) p29 q29
 (try rw [show ((0:Int)).toNat=0 from rfl] at hx29_0)
 (try simp only [Nat.reduceMul,Nat.zero_mul,Nat.zero_add,Nat.reduceAdd] at hx29_0)
 (try rw [show ((0:Int)).toNat=0 from rfl] at hf29_0)
 (try simp only [Nat.reduceMul,Nat.zero_mul,Nat.zero_add,Nat.reduceAdd] at hf29_0)
 replace p29:=eq_true p29
 replace q29:=eq_true q29
 have HP32:=Kd.R_putg HO_173001.out (0:Int) a0
 go_wp2_with (first|((with_reducible refine gate_store (t:=3) (p:=53) rfl ?_);refine store_event (t:=3) (p:=53) (v:=?vo_w33) (w1:=(wr.setCell ⟨go29,(0:Int).toNat,none⟩ (.int .i64 a0))) ?hg ?ho ?hn ?hr ?_;(case ho=>rfl);(case hg=>rfl);(case hn=>rfl);(case hr=>first|(go_simp;done)|(go_simp;rfl));intro w33 hw;have hg:wr.grownBy w33 (some go29):=(by rw [hw];exact HP32.2);have hp_:Kd.R (Kd.int .i64) 3 w33 w.heap.size (fun k_=>some k_≠(u173000:Value).ownBlock) (.slice (some ⟨go29,0,none⟩) x173001_2.length co29) y174:=(by rw [hw,Ny174.out];exact HP32.1);clear HP32;replace HO_173000:=aM (Kd.R_after (v:=(.slice (some ⟨go29,0,none⟩) x173001_2.length co29)) (v1:=(.slice (some ⟨go29,0,none⟩) x173001_2.length co29)) (ok:=(fun _=>True)) (rM HO_173000.out (fun _ hk=>⟨trivial,hk⟩)) hg (.inl rfl));replace BK163:=aM (bgX BK163.out hg (Kd.R_ne HO_173001.out BK163.out (by decide)));replace BK172:=aM (bgX BK172.out hg (Kd.R_ne HO_173001.out BK172.out (by decide)));replace HO_173001:=aM (hp_);replace HB:=aM ((by rw [hw];exact below_set (HB.out) GB29.out:Below w.heap.size w w33));clear hg hw hp_))
 go_loopg [9] k2 (fun kq v9 w'=>∃ (x9_3:Int) (x173000_3:List Int) (x173001_3:List Int) (u173000:Value) (u173001:Value),v9 = .int .i64 x9_3∧Aside0 (s_EllOf.l1 kq (wrap64 ((wrap64 (a0+a1)) - 1)) x9_3 x173000_3 x173001_3=some (r1,r2,r3))∧Aside0 (kq≤k2)∧Aside0 (Kd.R (Kd.int .i64) 3 w' w.heap.size (fun k_=>some k_≠(u173001:Value).ownBlock) u173000 x173000_3)∧Aside0 (Kd.R (Kd.int .i64) 3 w' w.heap.size (fun k_=>some k_≠(u173000:Value).ownBlock) u173001 x173001_3)∧Aside0 (w'.heap[gb163]? = some (.cells #[(.slice none 0 0),(.slice none 0 0)] 25 (0,0)))∧Aside0 (w'.heap[gb172]? = some (.cells #[u173000,u173001] 25 (0,0)))∧Aside0 (Below w.heap.size w w'))
 case atStart=>exact ⟨(a0),(x173000_2),(y174),(u173000),(.slice (some ⟨go29,0,none⟩) x173001_2.length co29),vX,H',⟨Nat.le_refl _⟩,⟨rM HO_173000.out (fun _ hk=>hk.2)⟩,⟨rX HO_173001.out⟩,⟨kX BK163.out⟩,⟨kX BK172.out⟩,⟨bX2 HB.out GE163.out GE172.out⟩⟩
 case round =>
 clear H'
 try clear c6
 try clear c8
 try clear c9
 try clear c20
 try clear c20b0
 try clear c21
 try clear c21b0
 try clear c21b1
 try clear c22
 try clear c22b0
 try clear c23
 try clear c23b0
 try clear p24
 try clear q24
 try clear c27
 try clear c27b0
 try clear c28
 try clear c28b0
 try clear c28b1
 try clear p29
 try clear q29
 try clear qi29
 try clear hcz10_0
 try clear hcz10_1
 try clear hcz19_0
 try clear hcz19_1
 try clear hcz31_0
 try clear hcz31_1
 try clear hfz10_0
 try clear hfz10_1
 try clear hfz19_0
 try clear hfz19_1
 try clear hfz31_0
 try clear hfz31_1
 try clear hx24_0
 try clear hx29_0
 try clear p24
 try clear p29
 try clear q24
 try clear q29
 obtain ⟨x9_3,x173000_3,x173001_3,u173000,u173001,rfl,HA,HK3,HO_173000,HO_173001,BK163,BK172,HB⟩:=hrel
 cases gk with
 | zero=>exact absurd HA.out (by simp [s_EllOf.l1])
 | succ k3 =>
 have H:=HA.out
 clear HA
 simp only [s_EllOf.l1] at H
 by_cases c34:x9_3<(wrap64 ((wrap64 (a0+a1)) - 1))
 {
 rw [if_pos c34] at H
 have c34b0:=decide_eq_true c34
 clear c34
 by_cases c35:(wrap64 ((wrap64 (a0+a1)) - 1))=0
 {
 rw [if_pos c35] at H
 exact absurd H (by simp)
 }
 {
 rw [if_neg c35] at H
 have c35b0:((wrap64 ((wrap64 (a0+a1)) - 1)) == 0)=false:=beq_eq_false_iff_ne.mpr c35
 have c35b1:((wrap64 ((wrap64 (a0+a1)) - 1)) != 0)=true:=bne_iff_ne.mpr c35
 by_cases c36:0≤x9_3
 {
 rw [if_pos c36] at H
 have c36b0:=decide_eq_true c36
 clear c36
 by_cases c37:x9_3<(x173001_3.length:Int)
 {
 rw [if_pos c37] at H
 have c37b0:=decide_eq_true c37
 clear c37
 obtain ⟨y175,hy175⟩:∃ y_:List Int,y_=(x173001_3.set (x9_3:Int).toNat (Int.tmod (wrap64 (x9_3+1)) (wrap64 ((wrap64 (a0+a1)) - 1)))):=⟨_,rfl⟩
 replace H:(s_EllOf.l1 k3 (wrap64 ((wrap64 (a0+a1)) - 1)) (wrap64 (x9_3+1)) x173000_3 y175)=some (r1,r2,r3):=by first|(rw [hy175];with_reducible exact H)|(have H2_:=(Option.bind_some _ _).symm.trans H;rw [hy175];with_reducible exact H2_)|(have H2_:=(Option.bind_some _ _).symm.trans H;with_reducible exact H2_)|with_reducible exact H|(rw [hy175];exact H)|exact H
 have Ny175:=aM hy175
 clear hy175
 have H':=aM H
 clear H
 try go_wp2
 replace HO_173000:=aM (Kd.R_drew HO_173000.out)
 replace HO_173001:=aM (Kd.R_drew HO_173001.out)
 replace BK163:=aM (blk_drew BK163.out)
 replace BK172:=aM (blk_drew BK172.out)
 replace HB:=aM (below_drew1 HB.out)
 have p38:0≤(x9_3:Int):=dX
 have q38:(x9_3:Int)<((x173001_3.length:Int):Int):=dX
 obtain ⟨go38,co38,eo38,gb38,gl38,cl38,HG38⟩:=Kd.R_form HO_173001.out (by omega)
 (first|cases eo38|(injection eo38 with ea_ en_ ec_;(first|subst ea_|(injection ea_ with ea_;subst ea_));subst ec_;clear en_))
 have GB38:=aM gb38
 have GG38:=aM HG38
 clear gb38 gl38 HG38
 obtain ⟨hx38_0,hf38_0⟩:=Kd.R_celln 0 HO_173001.out (x9_3:Int) p38 q38
 replace p38:=eq_true p38
 replace q38:=eq_true q38
 have HP40:=Kd.R_putn HO_173001.out (x9_3:Int) (Int.tmod (wrap64 (x9_3+1)) (wrap64 ((wrap64 (a0+a1)) - 1)))
 rw [← Ny175.out] at HP40
 have HQ40:=aM HP40
 clear HP40
 refine start_ (n:=9) (S:=fun w'=>w'.cell? ⟨gb172,0,none⟩=some (u173000)∧w'.cell? ⟨gb172,1,none⟩=some (.slice (some ⟨go38,0,none⟩) x173001_3.length co38)) (ds:=[8]) #[ff,ff,ff,ff,ff,ff,ff,ff,ff] (by kernel_rfl) rfl rfl ⟨cz20 BK172.out,cz21 BK172.out⟩ (fun hHeld => ?_);refine with_tabW s_EllOf.tab14 s_EllOf.bits14 (fun HT_ HW_ => ?_)
 generalize wr.drew=w39 at HO_173000 HO_173001 BK163 BK172 HB GG38 HQ40 hf38_0 hx38_0 hHeld ⊢
 refine pX 0 60 (fl 9 1) rfl rfl HT_.out ?_
 refine pX 2 62 (fl 9 5) rfl rfl HT_.out ?_
 refine pX 3 63 (fl 9 13) rfl rfl HT_.out ?_
 refine pX 4 64 (fl 9 29) rfl rfl HT_.out ?_
 refine pX 5 65 (fl 9 61) rfl rfl HT_.out ?_
 refine pX 6 66 (fl 9 125) rfl rfl HT_.out ?_
 refine tX2 1 61 (fl 9 127) rfl rfl HT_.out HW_.out hHeld ?_
 refine pX 7 67 (fl 9 255) rfl rfl HT_.out ?_
 refine last_ (i:=8) (N:=none) #[tt,tt,tt,tt,tt,tt,tt,tt,tt] rfl rfl (one_of HT_.out (by kernel_rfl)) (by decide) (fun K hK => ?_)
 refine skip_ (w1:=?_) (by rfl) rfl ?_ ?_
 rotate_left
 {
 go_simp
 rfl
 }
 refine hK.out _ _ ?_
 clear hK K
 refine done_ (done_of HT_.out (by kernel_rfl)) ?_
 try go_wp2
 go_roundg k3
 case measure=>have:=HJ2.out;have:=HK2.out;have:=HK3.out;omega
 case rel=>exact ⟨(wrap64 (x9_3+1)),(x173000_3),(y175),(u173000),(.slice (some ⟨go38,0,none⟩) x173001_3.length co38),vX,H',⟨by have:=HJ2.out;have:=HK2.out;have:=HK3.out;omega⟩,⟨by(with_reducible repeat(first|apply rA|apply rN|apply rD));exact Kd.R_mono (Kd.R_far (p:=⟨go38,(x9_3:Int).toNat,none⟩) (Kd.R_mono HO_173000.out (fun k_ hk=>(⟨hk,fun e_=>hk (by rw [e_];rfl)⟩:_∧k_≠go38))) (fun _ hk=>hk.2) (.int .i64 (Int.tmod (wrap64 (x9_3+1)) (wrap64 ((wrap64 (a0+a1)) - 1))))) (fun _ hk=>hk.1)⟩,⟨rX HQ40.out⟩,⟨by(with_reducible repeat(first|refine kN ?_ _|refine kD ?_|refine kA ?_ _));refine blk_far ?_ (by have h_:=Kd.R_ne HO_173001.out BK163.out (by decide);intro e_;exact h_ (by rw [e_];rfl)) _;(with_reducible repeat(first|refine kN ?_ _|refine kD ?_|refine kA ?_ _));exact BK163.out⟩,⟨by(with_reducible repeat(first|refine kN ?_ _|refine kD ?_|refine kA ?_ _));refine blk_far ?_ (by have h_:=Kd.R_ne HO_173001.out BK172.out (by decide);intro e_;exact h_ (by rw [e_];rfl)) _;(with_reducible repeat(first|refine kN ?_ _|refine kD ?_|refine kA ?_ _));exact BK172.out⟩,⟨bX3 HB.out GB38.out GE163.out GE172.out⟩⟩
 }
 {
 rw [if_neg c37] at H
 exact absurd H (by simp)
 }
 }
 {
 rw [if_neg c36] at H
 exact absurd H (by simp)
 }
 }
 }
 {
 rw [if_neg c34] at H
 have c34b0:=decide_eq_false c34
 clear c34
 simp only [Option.some.injEq,Prod.mk.injEq] at H
 obtain ⟨rfl,rfl,rfl⟩:=H
 have hnb41:=NB172_163.out
 have hnc41:=NB163_172.out
 obtain ⟨hcz42_0,hcz42_1,hfz42_0,hfz42_1⟩:=f2Z BK172.out
 obtain ⟨Ao43,co43,eo43⟩:=Kd.R_slice HO_173000.out
 subst eo43
 obtain ⟨hcz44_0,hcz44_1,hfz44_0,hfz44_1⟩:=f2Z BK163.out
 obtain ⟨Ao45,co45,eo45⟩:=Kd.R_slice HO_173001.out
 subst eo45
 go_wp2
 refine bodyPost_ret (results_ct rfl _ _ gb163 25 #[.slice Ao43 x173000_3.length co43,.slice Ao45 x173001_3.length co45] (0,0) _ rfl (by(with_reducible repeat(first|refine kN ?_ _|refine kD ?_|refine kA ?_ _));refine blk_put (cs:=#[.slice Ao43 x173000_3.length co43,.slice none 0 0]) ?_ 1 _ rfl;(with_reducible repeat(first|refine kN ?_ _|refine kD ?_|refine kA ?_ _));refine blk_put (cs:=#[.slice none 0 0,.slice none 0 0]) ?_ 0 _ rfl;(with_reducible repeat(first|refine kN ?_ _|refine kD ?_|refine kA ?_ _));exact BK163.out) Tryd.underlying25 rfl (by kernel_rfl)) rfl ?_
 exact ⟨_,_,eX,by(with_reducible repeat(first|apply rA|apply rN|apply rD));exact Kd.R_mono (Kd.R_far (p:=⟨gb163,1,none⟩) (Kd.R_far (p:=⟨gb163,0,none⟩) (Kd.R_types HO_173000.out BK163.out (by decide)) (fun _ hk=>hk.2) (.slice Ao43 x173000_3.length co43)) (fun _ hk=>hk.2) (.slice Ao45 x173001_3.length co45)) (fun _ hk=>hk.1),by(with_reducible repeat(first|apply rA|apply rN|apply rD));exact Kd.R_mono (Kd.R_far (p:=⟨gb163,1,none⟩) (Kd.R_far (p:=⟨gb163,0,none⟩) (Kd.R_types HO_173001.out BK163.out (by decide)) (fun _ hk=>hk.2) (.slice Ao43 x173000_3.length co43)) (fun _ hk=>hk.2) (.slice Ao45 x173001_3.length co45)) (fun _ hk=>hk.1),bX2 HB.out GE163.out GE172.out⟩
 }
 }
 {
 rw [if_neg c28] at H
 exact absurd H (by simp)
 }
 }
 {
 rw [if_neg c27] at H
 have c27b0:=decide_eq_false c27
 clear c27
 simp only [Option.some.injEq,Prod.mk.injEq] at H
 obtain ⟨rfl,rfl,rfl⟩:=H
 have hnb46:=NB172_163.out
 have hnc46:=NB163_172.out
 obtain ⟨hcz47_0,hcz47_1,hfz47_0,hfz47_1⟩:=f2Z BK172.out
 obtain ⟨Ao48,co48,eo48⟩:=Kd.R_slice HO_173000.out
 subst eo48
 obtain ⟨hcz49_0,hcz49_1,hfz49_0,hfz49_1⟩:=f2Z BK163.out
 obtain ⟨Ao50,co50,eo50⟩:=Kd.R_slice HO_173001.out
 subst eo50
 go_wp2
 refine bodyPost_ret (results_ct rfl _ _ gb163 25 #[.slice Ao48 x173000_2.length co48,.slice Ao50 x173001_2.length co50] (0,0) _ rfl (by(with_reducible repeat(first|refine kN ?_ _|refine kD ?_|refine kA ?_ _));refine blk_put (cs:=#[.slice Ao48 x173000_2.length co48,.slice none 0 0]) ?_ 1 _ rfl;(with_reducible repeat(first|refine kN ?_ _|refine kD ?_|refine kA ?_ _));refine blk_put (cs:=#[.slice none 0 0,.slice none 0 0]) ?_ 0 _ rfl;(with_reducible repeat(first|refine kN ?_ _|refine kD ?_|refine kA ?_ _));exact BK163.out) Tryd.underlying25 rfl (by kernel_rfl)) rfl ?_
 exact ⟨_,_,eX,by(with_reducible repeat(first|apply rA|apply rN|apply rD));exact Kd.R_mono (Kd.R_far (p:=⟨gb163,1,none⟩) (Kd.R_far (p:=⟨gb163,0,none⟩) (Kd.R_types HO_173000.out BK163.out (by decide)) (fun _ hk=>hk.2) (.slice Ao48 x173000_2.length co48)) (fun _ hk=>hk.2) (.slice Ao50 x173001_2.length co50)) (fun _ hk=>hk.1),by(with_reducible repeat(first|apply rA|apply rN|apply rD));exact Kd.R_mono (Kd.R_far (p:=⟨gb163,1,none⟩) (Kd.R_far (p:=⟨gb163,0,none⟩) (Kd.R_types HO_173001.out BK163.out (by decide)) (fun _ hk=>hk.2) (.slice Ao48 x173000_2.length co48)) (fun _ hk=>hk.2) (.slice Ao50 x173001_2.length co50)) (fun _ hk=>hk.1),bX2 HB.out GE163.out GE172.out⟩
 }
 }
 }

end Go.Proofs.YthhdgeafdnikcaaDoor.S
