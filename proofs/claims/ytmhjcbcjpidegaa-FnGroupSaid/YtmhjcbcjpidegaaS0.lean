-- PRINTED by print.py (a twelfth state) out of the translation. Not trusted: Lean checks it.
import Derived.Test.YtmhjcbcjpidegaaProg
import Derived.Below
import Derived.Deep.Draws
import Derived.Deep.AppendLies
import Derived.Maps.AppendAt
import Derived.OwnWalk
import Derived.Laws.BytesArg
import Derived.Laws.MakeOwn
import Derived.Laws.OwnMore
import Derived.Deep.OwnRows
import Derived.Tactics
import Derived.Lib.ConvBytes
import Derived.Laws.Slices
import Derived.WalkKit
import Derived.KernelRfl
import Derived.RowKit3
import Derived.Deep.LoopGhost
import Derived.Deep.QuietTactic
import Derived.BigQuiet
import Derived.WideLaws
import Derived.Deep.DeepCutAuto
import Derived.Deep.CutBlock
import Derived.Deep.RegionHeld3
import Derived.Laws.Rows
import Derived.Lib.AppendStr
import Derived.ArgAppend
import Derived.Laws.IdiomCopy
import Derived.OrdersHeld
import Derived.Laws.BitsLemmas
import Derived.RowKit
import Derived.Laws.Tables
import Derived.Laws.CopyOwn
import Derived.Lib.SmallJoins
import Derived.Test.YtmhjcbcjpidegaaShelf
import Derived.Test.YtmhjcbcjpidegaaWWords
import Derived.Test.YtmhjcbcjpidegaaWLast
import Derived.Test.YtmhjcbcjpidegaaWTab
import Derived.Test.YtmhjcbcjpidegaaWFour
import Derived.Test.YtmhjcbcjpidegaaWQPut
import Derived.Test.YtmhjcbcjpidegaaWApart
import Derived.Test.YtmhjcbcjpidegaaWArr
import Derived.Test.YtmhjcbcjpidegaaWZeros
import Derived.Test.YtmhjcbcjpidegaaWFoot
import Derived.Test.YtmhjcbcjpidegaaWKept
import Derived.Test.YtmhjcbcjpidegaaWShare
import Derived.Test.YtmhjcbcjpidegaaWN
import Derived.Test.YtmhjcbcjpidegaaWFootNe
import Derived.Test.YtmhjcbcjpidegaaWAt
import Derived.Test.YtmhjcbcjpidegaaWEqStruct
import Derived.Test.YtmhjcbcjpidegaaWRepsOne
import Derived.Test.YtmhjcbcjpidegaaWInv
import Derived.Test.YtmhjcbcjpidegaaWInvWords
import Derived.Test.YtmhjcbcjpidegaaWGuard
import Derived.Test.YtmhjcbcjpidegaaWNEv
import Derived.Test.YtmhjcbcjpidegaaWMore
namespace Go.Proofs.Ytmhjcbcjpidegaa.S
open Go.RowKit Go.Proofs.YtmhjcbcjpidegaaW.PrintWords Go.Proofs.YtmhjcbcjpidegaaW.PrintLast Go.Proofs.YtmhjcbcjpidegaaW.PrintMore
attribute [local go_sem] max2_int min2_int max_two min_two max_three min_three max_four min_four   -- for this text's walks alone
set_option linter.unusedVariables false
set_option linter.unusedSimpArgs false



def errW : Option Int→Value
  | none => .nilIface
  | some c => .iface 0 (.int .i64 c)
theorem errW_none : errW none = .nilIface:=rfl
theorem errW_some (c:Int):errW (some c) = .iface 0 (.int .i64 c):=rfl

abbrev tt : Bool:=true
abbrev ff : Bool:=false
def fl (n m:Nat):Array Bool:=((List.range n).map fun i=>m.testBit i).toArray
theorem zA {α:Type} (l:List α) (i:Nat) (a:α):l.toArray.setIfInBounds i a=(l.set i a).toArray:=List.setIfInBounds_toArray ..
theorem zB {α:Type} (x:α) (xs:List α) (a:α):(x :: xs).set 0 a=a :: xs:=List.set_cons_zero ..
theorem zC {α:Type} (x:α) (xs:List α) (n:Nat) (a:α):(x :: xs).set (n+1) a=x :: xs.set n a:=List.set_cons_succ ..
theorem zE {α β:Type} (f:α→β) (l:List α):l.toArray.map f=(l.map f).toArray:=List.map_toArray ..
theorem zF {α β:Type} (f:α→β) (a:α) (l:List α):(a :: l).map f=f a :: l.map f:=rfl
theorem zG {α β:Type} (f:α→β):([]:List α).map f=[]:=rfl
theorem zH {α:Type} (i:Nat) (l:List α):(l.drop i).length=l.length - i:=List.length_drop ..
theorem zI {α:Type} (i:Nat) (l:List α):(l.take i).length=min i l.length:=List.length_take ..
theorem bA {w W:World} (h:Below w.heap.size w W) (o:Obj):Below w.heap.size w (W.alloc o):=below_alloc h o
theorem bN {B:Nat} {w W:World} (h:Below B w W) (n:Nat):Below B w (W.drewN n):=pw_below_drewN h n
theorem bD {B:Nat} {w W:World} (h:Below B w W):Below B w W.drew:=below_drew1 h
theorem kA {w:World} {g:Nat} {o:Obj} (h:w.heap[g]? = some o) (o2:Obj):(w.alloc o2).heap[g]? = some o:=blk_alloc h o2
theorem kD {w:World} {g:Nat} {o:Obj} (h:w.heap[g]? = some o):w.drew.heap[g]? = some o:=h
theorem kN {w:World} {g:Nat} {o:Obj} (h:w.heap[g]? = some o) (n:Nat):(w.drewN n).heap[g]? = some o:=h
theorem rA {α:Type} {d:Kd α} {e w base ok v xs} (h:d.R e w base ok v xs) (o:Obj):d.R e (w.alloc o) base ok v xs:=Kd.R_alloc h o
theorem rD {α:Type} {d:Kd α} {e w base ok v xs} (h:d.R e w base ok v xs):d.R e w.drew base ok v xs:=Kd.R_drew h
theorem rN {α:Type} {d:Kd α} {e w base ok v xs} (h:d.R e w base ok v xs) (m:Nat):d.R e (w.drewN m) base ok v xs:=Kd.R_drewN h m
theorem info3 : (Try.prog.info? 3).map (fun i=>(i.zero,i.size,i.bytes))=some (some (.int .i64 0),1,8):=by kernel_rfl
theorem info4 : (Try.prog.info? 4).map (fun i=>(i.zero,i.size,i.bytes))=some (some (.bool false),1,1):=by kernel_rfl
theorem info5 : (Try.prog.info? 5).map (fun i=>(i.zero,i.size,i.bytes))=some (some (.int .u8 0),1,1):=by kernel_rfl
theorem info9 : (Try.prog.info? 9).map (fun i=>(i.zero,i.size,i.bytes))=some (some (.string ⟨#[]⟩),1,16):=by kernel_rfl
theorem info27 : (Try.prog.info? 27).map (fun i=>(i.zero,i.size,i.bytes))=some (some (.agg #[(.slice none 0 0),(.slice none 0 0)]),2,48):=by kernel_rfl
-- the values' own types
def rd_L1 (xs:List (List Int)) (i:Int):(List Int):=xs.getD i.toNat ([]:List Int)
theorem at_L1 {w:World} {A:Option Addr} {n:Nat} {xs:List (List Int)} (h:Kd.C (Kd.slice 3 (Kd.int .i64)) w A n xs) (i:Int) (h0:0≤i) (h1:i<n):∃ ad A0 c0,A=some ad∧w.cell? (ad.add i.toNat)=some (.slice A0 (rd_L1 xs i).length c0)∧(rd_L1 xs i).length≤c0∧(Kd.int .i64).C w A0 (rd_L1 xs i).length (rd_L1 xs i):=by
  obtain ⟨ad,c,e,_,hK,hc0⟩:=Kd.C_get h ([]:List Int) i h0 h1
  have hc:∀ j u,c[j]? = some u→w.cell? (ad.add (i.toNat*1+j))=some u:=hc0
  obtain ⟨A0,c0,rfl,l0,g0⟩:=hK
  exact ⟨ad,A0,c0,e,by have hq:=hc 0 _ rfl;rwa [Nat.mul_one,Nat.add_zero] at hq,l0,g0⟩

/-! #### struct type 27 -/
structure S27 where
  f0:(List Int)
  f1:(List Int)
def z27 : S27:=⟨([]:List Int),([]:List Int)⟩
def k27 : Kd S27:=Kd.iso (Kd.pair (Kd.slice 3 (Kd.int .i64)) (Kd.slice 3 (Kd.int .i64))) (fun x:S27=>(x.f0,x.f1))
theorem k27_open {w:World} {x:S27} {cs:List Value} (h:k27.K w x cs):∃ A0 c0 A1 c1,cs=[.slice A0 x.f0.length c0,.slice A1 x.f1.length c1]∧x.f0.length≤c0∧(Kd.int .i64).C w A0 x.f0.length x.f0∧x.f1.length≤c1∧(Kd.int .i64).C w A1 x.f1.length x.f1:=by
  obtain ⟨_,_,rfl,⟨A0,c0,rfl,l0,g0⟩,⟨A1,c1,rfl,l1,g1⟩⟩:=h
  exact ⟨A0,c0,A1,c1,rfl,l0,g0,l1,g1⟩
theorem k27_openM {w:World} {base:Nat} {ok:Nat→Prop} {x:S27} {cs:List Value} (h:k27.M w base ok x cs):∃ v0 v1,cs=[v0,v1]∧(Kd.int .i64).R 3 w base ok v0 x.f0∧(Kd.int .i64).R 3 w base ok v1 x.f1:=by
  obtain ⟨_,_,rfl,⟨v0,rfl,g0⟩,⟨v1,rfl,g1⟩⟩:=h
  exact ⟨v0,v1,rfl,g0,g1⟩
theorem k27_mk (w:World) (x:S27) {A0:Option Addr} {c0:Nat} (l0:x.f0.length≤c0) (g0:(Kd.int .i64).C w A0 x.f0.length x.f0) {A1:Option Addr} {c1:Nat} (l1:x.f1.length≤c1) (g1:(Kd.int .i64).C w A1 x.f1.length x.f1):k27.K w x [.slice A0 x.f0.length c0,.slice A1 x.f1.length c1]:=⟨[.slice A0 x.f0.length c0],[.slice A1 x.f1.length c1],rfl,⟨A0,c0,rfl,l0,g0⟩,⟨A1,c1,rfl,l1,g1⟩⟩
theorem k27_mkM (w:World) (base:Nat) (ok:Nat→Prop) (x:S27) {v0:Value} (g0:(Kd.int .i64).R 3 w base ok v0 x.f0) {v1:Value} (g1:(Kd.int .i64).R 3 w base ok v1 x.f1):k27.M w base ok x [v0,v1]:=⟨[v0],[v1],rfl,⟨v0,rfl,g0⟩,⟨v1,rfl,g1⟩⟩
def rd_T27 (xs:List S27) (i:Int):S27:=xs.getD i.toNat z27
theorem at_T27 {w:World} {A:Option Addr} {n:Nat} {xs:List S27} (h:Kd.C k27 w A n xs) (i:Int) (h0:0≤i) (h1:i<n):∃ ad A0 c0 A1 c1,A=some ad∧w.cell? (ad.add (i.toNat*2))=some (.slice A0 (rd_T27 xs i).f0.length c0)∧w.cell? ⟨(ad.add (i.toNat*2)).block,(ad.add (i.toNat*2)).off+1,none⟩=some (.slice A1 (rd_T27 xs i).f1.length c1)∧(rd_T27 xs i).f0.length≤c0∧(Kd.int .i64).C w A0 (rd_T27 xs i).f0.length (rd_T27 xs i).f0∧(rd_T27 xs i).f1.length≤c1∧(Kd.int .i64).C w A1 (rd_T27 xs i).f1.length (rd_T27 xs i).f1:=by
  obtain ⟨ad,c,e,_,hK,hc0⟩:=Kd.C_get h z27 i h0 h1
  have hc:∀ j u,c[j]? = some u→w.cell? (ad.add (i.toNat*2+j))=some u:=hc0
  obtain ⟨A0,c0,A1,c1,rfl,l0,g0,l1,g1⟩:=k27_open hK
  exact ⟨ad,A0,c0,A1,c1,e,hc 0 _ rfl,by rw [← add_field _ _ 1 (by omega)];exact hc 1 _ rfl,l0,g0,l1,g1⟩

def rd_L6 (xs:List (List ByteArray)) (i:Int):(List ByteArray):=xs.getD i.toNat ([]:List ByteArray)
theorem at_L6 {w:World} {A:Option Addr} {n:Nat} {xs:List (List ByteArray)} (h:Kd.C (Kd.slice 9 Kd.string) w A n xs) (i:Int) (h0:0≤i) (h1:i<n):∃ ad A0 c0,A=some ad∧w.cell? (ad.add i.toNat)=some (.slice A0 (rd_L6 xs i).length c0)∧(rd_L6 xs i).length≤c0∧Kd.string.C w A0 (rd_L6 xs i).length (rd_L6 xs i):=by
  obtain ⟨ad,c,e,_,hK,hc0⟩:=Kd.C_get h ([]:List ByteArray) i h0 h1
  have hc:∀ j u,c[j]? = some u→w.cell? (ad.add (i.toNat*1+j))=some u:=hc0
  obtain ⟨A0,c0,rfl,l0,g0⟩:=hK
  exact ⟨ad,A0,c0,e,by have hq:=hc 0 _ rfl;rwa [Nat.mul_one,Nat.add_zero] at hq,l0,g0⟩

def rd_L7 (xs:List (List Int)) (i:Int):(List Int):=xs.getD i.toNat ([]:List Int)
theorem at_L7 {w:World} {A:Option Addr} {n:Nat} {xs:List (List Int)} (h:Kd.C (Kd.slice 5 (Kd.int .u8)) w A n xs) (i:Int) (h0:0≤i) (h1:i<n):∃ ad A0 c0,A=some ad∧w.cell? (ad.add i.toNat)=some (.slice A0 (rd_L7 xs i).length c0)∧(rd_L7 xs i).length≤c0∧(Kd.int .u8).C w A0 (rd_L7 xs i).length (rd_L7 xs i):=by
  obtain ⟨ad,c,e,_,hK,hc0⟩:=Kd.C_get h ([]:List Int) i h0 h1
  have hc:∀ j u,c[j]? = some u→w.cell? (ad.add (i.toNat*1+j))=some u:=hc0
  obtain ⟨A0,c0,rfl,l0,g0⟩:=hK
  exact ⟨ad,A0,c0,e,by have hq:=hc 0 _ rfl;rwa [Nat.mul_one,Nat.add_zero] at hq,l0,g0⟩

/-! #### struct type 76 -/
structure S76 where
  f0:(List Int)
  f1:Int
  f2:Int
def z76 : S76:=⟨([]:List Int),(0:Int),(0:Int)⟩
def k76 : Kd S76:=Kd.iso (Kd.pair (Kd.slice 5 (Kd.int .u8)) (Kd.pair (Kd.int .i64) (Kd.int .i64))) (fun x:S76=>(x.f0,x.f1,x.f2))
theorem k76_open {w:World} {x:S76} {cs:List Value} (h:k76.K w x cs):∃ A0 c0,cs=[.slice A0 x.f0.length c0,.int .i64 x.f1,.int .i64 x.f2]∧x.f0.length≤c0∧(Kd.int .u8).C w A0 x.f0.length x.f0:=by
  obtain ⟨_,_,rfl,⟨A0,c0,rfl,l0,g0⟩,⟨_,_,rfl,rfl,rfl⟩⟩:=h
  exact ⟨A0,c0,rfl,l0,g0⟩
theorem k76_openM {w:World} {base:Nat} {ok:Nat→Prop} {x:S76} {cs:List Value} (h:k76.M w base ok x cs):∃ v0,cs=[v0,.int .i64 x.f1,.int .i64 x.f2]∧(Kd.int .u8).R 5 w base ok v0 x.f0:=by
  obtain ⟨_,_,rfl,⟨v0,rfl,g0⟩,⟨_,_,rfl,rfl,rfl⟩⟩:=h
  exact ⟨v0,rfl,g0⟩
theorem k76_mk (w:World) (x:S76) {A0:Option Addr} {c0:Nat} (l0:x.f0.length≤c0) (g0:(Kd.int .u8).C w A0 x.f0.length x.f0):k76.K w x [.slice A0 x.f0.length c0,.int .i64 x.f1,.int .i64 x.f2]:=⟨[.slice A0 x.f0.length c0],[.int .i64 x.f1,.int .i64 x.f2],rfl,⟨A0,c0,rfl,l0,g0⟩,⟨[.int .i64 x.f1],[.int .i64 x.f2],rfl,rfl,rfl⟩⟩
theorem k76_mkM (w:World) (base:Nat) (ok:Nat→Prop) (x:S76) {v0:Value} (g0:(Kd.int .u8).R 5 w base ok v0 x.f0):k76.M w base ok x [v0,.int .i64 x.f1,.int .i64 x.f2]:=⟨[v0],[.int .i64 x.f1,.int .i64 x.f2],rfl,⟨v0,rfl,g0⟩,⟨[.int .i64 x.f1],[.int .i64 x.f2],rfl,rfl,rfl⟩⟩
def rd_T76 (xs:List S76) (i:Int):S76:=xs.getD i.toNat z76
theorem at_T76 {w:World} {A:Option Addr} {n:Nat} {xs:List S76} (h:Kd.C k76 w A n xs) (i:Int) (h0:0≤i) (h1:i<n):∃ ad A0 c0,A=some ad∧w.cell? (ad.add (i.toNat*3))=some (.slice A0 (rd_T76 xs i).f0.length c0)∧w.cell? ⟨(ad.add (i.toNat*3)).block,(ad.add (i.toNat*3)).off+1,none⟩=some (.int .i64 (rd_T76 xs i).f1)∧w.cell? ⟨(ad.add (i.toNat*3)).block,(ad.add (i.toNat*3)).off+2,none⟩=some (.int .i64 (rd_T76 xs i).f2)∧(rd_T76 xs i).f0.length≤c0∧(Kd.int .u8).C w A0 (rd_T76 xs i).f0.length (rd_T76 xs i).f0:=by
  obtain ⟨ad,c,e,_,hK,hc0⟩:=Kd.C_get h z76 i h0 h1
  have hc:∀ j u,c[j]? = some u→w.cell? (ad.add (i.toNat*3+j))=some u:=hc0
  obtain ⟨A0,c0,rfl,l0,g0⟩:=k76_open hK
  exact ⟨ad,A0,c0,e,hc 0 _ rfl,by rw [← add_field _ _ 1 (by omega)];exact hc 1 _ rfl,by rw [← add_field _ _ 2 (by omega)];exact hc 2 _ rfl,l0,g0⟩

theorem oB {α β:Type} {o:Option α} {f:α→Option β} {b:β} (h:o.bind f=some b):∃ a,o=some a∧f a=some b:=Option.bind_eq_some_iff.mp h
theorem bEv {P:Program} {ops:Array Oper} {rest:List Oper} {o:Oper} {a:Act} {Q:Exit→Act→World→Prop} {W:World} {cs:Array Value} {t:TypeId} (h:∀ g,g=W.heap.size→∀ w1,w1.heap[g]? = some (.cells cs t (0,0))→Below W.heap.size W w1→wpList P ops Q rest (a.put o.dst (.pointer (some ⟨g,0,none⟩))) w1) (hgd:o.guard=none:=by rfl) (hrun:(execOp a.eval o).run P W = .ok (.value (.pointer (some ⟨W.heap.size,0,none⟩))) (W.alloc (.cells cs t (0,0))):=by first|(go_simp;done)|(go_simp;rfl)):wpList P ops Q (o :: rest) a W:=Kd.event_run hgd hrun (h _ rfl _ (blk_new W _) (below_alloc (Below.refl _ _) _))
theorem aM {P:Prop} (h:P):Aside0 P:=⟨h⟩
theorem bX {P Q:Prop} (p:P) (h:P→Q:=by intro h;repeat(first|(with_reducible first|exact h|apply bA|apply bN|apply bD)|exact h)):Q:=h p
theorem bX1 {P Q A:Prop} (p:P) (a:A) (h:P→A→Q:=by intro h a;repeat(first|(with_reducible first|exact h|apply bA|apply bN|apply bD|refine below_set ?_ a)|exact h)):Q:=h p a
theorem bX2 {P Q A B:Prop} (p:P) (a:A) (b:B) (h:P→A→B→Q:=by intro h a b;repeat(first|(with_reducible first|exact h|apply bA|apply bN|apply bD|refine below_set ?_ a|refine below_set ?_ b)|exact h)):Q:=h p a b
theorem bX3 {P Q A B C:Prop} (p:P) (a:A) (b:B) (c:C) (h:P→A→B→C→Q:=by intro h a b c;repeat(first|(with_reducible first|exact h|apply bA|apply bN|apply bD|refine below_set ?_ a|refine below_set ?_ b|refine below_set ?_ c)|exact h)):Q:=h p a b c
theorem kX {P Q:Prop} (p:P) (h:P→Q:=by intro h;(with_reducible repeat(first|refine kN ?_ _|refine kD ?_|refine kA ?_ _));exact h):Q:=h p
theorem rX {P Q:Prop} (p:P) (h:P→Q:=by intro h;(with_reducible repeat(first|apply rA|apply rN|apply rD));exact h):Q:=h p
theorem rM {α:Type} {d:Kd α} {e base:Nat} {ok ok':Nat→Prop} {W W':World} {v:Value} {xs:List α} (h:d.R e W base ok v xs) (hok:∀ k,ok k→ok' k) (m:d.R e W base ok' v xs→d.R e W' base ok' v xs:=by intro h;(with_reducible repeat(first|apply rA|apply rN|apply rD));exact h):d.R e W' base ok' v xs:=m (Kd.R_mono h hok)
theorem cX {P Q:Prop} (p:P) (h:P→Q:=by intro h;repeat(first|(with_reducible exact h)|(with_reducible refine Kd.C_alloc ?_ _)|(with_reducible refine Kd.C_drewN ?_ _)|(with_reducible refine Kd.C_drew ?_)|exact h)):Q:=h p
theorem dX {p:Prop} [Decidable p] (h:decide p=true:=by first|(with_reducible assumption)|assumption):p:=of_decide_eq_true h
theorem eX {P:Prop} (h:P:=by first|rfl|(simp [errW_none,errW_some] <;> rfl)|(simp [*,errW_none,errW_some] <;> rfl)):P:=h
theorem vX {P:Prop} (h:P:=by first|rfl|(simp;done)|(simp [*];done)):P:=h
section
variable {P : Program} {ops : Array Oper} {Q : Exit → Act → World → Prop} {md : Region.Mode} {S : World → Prop} {ds : List Nat} {oi : Oper} {v : Value} {fuel : Nat} {l : Array Bool} {a a' : Act} {w : World} {T : Bool × List (List Nat × List Nat)} {B : List Nat}
theorem pX (i n:Nat) (l':Array Bool) (hi:ops[i]? = some oi) (hN:oi.dst=some n) (hT:rtab md ops=T) (h:wpAnyLast P md ops Q S ds fuel l' a' w) (hc:anyT T l.toList l'.toList i=true:=by kernel_rfl) (hQ:∀ c a w,Q (.panic c) (a.put oi.dst v) w→Q (.panic c) a w:=by exact fun _ _ _ h=>h) (hy:Yields P ops oi v a:=by refine Or.inl ⟨by kernel_rfl,?_⟩;intro w';go_simp;with_reducible rfl) (ha:a.put (some n) v=a':=by simp only [Act.put,zA,zB,zC,i64_w,i32_w];rfl):wpAnyLast P md ops Q S ds (fuel+1) l a w:=pure_ l' hi hN (any_of hT hc) hQ hy ha h
theorem uX (i n:Nat) (l':Array Bool) (hi:ops[i]? = some oi) (hN:oi.dst=some n) (hT:rtab md ops=T) (h:wpAnyLast P md ops Q S ds fuel l' a' w) (hc:anyT T l.toList l'.toList i=true:=by kernel_rfl) (hQ:∀ c a w,Q (.panic c) (a.put oi.dst undef) w→Q (.panic c) a w:=by exact fun _ _ _ h=>h) (hy:Yields P ops oi undef a:=by exact Or.inr ⟨by rfl,rfl⟩) (ha:a.put (some n) undef=a':=by simp only [Act.put,zA,zB,zC,i64_w,i32_w];rfl):wpAnyLast P md ops Q S ds (fuel+1) l a w:=pure_ l' hi hN (any_of hT hc) hQ hy ha h
theorem tX2 (i n:Nat) (l':Array Bool) (hi:ops[i]? = some oi) (hN:oi.dst=some n) (hT:rtab md ops=T) (hB:waitsOk T.2 B=true) (hS:S w) (h:wpAnyLast P md ops Q S ds fuel l' a' w) (hc:takeW T B ds l.toList l'.toList i=true:=by kernel_rfl) (hQ:∀ c a w,Q (.panic c) (a.put oi.dst v) w→Q (.panic c) a w:=by exact fun _ _ _ h=>h) (hy:YieldsIf P ops S oi v a:=by refine Or.inl ⟨by kernel_rfl,?_⟩;rintro w' ⟨s0,s1⟩;go_simp;with_reducible rfl) (ha:a.put (some n) v=a':=by simp only [Act.put,zA,zB,zC,i64_w,i32_w];rfl):wpAnyLast P md ops Q S ds (fuel+1) l a w:=take_ l' hi hN (take_ofW hT hB hc) hQ hy hS ha h
theorem tX3 (i n:Nat) (l':Array Bool) (hi:ops[i]? = some oi) (hN:oi.dst=some n) (hT:rtab md ops=T) (hB:waitsOk T.2 B=true) (hS:S w) (h:wpAnyLast P md ops Q S ds fuel l' a' w) (hc:takeW T B ds l.toList l'.toList i=true:=by kernel_rfl) (hQ:∀ c a w,Q (.panic c) (a.put oi.dst v) w→Q (.panic c) a w:=by exact fun _ _ _ h=>h) (hy:YieldsIf P ops S oi v a:=by refine Or.inl ⟨by kernel_rfl,?_⟩;rintro w' ⟨s0,s1,s2⟩;go_simp;with_reducible rfl) (ha:a.put (some n) v=a':=by simp only [Act.put,zA,zB,zC,i64_w,i32_w];rfl):wpAnyLast P md ops Q S ds (fuel+1) l a w:=take_ l' hi hN (take_ofW hT hB hc) hQ hy hS ha h
theorem tX4 (i n:Nat) (l':Array Bool) (hi:ops[i]? = some oi) (hN:oi.dst=some n) (hT:rtab md ops=T) (hB:waitsOk T.2 B=true) (hS:S w) (h:wpAnyLast P md ops Q S ds fuel l' a' w) (hc:takeW T B ds l.toList l'.toList i=true:=by kernel_rfl) (hQ:∀ c a w,Q (.panic c) (a.put oi.dst v) w→Q (.panic c) a w:=by exact fun _ _ _ h=>h) (hy:YieldsIf P ops S oi v a:=by refine Or.inl ⟨by kernel_rfl,?_⟩;rintro w' ⟨s0,s1,s2,s3⟩;go_simp;with_reducible rfl) (ha:a.put (some n) v=a':=by simp only [Act.put,zA,zB,zC,i64_w,i32_w];rfl):wpAnyLast P md ops Q S ds (fuel+1) l a w:=take_ l' hi hN (take_ofW hT hB hc) hQ hy hS ha h
theorem tX5 (i n:Nat) (l':Array Bool) (hi:ops[i]? = some oi) (hN:oi.dst=some n) (hT:rtab md ops=T) (hB:waitsOk T.2 B=true) (hS:S w) (h:wpAnyLast P md ops Q S ds fuel l' a' w) (hc:takeW T B ds l.toList l'.toList i=true:=by kernel_rfl) (hQ:∀ c a w,Q (.panic c) (a.put oi.dst v) w→Q (.panic c) a w:=by exact fun _ _ _ h=>h) (hy:YieldsIf P ops S oi v a:=by refine Or.inl ⟨by kernel_rfl,?_⟩;rintro w' ⟨s0,s1,s2,s3,s4⟩;go_simp;with_reducible rfl) (ha:a.put (some n) v=a':=by simp only [Act.put,zA,zB,zC,i64_w,i32_w];rfl):wpAnyLast P md ops Q S ds (fuel+1) l a w:=take_ l' hi hN (take_ofW hT hB hc) hQ hy hS ha h
theorem tX6 (i n:Nat) (l':Array Bool) (hi:ops[i]? = some oi) (hN:oi.dst=some n) (hT:rtab md ops=T) (hB:waitsOk T.2 B=true) (hS:S w) (h:wpAnyLast P md ops Q S ds fuel l' a' w) (hc:takeW T B ds l.toList l'.toList i=true:=by kernel_rfl) (hQ:∀ c a w,Q (.panic c) (a.put oi.dst v) w→Q (.panic c) a w:=by exact fun _ _ _ h=>h) (hy:YieldsIf P ops S oi v a:=by refine Or.inl ⟨by kernel_rfl,?_⟩;rintro w' ⟨s0,s1,s2,s3,s4,s5⟩;go_simp;with_reducible rfl) (ha:a.put (some n) v=a':=by simp only [Act.put,zA,zB,zC,i64_w,i32_w];rfl):wpAnyLast P md ops Q S ds (fuel+1) l a w:=take_ l' hi hN (take_ofW hT hB hc) hQ hy hS ha h
theorem tX8 (i n:Nat) (l':Array Bool) (hi:ops[i]? = some oi) (hN:oi.dst=some n) (hT:rtab md ops=T) (hB:waitsOk T.2 B=true) (hS:S w) (h:wpAnyLast P md ops Q S ds fuel l' a' w) (hc:takeW T B ds l.toList l'.toList i=true:=by kernel_rfl) (hQ:∀ c a w,Q (.panic c) (a.put oi.dst v) w→Q (.panic c) a w:=by exact fun _ _ _ h=>h) (hy:YieldsIf P ops S oi v a:=by refine Or.inl ⟨by kernel_rfl,?_⟩;rintro w' ⟨s0,s1,s2,s3,s4,s5,s6,s7⟩;go_simp;with_reducible rfl) (ha:a.put (some n) v=a':=by simp only [Act.put,zA,zB,zC,i64_w,i32_w];rfl):wpAnyLast P md ops Q S ds (fuel+1) l a w:=take_ l' hi hN (take_ofW hT hB hc) hQ hy hS ha h
end
theorem cz10 {w:World} {g:Nat} {t:TypeId} {a0:Value} (h:w.heap[g]? = some (.cells #[a0] t (0,0))):w.cell? ⟨g,0,none⟩=some a0:=(blk_cell h 0).trans rfl
theorem cz20 {w:World} {g:Nat} {t:TypeId} {a0 a1:Value} (h:w.heap[g]? = some (.cells #[a0,a1] t (0,0))):w.cell? ⟨g,0,none⟩=some a0:=(blk_cell h 0).trans rfl
theorem cz21 {w:World} {g:Nat} {t:TypeId} {a0 a1:Value} (h:w.heap[g]? = some (.cells #[a0,a1] t (0,0))):w.cell? ⟨g,1,none⟩=some a1:=(blk_cell h 1).trans rfl
theorem cz30 {w:World} {g:Nat} {t:TypeId} {a0 a1 a2:Value} (h:w.heap[g]? = some (.cells #[a0,a1,a2] t (0,0))):w.cell? ⟨g,0,none⟩=some a0:=(blk_cell h 0).trans rfl
theorem cz31 {w:World} {g:Nat} {t:TypeId} {a0 a1 a2:Value} (h:w.heap[g]? = some (.cells #[a0,a1,a2] t (0,0))):w.cell? ⟨g,1,none⟩=some a1:=(blk_cell h 1).trans rfl
theorem cz32 {w:World} {g:Nat} {t:TypeId} {a0 a1 a2:Value} (h:w.heap[g]? = some (.cells #[a0,a1,a2] t (0,0))):w.cell? ⟨g,2,none⟩=some a2:=(blk_cell h 2).trans rfl
theorem cz40 {w:World} {g:Nat} {t:TypeId} {a0 a1 a2 a3:Value} (h:w.heap[g]? = some (.cells #[a0,a1,a2,a3] t (0,0))):w.cell? ⟨g,0,none⟩=some a0:=(blk_cell h 0).trans rfl
theorem cz41 {w:World} {g:Nat} {t:TypeId} {a0 a1 a2 a3:Value} (h:w.heap[g]? = some (.cells #[a0,a1,a2,a3] t (0,0))):w.cell? ⟨g,1,none⟩=some a1:=(blk_cell h 1).trans rfl
theorem cz42 {w:World} {g:Nat} {t:TypeId} {a0 a1 a2 a3:Value} (h:w.heap[g]? = some (.cells #[a0,a1,a2,a3] t (0,0))):w.cell? ⟨g,2,none⟩=some a2:=(blk_cell h 2).trans rfl
theorem cz43 {w:World} {g:Nat} {t:TypeId} {a0 a1 a2 a3:Value} (h:w.heap[g]? = some (.cells #[a0,a1,a2,a3] t (0,0))):w.cell? ⟨g,3,none⟩=some a3:=(blk_cell h 3).trans rfl
theorem cz50 {w:World} {g:Nat} {t:TypeId} {a0 a1 a2 a3 a4:Value} (h:w.heap[g]? = some (.cells #[a0,a1,a2,a3,a4] t (0,0))):w.cell? ⟨g,0,none⟩=some a0:=(blk_cell h 0).trans rfl
theorem cz51 {w:World} {g:Nat} {t:TypeId} {a0 a1 a2 a3 a4:Value} (h:w.heap[g]? = some (.cells #[a0,a1,a2,a3,a4] t (0,0))):w.cell? ⟨g,1,none⟩=some a1:=(blk_cell h 1).trans rfl
theorem cz52 {w:World} {g:Nat} {t:TypeId} {a0 a1 a2 a3 a4:Value} (h:w.heap[g]? = some (.cells #[a0,a1,a2,a3,a4] t (0,0))):w.cell? ⟨g,2,none⟩=some a2:=(blk_cell h 2).trans rfl
theorem cz53 {w:World} {g:Nat} {t:TypeId} {a0 a1 a2 a3 a4:Value} (h:w.heap[g]? = some (.cells #[a0,a1,a2,a3,a4] t (0,0))):w.cell? ⟨g,3,none⟩=some a3:=(blk_cell h 3).trans rfl
theorem cz54 {w:World} {g:Nat} {t:TypeId} {a0 a1 a2 a3 a4:Value} (h:w.heap[g]? = some (.cells #[a0,a1,a2,a3,a4] t (0,0))):w.cell? ⟨g,4,none⟩=some a4:=(blk_cell h 4).trans rfl
theorem cz60 {w:World} {g:Nat} {t:TypeId} {a0 a1 a2 a3 a4 a5:Value} (h:w.heap[g]? = some (.cells #[a0,a1,a2,a3,a4,a5] t (0,0))):w.cell? ⟨g,0,none⟩=some a0:=(blk_cell h 0).trans rfl
theorem cz61 {w:World} {g:Nat} {t:TypeId} {a0 a1 a2 a3 a4 a5:Value} (h:w.heap[g]? = some (.cells #[a0,a1,a2,a3,a4,a5] t (0,0))):w.cell? ⟨g,1,none⟩=some a1:=(blk_cell h 1).trans rfl
theorem cz62 {w:World} {g:Nat} {t:TypeId} {a0 a1 a2 a3 a4 a5:Value} (h:w.heap[g]? = some (.cells #[a0,a1,a2,a3,a4,a5] t (0,0))):w.cell? ⟨g,2,none⟩=some a2:=(blk_cell h 2).trans rfl
theorem cz63 {w:World} {g:Nat} {t:TypeId} {a0 a1 a2 a3 a4 a5:Value} (h:w.heap[g]? = some (.cells #[a0,a1,a2,a3,a4,a5] t (0,0))):w.cell? ⟨g,3,none⟩=some a3:=(blk_cell h 3).trans rfl
theorem cz64 {w:World} {g:Nat} {t:TypeId} {a0 a1 a2 a3 a4 a5:Value} (h:w.heap[g]? = some (.cells #[a0,a1,a2,a3,a4,a5] t (0,0))):w.cell? ⟨g,4,none⟩=some a4:=(blk_cell h 4).trans rfl
theorem cz65 {w:World} {g:Nat} {t:TypeId} {a0 a1 a2 a3 a4 a5:Value} (h:w.heap[g]? = some (.cells #[a0,a1,a2,a3,a4,a5] t (0,0))):w.cell? ⟨g,5,none⟩=some a5:=(blk_cell h 5).trans rfl
theorem bbX {w W w1:World} {g:Nat} {o:Obj} (p:w.heap[g]? = some o) (hb:Below W.heap.size W w1) (h:w.heap[g]? = some o→W.heap[g]? = some o:=by intro h;(with_reducible repeat(first|refine kN ?_ _|refine kD ?_|refine kA ?_ _));exact h):w1.heap[g]? = some o:=blk_below (h p) hb
theorem bgX {w W w1:World} {g:Nat} {o:Obj} {row:Option Nat} (p:w.heap[g]? = some o) (hg:W.grownBy w1 row) (hne:some g≠row) (h:w.heap[g]? = some o→W.heap[g]? = some o:=by intro h;(with_reducible repeat(first|refine kN ?_ _|refine kD ?_|refine kA ?_ _));exact h):w1.heap[g]? = some o:=blk_grown (h p) hg hne
theorem neX {w W:World} {g g2:Nat} {o:Obj} (p:w.heap[g]? = some o) (hg:g2=W.heap.size) (h:w.heap[g]? = some o→W.heap[g]? = some o:=by intro h;(with_reducible repeat(first|refine kN ?_ _|refine kD ?_|refine kA ?_ _));exact h):g≠g2:=hg ▸ Nat.ne_of_lt (blk_lt (h p))
theorem nfX {w W:World} {g g2:Nat} {o:Obj} (p:w.heap[g]? = some o) (hg:g2=W.heap.size) (h:w.heap[g]? = some o→W.heap[g]? = some o:=by intro h;(with_reducible repeat(first|refine kN ?_ _|refine kD ?_|refine kA ?_ _));exact h):g2≠g:=hg ▸ Nat.ne_of_gt (blk_lt (h p))
theorem szX {w W:World} {g:Nat} (h:w.heap.size≤W.heap.size) (hg:g=W.heap.size):w.heap.size≤g:=hg ▸ h
theorem aX {P:Prop} (h:P:=by(try simp only [zE,zF,zG]);first|done|rfl|(simp only [zH,zI];rfl)):P:=h
theorem yX {p:Prop} [Decidable p] {α:Type} {a:Option α} {r:α} (h:(if p then a else none)=some r):p∧a=some r:=by by_cases c:p <;> simp_all
theorem fr1 {α:Type} {d:Kd α} {e base:Nat} {ok:Nat→Prop} {w:World} {v:Value} {xs:List α} {g t:Nat} {cs:Array Value} (h:d.R e w base ok v xs) (b:w.heap[g]? = some (.cells cs t (0,0))) (V0:Value) (ht:∀ q,q∈e :: d.E→q≠t:=by decide):d.R e (w.setCell ⟨g,0,none⟩ V0) base ok v xs:=Kd.R_mono (Kd.R_far (Kd.R_types h b ht) (fun _ hk=>hk.2) V0) (fun _ h=>h.1)
theorem fr2 {α:Type} {d:Kd α} {e base:Nat} {ok:Nat→Prop} {w:World} {v:Value} {xs:List α} {g t:Nat} {cs:Array Value} (h:d.R e w base ok v xs) (b:w.heap[g]? = some (.cells cs t (0,0))) (V0 V1:Value) (ht:∀ q,q∈e :: d.E→q≠t:=by decide):d.R e ((w.setCell ⟨g,0,none⟩ V0).setCell ⟨g,1,none⟩ V1) base ok v xs:=Kd.R_mono (Kd.R_far (Kd.R_far (Kd.R_types h b ht) (fun _ hk=>hk.2) V0) (fun _ hk=>hk.2) V1) (fun _ h=>h.1)
theorem fr3 {α:Type} {d:Kd α} {e base:Nat} {ok:Nat→Prop} {w:World} {v:Value} {xs:List α} {g t:Nat} {cs:Array Value} (h:d.R e w base ok v xs) (b:w.heap[g]? = some (.cells cs t (0,0))) (V0 V1 V2:Value) (ht:∀ q,q∈e :: d.E→q≠t:=by decide):d.R e (((w.setCell ⟨g,0,none⟩ V0).setCell ⟨g,1,none⟩ V1).setCell ⟨g,2,none⟩ V2) base ok v xs:=Kd.R_mono (Kd.R_far (Kd.R_far (Kd.R_far (Kd.R_types h b ht) (fun _ hk=>hk.2) V0) (fun _ hk=>hk.2) V1) (fun _ hk=>hk.2) V2) (fun _ h=>h.1)
theorem fr4 {α:Type} {d:Kd α} {e base:Nat} {ok:Nat→Prop} {w:World} {v:Value} {xs:List α} {g t:Nat} {cs:Array Value} (h:d.R e w base ok v xs) (b:w.heap[g]? = some (.cells cs t (0,0))) (V0 V1 V2 V3:Value) (ht:∀ q,q∈e :: d.E→q≠t:=by decide):d.R e ((((w.setCell ⟨g,0,none⟩ V0).setCell ⟨g,1,none⟩ V1).setCell ⟨g,2,none⟩ V2).setCell ⟨g,3,none⟩ V3) base ok v xs:=Kd.R_mono (Kd.R_far (Kd.R_far (Kd.R_far (Kd.R_far (Kd.R_types h b ht) (fun _ hk=>hk.2) V0) (fun _ hk=>hk.2) V1) (fun _ hk=>hk.2) V2) (fun _ hk=>hk.2) V3) (fun _ h=>h.1)
theorem rcX {α:Type} {d:Kd α} {e base:Nat} {ok:Nat→Prop} {W w:World} {A:Option Addr} {n c:Nat} {xs:List α} (p:d.R e w base ok (.slice A n c) xs) (h:d.R e w base ok (.slice A n c) xs→d.R e W base ok (.slice A n c) xs:=by intro h;(with_reducible repeat(first|apply rA|apply rN|apply rD));exact h):d.C W A xs.length xs:=(Kd.R_reads' (h p)).2.2
section
variable {P : Program} {ops : Array Oper} {Q : Exit → Act → World → Prop} {md : Region.Mode} {S : World → Prop} {ds : List Nat}
theorem nX {fuel:Nat} {l:Array Bool} {a a':Act} {w:World} (h:wpAnyLast P md ops Q S ds fuel l a' w) (ha:a=a':=by first|(simp only [putAll,Act.put,List.setIfInBounds_toArray,List.set_cons_zero,List.set_cons_succ];done)|(simp only [putAll,Act.put,List.setIfInBounds_toArray,List.set_cons_zero,List.set_cons_succ];rfl)):wpAnyLast P md ops Q S ds fuel l a w:=norm_ ha h
end
theorem sX {P Q:Prop} (p:P) (h:P→Q:=by intro h;(with_reducible repeat(first|apply Kd.S_alloc|apply Kd.S_drewN|apply Kd.S_drew));exact h):Q:=h p
theorem f2Z {w:World} {g:Nat} {t:TypeId} {a0 a1:Value} (h:w.heap[g]? = some (.cells #[a0,a1] t (0,0))):w.cell? ⟨g,0,none⟩=some a0∧w.cell? ⟨g,1,none⟩=some a1∧w.frozen? ⟨g,0,none⟩=false∧w.frozen? ⟨g,1,none⟩=false:=⟨cz20 h,cz21 h,blk_frozen h 0,blk_frozen h 1⟩
end Go.Proofs.Ytmhjcbcjpidegaa.S
