/- Every surface of genus 1 or 2 has a half turn with four or six fixed points, and there are as many half turns as symmetries, or none: for all codes. -/
import Derived.Test.YthhdgeafdnikcaaDoorSayFnTurned
namespace Go.Proofs.YthhdgeafdnikcaaDoor.Pure
open Go.RowKit Go.Proofs.YthhdgeafdnikcaaDoor.S Go.Proofs.YthhdgeafdnikcaaDoorW.PrintWords Go.Proofs.YthhdgeafdnikcaaDoorW.PrintLast
set_option linter.unusedVariables false
set_option linter.unusedSimpArgs false

theorem ev_up {α:Type} {g:Nat→Option α} {r:α} (h:Ev (fun k=>g (k+1)) r):Ev g r:=Ev.step (fun _=>rfl) h
theorem pw_wrap {a:Int} (h0 : -9223372036854775808≤a) (h1:a≤9223372036854775807):wrap64 a=a:=by
  unfold wrap64
  omega

theorem and255 (x:Int):0≤Go.bits .and .i64 x 255∧Go.bits .and .i64 x 255≤255:=by
  have h:(BitVec.ofInt 64 x &&& BitVec.ofInt 64 255).toNat≤255:=by
    rw [BitVec.toNat_and]
    exact Nat.le_trans Nat.and_le_right (by decide)
  show 0≤IntKind.i64.wrap ((BitVec.ofInt 64 x &&& BitVec.ofInt 64 255).toNat:Int)∧IntKind.i64.wrap ((BitVec.ofInt 64 x &&& BitVec.ofInt 64 255).toNat:Int)≤255
  generalize (BitVec.ofInt 64 x &&& BitVec.ofInt 64 255).toNat=n at *
  rw [IntKind.wrap_i64]
  omega
theorem byte_some (l:List Int) (hl:l.length≤4611686018427387904) (i h:Int) (hi:0≤i):∃ v i' h',s_l01Byte.f l i h=some (v,i',h')∧0≤v∧v≤255∧0≤i':=by
  unfold s_l01Byte.f
  by_cases h1:i<(l.length:Int)
  · simp only [if_pos h1,if_pos hi]
    exact ⟨_,_,_,rfl,(and255 _).1,(and255 _).2,by rw [pw_wrap (by omega) (by omega)];omega⟩
  · simp only [if_neg h1]
    exact ⟨_,_,_,rfl,(and255 _).1,(and255 _).2,hi⟩
theorem below_some (l:List Int) (hl:l.length≤4611686018427387904) (i h:Int) (hi:0≤i) (n:Int) (h1:1≤n) (h2:n≤256):∃ v i' h',s_l01Below.f l i h n=some (v,i',h')∧0≤v∧v<n∧0≤i':=by
  obtain ⟨v,i',h',e,v0,v1,hi'⟩:=byte_some l hl i h hi
  unfold s_l01Below.f
  simp only [if_neg (show ¬ n≤0 by omega),if_pos h2,e,Option.bind_some,if_neg (show ¬ n=0 by omega)]
  refine ⟨_,_,_,rfl,?_,?_,hi'⟩
  · exact Int.tmod_nonneg _ v0
  · rw [Int.tmod_eq_emod_of_nonneg v0]
    exact Int.emod_lt_of_pos _ (by omega)
theorem new_l0 (l:List Int) (hl:l.length≤4611686018427387904):∀ (d:Nat) (x i:Int),0≤i→i+d=4000→∃ h,Ev (fun k=>s_l01New.l0 k l x i) (l,0,h)
  | 0,x,i,h0,h1=>by
    by_cases h:i<(l.length:Int)
    · refine ⟨x,ev_up ?_⟩
      simp only [s_l01New.l0,if_pos h,if_neg (show ¬ i<4000 by omega)]
      exact Ev.now _
    · refine ⟨x,ev_up ?_⟩
      simp only [s_l01New.l0,if_neg h]
      exact Ev.now _
  | d+1,x,i,h0,h1=>by
    by_cases h:i<(l.length:Int)
    · obtain ⟨r,hr⟩:=new_l0 l hl d (Go.bits .and .i64 (wrap64 ((wrap64 ((wrap64 (x*109))+(wrap64 (rd l i))))+7)) 1073741823) (i+1) (by omega) (by omega)
      refine ⟨r,ev_up ?_⟩
      simp only [s_l01New.l0,if_pos h,if_pos (show i<4000 by omega),if_pos h0,pw_wrap (a:=i+1) (by omega) (by omega)]
      exact hr
    · refine ⟨x,ev_up ?_⟩
      simp only [s_l01New.l0,if_neg h]
      exact Ev.now _
theorem new_some (l:List Int) (hl:l.length≤4611686018427387904):∃ h,Ev (fun k=>s_l01New.f k l) (l,0,h):=by
  unfold s_l01New.f
  exact new_l0 l hl 4000 _ 0 (by omega) (by omega)
def isPerm (p:List Int):Prop:=p.length≤24∧(∀ x∈p,0≤x∧x<(p.length:Int))∧p.Nodup
theorem perm_go (n:Nat) (hn:n≤24):∀ (p pre:List Int) (seen:List Bool),seen.length=24→(∀ x:Int,0≤x→x<n→(seen.getD x.toNat false=true↔x∈pre)) →
    permGo n p seen=permSGo n pre p:=by
  intro p
  induction p with
  | nil=>intro pre seen _ _;rfl
  | cons x p ih =>
    intro pre seen hl hs
    simp only [permGo,permSGo]
    by_cases h0:x<0
    · rw [if_pos h0,if_neg (by omega)]
    · rw [if_neg h0]
      by_cases h1:(n:Int)≤x
      · rw [if_pos h1,if_neg (by omega)]
      · rw [if_neg h1,if_pos (show 0≤x∧x≤(n:Int) - 1 by omega)]
        have hx:=hs x (by omega) (by omega)
        by_cases h2:x∈pre
        · rw [if_pos (hx.2 h2),if_pos h2]
        · rw [if_neg (fun h=>h2 (hx.1 h)),if_neg h2]
          refine ih _ _ (by simpa using hl) (fun y hy0 hy1 => ?_)
          by_cases hxy:x=y
          · subst hxy
            have:x.toNat<seen.length:=by omega
            simp [List.getD,this]
          · have hne:x.toNat≠y.toNat:=by omega
            have:=hs y hy0 hy1
            simp only [List.getD,List.getElem?_set_ne hne]
            rw [List.getD] at this
            rw [this]
            simp [Ne.symm hxy]
theorem perm_same (p:List Int):permB p=permSB p:=by
  unfold permB permSB
  by_cases h:p.length≤24
  · rw [if_pos h,if_pos h]
    refine perm_go p.length h p [] no24 rfl (fun x h0 h1 => ?_)
    have:no24.getD x.toNat false=false:=by
      unfold no24
      simp only [List.getD,List.getElem?_replicate]
      split <;> rfl
    rw [this]
    simp
  · rw [if_neg h,if_neg h]
theorem permS_iff (n:Nat):∀ (p pre:List Int),permSGo n pre p=true↔((∀ x∈p,0≤x∧x<(n:Int))∧(∀ x∈p,x∉pre)∧p.Nodup)
  | [],pre=>by simp [permSGo]
  | x :: p,pre=>by
    simp only [permSGo]
    by_cases h:0≤x∧x≤(n:Int) - 1
    · rw [if_pos h]
      by_cases h2:x∈pre
      · rw [if_pos h2]
        simp [h2]
      · rw [if_neg h2,permS_iff n p (pre ++ [x])]
        simp only [List.mem_cons,forall_eq_or_imp,List.nodup_cons]
        constructor
        · rintro ⟨h3,h4,h5⟩
          exact ⟨⟨by omega,h3⟩,⟨h2,fun y hy hp=>h4 y hy (List.mem_append.2 (.inl hp))⟩,fun hx=>h4 x hx (List.mem_append.2 (.inr (List.mem_singleton.2 rfl))),h5⟩
        · rintro ⟨h3,h4,h5,h6⟩
          refine ⟨h3.2,fun y hy hp => ?_,h6⟩
          rcases List.mem_append.1 hp with hp|hp
          · exact h4.2 y hy hp
          · rw [List.mem_singleton.1 hp] at hy
            exact h5 hy
    · rw [if_neg h]
      simp only [Bool.false_eq_true,List.mem_cons,forall_eq_or_imp,false_iff]
      intro h2
      omega
theorem permB_iff (p:List Int):permB p=true↔isPerm p:=by
  rw [perm_same]
  unfold permSB isPerm
  by_cases h:p.length≤24
  · rw [if_pos h,permS_iff]
    simp [h]
  · rw [if_neg h]
    simp [h]

theorem nodup_len (n:Nat):∀ l:List Int,l.Nodup→(∀ x∈l,0≤x∧x<n)→l.length≤n:=by
  induction n with
  | zero =>
    intro l _ h
    cases l with
    | nil=>simp
    | cons x l=>have:=h x (by simp);omega
  | succ n ih =>
    intro l hn h
    have h2:=ih (l.filter (fun x=>x != (n:Int))) (hn.filter _) (fun x hx=>by
      have h3:=List.mem_filter.1 hx
      have h4:=h x h3.1
      have h5:x≠(n:Int):=by simpa using h3.2
      omega)
    have h3:l.length≤(l.filter (fun x=>x != (n:Int))).length+1:=by
      clear h h2 ih
      induction l with
      | nil=>simp
      | cons y l ihl =>
        have hn2:=List.nodup_cons.1 hn
        by_cases hy:y=(n:Int)
        · have:l.filter (fun x=>x != (n:Int))=l:=List.filter_eq_self.2 (fun x hx=>by
            have:x≠(n:Int):=fun e=>hn2.1 (by rw [hy,← e];exact hx)
            simpa using this)
          simp [hy,this]
        · have:=ihl hn2.2
          simp [hy]
          omega
    omega
def push (q:List Int) (k:Int):List Int:=if 0≤k∧k∉q then q ++ [k] else q
def pushAll (q:List Int) (ks:List Int):List Int:=ks.foldl push q
def Few (n:Nat) (q:List Int):Prop:=q.Nodup∧∀ x∈q,0≤x∧x<(n:Int)
theorem few_push {n:Nat} {q:List Int} {k:Int} (h:Few n q) (hk:k<n):Few n (push q k):=by
  unfold push
  split
  · rename_i h2
    refine ⟨?_,fun x hx => ?_⟩
    · rw [List.nodup_append]
      refine ⟨h.1,by simp,?_⟩
      intro a ha b hb
      simp at hb
      subst hb
      exact fun e=>h2.2 (e ▸ ha)
    · rcases List.mem_append.1 hx with hx|hx
      · exact h.2 x hx
      · simp at hx;subst hx;exact ⟨h2.1,hk⟩
  · exact h
theorem push_len (q:List Int) (k:Int):q.length≤(push q k).length:=by unfold push;split <;> simp
theorem few_pushAll {n:Nat}:∀ (ks q:List Int),Few n q→(∀ k∈ks,k<n)→Few n (pushAll q ks)∧q.length≤(pushAll q ks).length
  | [],q,h,_=>⟨h,Nat.le_refl _⟩
  | k :: ks,q,h,hk=>by
    have h1:=few_push h (hk k (by simp))
    have h2:=few_pushAll ks (push q k) h1 (fun x hx=>hk x (by simp [hx]))
    exact ⟨h2.1,Nat.le_trans (push_len q k) h2.2⟩
theorem few_len {n:Nat} {q:List Int} (h:Few n q):q.length≤n:=nodup_len n q h.1 h.2
def bfs (nb:Int→List Int):Nat→List Int→Nat→List Int
  | 0,q,_=>q
  | f+1,q,i=>if h:i<q.length then bfs nb f (pushAll q (nb q[i])) (i+1) else q
theorem bfs_done (nb:Int→List Int) (f:Nat) (q:List Int) (i:Nat) (h:¬ i<q.length):bfs nb f q i=q:=by
  cases f with
  | zero=>rfl
  | succ f=>rw [bfs,dif_neg h]
theorem bfs_few {n:Nat} (nb:Int→List Int) (hnb:∀ x:Int,0≤x→x<(n:Int)→∀ k∈nb x,k<(n:Int)):∀ (f:Nat) (q:List Int) (i:Nat),Few n q→Few n (bfs nb f q i)
  | 0,q,i,h=>h
  | f+1,q,i,h=>by
    rw [bfs]
    split
    · rename_i hi
      have:=h.2 _ (List.getElem_mem hi)
      exact bfs_few nb hnb f _ _ (few_pushAll (nb q[i]) q h (hnb q[i] this.1 this.2)).1
    · exact h

theorem wrap_snoc {α:Type} {p s:List α} {x:α} (h:(p ++ x :: s).length≤4611686018427387904):wrap64 ((p.length:Int)+1)=((p ++ [x]).length:Int):=by
  simp at h ⊢
  unfold wrap64
  omega
theorem lt_mid {α:Type} (p s:List α) (x:α):((p.length:Nat):Int)<((p ++ x :: s).length:Int):=by simp;omega
theorem nlt_end {α:Type} (p:List α):¬ ((p.length:Nat):Int)<((p ++ []).length:Int):=by simp
theorem rd_mid (p s:List Int) (x:Int):rd (p ++ x :: s) (p.length:Int)=x:=by simp [rd,List.getD]
theorem rd_get (q:List Int) (i:Nat) (h:i<q.length):rd q (i:Int)=q[i]:=by simp [rd,List.getD,h]

def flagsOf (n:Nat) (q:List Int):List Bool:=(List.range n).map (fun (i:Nat)=>decide ((i:Int)∈q))
theorem flagsOf_len (n:Nat) (q:List Int):(flagsOf n q).length=n:=by simp [flagsOf]
theorem flagsOf_nil (n:Nat):flagsOf n []=List.replicate n false:=by
  apply List.ext_getElem?
  intro i
  by_cases h:i<n <;> simp [flagsOf,List.getElem?_replicate,h]
theorem flagsOf_rd (n:Nat) (q:List Int) {x:Int} (h0:0≤x) (h1:x<n):rdOf false (flagsOf n q) x=decide (x∈q):=by
  have e:((x.toNat:Nat):Int)=x:=by omega
  simp [rdOf,flagsOf,List.getD,show x.toNat<n by omega,e]
theorem flagsOf_set (n:Nat) (q:List Int) {x:Int} (h0:0≤x) (h1:x<n):(flagsOf n q).set x.toNat true=flagsOf n (q ++ [x]):=by
  apply List.ext_getElem?
  intro i
  have hl:x.toNat<(flagsOf n q).length:=by rw [flagsOf_len];omega
  by_cases h:i=x.toNat
  · subst h
    have e:((x.toNat:Nat):Int)=x:=by omega
    simp [flagsOf,show x.toNat<n by omega,e]
  · have hne:((i:Nat):Int)≠x:=by omega
    rw [List.getElem?_set_ne (by omega)]
    by_cases hi:i<n <;> simp [flagsOf,hi,hne]
theorem perm_rd {p:List Int} (h:isPerm p) {x:Int} (h0:0≤x) (h1:x<p.length):0≤rd p x∧rd p x<(p.length:Int):=by
  have e:rd p x=p[x.toNat]'(by omega):=by simp [rd,List.getD,show x.toNat<p.length by omega]
  rw [e]
  exact h.2.1 _ (List.getElem_mem _)

def walkC (p:List Int):Nat→List Int→List Int→Int→List Int × List Int
  | 0,q,c,_=>(q,c)
  | f+1,q,c,x=>if x∈q then (q,c) else walkC p f (q ++ [x]) (c ++ [x]) (rd p x)
def walkOf (p q:List Int) (i:Int):List Int × List Int:=walkC p (p.length+1 - q.length) q [] i
def cycGo (p:List Int):Nat→Int→List Int→List (List Int)→List (List Int)
  | 0,_,_,out=>out
  | d+1,i,q,out=>cycGo p d (i+1) (walkOf p q i).1 (if i∈q then out else out ++ [(walkOf p q i).2])
def cyclesOf (p:List Int):List (List Int):=if permB p=true then cycGo p p.length 0 [] [] else []
theorem few_full {n:Nat} {q:List Int} (h:Few n q) (hl:q.length=n) {x:Int} (h0:0≤x) (h1:x<n):x∈q:=by
  refine Classical.byContradiction fun hm => ?_
  have hf:=few_push h h1
  have:=few_len hf
  unfold push at this
  rw [if_pos ⟨h0,hm⟩] at this
  simp at this
  omega
theorem few_snoc {n:Nat} {q:List Int} (h:Few n q) {x:Int} (h0:0≤x) (h1:x<n) (hm:x∉q):Few n (q ++ [x]):=by
  have hf:=few_push h h1
  unfold push at hf
  rw [if_pos ⟨h0,hm⟩] at hf
  exact hf
theorem walkC_bd {p:List Int} (hp:isPerm p):∀ (f:Nat) (q c:List Int) (x:Int),Few p.length q→c.length≤q.length→(∀ y∈c,0≤y∧y<(p.length:Int))→0≤x→x<p.length →
    Few p.length (walkC p f q c x).1∧(walkC p f q c x).2.length≤(walkC p f q c x).1.length∧(∀ y∈(walkC p f q c x).2,0≤y∧y<(p.length:Int))∧c.length≤(walkC p f q c x).2.length
  | 0,q,c,x,hq,hc,hv,h0,h1=>⟨hq,hc,hv,Nat.le_refl _⟩
  | f+1,q,c,x,hq,hc,hv,h0,h1=>by
    rw [walkC]
    by_cases hm:x∈q
    · rw [if_pos hm]
      exact ⟨hq,hc,hv,Nat.le_refl _⟩
    · rw [if_neg hm]
      have hx:=perm_rd hp h0 h1
      have:=walkC_bd hp f (q ++ [x]) (c ++ [x]) (rd p x) (few_snoc hq h0 h1 hm) (by simp;omega) (fun y hy=>by
        rcases List.mem_append.1 hy with hy|hy
        · exact hv y hy
        · simp at hy;subst hy;exact ⟨h0,h1⟩) hx.1 hx.2
      refine ⟨this.1,this.2.1,this.2.2.1,?_⟩
      have:=this.2.2.2
      simp at this
      omega
def GoodC (c:List Int):Prop:=(∀ y∈c,0≤y∧y<24)∧c.length≤24
theorem walkOf_bd {p q:List Int} (hp:isPerm p) (hq:Few p.length q) {i:Int} (h0:0≤i) (h1:i<p.length):Few p.length (walkOf p q i).1∧GoodC (walkOf p q i).2:=by
  have h:=walkC_bd hp (p.length+1 - q.length) q [] i hq (by simp) (by simp) h0 h1
  have hn:=hp.1
  have hl:=few_len h.1
  refine ⟨h.1,fun y hy => ?_,?_⟩
  · have:=h.2.2.1 y hy
    omega
  · have h2:=h.2.1
    have e:(walkC p (p.length+1 - q.length) q [] i)=walkOf p q i:=rfl
    rw [e] at h2 hl
    omega
theorem walkOf_in {p q:List Int} (hq:Few p.length q) {i:Int} (hm:i∈q):walkOf p q i=(q,[]):=by
  unfold walkOf
  have hl:=few_len hq
  obtain ⟨f,hf⟩:∃ f,p.length+1 - q.length=f+1:=⟨p.length - q.length,by omega⟩
  rw [hf,walkC,if_pos hm]
theorem cycGo_bd {p:List Int} (hp:isPerm p):∀ (d:Nat) (i:Int) (q:List Int) (out:List (List Int)),0≤i→i+d=p.length→Few p.length q→(∀ c∈out,GoodC c) →
    (∀ c∈cycGo p d i q out,GoodC c)∧(cycGo p d i q out).length≤out.length+d
  | 0,_,_,out,_,_,_,ho=>⟨ho,Nat.le_refl _⟩
  | d+1,i,q,out,h0,hi,hq,ho=>by
    have hw:=walkOf_bd hp hq h0 (show i<p.length by omega)
    simp only [cycGo]
    by_cases hm:i∈q
    · rw [if_pos hm]
      have:=cycGo_bd hp d (i+1) (walkOf p q i).1 out (by omega) (by omega) hw.1 ho
      exact ⟨this.1,by have:=this.2;omega⟩
    · rw [if_neg hm]
      have:=cycGo_bd hp d (i+1) (walkOf p q i).1 (out ++ [(walkOf p q i).2]) (by omega) (by omega) hw.1 (fun c hc=>by
        rcases List.mem_append.1 hc with hc|hc
        · exact ho c hc
        · simp at hc;subst hc;exact hw.2)
      refine ⟨this.1,?_⟩
      have:=this.2
      simp at this
      omega
theorem cyclesOf_bd (p:List Int):(∀ c∈cyclesOf p,GoodC c)∧(cyclesOf p).length≤24:=by
  unfold cyclesOf
  by_cases h:permB p=true
  · rw [if_pos h]
    have hp:=(permB_iff p).1 h
    have:=cycGo_bd hp p.length 0 [] [] (by omega) (by omega) ⟨by simp,by simp⟩ (by simp)
    refine ⟨this.1,?_⟩
    have:=this.2
    have:=hp.1
    simp at *
    omega
  · rw [if_neg h]
    simp
theorem i_cyc_l1 {p:List Int} (hp:isPerm p) (out:List (List Int)) (ho:out.length≤24) (i:Int) (hi:0≤i∧i<p.length) (r:List (List Int)):∀ (f:Nat) (q c:List Int) (x:Int),Few p.length q→c.length≤q.length→f+q.length=p.length+1→0≤x→x<p.length →
    Ev (fun k=>i_CyclesOf.l0 k p (flagsOf p.length (walkC p f q c x).1) (out ++ [(walkC p f q c x).2]) (p.length:Int) (i+1)) r →
    Ev (fun k=>i_CyclesOf.l1 k p (flagsOf p.length q) out c x (p.length:Int) i) r
  | 0,q,c,x,hq,_,hf,_,_,_=>by
    have:=few_len hq
    omega
  | f+1,q,c,x,hq,hc,hf,h0,h1,hr=>by
    have hn:=hp.1
    have hql:=few_len hq
    refine ev_up ?_
    have hw:wrap64 (i+1)=i+1:=pw_wrap (by omega) (by omega)
    simp only [i_CyclesOf.l1,if_pos h0,flagsOf_len,if_pos h1,flagsOf_rd p.length q h0 h1,hw]
    rw [walkC] at hr
    by_cases hm:x∈q
    · rw [if_pos hm] at hr
      simp only [decide_eq_true hm,if_true,if_pos (show out.length<5864062014805 by omega)]
      exact hr
    · rw [if_neg hm] at hr
      simp only [decide_eq_false hm,Bool.false_eq_true,if_false,if_pos (show c.length<17592186044416 by omega),flagsOf_set p.length q h0 h1]
      have hx:=perm_rd hp h0 h1
      exact i_cyc_l1 hp out ho i hi r f (q ++ [x]) (c ++ [x]) (rd p x) (few_snoc hq h0 h1 hm) (by simp;omega) (by simp;omega) hx.1 hx.2 hr
theorem i_cyc_l0 {p:List Int} (hp:isPerm p):∀ (d:Nat) (i:Int) (q:List Int) (out:List (List Int)),0≤i→i+d=p.length→Few p.length q→out.length+d≤24 →
    Ev (fun k=>i_CyclesOf.l0 k p (flagsOf p.length q) out (p.length:Int) i) (cycGo p d i q out)
  | 0,i,q,out,h0,hi,hq,ho=>by
    refine ev_up ?_
    simp only [i_CyclesOf.l0,if_neg (show ¬ i<(p.length:Int) by omega)]
    exact Ev.now _
  | d+1,i,q,out,h0,hi,hq,ho=>by
    refine ev_up ?_
    have h1:i<(p.length:Int):=by omega
    have hn:=hp.1
    have hw64:wrap64 (i+1)=i+1:=pw_wrap (by omega) (by omega)
    simp only [i_CyclesOf.l0,if_pos h1,if_pos h0,flagsOf_len,flagsOf_rd p.length q h0 h1,hw64]
    have hql:=few_len hq
    rw [cycGo]
    by_cases hm:i∈q
    · simp only [decide_eq_true hm,if_true]
      rw [walkOf_in hq hm,if_pos hm]
      exact i_cyc_l0 hp d (i+1) q out (by omega) (by omega) hq (by omega)
    · simp only [decide_eq_false hm,Bool.false_eq_true,if_false,if_neg hm]
      refine i_cyc_l1 hp out (by omega) i ⟨h0,h1⟩ _ (p.length+1 - q.length) q [] i hq (by simp) (by omega) h0 h1 ?_
      have e:walkC p (p.length+1 - q.length) q [] i=walkOf p q i:=rfl
      rw [e]
      have hw:=walkOf_bd hp hq h0 h1
      exact i_cyc_l0 hp d (i+1) _ _ (by omega) (by omega) hw.1 (by simp;omega)
theorem i_cycles (p:List Int):Ev (fun k=>i_CyclesOf.f k p) (cyclesOf p):=by
  unfold i_CyclesOf.f cyclesOf
  simp only [i_PermOk.f,Option.bind_some]
  by_cases h:permB p=true
  · have hp:=(permB_iff p).1 h
    have hn:=hp.1
    simp only [if_pos h,if_pos (Int.natCast_nonneg p.length),Int.toNat_natCast,if_pos (show p.length≤281474976710656 by omega),← flagsOf_nil]
    exact i_cyc_l0 hp p.length 0 [] [] (by omega) (by omega) ⟨by simp,by simp⟩ (by simp;omega)
  · simp only [if_neg h]
    exact Ev.now _

theorem rd_ext {a b:List Int} (hl:a.length=b.length) (h:∀ x:Int,0≤x→x<a.length→rd a x=rd b x):a=b:=by
  apply List.ext_getElem hl
  intro i h1 h2
  have:=h (i:Int) (by omega) (by omega)
  rwa [rd_get a i h1,rd_get b i h2] at this
theorem rdS_same {a:List Int} {k v:Int} (k0:0≤k) (k1:k<a.length):rd (a.set k.toNat v) k=v:=by
  have:k.toNat<a.length:=by omega
  simp [rd,List.getD,this]
theorem rdS_ne {a:List Int} {k l v:Int} (k0:0≤k) (l0:0≤l) (h:l≠k):rd (a.set k.toNat v) l=rd a l:=by
  have:k.toNat≠l.toNat:=by omega
  simp [rd,List.getD,List.getElem?_set_ne this]
theorem pm_in {p:List Int} (hp:isPerm p) {x:Int} (x0:0≤x) (x1:x<p.length):0≤rd p x∧rd p x<p.length:=perm_rd hp x0 x1
theorem pm_inj {p:List Int} (hp:isPerm p) {x y:Int} (x0:0≤x) (x1:x<p.length) (y0:0≤y) (y1:y<p.length) (e:rd p x=rd p y):x=y:=by
  obtain ⟨i,rfl⟩:=Int.eq_ofNat_of_zero_le x0
  obtain ⟨j,rfl⟩:=Int.eq_ofNat_of_zero_le y0
  have hi:i<p.length:=by omega
  have hj:j<p.length:=by omega
  rw [rd_get p i hi,rd_get p j hj] at e
  have:=List.pairwise_iff_getElem.1 hp.2.2
  rcases Nat.lt_trichotomy i j with h|h|h
  · exact absurd e (this i j hi hj h)
  · rw [h]
  · exact absurd e.symm (this j i hj hi h)
theorem pm_sur {p:List Int} (hp:isPerm p) {y:Int} (y0:0≤y) (y1:y<p.length):∃ x:Int,0≤x∧x<p.length∧rd p x=y:=by
  have hm:y∈p:=few_full (n:=p.length) ⟨hp.2.2,hp.2.1⟩ rfl y0 y1
  obtain ⟨i,hi,e⟩:=List.getElem_of_mem hm
  exact ⟨(i:Int),by omega,by omega,by rw [rd_get p i hi,e]⟩
theorem pm_of {a:List Int} (hl:a.length≤24) (hb:∀ x:Int,0≤x→x<a.length→0≤rd a x∧rd a x<a.length) (hi:∀ x y:Int,0≤x→x<a.length→0≤y→y<a.length→rd a x=rd a y→x=y):isPerm a:=by
  refine ⟨hl,fun x hx => ?_,?_⟩
  · obtain ⟨i,h,rfl⟩:=List.getElem_of_mem hx
    have:=hb (i:Int) (by omega) (by omega)
    rwa [rd_get a i h] at this
  · refine List.pairwise_iff_getElem.2 fun i j h1 h2 hij e => ?_
    have:=hi (i:Int) (j:Int) (by omega) (by omega) (by omega) (by omega) (by rw [rd_get a i h1,rd_get a j h2,e])
    omega
def invGo (p:List Int):Nat→Int→List Int→List Int
  | 0,_,out=>out
  | d+1,i,out=>invGo p d (i+1) (out.set (rd p i).toNat i)
def invL (p:List Int):List Int:=invGo p p.length 0 (List.replicate p.length 0)
theorem invGo_spec {p:List Int} (hp:isPerm p):∀ (d:Nat) (i:Int) (out:List Int),0≤i→i+d=p.length→out.length=p.length→(∀ j:Int,0≤j→j<i→rd out (rd p j)=j) →
    (invGo p d i out).length=p.length∧∀ j:Int,0≤j→j<p.length→rd (invGo p d i out) (rd p j)=j
  | 0,i,out,h0,hi,hl,h=>⟨hl,fun j j0 j1=>h j j0 (by omega)⟩
  | d+1,i,out,h0,hi,hl,h=>by
    have hb:=pm_in hp h0 (by omega)
    refine invGo_spec hp d (i+1) _ (by omega) (by omega) (by simpa using hl) ?_
    intro j j0 j1
    by_cases e:j=i
    · subst e
      exact rdS_same hb.1 (by omega)
    · have hj:=pm_in hp j0 (by omega)
      rw [rdS_ne hb.1 hj.1 (fun e2=>e (pm_inj hp j0 (by omega) h0 (by omega) e2))]
      exact h j j0 (by omega)
theorem invL_len {p:List Int} (hp:isPerm p):(invL p).length=p.length:=(invGo_spec hp p.length 0 _ (by omega) (by omega) (by simp) (fun j j0 j1=>by omega)).1
theorem inv_left {p:List Int} (hp:isPerm p) {x:Int} (h0:0≤x) (h1:x<p.length):rd (invL p) (rd p x)=x:=(invGo_spec hp p.length 0 _ (by omega) (by omega) (by simp) (fun j j0 j1=>by omega)).2 x h0 h1
theorem inv_right {p:List Int} (hp:isPerm p) {y:Int} (h0:0≤y) (h1:y<p.length):rd p (rd (invL p) y)=y∧0≤rd (invL p) y∧rd (invL p) y<p.length:=by
  obtain ⟨x,x0,x1,e⟩:=pm_sur hp h0 h1
  rw [← e,inv_left hp x0 x1]
  exact ⟨rfl,x0,x1⟩
theorem inv_perm {p:List Int} (hp:isPerm p):isPerm (invL p):=by
  have hl:=invL_len hp
  refine pm_of (by have:=hp.1;omega) (fun x h0 h1 => ?_) (fun x y x0 x1 y0 y1 e => ?_)
  · have:=inv_right hp h0 (by omega)
    omega
  · rw [← (inv_right hp x0 (by omega)).1,e,(inv_right hp y0 (by omega)).1]
def thenL (p q:List Int):List Int:=p.map (rd q)
theorem then_len (p q:List Int):(thenL p q).length=p.length:=by simp [thenL]
theorem then_rd (p q:List Int) {x:Int} (h0:0≤x) (h1:x<p.length):rd (thenL p q) x=rd q (rd p x):=by
  obtain ⟨i,rfl⟩:=Int.eq_ofNat_of_zero_le h0
  have hi:i<p.length:=by omega
  rw [rd_get _ i (by rw [then_len];exact hi),rd_get p i hi]
  simp [thenL]
theorem then_perm {p q:List Int} (hp:isPerm p) (hq:isPerm q) (he:p.length=q.length):isPerm (thenL p q):=by
  have hl:=then_len p q
  refine pm_of (by have:=hp.1;omega) (fun x h0 h1 => ?_) (fun x y x0 x1 y0 y1 e => ?_)
  · have a:=pm_in hp h0 (by omega)
    have:=pm_in hq a.1 (by omega)
    rw [then_rd p q h0 (by omega)]
    omega
  · rw [then_rd p q x0 (by omega),then_rd p q y0 (by omega)] at e
    have a:=pm_in hp x0 (by omega)
    have b:=pm_in hp y0 (by omega)
    exact pm_inj hp x0 (by omega) y0 (by omega) (pm_inj hq a.1 (by omega) b.1 (by omega) e)
theorem s_inv_l0 {p:List Int} (hp:isPerm p):∀ (d:Nat) (i:Int) (out:List Int),0≤i→i+d=p.length→out.length=p.length→Ev (fun k=>s_l02Inverse.l0 k out p (p.length:Int) i) (invGo p d i out)
  | 0,i,out,h0,hi,hl=>by
    refine ev_up ?_
    simp only [s_l02Inverse.l0,if_neg (show ¬ i<(p.length:Int) by omega)]
    exact Ev.now _
  | d+1,i,out,h0,hi,hl=>by
    have hb:=pm_in hp h0 (by omega)
    have hn:=hp.1
    refine ev_up ?_
    simp only [s_l02Inverse.l0,if_pos (show i<(p.length:Int) by omega),if_pos h0,if_pos hb.1,if_pos (show rd p i<(out.length:Int) by omega),pw_wrap (a:=i+1) (by omega) (by omega)]
    exact s_inv_l0 hp d (i+1) _ (by omega) (by omega) (by simpa using hl)
theorem s_inv {p:List Int} (hp:isPerm p):Ev (fun k=>s_l02Inverse.f k p) (invL p):=by
  have hn:=hp.1
  unfold s_l02Inverse.f
  simp only [if_pos (Int.natCast_nonneg p.length),Int.toNat_natCast,if_pos (show p.length≤35184372088832 by omega)]
  exact s_inv_l0 hp p.length 0 _ (by omega) (by omega) (by simp)
theorem i_inv_l0 {p:List Int} (hp:isPerm p):∀ (d:Nat) (i:Int) (out:List Int),0≤i→i+d=p.length→out.length=p.length→Ev (fun k=>i_InversePerm.l0 k out p (p.length:Int) i) (invGo p d i out)
  | 0,i,out,h0,hi,hl=>by
    refine ev_up ?_
    simp only [i_InversePerm.l0,if_neg (show ¬ i<(p.length:Int) by omega)]
    exact Ev.now _
  | d+1,i,out,h0,hi,hl=>by
    have hb:=pm_in hp h0 (by omega)
    have hn:=hp.1
    refine ev_up ?_
    simp only [i_InversePerm.l0,if_pos (show i<(p.length:Int) by omega),if_pos h0,if_pos hb.1,if_pos (show rd p i<(out.length:Int) by omega),pw_wrap (a:=i+1) (by omega) (by omega)]
    exact i_inv_l0 hp d (i+1) _ (by omega) (by omega) (by simpa using hl)
theorem i_inv {p:List Int} (hp:isPerm p):Ev (fun k=>i_InversePerm.f k p) (invL p):=by
  have hn:=hp.1
  unfold i_InversePerm.f
  simp only [i_PermOk.f,Option.bind_some,if_pos ((permB_iff p).2 hp),if_pos (Int.natCast_nonneg p.length),Int.toNat_natCast,if_pos (show p.length≤35184372088832 by omega)]
  exact i_inv_l0 hp p.length 0 _ (by omega) (by omega) (by simp)
theorem s_thn_l0 (q p:List Int) (hp:p.length≤1000) (hb:∀ x∈p,0≤x∧x<(q.length:Int)):∀ (suf pre:List Int),p=pre ++ suf→Ev (fun k=>s_l02Then.l0 k q (pre.map (rd q)) p (p.length:Int) (pre.length:Int)) (p.map (rd q))
  | [],pre,e=>by
    have e2:p=pre:=by simpa using e
    subst e2
    refine ev_up ?_
    simp only [s_l02Then.l0,if_neg (show ¬ ((p.length:Int)<p.length) by omega)]
    exact Ev.now _
  | x :: suf,pre,e=>by
    have hlen:p.length=pre.length+suf.length+1:=by rw [e];simp;omega
    have hx:rd p (pre.length:Int)=x:=by rw [e];simp [rd,List.getD]
    have hw:wrap64 ((pre.length:Int)+1)=((pre ++ [x]).length:Int):=by rw [pw_wrap (by omega) (by omega)];simp
    have hxb:=hb x (by rw [e];simp)
    have ih:=s_thn_l0 q p hp hb suf (pre ++ [x]) (by simp [e])
    refine ev_up ?_
    simp only [s_l02Then.l0,if_pos (show ((pre.length:Int)<p.length) by omega),if_pos (Int.natCast_nonneg pre.length),hx,hw,if_pos hxb.1,if_pos hxb.2,List.length_map,if_pos (show pre.length<17592186044416 by omega)]
    rw [List.map_append] at ih
    exact ih
theorem s_thn {p q:List Int} (hp:isPerm p) (he:p.length=q.length):Ev (fun k=>s_l02Then.f k p q) (thenL p q) :=
  s_thn_l0 q p (by have:=hp.1;omega) (fun x hx=>by have:=hp.2.1 x hx;omega) p [] rfl
theorem i_thn_l0 {p q:List Int} (hp:isPerm p) (he:p.length=q.length):∀ (d:Nat) (i:Int) (out:List Int),0≤i→i+d=p.length→out.length=p.length→(∀ j:Int,0≤j→j<i→rd out j=rd q (rd p j))→Ev (fun k=>i_ThenPerm.l0 k q out p (p.length:Int) i) (thenL p q)
  | 0,i,out,h0,hi,hl,h=>by
    refine ev_up ?_
    simp only [i_ThenPerm.l0,if_neg (show ¬ i<(p.length:Int) by omega)]
    have e:out=thenL p q:=rd_ext (by rw [hl,then_len]) (fun x x0 x1=>by rw [then_rd p q x0 (by omega)];exact h x x0 (by omega))
    rw [e]
    exact Ev.now _
  | d+1,i,out,h0,hi,hl,h=>by
    have hb:=pm_in hp h0 (by omega)
    have hn:=hp.1
    refine ev_up ?_
    simp only [i_ThenPerm.l0,if_pos (show i<(p.length:Int) by omega),if_pos h0,if_pos hb.1,if_pos (show rd p i<(q.length:Int) by omega),if_pos (show i<(out.length:Int) by omega),pw_wrap (a:=i+1) (by omega) (by omega)]
    refine i_thn_l0 hp he d (i+1) _ (by omega) (by omega) (by simpa using hl) (fun j j0 j1 => ?_)
    by_cases e:j=i
    · subst e
      exact rdS_same h0 (by omega)
    · rw [rdS_ne h0 j0 e]
      exact h j j0 (by omega)
theorem i_thn {p q:List Int} (hp:isPerm p) (hq:isPerm q) (he:p.length=q.length):Ev (fun k=>i_ThenPerm.f k p q) (thenL p q):=by
  have hn:=hp.1
  unfold i_ThenPerm.f
  simp only [i_PermOk.f,Option.bind_some,if_pos ((permB_iff p).2 hp),if_pos ((permB_iff q).2 hq),show ((p.length:Int) != (q.length:Int))=false by rw [bne_eq_false_iff_eq];omega]
  refine ev_up ?_
  simp only [i_ThenPerm.j0,Bool.false_eq_true,if_false,if_pos (Int.natCast_nonneg p.length),Int.toNat_natCast,if_pos (show p.length≤35184372088832 by omega)]
  exact i_thn_l0 hp he p.length 0 _ (by omega) (by omega) (by simp) (fun j j0 j1=>by omega)

theorem s_has_l0 (l:List Int) (hl:l.length≤4611686018427387904) (x:Int):∀ (suf pre:List Int),l=pre ++ suf →
    Ev (fun k=>s_l02Has.l0 k x l (l.length:Int) (pre.length:Int)) (decide (x∈suf)):=by
  intro suf
  induction suf with
  | nil =>
    intro pre h
    subst h
    refine ev_up ?_
    simp only [s_l02Has.l0,if_neg (nlt_end pre)]
    simpa using Ev.now false
  | cons c suf ih =>
    intro pre h
    have:=ih (pre ++ [c]) (by simp [h])
    subst h
    refine ev_up ?_
    by_cases hc:c=x
    · simp only [s_l02Has.l0,if_pos (lt_mid pre suf c),if_pos (Int.natCast_nonneg pre.length),rd_mid,if_pos hc]
      simpa [hc] using Ev.now true
    · simp only [s_l02Has.l0,if_pos (lt_mid pre suf c),if_pos (Int.natCast_nonneg pre.length),rd_mid,if_neg hc,wrap_snoc hl]
      rw [show decide (x∈c :: suf)=decide (x∈suf) by simp [Ne.symm hc]]
      exact this
theorem s_has (l:List Int) (hl:l.length≤4611686018427387904) (x:Int):Ev (fun k=>s_l02Has.f k l x) (decide (x∈l)):=s_has_l0 l hl x l [] rfl

def nbT (r u:List Int) (x:Int):List Int:=[rd r x,rd u x]
theorem s_reach_l1 (rr u:List Int) (n:Nat) (hn:n≤24) (x8:Int) (hx:0≤x8∧x8≤1000) (ys:List Int) (hy:ys.length≤1000) (r:List Int):∀ (suf pre q:List Int),ys=pre ++ suf→Few n q→(∀ k∈suf,0≤k∧k<(n:Int)) →
    Ev (fun k=>s_l02Reach.l0 k rr u (pushAll q suf) (x8+1)) r→Ev (fun k=>s_l02Reach.l1 k rr u q x8 ys (ys.length:Int) (pre.length:Int)) r:=by
  intro suf
  induction suf with
  | nil =>
    intro pre q h hq hk hr
    subst h
    refine ev_up ?_
    simp only [s_l02Reach.l1,if_neg (nlt_end pre),pw_wrap (a:=x8+1) (by omega) (by omega)]
    exact hr
  | cons c suf ih =>
    intro pre q h hq hk hr
    have hc:=hk c (by simp)
    have hf:=few_push hq hc.2
    have hi:=ih (pre ++ [c]) (push q c) (by simp [h]) hf (fun k h'=>hk k (by simp [h'])) hr
    subst h
    have hql:=few_len hq
    refine ev_up ?_
    simp only [s_l02Reach.l1,if_pos (lt_mid pre suf c),if_pos (Int.natCast_nonneg pre.length),rd_mid,wrap_snoc (x:=c) (s:=suf) (p:=pre) (by simp at hy ⊢;omega)]
    refine Ev.bind (s_has q (by omega) c) ?_
    by_cases hm:c∈q
    · simp only [decide_eq_true hm,if_true]
      unfold push at hi
      rw [if_neg (fun h=>h.2 hm)] at hi
      exact hi
    · simp only [decide_eq_false hm,Bool.false_eq_true,if_false,if_pos (show q.length<17592186044416 by omega)]
      unfold push at hi
      rw [if_pos ⟨hc.1,hm⟩] at hi
      exact hi
theorem nbT_lt {rr u:List Int} (hr:isPerm rr) (hu:isPerm u) (he:rr.length=u.length) {x:Int} (h0:0≤x) (h1:x<rr.length):∀ k∈nbT rr u x,0≤k∧k<(rr.length:Int):=by
  intro k hk
  have a:=perm_rd hr h0 h1
  have b:=perm_rd hu h0 (by omega)
  simp only [nbT,List.mem_cons,List.not_mem_nil,or_false] at hk
  rcases hk with rfl|rfl <;> omega
theorem s_reach_l0 {rr u:List Int} (hr:isPerm rr) (hu:isPerm u) (he:rr.length=u.length):∀ (f:Nat) (q:List Int) (i:Nat),Few rr.length q→i≤q.length→f+i=rr.length+1 →
    Ev (fun k=>s_l02Reach.l0 k rr u q (i:Int)) (bfs (nbT rr u) f q i):=by
  intro f
  have hn:=hr.1
  induction f with
  | zero =>
    intro q i hq hi hf
    have:=few_len hq
    omega
  | succ f ih =>
    intro q i hq hi hf
    have hql:=few_len hq
    refine ev_up ?_
    by_cases h:i<q.length
    · have hx:=hq.2 _ (List.getElem_mem h)
      simp only [s_l02Reach.l0,if_pos (show ((i:Nat):Int)<(q.length:Int) by omega),if_pos (Int.natCast_nonneg i),rd_get q i h,if_pos hx.1,if_pos hx.2,if_pos (show q[i]<(u.length:Int) by omega),Option.bind_some]
      have hlt:=nbT_lt hr hu he hx.1 hx.2
      have hp:=few_pushAll _ q hq (fun k hk=>(hlt k hk).2)
      have:=ih _ (i+1) hp.1 (by have:=hp.2;omega) (by omega)
      rw [bfs,dif_pos h]
      exact s_reach_l1 rr u rr.length hn i (by omega) (nbT rr u q[i]) (by simp [nbT]) _ _ [] q rfl hq hlt this
    · simp only [s_l02Reach.l0,if_neg (show ¬ ((i:Nat):Int)<(q.length:Int) by omega)]
      rw [bfs_done _ _ _ _ h]
      exact Ev.now _
def reachOf (r u:List Int):List Int:=bfs (nbT r u) (r.length+1) [0] 0
def transB (r u:List Int):Bool:=permB r && permB u && decide (r.length=u.length) && decide (0<r.length) && ((reachOf r u).length:Int) == (r.length:Int)
theorem few_z {n:Nat} (h:1≤n):Few n [0]:=⟨by simp,fun x hx=>by simp at hx;subst hx;omega⟩
theorem s_trans (r u:List Int):Ev (fun k=>s_IsTransitive.f k r u) (transB r u):=by
  unfold s_IsTransitive.f transB
  simp only [s_PermOk.f,← perm_same,Option.bind_some]
  by_cases h1:permB r=true
  · simp only [h1,if_true,Bool.true_and]
    by_cases h2:permB u=true
    · simp only [h2,if_true,Bool.true_and]
      by_cases h3:r.length=u.length
      · simp only [if_pos (show (r.length:Int)=u.length by omega),decide_eq_true h3,Bool.true_and]
        by_cases h4:0<r.length
        · simp only [if_pos (show (r.length:Int) > 0 by omega),decide_eq_true h4,Bool.true_and]
          refine Ev.bind (a:=reachOf r u) ?_ (Ev.now _)
          unfold s_l02Reach.f
          exact s_reach_l0 ((permB_iff r).1 h1) ((permB_iff u).1 h2) h3 _ [0] 0 (few_z h4) (by simp) (by omega)
        · simp only [if_neg (show ¬ (r.length:Int) > 0 by omega),decide_eq_false h4,Bool.false_and]
          exact Ev.now _
      · simp only [if_neg (show ¬ (r.length:Int)=u.length by omega),decide_eq_false h3,Bool.false_and]
        exact Ev.now _
    · simp only [Bool.eq_false_iff.2 h2,Bool.false_eq_true,if_false,Bool.false_and]
      exact Ev.now _
  · simp only [Bool.eq_false_iff.2 h1,Bool.false_eq_true,if_false,Bool.false_and]
    exact Ev.now _
theorem i_trans_l1 (rr u:List Int) (n:Nat) (hn:n≤24) (x8:Int) (hx:0≤x8∧x8≤1000) (ys:List Int) (hy:ys.length≤1000) (r:Bool):∀ (suf pre q:List Int),ys=pre ++ suf→Few n q→(∀ k∈suf,0≤k∧k<(n:Int)) →
    Ev (fun k=>i_IsTransitive.l0 k rr u (flagsOf n (pushAll q suf)) (pushAll q suf) (x8+1)) r→Ev (fun k=>i_IsTransitive.l1 k rr u (flagsOf n q) q x8 ys (ys.length:Int) (pre.length:Int)) r:=by
  intro suf
  induction suf with
  | nil =>
    intro pre q h hq hk hr
    subst h
    refine ev_up ?_
    simp only [i_IsTransitive.l1,if_neg (nlt_end pre),pw_wrap (a:=x8+1) (by omega) (by omega)]
    exact hr
  | cons c suf ih =>
    intro pre q h hq hk hr
    have hc:=hk c (by simp)
    have hf:=few_push hq hc.2
    have hi:=ih (pre ++ [c]) (push q c) (by simp [h]) hf (fun k h'=>hk k (by simp [h'])) hr
    subst h
    have hql:=few_len hq
    refine ev_up ?_
    simp only [i_IsTransitive.l1,if_pos (lt_mid pre suf c),if_pos (Int.natCast_nonneg pre.length),rd_mid,wrap_snoc (x:=c) (s:=suf) (p:=pre) (by simp at hy ⊢;omega),if_pos hc.1,flagsOf_len,if_pos hc.2,flagsOf_rd n q hc.1 hc.2]
    by_cases hm:c∈q
    · simp only [decide_eq_true hm,if_true]
      unfold push at hi
      rw [if_neg (fun h=>h.2 hm)] at hi
      exact hi
    · simp only [decide_eq_false hm,Bool.false_eq_true,if_false,if_pos (show q.length<17592186044416 by omega),flagsOf_set n q hc.1 hc.2]
      unfold push at hi
      rw [if_pos ⟨hc.1,hm⟩] at hi
      exact hi
theorem i_trans_l0 {rr u:List Int} (hr:isPerm rr) (hu:isPerm u) (he:rr.length=u.length):∀ (f:Nat) (q:List Int) (i:Nat),Few rr.length q→i≤q.length→f+i=rr.length+1 →
    Ev (fun k=>i_IsTransitive.l0 k rr u (flagsOf rr.length q) q (i:Int)) (((bfs (nbT rr u) f q i).length:Int) == (rr.length:Int)):=by
  intro f
  have hn:=hr.1
  induction f with
  | zero =>
    intro q i hq hi hf
    have:=few_len hq
    omega
  | succ f ih =>
    intro q i hq hi hf
    have hql:=few_len hq
    refine ev_up ?_
    by_cases h:i<q.length
    · have hx:=hq.2 _ (List.getElem_mem h)
      simp only [i_IsTransitive.l0,if_pos (show ((i:Nat):Int)<(q.length:Int) by omega),if_pos (Int.natCast_nonneg i),rd_get q i h,if_pos hx.1,if_pos hx.2,if_pos (show q[i]<(u.length:Int) by omega),Option.bind_some]
      have hlt:=nbT_lt hr hu he hx.1 hx.2
      have hp:=few_pushAll _ q hq (fun k hk=>(hlt k hk).2)
      have:=ih _ (i+1) hp.1 (by have:=hp.2;omega) (by omega)
      rw [bfs,dif_pos h]
      exact i_trans_l1 rr u rr.length hn i (by omega) (nbT rr u q[i]) (by simp [nbT]) _ _ [] q rfl hq hlt this
    · simp only [i_IsTransitive.l0,if_neg (show ¬ ((i:Nat):Int)<(q.length:Int) by omega)]
      rw [bfs_done _ _ _ _ h]
      exact Ev.now _
theorem i_trans (r u:List Int):Ev (fun k=>i_IsTransitive.f k r u) (transB r u):=by
  unfold i_IsTransitive.f transB
  have hbad:∀ b:Bool,b=false→Ev (fun k=>i_IsTransitive.j0 k r u true) b:=by
    rintro b rfl
    refine ev_up ?_
    simp only [i_IsTransitive.j0,if_true]
    exact Ev.now _
  simp only [i_PermOk.f,Option.bind_some]
  by_cases h1:permB r=true
  · simp only [h1,if_true,Bool.true_and]
    by_cases h2:permB u=true
    · simp only [h2,if_true,Bool.true_and]
      by_cases h3:r.length=u.length
      · simp only [if_pos (show (r.length:Int)=u.length by omega),decide_eq_true h3,Bool.true_and]
        by_cases h4:0<r.length
        · have hn:=((permB_iff r).1 h1).1
          have e:((r.length:Int) == 0)=false:=by simp;intro e;rw [e] at h4;exact absurd h4 (by simp)
          rw [e]
          simp only [decide_eq_true h4,Bool.true_and]
          refine ev_up ?_
          have hset:(List.replicate r.length false).set (0:Int).toNat true=flagsOf r.length [0]:=by
            rw [← flagsOf_nil,flagsOf_set r.length [] (by omega) (by omega)]
            rfl
          simp only [i_IsTransitive.j0,Bool.false_eq_true,if_false,if_pos (Int.natCast_nonneg r.length),Int.toNat_natCast,if_pos (show r.length≤281474976710656 by omega),Option.bind_some,List.length_replicate,if_pos (show (0:Int)<(r.length:Int) by omega),hset]
          exact i_trans_l0 ((permB_iff r).1 h1) ((permB_iff u).1 h2) h3 _ [0] 0 (few_z h4) (by simp) (by omega)
        · have e:((r.length:Int) == 0)=true:=by
            have:r.length=0:=by omega
            rw [this];rfl
          rw [e]
          simp only [decide_eq_false h4,Bool.false_and]
          exact hbad _ rfl
      · simp only [if_neg (show ¬ (r.length:Int)=u.length by omega),decide_eq_false h3,Bool.false_and]
        exact hbad _ rfl
    · simp only [Bool.eq_false_iff.2 h2,Bool.false_eq_true,if_false,Bool.false_and]
      exact hbad _ rfl
  · simp only [Bool.eq_false_iff.2 h1,Bool.false_eq_true,if_false,Bool.false_and]
    exact hbad _ rfl
theorem transB_side {r u:List Int} (h:transB r u=true):isPerm r∧isPerm u∧r.length=u.length∧0<r.length∧(reachOf r u).length=r.length:=by
  unfold transB at h
  simp only [Bool.and_eq_true,decide_eq_true_eq,beq_iff_eq] at h
  obtain ⟨⟨⟨⟨h1,h2⟩,h3⟩,h4⟩,h5⟩:=h
  exact ⟨(permB_iff r).1 h1,(permB_iff u).1 h2,h3,h4,by omega⟩
theorem s_surfOk (r u:List Int):Ev (fun k=>s_SurfaceOk.f k r u) (transB r u):=Ev.bind (s_trans r u) (Ev.now _)
theorem i_surfOk (r u:List Int):Ev (fun k=>i_SurfaceOk.f k r u) (transB r u):=Ev.bind (i_trans r u) (Ev.now _)

def torusP (w h:Nat):List Int × List Int:=((List.range (w*h)).map fun i=>((i / w*w+(i % w+1) % w:Nat):Int),(List.range (w*h)).map fun i=>(((i+w) % (w*h):Nat):Int))
def ellP (a b:Nat):List Int × List Int:=((List.range (a+b - 1)).map fun i=>if i<a then (((i+1) % a:Nat):Int) else (i:Int),(List.range (a+b - 1)).map fun i=>if 1<b then (if i=0 then (a:Int) else if a≤i then (((i+1) % (a+b - 1):Nat):Int) else (i:Int)) else (i:Int))
def shearP (s:List Int × List Int):List Int × List Int:=(s.1,thenL (invL s.1) s.2)
def sheared : Nat→List Int × List Int→List Int × List Int
  | 0,s=>s
  | c+1,s=>sheared c (shearP s)
theorem torus_all : ((List.range 4).all fun w=>(List.range 3).all fun h=>(List.range 4).all fun c=>transB (sheared c (torusP (w+1) (h+1))).1 (sheared c (torusP (w+1) (h+1))).2)=true:=by kernel_rfl
theorem ell_all : ((List.range 5).all fun a=>(List.range 4).all fun b=>transB (ellP (a+1) (b+1)).1 (ellP (a+1) (b+1)).2)=true:=by kernel_rfl
theorem torus_ok {w h c:Nat} (hw:w<4) (hh:h<3) (hc:c<4):transB (sheared c (torusP (w+1) (h+1))).1 (sheared c (torusP (w+1) (h+1))).2=true:=by
  have:=List.all_eq_true.1 torus_all w (List.mem_range.2 hw)
  have:=List.all_eq_true.1 this h (List.mem_range.2 hh)
  exact List.all_eq_true.1 this c (List.mem_range.2 hc)
theorem ell_ok {a b:Nat} (ha:a<5) (hb:b<4):transB (ellP (a+1) (b+1)).1 (ellP (a+1) (b+1)).2=true:=by
  have:=List.all_eq_true.1 ell_all a (List.mem_range.2 ha)
  exact List.all_eq_true.1 this b (List.mem_range.2 hb)
theorem ev_from {α:Type} {f:Nat→Option α} {v:α} (n:Nat) (h:∀ j,f (j+n)=some v):Ev f v:=⟨n,fun k hk=>by
  obtain ⟨j,rfl⟩:∃ j,k=j+n:=⟨k - n,by omega⟩
  exact h j⟩
theorem torus_ev {w h:Nat} (hw:w<4) (hh:h<3):Ev (fun k=>s_TorusOf.f k ((w+1:Nat):Int) ((h+1:Nat):Int)) ((torusP (w+1) (h+1)).1,(torusP (w+1) (h+1)).2,true):=by
  refine ev_from 20 fun j => ?_
  rcases (by omega:w=0∨w=1∨w=2∨w=3) with rfl|rfl|rfl|rfl <;> rcases (by omega:h=0∨h=1∨h=2) with rfl|rfl|rfl <;> kernel_rfl
theorem ell_ev {a b:Nat} (ha:a<5) (hb:b<4):Ev (fun k=>s_EllOf.f k ((a+1:Nat):Int) ((b+1:Nat):Int)) ((ellP (a+1) (b+1)).1,(ellP (a+1) (b+1)).2,true):=by
  refine ev_from 20 fun j => ?_
  rcases (by omega:a=0∨a=1∨a=2∨a=3∨a=4) with rfl|rfl|rfl|rfl|rfl <;> rcases (by omega:b=0∨b=1∨b=2∨b=3) with rfl|rfl|rfl|rfl <;> kernel_rfl
theorem shear_ev {s:List Int × List Int} (h:transB s.1 s.2=true):Ev (fun k=>s_l05Shear.f k s.1 s.2) (shearP s):=by
  obtain ⟨hr,hu,he,h0,_⟩:=transB_side h
  have hn:=hr.1
  have hl:=invL_len hr
  unfold s_l05Shear.f
  simp only [Option.bind_some,List.length_nil,List.nil_append,if_pos (show 0+s.1.length<17592186044416 by omega)]
  refine Ev.bind (s_inv hr) ?_
  refine Ev.bind (s_thn (inv_perm hr) (by omega)) ?_
  exact Ev.now _
theorem sheared_ev : ∀ (c:Nat) (s:List Int × List Int),(∀ d,d≤c→transB (sheared d s).1 (sheared d s).2=true)→c<1000→Ev (fun k=>s_MakeSurface.l0 k (c:Int) s.1 s.2) (sheared c s)
  | 0,s,h,_=>by
    refine ev_up ?_
    simp only [s_MakeSurface.l0,if_neg (show ¬ ((0:Nat):Int) > 0 by omega)]
    exact Ev.now _
  | c+1,s,h,hc=>by
    have ih:=sheared_ev c (shearP s) (fun d hd=>h (d+1) (by omega)) (by omega)
    refine ev_up ?_
    simp only [s_MakeSurface.l0,if_pos (show ((c+1:Nat):Int) > 0 by omega)]
    refine Ev.bind (shear_ev (h 0 (by omega))) ?_
    rw [show wrap64 (((c+1:Nat):Int) - 1)=((c:Nat):Int) by rw [pw_wrap (by omega) (by omega)];omega]
    exact ih
theorem drawp_l0 (l:List Int) (hl:l.length≤4611686018427387904) (n:Int) (hn:n≤200):∀ (d:Nat) (x i h:Int) (out:List Int),0≤x→x+d=n→0≤i→(out.length:Int)=x→∃ r i' h',Ev (fun k=>s_l02Draw.l0 k n out x l i h) (r,i',h')∧0≤i'∧(r.length:Int)=n
  | 0,x,i,h,out,h0,h1,hi,ho=>by
    refine ⟨out,i,h,ev_up ?_,hi,by omega⟩
    simp only [s_l02Draw.l0,if_neg (show ¬ x<n by omega)]
    exact Ev.now _
  | d+1,x,i,h,out,h0,h1,hi,ho=>by
    obtain ⟨v,i1,h1',e,v0,v1,hi1⟩:=below_some l hl i h hi (x+1) (by omega) (by omega)
    obtain ⟨r,i',h',hr,hi'⟩:=drawp_l0 l hl n hn d (x+1) i1 h1' (((out ++ [x]).set x.toNat (rd (out ++ [x]) v)).set v.toNat x) (by omega) (by omega) hi1 (by simp;omega)
    refine ⟨r,i',h',ev_up ?_,hi'⟩
    have hlen:((out ++ [x]).length:Int)=x+1:=by simp;omega
    simp only [s_l02Draw.l0,if_pos (show x<n by omega),pw_wrap (a:=x+1) (by omega) (by omega),e,Option.bind_some,if_pos (show out.length<17592186044416 by omega),if_pos v0,if_pos (show v<((out ++ [x]).length:Int) by omega),if_pos h0,if_pos (show x<((out ++ [x]).length:Int) by omega)]
    exact hr
theorem draw_some (l:List Int) (hl:l.length≤4611686018427387904) (n:Int) (h0:0≤n) (hn:n≤200) (i h:Int) (hi:0≤i):∃ r i' h',Ev (fun k=>s_l02Draw.f k l i h n) (r,i',h')∧0≤i'∧(r.length:Int)=n :=
  drawp_l0 l hl n hn n.toNat 0 i h [] (by omega) (by omega) hi rfl
theorem surf_l0 (l:List Int) (hl:l.length≤4611686018427387904) (n:Nat) (hn:n<5):∀ (d:Nat) (x i h:Int),0≤x→x+d=8→0≤i→∃ r u i' h',Ev (fun k=>s_l03Draw.l0 k ((n+1:Nat):Int) x l i h) (r,u,i',h')∧transB r u=true∧r.length≤5
  | 0,x,i,h,h0,h1,hi=>by
    refine ⟨_,_,i,h,ev_up ?_,ell_ok (b:=0) hn (by omega),by simp [ellP];omega⟩
    simp only [s_l03Draw.l0,if_neg (show ¬ x<8 by omega)]
    refine Ev.bind (ell_ev (b:=0) hn (by omega)) ?_
    exact Ev.now _
  | d+1,x,i,h,h0,h1,hi=>by
    obtain ⟨r,i1,h1',e1,hi1,lr⟩:=draw_some l hl ((n+1:Nat):Int) (by omega) (by omega) i h hi
    obtain ⟨u,i2,h2',e2,hi2,_⟩:=draw_some l hl ((n+1:Nat):Int) (by omega) (by omega) i1 h1' hi1
    by_cases ht:transB r u=true
    · refine ⟨r,u,i2,h2',ev_up ?_,ht,by omega⟩
      simp only [s_l03Draw.l0,if_pos (show x<8 by omega)]
      refine Ev.bind e1 ?_
      refine Ev.bind e2 ?_
      refine Ev.bind (s_surfOk r u) ?_
      simp only [if_pos ht]
      exact Ev.now _
    · obtain ⟨r',u',i',h',hr,ht'⟩:=surf_l0 l hl n hn d (x+1) i2 h2' (by omega) (by omega) hi2
      refine ⟨r',u',i',h',ev_up ?_,ht'⟩
      simp only [s_l03Draw.l0,if_pos (show x<8 by omega),pw_wrap (a:=x+1) (by omega) (by omega)]
      refine Ev.bind e1 ?_
      refine Ev.bind e2 ?_
      refine Ev.bind (s_surfOk r u) ?_
      simp only [if_neg ht]
      exact hr
def Kind (r u:List Int):Prop:=r.length≤5∨(∃ w h c,w<4∧h<3∧c<4∧(r,u)=sheared c (torusP (w+1) (h+1)))∨∃ a b,a<4∧b<4∧(r,u)=ellP (a+1) (b+1)
theorem surface_kind (l:List Int) (hl:l.length≤4611686018427387904):∃ r u,Ev (fun k=>s_MakeSurface.f k l) (r,u)∧transB r u=true∧Kind r u:=by
  obtain ⟨h,e⟩:=new_some l hl
  obtain ⟨v,i1,h1,e1,v0,v1,hi1⟩:=below_some l hl 0 h (Int.le_refl 0) 4 (by omega) (by omega)
  unfold s_MakeSurface.f
  by_cases c0:v=0
  · obtain ⟨a,i2,h2,e2,a0,a1,hi2⟩:=below_some l hl i1 h1 hi1 4 (by omega) (by omega)
    obtain ⟨b,i3,h3,e3,b0,b1,hi3⟩:=below_some l hl i2 h2 hi2 3 (by omega) (by omega)
    obtain ⟨c,i4,h4,e4,c0',c1,hi4⟩:=below_some l hl i3 h3 hi3 4 (by omega) (by omega)
    have ea:(1+a:Int)=((a.toNat+1:Nat):Int):=by omega
    have eb:(1+b:Int)=((b.toNat+1:Nat):Int):=by omega
    have ec:c=((c.toNat:Nat):Int):=by omega
    have wa:wrap64 (1+a)=1+a:=pw_wrap (by omega) (by omega)
    have wb:wrap64 (1+b)=1+b:=pw_wrap (by omega) (by omega)
    refine ⟨_,_,Ev.bind e ?_,torus_ok (w:=a.toNat) (h:=b.toNat) (c:=c.toNat) (by omega) (by omega) (by omega),.inr (.inl ⟨a.toNat,b.toNat,c.toNat,by omega,by omega,by omega,rfl⟩)⟩
    simp only [e1,Option.bind_some,if_pos c0,e2,e3,e4,wa,wb]
    rw [ea,eb]
    refine Ev.bind (torus_ev (w:=a.toNat) (h:=b.toNat) (by omega) (by omega)) ?_
    rw [ec]
    exact sheared_ev c.toNat (torusP (a.toNat+1) (b.toNat+1)) (fun d hd=>torus_ok (by omega) (by omega) (by omega)) (by omega)
  · by_cases c1:v=1
    · obtain ⟨a,i2,h2,e2,a0,a1,hi2⟩:=below_some l hl i1 h1 hi1 4 (by omega) (by omega)
      obtain ⟨b,i3,h3,e3,b0,b1,hi3⟩:=below_some l hl i2 h2 hi2 4 (by omega) (by omega)
      have ea:(1+a:Int)=((a.toNat+1:Nat):Int):=by omega
      have eb:(1+b:Int)=((b.toNat+1:Nat):Int):=by omega
      have wa:wrap64 (1+a)=1+a:=pw_wrap (by omega) (by omega)
      have wb:wrap64 (1+b)=1+b:=pw_wrap (by omega) (by omega)
      refine ⟨_,_,Ev.bind e ?_,ell_ok (a:=a.toNat) (b:=b.toNat) (by omega) (by omega),.inr (.inr ⟨a.toNat,b.toNat,by omega,by omega,rfl⟩)⟩
      simp only [e1,Option.bind_some,if_neg c0,if_pos c1,e2,e3,wa,wb]
      rw [ea,eb]
      refine Ev.bind (ell_ev (a:=a.toNat) (b:=b.toNat) (by omega) (by omega)) ?_
      exact Ev.now _
    · obtain ⟨a,i2,h2,e2,a0,a1,hi2⟩:=below_some l hl i1 h1 hi1 5 (by omega) (by omega)
      have ea:(1+a:Int)=((a.toNat+1:Nat):Int):=by omega
      have wa:wrap64 (1+a)=1+a:=pw_wrap (by omega) (by omega)
      obtain ⟨r,u,i',h',hr,ht⟩:=surf_l0 l hl a.toNat (by omega) 8 0 i2 h2 (by omega) (by omega) hi2
      refine ⟨r,u,Ev.bind e ?_,ht.1,.inl ht.2⟩
      simp only [e1,Option.bind_some,if_neg c0,if_neg c1]
      unfold s_l03Draw.f
      simp only [e2,Option.bind_some,wa]
      rw [ea]
      refine Ev.bind hr ?_
      exact Ev.now _
theorem mem_push {q:List Int} {x:Int} (k:Int) (h:x∈q):x∈push q k:=by
  unfold push
  split
  · exact List.mem_append_left _ h
  · exact h
theorem mem_pushAll {x:Int}:∀ (ks q:List Int),x∈q→x∈pushAll q ks
  | [],_,h=>h
  | k :: ks,q,h=>mem_pushAll ks (push q k) (mem_push k h)
theorem push_mem {q:List Int} {k:Int} (h:0≤k):k∈push q k:=by
  unfold push
  by_cases hk:k∈q
  · rw [if_neg (fun z=>z.2 hk)]
    exact hk
  · rw [if_pos ⟨h,hk⟩]
    simp
theorem pushAll_mem {k:Int} (h0:0≤k):∀ (ks q:List Int),k∈ks→k∈pushAll q ks
  | [],_,h=>absurd h (by simp)
  | c :: ks,q,h=>by
    rcases List.mem_cons.1 h with rfl|h
    · exact mem_pushAll ks _ (push_mem h0)
    · exact pushAll_mem h0 ks (push q c) h
theorem pushAll_pre : ∀ (ks q:List Int),∃ s,pushAll q ks=q ++ s
  | [],q=>⟨[],by simp [pushAll]⟩
  | k :: ks,q=>by
    obtain ⟨s,hs⟩:=pushAll_pre ks (push q k)
    have e:pushAll q (k :: ks)=pushAll (push q k) ks:=rfl
    rw [e,hs]
    unfold push
    split
    · exact ⟨k :: s,by simp⟩
    · exact ⟨s,rfl⟩
theorem bfs_pre (nb:Int→List Int):∀ (f:Nat) (q:List Int) (i:Nat),∃ s,bfs nb f q i=q ++ s
  | 0,q,i=>⟨[],by simp [bfs]⟩
  | f+1,q,i=>by
    rw [bfs]
    split
    · rename_i h
      obtain ⟨s,hs⟩:=pushAll_pre (nb q[i]) q
      obtain ⟨s',hs'⟩:=bfs_pre nb f (pushAll q (nb q[i])) (i+1)
      exact ⟨s ++ s',by rw [hs',hs,List.append_assoc]⟩
    · exact ⟨[],by simp⟩
theorem bfs_closed {n:Nat} (nb:Int→List Int) (hnb:∀ x:Int,0≤x→x<(n:Int)→∀ k∈nb x,k<(n:Int)):∀ (f:Nat) (q:List Int) (i:Nat),Few n q→f+i=n+1→(∀ j (h:j<q.length),j<i→∀ k∈nb q[j],0≤k→k∈q) →
    ∀ x∈bfs nb f q i,∀ k∈nb x,0≤k→k∈bfs nb f q i
  | 0,q,i,hq,hf,hc=>by
    intro x hx k hk h0
    have e:bfs nb 0 q i=q:=rfl
    rw [e] at hx ⊢
    obtain ⟨j,hj,rfl⟩:=List.getElem_of_mem hx
    have:=few_len hq
    exact hc j hj (by omega) k hk h0
  | f+1,q,i,hq,hf,hc=>by
    rw [bfs]
    split
    · rename_i h
      have hr:=hq.2 _ (List.getElem_mem h)
      have hp:=few_pushAll (nb q[i]) q hq (hnb _ hr.1 hr.2)
      refine bfs_closed nb hnb f _ (i+1) hp.1 (by omega) ?_
      intro j hj hji k hk h0
      obtain ⟨s,hs⟩:=pushAll_pre (nb q[i]) q
      have hjq:j<q.length:=by omega
      have e:(pushAll q (nb q[i]))[j]=q[j]:=by simp [hs,List.getElem_append_left hjq]
      rw [e] at hk
      by_cases hji2:j=i
      · subst hji2
        exact pushAll_mem h0 _ _ hk
      · exact mem_pushAll _ _ (hc j hjq (by omega) k hk h0)
    · rename_i h
      intro x hx k hk h0
      obtain ⟨j,hj,rfl⟩:=List.getElem_of_mem hx
      exact hc j hj (by omega) k hk h0
theorem bfs_sub (nb:Int→List Int) (P:Int→Prop) (hP:∀ x,P x→∀ k∈nb x,0≤k→P k):∀ (f:Nat) (q:List Int) (i:Nat),(∀ x∈q,P x)→∀ x∈bfs nb f q i,P x
  | 0,q,i,h=>h
  | f+1,q,i,h=>by
    rw [bfs]
    split
    · rename_i hi
      refine bfs_sub nb P hP f _ (i+1) ?_
      have hx:=h _ (List.getElem_mem hi)
      have all:∀ (ks q:List Int),(∀ k∈ks,0≤k→P k)→(∀ x∈q,P x)→∀ x∈pushAll q ks,P x:=by
        intro ks
        induction ks with
        | nil=>exact fun q _ h=>h
        | cons k ks ih =>
          intro q hk hq
          refine ih (push q k) (fun z hz=>hk z (List.mem_cons_of_mem _ hz)) ?_
          intro z hz
          unfold push at hz
          split at hz
          · rename_i hc
            rcases List.mem_append.1 hz with hz|hz
            · exact hq z hz
            · simp at hz
              subst hz
              exact hk z List.mem_cons_self hc.1
          · exact hq z hz
      exact all _ q (fun k hk h0=>hP _ hx k hk h0) h
    · exact h

def turnGo (r u a:List Int):Nat→Int→Bool
  | 0,_=>true
  | d+1,i=>if rd a (rd r i)=rd (invL r) (rd a i) then (if rd a (rd u i)=rd (invL u) (rd a i) then turnGo r u a d (i+1) else false) else false
def turnB (r u a:List Int):Bool:=permB a && decide (a.length=r.length) && turnGo r u a a.length 0
def IsT (r u a:List Int):Prop:=isPerm a∧a.length=r.length∧∀ x:Int,0≤x→x<r.length→rd a (rd r x)=rd (invL r) (rd a x)∧rd a (rd u x)=rd (invL u) (rd a x)
theorem turnGo_iff (r u a:List Int):∀ (d:Nat) (i:Int),turnGo r u a d i=true↔∀ x:Int,i≤x→x<i+d→rd a (rd r x)=rd (invL r) (rd a x)∧rd a (rd u x)=rd (invL u) (rd a x)
  | 0,i=>⟨fun _ x h0 h1=>by omega,fun _=>rfl⟩
  | d+1,i=>by
    rw [turnGo]
    constructor
    · intro h x h0 h1
      by_cases c1:rd a (rd r i)=rd (invL r) (rd a i)
      · rw [if_pos c1] at h
        by_cases c2:rd a (rd u i)=rd (invL u) (rd a i)
        · rw [if_pos c2] at h
          by_cases e:x=i
          · subst e
            exact ⟨c1,c2⟩
          · exact(turnGo_iff r u a d (i+1)).1 h x (by omega) (by omega)
        · rw [if_neg c2] at h
          exact absurd h (by simp)
      · rw [if_neg c1] at h
        exact absurd h (by simp)
    · intro h
      have:=h i (by omega) (by omega)
      rw [if_pos this.1,if_pos this.2]
      exact(turnGo_iff r u a d (i+1)).2 fun x h0 h1=>h x (by omega) (by omega)
theorem turnB_iff (r u a:List Int):turnB r u a=true↔IsT r u a:=by
  unfold turnB IsT
  simp only [Bool.and_eq_true,decide_eq_true_eq,permB_iff]
  constructor
  · rintro ⟨⟨h1,h2⟩,h3⟩
    exact ⟨h1,h2,fun x x0 x1=>(turnGo_iff r u a _ 0).1 h3 x x0 (by omega)⟩
  · rintro ⟨h1,h2,h3⟩
    exact ⟨⟨h1,h2⟩,(turnGo_iff r u a _ 0).2 fun x x0 x1=>h3 x x0 (by omega)⟩
theorem i_turn_l0 {r u a:List Int} (hr:isPerm r) (hu:isPerm u) (he:r.length=u.length) (ha:isPerm a) (hl:a.length=r.length):∀ (d:Nat) (i:Int),0≤i→i+d=a.length→Ev (fun k=>i_IsTurn.l0 k a (invL r) (invL u) (a.length:Int) i r u) (turnGo r u a d i)
  | 0,i,h0,hi=>by
    refine ev_up ?_
    simp only [i_IsTurn.l0,if_neg (show ¬ i<(a.length:Int) by omega)]
    exact Ev.now _
  | d+1,i,h0,hi=>by
    have hn:=ha.1
    have b1:=pm_in hr h0 (by omega)
    have b2:=pm_in hu h0 (by omega)
    have b3:=pm_in ha h0 (by omega)
    have l1:=invL_len hr
    have l2:=invL_len hu
    refine ev_up ?_
    simp only [i_IsTurn.l0,if_pos (show i<(a.length:Int) by omega),if_pos h0,if_pos (show i<(r.length:Int) by omega),if_pos b1.1,if_pos (show rd r i<(a.length:Int) by omega),if_pos b3.1,if_pos (show rd a i<((invL r).length:Int) by omega),if_pos (show i<(u.length:Int) by omega),if_pos b2.1,if_pos (show rd u i<(a.length:Int) by omega),if_pos (show rd a i<((invL u).length:Int) by omega),pw_wrap (a:=i+1) (by omega) (by omega)]
    rw [turnGo]
    by_cases c1:rd a (rd r i)=rd (invL r) (rd a i)
    · by_cases c2:rd a (rd u i)=rd (invL u) (rd a i)
      · simp only [if_pos c1,if_pos c2]
        exact i_turn_l0 hr hu he ha hl d (i+1) (by omega) (by omega)
      · simp only [if_pos c1,if_neg c2]
        exact Ev.now _
    · simp only [if_neg c1]
      exact Ev.now _
theorem i_isTurn {r u:List Int} (h:transB r u=true) (a:List Int):Ev (fun k=>i_IsTurn.f k r u a) (turnB r u a):=by
  obtain ⟨hr,hu,he,h0,_⟩:=transB_side h
  unfold i_IsTurn.f turnB
  refine Ev.bind (i_surfOk r u) ?_
  simp only [if_pos h,i_PermOk.f,Option.bind_some]
  by_cases h1:permB a=true
  · have ha:=(permB_iff a).1 h1
    simp only [h1,if_true,Bool.true_and]
    by_cases h2:a.length=r.length
    · simp only [show ((a.length:Int) != (r.length:Int))=false by rw [bne_eq_false_iff_eq];omega,decide_eq_true h2,Bool.true_and]
      refine ev_up ?_
      simp only [i_IsTurn.j0,Bool.false_eq_true,if_false]
      refine Ev.bind (i_inv hr) ?_
      refine Ev.bind (i_inv hu) ?_
      exact i_turn_l0 hr hu he ha h2 a.length 0 (by omega) (by omega)
    · simp only [show ((a.length:Int) != (r.length:Int))=true by rw [bne_iff_ne];omega,decide_eq_false h2,Bool.false_and]
      refine ev_up ?_
      simp only [i_IsTurn.j0,if_true]
      exact Ev.now _
  · simp only [if_neg h1,Bool.eq_false_iff.mpr h1,Bool.false_and]
    refine ev_up ?_
    simp only [i_IsTurn.j0,if_true]
    exact Ev.now _
def stepR (r:List Int) (out:List Int) (i:Int):List Int:=out.set (rd r i).toNat (rd (invL r) (rd out i))
def stepS (r u out:List Int) (i:Int):List Int:=stepR u (stepR r out i) i
def fromS (r u:List Int) (k:Int):List Int:=(reachOf r u).foldl (stepS r u) ((List.replicate r.length 0).set 0 k)
def InR (n:Nat) (out:List Int):Prop:=out.length=n∧∀ x:Int,0≤x→x<n→0≤rd out x∧rd out x<n
theorem stepR_in {r out:List Int} {n:Nat} (hr:isPerm r) (hn:r.length=n) (ho:InR n out) {i:Int} (h0:0≤i) (h1:i<n):InR n (stepR r out i):=by
  have b:=pm_in hr h0 (by omega)
  have c:=ho.2 i h0 h1
  have d:=inv_right hr c.1 (by omega)
  have hl:=ho.1
  refine ⟨by simpa [stepR] using ho.1,fun x x0 x1 => ?_⟩
  unfold stepR
  by_cases e:x=rd r i
  · rw [e,rdS_same b.1 (by omega)]
    omega
  · rw [rdS_ne b.1 x0 e]
    exact ho.2 x x0 x1
theorem stepR_P {r out:List Int} {n:Nat} (hr:isPerm r) (hn:r.length=n) (ho:InR n out) (P:Int→Int→Prop) (hP:∀ v x:Int,0≤v→v<n→0≤x→x<n→P v x→P (rd (invL r) v) (rd r x)) {i:Int} (h0:0≤i) (h1:i<n) (hi:P (rd out i) i) :
    (∀ z:Int,0≤z→z<n→P (rd out z) z→P (rd (stepR r out i) z) z)∧P (rd (stepR r out i) (rd r i)) (rd r i):=by
  have b:=pm_in hr h0 (by omega)
  have c:=ho.2 i h0 h1
  have hl:=ho.1
  have hv:=hP _ _ c.1 c.2 h0 h1 hi
  refine ⟨fun z z0 z1 hz => ?_,?_⟩
  · unfold stepR
    by_cases e:z=rd r i
    · rw [e,rdS_same b.1 (by omega)]
      exact hv
    · rw [rdS_ne b.1 z0 e]
      exact hz
  · unfold stepR
    rw [rdS_same b.1 (by omega)]
    exact hv
def Ord (nb:Int→List Int) (q:List Int):Prop:=∀ (j:Nat) (h:j<q.length),q[j]=0∨∃ (i:Nat) (h':i<j),q[j]∈nb (q[i]'(by omega))
theorem ord_push {nb:Int→List Int} {q:List Int} (ho:Ord nb q) {y k:Int} (hy:y∈q) (hk:k∈nb y):Ord nb (push q k):=by
  unfold push
  split
  · obtain ⟨i,hi,rfl⟩:=List.getElem_of_mem hy
    intro j h
    by_cases hj:j<q.length
    · rw [List.getElem_append_left hj]
      rcases ho j hj with h2|⟨m,hm,h2⟩
      · exact .inl h2
      · exact .inr ⟨m,hm,by rw [List.getElem_append_left (by omega)];exact h2⟩
    · have hj2:j=q.length:=by simp at h;omega
      subst hj2
      refine .inr ⟨i,hi,?_⟩
      rw [List.getElem_append_left hi]
      simpa using hk
  · exact ho
theorem ord_pushAll {nb:Int→List Int} {y:Int}:∀ (ks q:List Int),Ord nb q→y∈q→(∀ k∈ks,k∈nb y)→Ord nb (pushAll q ks)
  | [],q,ho,_,_=>ho
  | k :: ks,q,ho,hy,hk=>by
    have e:pushAll q (k :: ks)=pushAll (push q k) ks:=rfl
    rw [e]
    exact ord_pushAll ks (push q k) (ord_push ho hy (hk k (by simp))) (mem_push k hy) (fun z hz=>hk z (List.mem_cons_of_mem _ hz))
theorem ord_bfs (nb:Int→List Int):∀ (f:Nat) (q:List Int) (i:Nat),Ord nb q→Ord nb (bfs nb f q i)
  | 0,q,i,h=>h
  | f+1,q,i,h=>by
    rw [bfs]
    split
    · rename_i hi
      exact ord_bfs nb f _ _ (ord_pushAll (nb q[i]) q h (List.getElem_mem hi) (fun k hk=>hk))
    · exact h
theorem reach_facts {r u:List Int} (h:transB r u=true):Few r.length (reachOf r u)∧(∀ z:Int,0≤z→z<r.length→z∈reachOf r u)∧Ord (nbT r u) (reachOf r u):=by
  obtain ⟨hr,hu,he,h0,hq⟩:=transB_side h
  have hf:Few r.length (reachOf r u):=bfs_few (nbT r u) (fun x x0 x1 k hk=>(nbT_lt hr hu he x0 x1 k hk).2) _ [0] 0 (few_z h0)
  refine ⟨hf,fun z z0 z1=>few_full hf hq z0 z1,ord_bfs _ _ _ _ ?_⟩
  intro j hj
  have:j=0:=by simp at hj;omega
  subst this
  exact .inl rfl
theorem fold_P {r u:List Int} {n:Nat} (hr:isPerm r) (hu:isPerm u) (hn:r.length=n) (hm:u.length=n) (P:Int→Int→Prop)
    (hR:∀ v x:Int,0≤v→v<n→0≤x→x<n→P v x→P (rd (invL r) v) (rd r x)) (hU:∀ v x:Int,0≤v→v<n→0≤x→x<n→P v x→P (rd (invL u) v) (rd u x))
    (q:List Int) (hq:Few n q) (ho:Ord (nbT r u) q):∀ (suf pre out:List Int),q=pre ++ suf→InR n out→0<n→P (rd out 0) 0→(∀ y∈pre,P (rd out (rd r y)) (rd r y)∧P (rd out (rd u y)) (rd u y)) →
    InR n (suf.foldl (stepS r u) out)∧∀ y∈q,P (rd (suf.foldl (stepS r u) out) (rd r y)) (rd r y)
  | [],pre,out,e,hi,h0,hz,hp=>by
    have e2:q=pre:=by simpa using e
    subst e2
    exact ⟨hi,fun y hy=>(hp y hy).1⟩
  | x :: suf,pre,out,e,hi,h0,hz,hp=>by
    have hx:=hq.2 x (by rw [e];simp)
    have hPx:P (rd out x) x:=by
      have hj:pre.length<q.length:=by rw [e];simp
      have hqj:q[pre.length]=x:=by subst e;simp
      rcases ho pre.length hj with h2|⟨i,hi2,h2⟩
      · rw [hqj] at h2
        rw [h2]
        exact hz
      · have hqi:q[i]∈pre:=by subst e;rw [List.getElem_append_left hi2];exact List.getElem_mem hi2
        rw [hqj] at h2
        simp only [nbT,List.mem_cons,List.not_mem_nil,or_false] at h2
        rcases h2 with h2|h2
        · have:=(hp _ hqi).1
          rwa [← h2] at this
        · have:=(hp _ hqi).2
          rwa [← h2] at this
    have i1:=stepR_in hr hn hi hx.1 hx.2
    have i2:=stepR_in hu hm i1 hx.1 hx.2
    obtain ⟨a1,a2⟩:=stepR_P hr hn hi P hR hx.1 hx.2 hPx
    obtain ⟨b1,b2⟩:=stepR_P hu hm i1 P hU hx.1 hx.2 (a1 x hx.1 hx.2 hPx)
    have rb:∀ y:Int,0≤y→y<n→(0≤rd r y∧rd r y<n)∧(0≤rd u y∧rd u y<n):=fun y y0 y1=>⟨by have:=pm_in hr y0 (by omega);omega,by have:=pm_in hu y0 (by omega);omega⟩
    refine fold_P hr hu hn hm P hR hU q hq ho suf (pre ++ [x]) _ (by simp [e]) i2 h0 (b1 0 (by omega) (by omega) (a1 0 (by omega) (by omega) hz)) ?_
    intro y hy
    have hyq:y∈q:=by
      rw [e]
      rcases List.mem_append.1 hy with hy|hy
      · exact List.mem_append_left _ hy
      · simp at hy
        subst hy
        simp
    have yb:=hq.2 y hyq
    obtain ⟨⟨y1,y2⟩,y3,y4⟩:=rb y yb.1 yb.2
    rcases List.mem_append.1 hy with hy|hy
    · exact ⟨b1 _ y1 y2 (a1 _ y1 y2 (hp y hy).1),b1 _ y3 y4 (a1 _ y3 y4 (hp y hy).2)⟩
    · simp at hy
      subst hy
      exact ⟨b1 _ y1 y2 a2,b2⟩
theorem start_in {n:Nat} (h0:0<n) {k:Int} (k0:0≤k) (k1:k<n):InR n ((List.replicate n (0:Int)).set 0 k)∧rd ((List.replicate n (0:Int)).set 0 k) 0=k:=by
  have e:((List.replicate n (0:Int)).set 0 k)=((List.replicate n (0:Int)).set (0:Int).toNat k):=rfl
  refine ⟨⟨by simp,fun x x0 x1 => ?_⟩,?_⟩
  · by_cases hx:x=0
    · subst hx
      rw [e,rdS_same (by omega) (by simpa using h0)]
      omega
    · rw [e,rdS_ne (by omega) x0 hx]
      have:x.toNat<n:=by omega
      simp [rd,List.getD,List.getElem?_replicate,this]
      omega
  · rw [e,rdS_same (by omega) (by simpa using h0)]
theorem fromS_P {r u:List Int} (h:transB r u=true) (P:Int→Int→Prop) (hR:∀ v x:Int,0≤v→v<r.length→0≤x→x<r.length→P v x→P (rd (invL r) v) (rd r x)) (hU:∀ v x:Int,0≤v→v<r.length→0≤x→x<r.length→P v x→P (rd (invL u) v) (rd u x))
    {k:Int} (k0:0≤k) (k1:k<r.length) (hk:P k 0):InR r.length (fromS r u k)∧∀ z:Int,0≤z→z<r.length→P (rd (fromS r u k) z) z:=by
  obtain ⟨hr,hu,he,h0,_⟩:=transB_side h
  obtain ⟨f1,f2,f3⟩:=reach_facts h
  obtain ⟨s1,s2⟩:=start_in h0 k0 k1
  have:=fold_P hr hu rfl he.symm P hR hU (reachOf r u) f1 f3 (reachOf r u) [] _ rfl s1 h0 (by rw [s2];exact hk) (fun y hy=>by simp at hy)
  refine ⟨this.1,fun z z0 z1 => ?_⟩
  have hz:=inv_right hr z0 z1
  have h2:=this.2 _ (f2 _ hz.2.1 hz.2.2)
  rw [hz.1] at h2
  exact h2
theorem fromS_turn {r u t:List Int} (h:transB r u=true) (ht:IsT r u t):fromS r u (rd t 0)=t:=by
  obtain ⟨hr,hu,he,h0,_⟩:=transB_side h
  obtain ⟨t1,t2,t3⟩:=ht
  have b:=pm_in t1 (x:=0) (by omega) (by omega)
  obtain ⟨i1,i2⟩:=fromS_P h (fun v x=>v=rd t x) (fun v x _ _ x0 x1 e=>by rw [e,(t3 x x0 x1).1]) (fun v x _ _ x0 x1 e=>by rw [e,(t3 x x0 x1).2]) b.1 (by omega) rfl
  exact rd_ext (by rw [i1.1,t2]) (fun x x0 x1=>i2 x x0 (by have:=i1.1;omega))
theorem fromS_zero {r u:List Int} (h:transB r u=true) {k:Int} (k0:0≤k) (k1:k<r.length) (ht:IsT r u (fromS r u k)):rd (fromS r u k) 0=k:=by
  obtain ⟨hr,hu,he,h0,_⟩:=transB_side h
  obtain ⟨t1,t2,t3⟩:=ht
  refine Classical.byContradiction fun hne => ?_
  have tb:∀ x:Int,0≤x→x<r.length→0≤rd (fromS r u k) x∧rd (fromS r u k) x<r.length:=fun x x0 x1=>by have:=pm_in t1 x0 (by omega);omega
  obtain ⟨i1,i2⟩:=fromS_P h (fun v x=>v≠rd (fromS r u k) x) (fun v x v0 v1 x0 x1 e e2=>by
      rw [(t3 x x0 x1).1] at e2
      have:=tb x x0 x1
      have hl:=invL_len hr
      exact e (pm_inj (inv_perm hr) v0 (by omega) this.1 (by omega) e2)) (fun v x v0 v1 x0 x1 e e2=>by
      rw [(t3 x x0 x1).2] at e2
      have:=tb x x0 x1
      have hl:=invL_len hu
      exact e (pm_inj (inv_perm hu) v0 (by omega) this.1 (by omega) e2)) k0 k1 (fun e=>hne e.symm)
  exact i2 0 (by omega) (by omega) rfl
def stepI (q a:List Int) (k v:Int):List Int × List Int:=if rd a k<0 then (q ++ [k],a.set k.toNat v) else (q,a)
def turnI (r u:List Int):Nat→List Int→List Int→Nat→List Int
  | 0,_,a,_=>a
  | f+1,q,a,i=>if h:i<q.length then
      turnI r u f (stepI (stepI q a (rd r q[i]) (rd (invL r) (rd a q[i]))).1 (stepI q a (rd r q[i]) (rd (invL r) (rd a q[i]))).2 (rd u q[i]) (rd (invL u) (rd a q[i]))).1
        (stepI (stepI q a (rd r q[i]) (rd (invL r) (rd a q[i]))).1 (stepI q a (rd r q[i]) (rd (invL r) (rd a q[i]))).2 (rd u q[i]) (rd (invL u) (rd a q[i]))).2 (i+1)
    else a
structure JI (n:Nat) (P:Int→Int→Prop) (m:Int) (q a:List Int):Prop where
  len:a.length=n
  few:Few n q
  met:∀ z:Int,0≤z→z<n→(0≤rd a z↔z∈q)
  val:∀ z∈q,(0≤rd a z∧rd a z<n)∧P (rd a z) z
  zer:rd a 0=m
  mem:(0:Int)∈q
theorem stepI_J {n:Nat} {P:Int→Int→Prop} {m:Int} {q a:List Int} (h:JI n P m q a) {k v:Int} (k0:0≤k) (k1:k<n) (v0:0≤v) (v1:v<n) (hv:P v k) :
    JI n P m (stepI q a k v).1 (stepI q a k v).2∧k∈(stepI q a k v).1∧(∃ s,(stepI q a k v).1=q ++ s):=by
  unfold stepI
  by_cases hk:rd a k<0
  · rw [if_pos hk]
    have hkq:k∉q:=fun hm=>by have:=(h.val k hm).1;omega
    have hl:=h.len
    refine ⟨⟨by simpa using h.len,few_snoc h.few k0 k1 hkq,fun z z0 z1 => ?_,fun z hz => ?_,?_,List.mem_append_left _ h.mem⟩,by simp,⟨[k],rfl⟩⟩
    · by_cases e:z=k
      · subst e
        simp only [rdS_same z0 (show z<(a.length:Int) by omega)]
        simp [v0]
      · simp only [rdS_ne k0 z0 e]
        rw [h.met z z0 z1]
        simp [e]
    · have hzb:0≤z∧z<(n:Int):=(few_snoc h.few k0 k1 hkq).2 z hz
      by_cases e:z=k
      · subst e
        simp only [rdS_same hzb.1 (show z<(a.length:Int) by omega)]
        exact ⟨⟨v0,v1⟩,hv⟩
      · simp only [rdS_ne k0 hzb.1 e]
        refine h.val z ?_
        rcases List.mem_append.1 hz with hz|hz
        · exact hz
        · simp at hz
          exact absurd hz e
    · have:(0:Int)≠k:=fun e=>hkq (e ▸ h.mem)
      simp only [rdS_ne k0 (Int.le_refl 0) this]
      exact h.zer
  · rw [if_neg hk]
    exact ⟨h,(h.met k k0 k1).1 (by omega),⟨[],by simp⟩⟩
theorem turnI_spec {r u:List Int} (h:transB r u=true) (P:Int→Int→Prop) (hR:∀ v x:Int,0≤v→v<r.length→0≤x→x<r.length→P v x→P (rd (invL r) v) (rd r x)) (hU:∀ v x:Int,0≤v→v<r.length→0≤x→x<r.length→P v x→P (rd (invL u) v) (rd u x)) (m:Int) :
    ∀ (f:Nat) (q a:List Int) (i:Nat),JI r.length P m q a→f+i=r.length+1→(∀ (j:Nat) (hj:j<q.length),j<i→rd r q[j]∈q∧rd u q[j]∈q) →
      (turnI r u f q a i).length=r.length∧(∀ z:Int,0≤z→z<r.length→(0≤rd (turnI r u f q a i) z∧rd (turnI r u f q a i) z<r.length)∧P (rd (turnI r u f q a i) z) z)∧rd (turnI r u f q a i) 0=m:=by
  obtain ⟨hr,hu,he,h0,_⟩:=transB_side h
  obtain ⟨f1,f2,f3⟩:=reach_facts h
  have stop:∀ (q a:List Int) (i:Nat),JI r.length P m q a→q.length≤i→(∀ (j:Nat) (hj:j<q.length),j<i→rd r q[j]∈q∧rd u q[j]∈q) →
      a.length=r.length∧(∀ z:Int,0≤z→z<r.length→(0≤rd a z∧rd a z<r.length)∧P (rd a z) z)∧rd a 0=m:=fun q a i hJ hi hc=>by
    refine ⟨hJ.len,fun z z0 z1=>hJ.val z ?_,hJ.zer⟩
    refine bfs_sub (nbT r u) (fun x=>x∈q) (fun x hx k hk _ => ?_) _ [0] 0 (fun x hx=>by simp at hx;subst hx;exact hJ.mem) z (f2 z z0 z1)
    obtain ⟨j,hj,rfl⟩:=List.getElem_of_mem hx
    have:=hc j hj (by omega)
    simp only [nbT,List.mem_cons,List.not_mem_nil,or_false] at hk
    rcases hk with rfl|rfl
    · exact this.1
    · exact this.2
  intro f
  induction f with
  | zero =>
    intro q a i hJ hf hc
    exact stop q a i hJ (by have:=few_len hJ.few;omega) hc
  | succ f ih =>
    intro q a i hJ hf hc
    rw [turnI]
    by_cases hi:i<q.length
    · rw [dif_pos hi]
      have hxq:=List.getElem_mem hi
      have xb:=hJ.few.2 _ hxq
      have xv:=hJ.val _ hxq
      have b1:=pm_in hr xb.1 xb.2
      have b2:=pm_in hu xb.1 (by omega)
      have i1:=inv_right hr xv.1.1 xv.1.2
      have i2:=inv_right hu xv.1.1 (by omega)
      obtain ⟨J1,m1,s1,e1⟩:=stepI_J hJ b1.1 b1.2 i1.2.1 i1.2.2 (hR _ _ xv.1.1 xv.1.2 xb.1 xb.2 xv.2)
      have key:∀ z∈q,rd (stepI q a (rd r q[i]) (rd (invL r) (rd a q[i]))).2 z=rd a z:=fun z hz=>by
        unfold stepI
        split
        · rename_i hneg
          have zb:=hJ.few.2 z hz
          refine rdS_ne b1.1 zb.1 (fun e => ?_)
          have:=(hJ.val z hz).1.1
          rw [e] at this
          omega
        · rfl
      obtain ⟨J2,m2,s2,e2⟩:=stepI_J J1 b2.1 (show rd u q[i]<(r.length:Int) by omega) i2.2.1 (show rd (invL u) (rd a q[i])<(r.length:Int) by omega) (hU _ _ xv.1.1 xv.1.2 xb.1 xb.2 xv.2)
      refine ih _ _ (i+1) J2 (by omega) (fun j hj hji => ?_)
      have hjq:j<q.length:=by
        by_cases e:j=i
        · omega
        · omega
      have eq:(stepI (stepI q a (rd r q[i]) (rd (invL r) (rd a q[i]))).1 (stepI q a (rd r q[i]) (rd (invL r) (rd a q[i]))).2 (rd u q[i]) (rd (invL u) (rd a q[i]))).1=q ++ (s1 ++ s2):=by rw [e2,e1,List.append_assoc]
      have ej:(stepI (stepI q a (rd r q[i]) (rd (invL r) (rd a q[i]))).1 (stepI q a (rd r q[i]) (rd (invL r) (rd a q[i]))).2 (rd u q[i]) (rd (invL u) (rd a q[i]))).1[j]=q[j]:=by
        simp only [eq]
        exact List.getElem_append_left hjq
      rw [ej]
      by_cases e:j=i
      · subst e
        refine ⟨?_,m2⟩
        rw [e2]
        exact List.mem_append_left _ m1
      · have:=hc j hjq (by omega)
        rw [eq]
        exact ⟨List.mem_append_left _ this.1,List.mem_append_left _ this.2⟩
    · rw [dif_neg hi]
      exact stop q a i hJ (by omega) hc
def turnP (r u:List Int) (k:Int):List Int:=turnI r u (r.length+1) [0] ((List.replicate r.length (-1)).set 0 k) 0
theorem start_J {n:Nat} (h0:0<n) {P:Int→Int→Prop} {k:Int} (k0:0≤k) (k1:k<n) (hk:P k 0):JI n P k [0] ((List.replicate n (-1:Int)).set 0 k):=by
  have e:((List.replicate n (-1:Int)).set 0 k)=((List.replicate n (-1:Int)).set (0:Int).toNat k):=rfl
  have hz:rd ((List.replicate n (-1:Int)).set 0 k) 0=k:=by rw [e,rdS_same (by omega) (by simpa using h0)]
  refine ⟨by simp,few_z h0,fun z z0 z1 => ?_,fun z hz2 => ?_,hz,by simp⟩
  · by_cases ez:z=0
    · subst ez
      rw [hz]
      simp [k0]
    · rw [e,rdS_ne (by omega) z0 ez]
      have:z.toNat<n:=by omega
      simp [rd,List.getD,List.getElem?_replicate,this,ez]
  · simp at hz2
    subst hz2
    rw [hz]
    exact ⟨⟨k0,k1⟩,hk⟩
theorem turnP_P {r u:List Int} (h:transB r u=true) (P:Int→Int→Prop) (hR:∀ v x:Int,0≤v→v<r.length→0≤x→x<r.length→P v x→P (rd (invL r) v) (rd r x)) (hU:∀ v x:Int,0≤v→v<r.length→0≤x→x<r.length→P v x→P (rd (invL u) v) (rd u x))
    {k:Int} (k0:0≤k) (k1:k<r.length) (hk:P k 0):(turnP r u k).length=r.length∧(∀ z:Int,0≤z→z<r.length→(0≤rd (turnP r u k) z∧rd (turnP r u k) z<r.length)∧P (rd (turnP r u k) z) z)∧rd (turnP r u k) 0=k:=by
  obtain ⟨hr,hu,he,h0,_⟩:=transB_side h
  exact turnI_spec h P hR hU k (r.length+1) [0] _ 0 (start_J h0 k0 k1 hk) (by omega) (fun j hj hji=>absurd hji (Nat.not_lt_zero _))
theorem turnP_turn {r u t:List Int} (h:transB r u=true) (ht:IsT r u t):turnP r u (rd t 0)=t:=by
  obtain ⟨hr,hu,he,h0,_⟩:=transB_side h
  obtain ⟨t1,t2,t3⟩:=ht
  have b:=pm_in t1 (x:=0) (by omega) (by omega)
  obtain ⟨i1,i2,_⟩:=turnP_P h (fun v x=>v=rd t x) (fun v x _ _ x0 x1 e=>by rw [e,(t3 x x0 x1).1]) (fun v x _ _ x0 x1 e=>by rw [e,(t3 x x0 x1).2]) b.1 (by omega) rfl
  exact rd_ext (by rw [i1,t2]) (fun x x0 x1=>(i2 x x0 (by omega)).2)
theorem turnP_zero {r u:List Int} (h:transB r u=true) {k:Int} (k0:0≤k) (k1:k<r.length):rd (turnP r u k) 0=k:=(turnP_P h (fun _ _=>True) (fun _ _ _ _ _ _ _=>trivial) (fun _ _ _ _ _ _ _=>trivial) k0 k1 trivial).2.2
theorem turn_same {r u:List Int} (h:transB r u=true) {k:Int} (k0:0≤k) (k1:k<r.length):turnB r u (turnP r u k)=turnB r u (fromS r u k)∧(turnB r u (fromS r u k)=true→turnP r u k=fromS r u k):=by
  have key:turnB r u (fromS r u k)=true→turnP r u k=fromS r u k:=fun hs=>by
    have ht:=(turnB_iff r u _).1 hs
    have e:=turnP_turn h ht
    rwa [fromS_zero h k0 k1 ht] at e
  refine ⟨?_,key⟩
  by_cases hs:turnB r u (fromS r u k)=true
  · rw [key hs]
  · by_cases hp:turnB r u (turnP r u k)=true
    · have ht:=(turnB_iff r u _).1 hp
      have e:=fromS_turn h ht
      rw [turnP_zero h k0 k1] at e
      rw [e]
    · rw [Bool.eq_false_iff.mpr hs,Bool.eq_false_iff.mpr hp]
theorem i_to_l0 (r u p q:List Int) (n:Nat) (hn:n≤24) (k:Int) (res:List Int):∀ (d:Nat) (i:Int) (a:List Int),0≤i→i+d=n→a.length=n→(∀ z:Int,0≤z→z<i→rd a z = -1)→0<n →
    Ev (fun j=>i_turnTo.l1 j p q ((List.replicate n (-1:Int)).set 0 k) [0] 0 r u) res→Ev (fun j=>i_turnTo.l0 j k p q a (n:Int) i r u) res
  | 0,i,a,i0,hi,ha,hz,h0,hr=>by
    have e:a=List.replicate n (-1):=rd_ext (by simp [ha]) (fun x x0 x1=>by
      rw [hz x x0 (by omega)]
      have:x.toNat<n:=by omega
      simp [rd,List.getD,List.getElem?_replicate,this])
    subst e
    refine ev_up ?_
    simp only [i_turnTo.l0,if_neg (show ¬ i<(n:Int) by omega),List.length_replicate,if_pos (show 0<(n:Int) by omega)]
    exact hr
  | d+1,i,a,i0,hi,ha,hz,h0,hr=>by
    refine ev_up ?_
    simp only [i_turnTo.l0,if_pos (show i<(n:Int) by omega),if_pos i0,if_pos (show i<(a.length:Int) by omega),pw_wrap (a:=i+1) (by omega) (by omega)]
    refine i_to_l0 r u p q n hn k res d (i+1) _ (by omega) (by omega) (by simpa using ha) (fun z z0 z1 => ?_) h0 hr
    by_cases e:z=i
    · subst e
      exact rdS_same z0 (by omega)
    · rw [rdS_ne i0 z0 e]
      exact hz z z0 (by omega)
theorem i_to_l1 {r u:List Int} (h:transB r u=true) (m:Int):∀ (f:Nat) (q a:List Int) (i:Nat),JI r.length (fun _ _=>True) m q a→f+i=r.length+1 →
    Ev (fun j=>i_turnTo.l1 j (invL r) (invL u) a q (i:Int) r u) (turnI r u f q a i):=by
  obtain ⟨hr,hu,he,h0,_⟩:=transB_side h
  have hn:=hr.1
  intro f
  induction f with
  | zero =>
    intro q a i hJ hf
    have:=few_len hJ.few
    refine ev_up ?_
    simp only [i_turnTo.l1,if_neg (show ¬ (i:Int)<(q.length:Int) by omega)]
    exact Ev.now _
  | succ f ih =>
    intro q a i hJ hf
    have hql:=few_len hJ.few
    rw [turnI]
    refine ev_up ?_
    by_cases hi:i<q.length
    · rw [dif_pos hi]
      have hxq:=List.getElem_mem hi
      have xb:=hJ.few.2 _ hxq
      have xv:=hJ.val _ hxq
      have b1:=pm_in hr xb.1 xb.2
      have b2:=pm_in hu xb.1 (by omega)
      have i1:=inv_right hr xv.1.1 xv.1.2
      have i2:=inv_right hu xv.1.1 (by omega)
      obtain ⟨J1,m1,s1,e1⟩:=stepI_J hJ b1.1 b1.2 i1.2.1 i1.2.2 trivial
      obtain ⟨J2,m2,s2,e2⟩:=stepI_J J1 b2.1 (show rd u q[i]<(r.length:Int) by omega) i2.2.1 (show rd (invL u) (rd a q[i])<(r.length:Int) by omega) trivial
      have l1:=invL_len hr
      have l2:=invL_len hu
      have la:=hJ.len
      have la1:=J1.len
      have q1:=few_len J1.few
      simp only [i_turnTo.l1,if_pos (show (i:Int)<(q.length:Int) by omega),if_pos (Int.natCast_nonneg i),rd_get q i hi]
      generalize q[i]=x at *
      have ih2:=ih _ _ (i+1) J2 (by omega)
      have hw:wrap64 ((i:Int)+1)=((i+1:Nat):Int):=by rw [pw_wrap (by omega) (by omega)];simp
      simp only [if_pos xb.1,if_pos (show x<(r.length:Int) by omega),if_pos (show x<(a.length:Int) by omega),if_pos xv.1.1,if_pos (show rd a x<((invL r).length:Int) by omega),if_pos (show x<(u.length:Int) by omega),if_pos (show rd a x<((invL u).length:Int) by omega),Option.bind_some,List.length_cons,List.length_nil]
      generalize rd (invL r) (rd a x)=v1 at *
      generalize rd (invL u) (rd a x)=v2 at *
      refine ev_up ?_
      simp only [i_turnTo.l2,List.length_cons,List.length_nil,if_pos (show (0:Int)<((0+1+1:Nat):Int) by decide),if_pos (show (0:Int)≤0 by decide),show rd_T63 [(⟨rd r x,v1⟩:S63),⟨rd u x,v2⟩] 0=⟨rd r x,v1⟩ from rfl,if_pos b1.1,if_pos (show rd r x<(a.length:Int) by omega),if_pos (show q.length<17592186044416 by omega),show wrap64 ((0:Int)+1)=1 from (pw_wrap (a:=0+1) (by decide) (by decide)).trans (by decide)]
      have two:Ev (fun j=>i_turnTo.l2 j (invL r) (invL u) (stepI q a (rd r x) v1).2 (stepI q a (rd r x) v1).1 (i:Int) [(⟨rd r x,v1⟩:S63),⟨rd u x,v2⟩] ((0+1+1:Nat):Int) 1 r u) (turnI r u f (stepI (stepI q a (rd r x) v1).1 (stepI q a (rd r x) v1).2 (rd u x) v2).1 (stepI (stepI q a (rd r x) v1).1 (stepI q a (rd r x) v1).2 (rd u x) v2).2 (i+1)):=by
        generalize hS:stepI q a (rd r x) v1=S at *
        obtain ⟨qq,aa⟩:=S
        simp only at *
        refine ev_up ?_
        simp only [i_turnTo.l2,List.length_cons,List.length_nil,if_pos (show (1:Int)<((0+1+1:Nat):Int) by decide),if_pos (show (0:Int)≤1 by decide),show rd_T63 [(⟨rd r x,v1⟩:S63),⟨rd u x,v2⟩] 1=⟨rd u x,v2⟩ from rfl,if_pos b2.1,if_pos (show rd u x<(aa.length:Int) by omega),if_pos (show qq.length<17592186044416 by omega),show wrap64 ((1:Int)+1)=2 from (pw_wrap (a:=1+1) (by decide) (by decide)).trans (by decide)]
        have three:Ev (fun j=>i_turnTo.l2 j (invL r) (invL u) (stepI qq aa (rd u x) v2).2 (stepI qq aa (rd u x) v2).1 (i:Int) [(⟨rd r x,v1⟩:S63),⟨rd u x,v2⟩] ((0+1+1:Nat):Int) 2 r u) (turnI r u f (stepI qq aa (rd u x) v2).1 (stepI qq aa (rd u x) v2).2 (i+1)):=by
          refine ev_up ?_
          simp only [i_turnTo.l2,if_neg (show ¬ (2:Int)<((0+1+1:Nat):Int) by decide),hw]
          exact ih2
        unfold stepI at three ⊢
        by_cases c:rd aa (rd u x)<0
        · simp only [if_pos c] at three ⊢
          exact three
        · simp only [if_neg c] at three ⊢
          exact three
      unfold stepI at two ⊢
      by_cases c:rd a (rd r x)<0
      · simp only [if_pos c] at two ⊢
        exact two
      · simp only [if_neg c] at two ⊢
        exact two
    · rw [dif_neg hi]
      simp only [i_turnTo.l1,if_neg (show ¬ (i:Int)<(q.length:Int) by omega)]
      exact Ev.now _
theorem i_to {r u:List Int} (h:transB r u=true) {k:Int} (k0:0≤k) (k1:k<r.length):Ev (fun j=>i_turnTo.f j r u k) (turnP r u k):=by
  obtain ⟨hr,hu,he,h0,_⟩:=transB_side h
  have hn:=hr.1
  unfold i_turnTo.f
  refine Ev.bind (i_inv hr) ?_
  refine Ev.bind (i_inv hu) ?_
  simp only [if_pos (Int.natCast_nonneg r.length),Int.toNat_natCast,if_pos (show r.length≤35184372088832 by omega),Option.bind_some,List.length_replicate]
  exact i_to_l0 r u _ _ r.length hn k _ r.length 0 _ (by omega) (by omega) (by simp) (fun z z0 z1=>by omega) h0 (i_to_l1 h k (r.length+1) [0] _ 0 (start_J h0 k0 k1 trivial) (by omega))
def turnsGo (r u:List Int):Nat→Int→List (List Int)→List (List Int)
  | 0,_,out=>out
  | d+1,i,out=>turnsGo r u d (i+1) (if turnB r u (fromS r u i)=true then out ++ [fromS r u i] else out)
def turnsOf (r u:List Int):List (List Int):=if transB r u=true then turnsGo r u r.length 0 [] else []
theorem i_turns_l0 {r u:List Int} (h:transB r u=true):∀ (d:Nat) (i:Int) (out:List (List Int)),0≤i→i+d=r.length→out.length+d≤24→Ev (fun k=>i_TurnsOf.l0 k out (r.length:Int) i r u) (turnsGo r u d i out)
  | 0,i,out,i0,hi,ho=>by
    refine ev_up ?_
    simp only [i_TurnsOf.l0,if_neg (show ¬ i<(r.length:Int) by omega)]
    exact Ev.now _
  | d+1,i,out,i0,hi,ho=>by
    have hn:=(transB_side h).1.1
    have i1:i<r.length:=by omega
    have hs:=turn_same h i0 i1
    refine ev_up ?_
    simp only [i_TurnsOf.l0,if_pos i1,pw_wrap (a:=i+1) (by omega) (by omega)]
    refine Ev.bind (i_to h i0 i1) ?_
    refine Ev.bind (i_isTurn h _) ?_
    rw [turnsGo,hs.1]
    by_cases c:turnB r u (fromS r u i)=true
    · simp only [if_pos c,if_pos (show out.length<5864062014805 by omega),hs.2 c]
      exact i_turns_l0 h d (i+1) _ (by omega) (by omega) (by simp;omega)
    · simp only [if_neg c]
      exact i_turns_l0 h d (i+1) _ (by omega) (by omega) (by omega)
theorem i_turns (r u:List Int):Ev (fun k=>i_TurnsOf.f k r u) (turnsOf r u):=by
  unfold i_TurnsOf.f turnsOf
  refine Ev.bind (i_surfOk r u) ?_
  by_cases h:transB r u=true
  · simp only [if_pos h]
    exact i_turns_l0 h r.length 0 [] (by omega) (by omega) (by have:=(transB_side h).1.1;simp;omega)
  · simp only [if_neg h]
    exact Ev.now _
theorem turnsGo_mem (r u:List Int):∀ (d:Nat) (i:Int) (out:List (List Int)),(∀ a∈out,turnB r u a=true)→∀ a∈turnsGo r u d i out,turnB r u a=true
  | 0,_,out,h,a,ha=>h a ha
  | d+1,i,out,h,a,ha=>by
    rw [turnsGo] at ha
    refine turnsGo_mem r u d (i+1) _ (fun b hb => ?_) a ha
    split at hb
    · rename_i c
      rcases List.mem_append.1 hb with hb|hb
      · exact h b hb
      · simp at hb
        subst hb
        exact c
    · exact h b hb
theorem turnsOf_mem {r u a:List Int} (ha:a∈turnsOf r u):transB r u=true∧turnB r u a=true:=by
  unfold turnsOf at ha
  split at ha
  · rename_i h
    exact ⟨h,turnsGo_mem r u _ _ [] (fun b hb=>absurd hb (by simp)) a ha⟩
  · exact absurd ha (by simp)

def iter (f:Int→Int):Nat→Int→Int
  | 0,x=>x
  | m+1,x=>iter f m (f x)
theorem iter_succ (f:Int→Int):∀ (m:Nat) (x:Int),iter f (m+1) x=f (iter f m x)
  | 0,_=>rfl
  | m+1,x=>by rw [iter,iter_succ f m (f x),← iter]
theorem iter_bd {n:Nat} {f:Int→Int} (hb:∀ x:Int,0≤x→x<n→0≤f x∧f x<n):∀ (m:Nat) {x:Int},0≤x→x<n→0≤iter f m x∧iter f m x<n
  | 0,_,h0,h1=>⟨h0,h1⟩
  | m+1,x,h0,h1=>iter_bd hb m (hb x h0 h1).1 (hb x h0 h1).2
def orb (f:Int→Int):Nat→Int→List Int
  | 0,x=>[x]
  | k+1,x=>x :: (orb f k x).map f
theorem orb_len (f:Int→Int):∀ (k:Nat) (x:Int),(orb f k x).length=k+1
  | 0,_=>rfl
  | k+1,x=>by simp [orb,orb_len f k x]
theorem orb_mem (f:Int→Int):∀ (k:Nat) (x y:Int),y∈orb f k x→∃ m,m≤k∧y=iter f m x
  | 0,x,y,h=>by
    simp only [orb,List.mem_singleton] at h
    exact ⟨0,Nat.le_refl _,h⟩
  | k+1,x,y,h=>by
    simp only [orb,List.mem_cons,List.mem_map] at h
    rcases h with rfl|⟨z,hz,rfl⟩
    · exact ⟨0,by omega,rfl⟩
    · obtain ⟨m,hm,rfl⟩:=orb_mem f k x z hz
      exact ⟨m+1,by omega,(iter_succ f m x).symm⟩
theorem map_nodup {n:Nat} {g:Int→Int} (hg:∀ x y:Int,0≤x→x<n→0≤y→y<n→g x=g y→x=y):∀ q:List Int,(∀ x∈q,0≤x∧x<(n:Int))→q.Nodup→(q.map g).Nodup
  | [],_,_=>List.nodup_nil
  | y :: q,hb,hn=>by
    have hn2:=List.nodup_cons.1 hn
    rw [List.map_cons,List.nodup_cons]
    refine ⟨fun hm => ?_,map_nodup hg q (fun z hz=>hb z (List.mem_cons_of_mem _ hz)) hn2.2⟩
    obtain ⟨z,hz,e⟩:=List.mem_map.1 hm
    have b1:=hb z (List.mem_cons_of_mem _ hz)
    have b2:=hb y List.mem_cons_self
    have:=hg z y b1.1 b1.2 b2.1 b2.2 e
    subst this
    exact hn2.1 hz
theorem orb_few {n:Nat} {f:Int→Int} (hb:∀ x:Int,0≤x→x<n→0≤f x∧f x<n) (hg:∀ x y:Int,0≤x→x<n→0≤y→y<n→f x=f y→x=y) {x:Int} (h0:0≤x) (h1:x<n):∀ k:Nat,(∀ m,1≤m→m≤k→iter f m x≠x)→Few n (orb f k x)
  | 0,_=>⟨by simp [orb],fun y hy=>by simp only [orb,List.mem_singleton] at hy;subst hy;exact ⟨h0,h1⟩⟩
  | k+1,h=>by
    have ih:=orb_few hb hg h0 h1 k (fun m a b=>h m a (by omega))
    refine ⟨?_,fun y hy => ?_⟩
    · rw [orb,List.nodup_cons]
      refine ⟨fun hm => ?_,map_nodup hg _ ih.2 ih.1⟩
      obtain ⟨z,hz,e⟩:=List.mem_map.1 hm
      obtain ⟨m,hm2,rfl⟩:=orb_mem f k x z hz
      have e:f (iter f m x)=x:=e
      rw [← iter_succ f m x] at e
      exact h (m+1) (by omega) (by omega) e
    · obtain ⟨m,_,rfl⟩:=orb_mem f (k+1) x y hy
      exact iter_bd hb m h0 h1
theorem iter_ret {n:Nat} {f:Int→Int} (hb:∀ x:Int,0≤x→x<n→0≤f x∧f x<n) (hg:∀ x y:Int,0≤x→x<n→0≤y→y<n→f x=f y→x=y) {x:Int} (h0:0≤x) (h1:x<n):∃ m,1≤m∧m≤n∧iter f m x=x:=by
  refine Classical.byContradiction fun hc => ?_
  have:=few_len (orb_few hb hg h0 h1 n (fun m a b e=>hc ⟨m,a,b,e⟩))
  rw [orb_len] at this
  omega
theorem rd_memL {q:List Int} {x:Int} (x0:0≤x) (x1:x<q.length):rd q x∈q:=by
  have e:((x.toNat:Nat):Int)=x:=by omega
  rw [← e,rd_get q x.toNat (by omega)]
  exact List.getElem_mem _
def reachK (r u:List Int) (k:Int):List Int:=bfs (nbT r u) (r.length+1) [k] 0
theorem few_one {n:Nat} {k:Int} (k0:0≤k) (k1:k<n):Few n [k]:=⟨by simp,fun x hx=>by simp at hx;subst hx;exact ⟨k0,k1⟩⟩
theorem few_isPerm {q:List Int} {n:Nat} (hn:n≤24) (h:Few n q) (hl:q.length=n):isPerm q:=⟨by omega,fun x hx=>by have:=h.2 x hx;omega,h.1⟩
theorem closed_back {p:List Int} (hp:isPerm p) {P:Int→Prop} (hP:∀ x:Int,0≤x→x<p.length→P x→P (rd p x)) {x:Int} (x0:0≤x) (x1:x<p.length) (h:P (rd p x)):P x:=by
  obtain ⟨m,m1,hm⟩:∃ m,0<m∧iter (rd p) m x=x:=by
    obtain ⟨p',p1,_,e⟩:=iter_ret (n:=p.length) (f:=rd p) (fun y y0 y1=>pm_in hp y0 y1) (fun a b a0 a1 b0 b1 e=>pm_inj hp a0 a1 b0 b1 e) x0 x1
    exact ⟨p',p1,e⟩
  obtain ⟨m',rfl⟩:∃ m',m=m'+1:=⟨m - 1,by omega⟩
  have e:iter (rd p) m' (rd p x)=x:=hm
  have b:=pm_in hp x0 x1
  have key:∀ j,P (iter (rd p) j (rd p x))∧0≤iter (rd p) j (rd p x)∧iter (rd p) j (rd p x)<p.length:=by
    intro j
    induction j with
    | zero=>exact ⟨h,b.1,b.2⟩
    | succ j ih =>
      rw [iter_succ]
      exact ⟨hP _ ih.2.1 ih.2.2 ih.1,pm_in hp ih.2.1 ih.2.2⟩
  rw [← e]
  exact(key m').1
theorem reachK_full {r u:List Int} (h:transB r u=true) {k:Int} (k0:0≤k) (k1:k<r.length):Few r.length (reachK r u k)∧(reachK r u k).length=r.length:=by
  obtain ⟨hr,hu,he,h0,hq⟩:=transB_side h
  obtain ⟨g1,g2,g3⟩:=reach_facts h
  have hnb:∀ x:Int,0≤x→x<r.length→∀ y∈nbT r u x,0≤y∧y<(r.length:Int):=fun x x0 x1=>nbT_lt hr hu he x0 x1
  have hf:Few r.length (reachK r u k):=bfs_few (nbT r u) (fun x x0 x1 y hy=>(hnb x x0 x1 y hy).2) _ [k] 0 (few_one k0 k1)
  have hc:=bfs_closed (n:=r.length) (nbT r u) (fun x x0 x1 y hy=>(hnb x x0 x1 y hy).2) (r.length+1) [k] 0 (few_one k0 k1) (by omega) (fun j hj hji=>absurd hji (Nat.not_lt_zero _))
  have hk:k∈reachK r u k:=by
    obtain ⟨s,hs⟩:=bfs_pre (nbT r u) (r.length+1) [k] 0
    unfold reachK
    rw [hs]
    simp
  have c1:∀ x:Int,0≤x→x<r.length→x∈reachK r u k→rd r x∈reachK r u k:=fun x x0 x1 hx=>hc x hx _ (by simp [nbT]) (pm_in hr x0 x1).1
  have c2:∀ x:Int,0≤x→x<u.length→x∈reachK r u k→rd u x∈reachK r u k:=fun x x0 x1 hx=>hc x hx _ (by simp [nbT]) (pm_in hu x0 x1).1
  have n1:∀ x:Int,0≤x→x<r.length→x∉reachK r u k→rd r x∉reachK r u k:=fun x x0 x1 hx hm=>hx (closed_back hr c1 x0 x1 hm)
  have n2:∀ x:Int,0≤x→x<u.length→x∉reachK r u k→rd u x∉reachK r u k:=fun x x0 x1 hx hm=>hx (closed_back hu c2 x0 x1 hm)
  have z:(0:Int)∈reachK r u k:=by
    refine Classical.byContradiction fun hz => ?_
    have all:=bfs_sub (nbT r u) (fun x=>(0≤x∧x<(r.length:Int))∧x∉reachK r u k) (fun x hx y hy _=>by
      refine ⟨hnb x hx.1.1 hx.1.2 y hy,?_⟩
      simp only [nbT,List.mem_cons,List.not_mem_nil,or_false] at hy
      rcases hy with rfl|rfl
      · exact n1 x hx.1.1 hx.1.2 hx.2
      · exact n2 x hx.1.1 (by omega) hx.2) (r.length+1) [0] 0 (fun x hx=>by simp at hx;subst hx;exact ⟨⟨by omega,by omega⟩,hz⟩)
    exact(all k (g2 k k0 k1)).2 hk
  have full:∀ x:Int,0≤x→x<r.length→x∈reachK r u k:=fun x x0 x1 =>
    bfs_sub (nbT r u) (fun x=>x∈reachK r u k) (fun x hx y hy y0=>hc x hx y hy y0) (r.length+1) [0] 0 (fun x hx=>by simp at hx;subst hx;exact z) x (g2 x x0 x1)
  refine ⟨hf,?_⟩
  have hl:=few_len hf
  refine Nat.le_antisymm hl (Nat.le_of_not_lt fun hlt => ?_)
  have hp:=few_isPerm hr.1 g1 (by
    have:=hq
    exact this)
  have hle:(reachOf r u).length≤(reachK r u k).length:=by
    have hs:∀ x∈reachOf r u,x∈reachK r u k:=fun x hx=>full x (g1.2 x hx).1 (g1.2 x hx).2
    have key:∀ (a b:List Int),a.Nodup→(∀ x∈a,x∈b)→a.length≤b.length:=by
      intro a
      induction a with
      | nil=>intro b _ _;simp
      | cons x a ih =>
        intro b hn hs
        obtain ⟨b1,b2,rfl⟩:=List.append_of_mem (hs x (by simp))
        have hx:=List.nodup_cons.1 hn
        have:=ih (b1 ++ b2) hx.2 (fun y hy=>by
          have:=hs y (List.mem_cons_of_mem _ hy)
          simp only [List.mem_append,List.mem_cons] at this ⊢
          rcases this with h|h|h
          · exact .inl h
          · subst h;exact absurd hy hx.1
          · exact .inr h)
        simp only [List.length_append,List.length_cons] at this ⊢
        omega
    exact key _ _ g1.1 hs
  omega
def namesOf (r u:List Int) (k:Int):List Int:=invL (reachK r u k)
theorem reachK_perm {r u:List Int} (h:transB r u=true) {k:Int} (k0:0≤k) (k1:k<r.length):isPerm (reachK r u k):=by
  have hf:=reachK_full h k0 k1
  exact few_isPerm (transB_side h).1.1 hf.1 hf.2
theorem names_perm {r u:List Int} (h:transB r u=true) {k:Int} (k0:0≤k) (k1:k<r.length):isPerm (namesOf r u k)∧(namesOf r u k).length=r.length:=by
  have hp:=reachK_perm h k0 k1
  have hf:=reachK_full h k0 k1
  exact ⟨inv_perm hp,by unfold namesOf;rw [invL_len hp,hf.2]⟩
def numI (n:Nat) (q:List Int):List Int:=(List.range n).map fun (z:Nat)=>if (z:Int)∈q then ((q.idxOf (z:Int):Nat):Int) else -1
theorem numI_len (n:Nat) (q:List Int):(numI n q).length=n:=by simp [numI]
theorem numI_rd (n:Nat) (q:List Int) {z:Int} (z0:0≤z) (z1:z<n):rd (numI n q) z=if z∈q then ((q.idxOf z:Nat):Int) else -1:=by
  have e:((z.toNat:Nat):Int)=z:=by omega
  simp [rd,numI,List.getD,show z.toNat<n by omega,e]
theorem numI_push (n:Nat) (q:List Int) {x:Int} (x0:0≤x) (x1:x<n) (hx:x∉q):(numI n q).set x.toNat (q.length:Int)=numI n (q ++ [x]):=by
  refine rd_ext (by simp [numI]) (fun z z0 z1 => ?_)
  rw [List.length_set,numI_len] at z1
  rw [numI_rd n _ z0 z1]
  by_cases e:z=x
  · subst e
    rw [rdS_same x0 (by rw [numI_len];exact x1),if_pos (by simp),List.idxOf_append,if_neg hx]
    simp
  · rw [rdS_ne x0 z0 e,numI_rd n q z0 z1]
    by_cases hz:z∈q
    · rw [if_pos hz,if_pos (List.mem_append_left _ hz),List.idxOf_append,if_pos hz]
    · rw [if_neg hz,if_neg (by simp [hz,e])]
theorem numI_full {n:Nat} {q:List Int} (hq:isPerm q) (hl:q.length=n):numI n q=invL q:=by
  refine rd_ext (by rw [numI_len,invL_len hq,hl]) (fun z z0 z1 => ?_)
  rw [numI_len] at z1
  have hz:=inv_right hq z0 (by omega)
  have hm:z∈q:=by
    have:=rd_memL (q:=q) hz.2.1 (by omega)
    rwa [hz.1] at this
  rw [numI_rd n q z0 z1,if_pos hm]
  have hi:q.idxOf z<q.length:=List.idxOf_lt_length_of_mem hm
  have e:rd q ((q.idxOf z:Nat):Int)=z:=by rw [rd_get q _ hi];exact List.getElem_idxOf hi
  exact pm_inj hq (by omega) (by omega) hz.2.1 hz.2.2 (by rw [e,hz.1])
theorem i_names_l2 (rr u:List Int) (n:Nat) (hn:n≤24) (x8:Int) (hx:0≤x8∧x8≤1000) (ys:List Int) (hy:ys.length≤1000) (r:List Int):∀ (suf pre q:List Int),ys=pre ++ suf→Few n q→(∀ k∈suf,0≤k∧k<(n:Int)) →
    Ev (fun k=>i_NamesFrom.l1 k (numI n (pushAll q suf)) (pushAll q suf) (x8+1) rr u) r→Ev (fun k=>i_NamesFrom.l2 k (numI n q) q x8 ys (ys.length:Int) (pre.length:Int) rr u) r:=by
  intro suf
  induction suf with
  | nil =>
    intro pre q h hq hk hr
    subst h
    refine ev_up ?_
    simp only [i_NamesFrom.l2,if_neg (nlt_end pre),pw_wrap (a:=x8+1) (by omega) (by omega)]
    exact hr
  | cons c suf ih =>
    intro pre q h hq hk hr
    have hc:=hk c (by simp)
    have hf:=few_push hq hc.2
    have hi:=ih (pre ++ [c]) (push q c) (by simp [h]) hf (fun k h'=>hk k (by simp [h'])) hr
    subst h
    have hql:=few_len hq
    refine ev_up ?_
    simp only [i_NamesFrom.l2,if_pos (lt_mid pre suf c),if_pos (Int.natCast_nonneg pre.length),rd_mid,wrap_snoc (x:=c) (s:=suf) (p:=pre) (by simp at hy ⊢;omega),if_pos hc.1,numI_len,if_pos hc.2,numI_rd n q hc.1 hc.2]
    by_cases hm:c∈q
    · simp only [if_pos hm,if_neg (show ¬ ((q.idxOf c:Nat):Int)<0 by omega)]
      unfold push at hi
      rw [if_neg (fun h=>h.2 hm)] at hi
      exact hi
    · simp only [if_neg hm,if_pos (show (-1:Int)<0 by omega),if_pos (show q.length<17592186044416 by omega),numI_push n q hc.1 hc.2 hm]
      unfold push at hi
      rw [if_pos ⟨hc.1,hm⟩] at hi
      exact hi
theorem i_names_l1 {rr u:List Int} (hr:isPerm rr) (hu:isPerm u) (he:rr.length=u.length):∀ (f:Nat) (q:List Int) (i:Nat),Few rr.length q→i≤q.length→f+i=rr.length+1 →
    Ev (fun k=>i_NamesFrom.l1 k (numI rr.length q) q (i:Int) rr u) (numI rr.length (bfs (nbT rr u) f q i)):=by
  intro f
  have hn:=hr.1
  induction f with
  | zero =>
    intro q i hq hi hf
    have:=few_len hq
    omega
  | succ f ih =>
    intro q i hq hi hf
    have hql:=few_len hq
    refine ev_up ?_
    by_cases h:i<q.length
    · have hx:=hq.2 _ (List.getElem_mem h)
      simp only [i_NamesFrom.l1,if_pos (show ((i:Nat):Int)<(q.length:Int) by omega),if_pos (Int.natCast_nonneg i),rd_get q i h,if_pos hx.1,if_pos hx.2,if_pos (show q[i]<(u.length:Int) by omega),Option.bind_some]
      have hlt:=nbT_lt hr hu he hx.1 hx.2
      have hp:=few_pushAll _ q hq (fun k hk=>(hlt k hk).2)
      have:=ih _ (i+1) hp.1 (by have:=hp.2;omega) (by omega)
      rw [bfs,dif_pos h]
      exact i_names_l2 rr u rr.length hn i (by omega) (nbT rr u q[i]) (by simp [nbT]) _ _ [] q rfl hq hlt this
    · simp only [i_NamesFrom.l1,if_neg (show ¬ ((i:Nat):Int)<(q.length:Int) by omega)]
      rw [bfs_done _ _ _ _ h]
      exact Ev.now _
theorem i_names_l0 (r u:List Int) (n:Nat) (hn:n≤24) {k:Int} (k0:0≤k) (k1:k<n) (res:List Int):∀ (d:Nat) (i:Int) (a:List Int),0≤i→i+d=n→a.length=n→(∀ z:Int,0≤z→z<i→rd a z = -1) →
    Ev (fun j=>i_NamesFrom.l1 j (numI n [k]) [k] 0 r u) res→Ev (fun j=>i_NamesFrom.l0 j k a (n:Int) i r u) res
  | 0,i,a,i0,hi,ha,hz,hr=>by
    have e:a=numI n []:=rd_ext (by rw [numI_len,ha]) (fun x x0 x1=>by
      rw [hz x x0 (by omega),numI_rd n [] x0 (by omega)]
      simp)
    subst e
    have e2:=numI_push n [] k0 k1 (by simp)
    refine ev_up ?_
    simp only [i_NamesFrom.l0,if_neg (show ¬ i<(n:Int) by omega),if_pos k0,numI_len,if_pos k1]
    have e3:(numI n []).set k.toNat 0=numI n [k]:=e2
    rw [e3]
    exact hr
  | d+1,i,a,i0,hi,ha,hz,hr=>by
    refine ev_up ?_
    simp only [i_NamesFrom.l0,if_pos (show i<(n:Int) by omega),if_pos i0,if_pos (show i<(a.length:Int) by omega),pw_wrap (a:=i+1) (by omega) (by omega)]
    refine i_names_l0 r u n hn k0 k1 res d (i+1) _ (by omega) (by omega) (by simpa using ha) (fun z z0 z1 => ?_) hr
    by_cases e:z=i
    · subst e
      exact rdS_same z0 (by omega)
    · rw [rdS_ne i0 z0 e]
      exact hz z z0 (by omega)
theorem i_names {r u:List Int} (h:transB r u=true) {k:Int} (k0:0≤k) (k1:k<r.length):Ev (fun j=>i_NamesFrom.f j r u k) (namesOf r u k):=by
  obtain ⟨hr,hu,he,h0,_⟩:=transB_side h
  have hn:=hr.1
  have hf:=reachK_full h k0 k1
  unfold i_NamesFrom.f
  refine Ev.bind (i_surfOk r u) ?_
  simp only [if_pos h,if_neg (show ¬ k<0 by omega),decide_eq_false (show ¬ k≥(r.length:Int) by omega)]
  refine ev_up ?_
  simp only [i_NamesFrom.j0,Bool.false_eq_true,if_false,if_pos (Int.natCast_nonneg r.length),Int.toNat_natCast,if_pos (show r.length≤35184372088832 by omega),Option.bind_some,List.length_replicate]
  refine i_names_l0 r u r.length hn k0 k1 _ r.length 0 _ (by omega) (by omega) (by simp) (fun z z0 z1=>by omega) ?_
  have e:namesOf r u k=numI r.length (reachK r u k):=(numI_full (reachK_perm h k0 k1) hf.2).symm
  rw [e]
  exact i_names_l1 hr hu he (r.length+1) [k] 0 (few_one k0 k1) (by simp) (by omega)
def renGo (p nm:List Int):Nat→Int→List Int→List Int
  | 0,_,out=>out
  | d+1,i,out=>renGo p nm d (i+1) (out.set (rd nm i).toNat (rd nm (rd p i)))
def renL (p nm:List Int):List Int:=renGo p nm p.length 0 (List.replicate p.length 0)
theorem renGo_spec {p nm:List Int} (hp:isPerm p) (hm:isPerm nm) (he:nm.length=p.length):∀ (d:Nat) (i:Int) (out:List Int),0≤i→i+d=p.length→out.length=p.length→(∀ j:Int,0≤j→j<i→rd out (rd nm j)=rd nm (rd p j)) →
    (renGo p nm d i out).length=p.length∧∀ j:Int,0≤j→j<p.length→rd (renGo p nm d i out) (rd nm j)=rd nm (rd p j)
  | 0,i,out,i0,hi,ho,hj=>⟨ho,fun j j0 j1=>hj j j0 (by omega)⟩
  | d+1,i,out,i0,hi,ho,hj=>by
    have b:=pm_in hm i0 (show i<nm.length by omega)
    rw [renGo]
    refine renGo_spec hp hm he d (i+1) _ (by omega) (by omega) (by simpa using ho) (fun j j0 j1 => ?_)
    by_cases e:j=i
    · subst e
      exact rdS_same b.1 (by omega)
    · have c:=pm_in hm j0 (show j<nm.length by omega)
      rw [rdS_ne b.1 c.1 (fun q=>e (pm_inj hm j0 (by omega) i0 (by omega) q))]
      exact hj j j0 (by omega)
theorem renL_len {p nm:List Int} (hp:isPerm p) (hm:isPerm nm) (he:nm.length=p.length):(renL p nm).length=p.length:=(renGo_spec hp hm he p.length 0 _ (by omega) (by omega) (by simp) (fun j j0 j1=>by omega)).1
theorem renL_rd {p nm:List Int} (hp:isPerm p) (hm:isPerm nm) (he:nm.length=p.length) {j:Int} (j0:0≤j) (j1:j<p.length):rd (renL p nm) (rd nm j)=rd nm (rd p j):=(renGo_spec hp hm he p.length 0 _ (by omega) (by omega) (by simp) (fun j j0 j1=>by omega)).2 j j0 j1
theorem renL_perm {p nm:List Int} (hp:isPerm p) (hm:isPerm nm) (he:nm.length=p.length):isPerm (renL p nm):=by
  have hl:=renL_len hp hm he
  have val:∀ x:Int,0≤x→x<p.length→∃ j:Int,0≤j∧j<p.length∧x=rd nm j∧rd (renL p nm) x=rd nm (rd p j):=fun x x0 x1=>by
    obtain ⟨j,j0,j1,rfl⟩:=pm_sur hm x0 (by omega)
    exact ⟨j,j0,by omega,rfl,renL_rd hp hm he j0 (by omega)⟩
  have hn:=hp.1
  refine pm_of (by omega) (fun x x0 x1 => ?_) (fun x y x0 x1 y0 y1 e => ?_)
  · obtain ⟨j,j0,j1,_,e⟩:=val x x0 (by omega)
    have b:=pm_in hp j0 j1
    have c:=pm_in hm b.1 (by omega)
    rw [e]
    omega
  · obtain ⟨j,j0,j1,rfl,ex⟩:=val x x0 (by omega)
    obtain ⟨l,l0,l1,rfl,ey⟩:=val y y0 (by omega)
    rw [ex,ey] at e
    have b:=pm_in hp j0 j1
    have c:=pm_in hp l0 l1
    rw [pm_inj hp j0 j1 l0 l1 (pm_inj hm b.1 (by omega) c.1 (by omega) e)]
theorem i_ren_l0 {p nm:List Int} (hp:isPerm p) (hm:isPerm nm) (he:nm.length=p.length):∀ (d:Nat) (i:Int) (out:List Int),0≤i→i+d=p.length→out.length=p.length→Ev (fun k=>i_RenamePerm.l0 k nm out p (p.length:Int) i) (renGo p nm d i out)
  | 0,i,out,i0,hi,ho=>by
    refine ev_up ?_
    simp only [i_RenamePerm.l0,if_neg (show ¬ i<(p.length:Int) by omega)]
    exact Ev.now _
  | d+1,i,out,i0,hi,ho=>by
    have hn:=hp.1
    have i1:i<p.length:=by omega
    have b:=pm_in hp i0 i1
    have c:=pm_in hm i0 (show i<nm.length by omega)
    refine ev_up ?_
    simp only [i_RenamePerm.l0,if_pos i1,if_pos i0,if_pos (show i<(nm.length:Int) by omega),if_pos b.1,if_pos (show rd p i<(nm.length:Int) by omega),if_pos c.1,if_pos (show rd nm i<(out.length:Int) by omega),pw_wrap (a:=i+1) (by omega) (by omega)]
    rw [renGo]
    exact i_ren_l0 hp hm he d (i+1) _ (by omega) (by omega) (by simpa using ho)
theorem i_ren {p nm:List Int} (hp:isPerm p) (hm:isPerm nm) (he:nm.length=p.length):Ev (fun k=>i_RenamePerm.f k p nm) (renL p nm):=by
  have hn:=hp.1
  unfold i_RenamePerm.f
  simp only [i_PermOk.f,(permB_iff p).2 hp,(permB_iff nm).2 hm,Option.bind_some,if_true,show ((p.length:Int) != (nm.length:Int))=false by rw [bne_eq_false_iff_eq];omega]
  refine ev_up ?_
  simp only [i_RenamePerm.j0,Bool.false_eq_true,if_false,if_pos (Int.natCast_nonneg p.length),Int.toNat_natCast,if_pos (show p.length≤35184372088832 by omega)]
  exact i_ren_l0 hp hm he p.length 0 _ (by omega) (by omega) (by simp)
theorem i_renS {r u nm:List Int} (h:transB r u=true) (hm:isPerm nm) (he:nm.length=r.length):Ev (fun k=>i_RenameSurface.f k r u nm) (renL r nm,renL u nm,true):=by
  obtain ⟨hr,hu,he2,h0,_⟩:=transB_side h
  unfold i_RenameSurface.f
  refine Ev.bind (i_surfOk r u) ?_
  simp only [if_pos h,i_PermOk.f,(permB_iff nm).2 hm,Option.bind_some,if_true,show ((nm.length:Int) != (r.length:Int))=false by rw [bne_eq_false_iff_eq];omega]
  refine ev_up ?_
  simp only [i_RenameSurface.j0,Bool.false_eq_true,if_false]
  refine Ev.bind (i_ren hr hm he) ?_
  refine Ev.bind (i_ren hu hm (by omega)) ?_
  exact Ev.now _

abbrev Sf := S25
def renS (r u:List Int) (k:Int):Sf:=⟨renL r (namesOf r u k),renL u (namesOf r u k)⟩
theorem renS_len {r u:List Int} (h:transB r u=true) {k:Int} (k0:0≤k) (k1:k<r.length):(renS r u k).f0.length=r.length∧(renS r u k).f1.length=r.length:=by
  obtain ⟨hr,hu,he,h0,_⟩:=transB_side h
  have hm:=names_perm h k0 k1
  exact ⟨renL_len hr hm.1 hm.2,by rw [he];exact renL_len hu hm.1 (by omega)⟩
def namedG (r u:List Int):Nat→Int→List Sf
  | 0,_=>[]
  | d+1,i=>renS r u i :: namedG r u d (i+1)
def namedL (r u:List Int):List Sf:=if transB r u=true then namedG r u r.length 0 else []
theorem namedG_len (r u:List Int):∀ (d:Nat) (i:Int),(namedG r u d i).length=d
  | 0,_=>rfl
  | d+1,i=>by simp [namedG,namedG_len r u d]
theorem namedG_in {r u:List Int} (h:transB r u=true):∀ (d:Nat) (i:Int),0≤i→i+d≤r.length→∀ x∈namedG r u d i,x.f0.length=r.length∧x.f1.length=r.length
  | 0,_,_,_,x,hx=>absurd hx (by simp [namedG])
  | d+1,i,i0,hi,x,hx=>by
    rcases List.mem_cons.1 hx with rfl|hx
    · exact renS_len h i0 (by omega)
    · exact namedG_in h d (i+1) (by omega) (by omega) x hx
theorem i_squaresN {r u:List Int} (h:transB r u=true):Ev (fun k=>i_CountSquares.f k r u) (r.length:Int):=by
  unfold i_CountSquares.f
  refine Ev.bind (i_surfOk r u) ?_
  simp only [if_pos h]
  exact Ev.now _
theorem i_named_l0 {r u:List Int} (h:transB r u=true):∀ (d:Nat) (i:Int) (out:List Sf),0≤i→i+d=r.length→out.length+d≤1000→Ev (fun k=>i_namedFrom.l0 k out i r u) (out ++ namedG r u d i)
  | 0,i,out,i0,hi,ho=>by
    refine ev_up ?_
    simp only [i_namedFrom.l0]
    refine Ev.bind (i_squaresN h) ?_
    simp only [if_neg (show ¬ i<(r.length:Int) by omega),namedG,List.append_nil]
    exact Ev.now _
  | d+1,i,out,i0,hi,ho=>by
    have hn:=(transB_side h).1.1
    have i1:i<r.length:=by omega
    have hm:=names_perm h i0 i1
    refine ev_up ?_
    simp only [i_namedFrom.l0]
    refine Ev.bind (i_squaresN h) ?_
    simp only [if_pos i1]
    refine Ev.bind (i_names h i0 i1) ?_
    refine Ev.bind (i_renS h hm.1 hm.2) ?_
    simp only [if_pos (show out.length<2932031007402 by omega),pw_wrap (a:=i+1) (by omega) (by omega)]
    have ih:=i_named_l0 h d (i+1) (out ++ [renS r u i]) (by omega) (by omega) (by simp;omega)
    rw [List.append_assoc] at ih
    exact ih
theorem i_named (r u:List Int):Ev (fun k=>i_namedFrom.f k r u) (namedL r u):=by
  unfold i_namedFrom.f namedL
  by_cases h:transB r u=true
  · rw [if_pos h]
    have hn:=(transB_side h).1.1
    have:=i_named_l0 h r.length 0 [] (by omega) (by omega) (by simp;omega)
    simpa using this
  · rw [if_neg h]
    refine ev_up ?_
    simp only [i_namedFrom.l0]
    refine Ev.bind (a:=0) ?_ ?_
    · unfold i_CountSquares.f
      refine Ev.bind (i_surfOk r u) ?_
      simp only [if_neg h]
      exact Ev.now _
    · simp only [if_neg (show ¬ (0:Int)<0 by omega)]
      exact Ev.now _
def cmpL : List Int→List Int→Int
  | [],[]=>0
  | [],_ :: _ => -1
  | _ :: _,[]=>1
  | x :: a,y :: b=>if x<y then -1 else if x > y then 1 else cmpL a b
theorem i_cmp (x y:Int):cmp_Compare_int.f x y=some (if x<y then -1 else if x > y then 1 else 0):=by
  unfold cmp_Compare_int.f cmp_isNaN_int.f
  by_cases c:x<y
  · simp [c]
  · by_cases d:x > y
    · simp [c,d]
    · simp [c,d]
theorem i_cmp_l0 (a b:List Int) (ha:a.length≤1000):∀ (sa pa sb pb:List Int),a=pa ++ sa→b=pb ++ sb→pa.length=pb.length→Ev (fun k=>slices_Compare_int_int.l0 k a b a (a.length:Int) (pa.length:Int)) (cmpL sa sb)
  | [],pa,sb,pb,ea,eb,hl=>by
    have e2:a=pa:=by simpa using ea
    subst e2
    refine ev_up ?_
    simp only [slices_Compare_int_int.l0,if_neg (show ¬ ((a.length:Int)<a.length) by omega)]
    have hb:b.length=pb.length+sb.length:=by rw [eb];simp
    cases sb with
    | nil =>
      simp only [if_neg (show ¬ ((a.length:Int)<(b.length:Int)) by simp at hb;omega),cmpL]
      exact Ev.now _
    | cons y sb =>
      simp only [if_pos (show ((a.length:Int)<(b.length:Int)) by simp at hb;omega),cmpL]
      exact Ev.now _
  | x :: sa,pa,sb,pb,ea,eb,hl=>by
    have hlen:a.length=pa.length+sa.length+1:=by rw [ea];simp;omega
    have hx:rd a (pa.length:Int)=x:=by rw [ea];exact rd_mid _ _ _
    have hb:b.length=pb.length+sb.length:=by rw [eb];simp
    have hw:wrap64 ((pa.length:Int)+1)=((pa ++ [x]).length:Int):=by rw [pw_wrap (by omega) (by omega)];simp
    refine ev_up ?_
    simp only [slices_Compare_int_int.l0,if_pos (show ((pa.length:Int)<a.length) by omega),if_pos (Int.natCast_nonneg pa.length),hx,hw]
    cases sb with
    | nil =>
      simp only [if_pos (show (pa.length:Int)≥(b.length:Int) by simp at hb;omega),cmpL]
      exact Ev.now _
    | cons y sb =>
      have hy:rd b (pa.length:Int)=y:=by rw [eb,hl];exact rd_mid _ _ _
      have hbl:(pa.length:Int)<(b.length:Int):=by simp at hb;omega
      simp only [if_neg (show ¬ (pa.length:Int)≥(b.length:Int) by omega),if_pos hbl,hy,i_cmp,Option.bind_some,cmpL]
      by_cases c:x<y
      · simp only [if_pos c,if_neg (show ¬ (-1:Int)=0 by omega)]
        exact Ev.now _
      · by_cases d:x > y
        · simp only [if_neg c,if_pos d,if_neg (show ¬ (1:Int)=0 by omega)]
          exact Ev.now _
        · simp only [if_neg c,if_neg d,if_true]
          exact i_cmp_l0 a b ha sa (pa ++ [x]) sb (pb ++ [y]) (by simp [ea]) (by simp [eb]) (by simp [hl])
theorem i_cmpL (a b:List Int) (ha:a.length≤1000):Ev (fun k=>slices_Compare_int_int.f k a b) (cmpL a b):=i_cmp_l0 a b ha a [] b [] rfl rfl rfl
theorem cmpL_zero : ∀ a b:List Int,cmpL a b=0↔a=b
  | [],[]=>by simp [cmpL]
  | [],_ :: _=>by simp [cmpL]
  | _ :: _,[]=>by simp [cmpL]
  | x :: a,y :: b=>by
    rw [cmpL]
    by_cases c:x<y
    · rw [if_pos c]
      simp
      intro e
      omega
    · by_cases d:x > y
      · rw [if_neg c,if_pos d]
        simp
        intro e
        omega
      · rw [if_neg c,if_neg d,cmpL_zero a b]
        have:x=y:=by omega
        simp [this]
def cmpS (x y:Sf):Int:=if cmpL x.f0 y.f0=0 then cmpL x.f1 y.f1 else cmpL x.f0 y.f0
theorem i_cmpS (x y:Sf) (h0:x.f0.length≤1000) (h1:x.f1.length≤1000):Ev (fun k=>i_compareSurfaces.f k x.f0 x.f1 y.f0 y.f1) (cmpS x y):=by
  unfold i_compareSurfaces.f cmpS
  refine Ev.bind (i_cmpL _ _ h0) ?_
  by_cases c:cmpL x.f0 y.f0=0
  · simp only [if_pos c]
    exact Ev.bind (i_cmpL _ _ h1) (Ev.now _)
  · simp only [if_neg c]
    exact Ev.now _
def minS (m:Sf) (l:List Sf):Sf:=l.foldl (fun m x=>if cmpS x m<0 then x else m) m
theorem i_minGo : ∀ (l:List Sf) (m:Sf),(∀ x∈l,x.f0.length≤1000∧x.f1.length≤1000)→Ev (fun k=>minGo k m l) (minS m l)
  | [],m,_=>Ev.now _
  | x :: l,m,h=>by
    have hx:=h x List.mem_cons_self
    refine Ev.congr (f:=fun k=>(i_compareSurfaces.f k x.f0 x.f1 m.f0 m.f1).bind fun c=>minGo k (if c<0 then x else m) l) (fun k=>rfl) ?_
    refine Ev.bind (i_cmpS x m hx.1 hx.2) ?_
    exact i_minGo l _ (fun y hy=>h y (List.mem_cons_of_mem _ hy))
def canonS (r u:List Int):Sf:=minS (renS r u 0) (namedG r u (r.length - 1) 1)
theorem minS_len {n:Nat}:∀ (l:List Sf) (m:Sf),m.f0.length=n∧m.f1.length=n→(∀ x∈l,x.f0.length=n∧x.f1.length=n)→(minS m l).f0.length=n∧(minS m l).f1.length=n
  | [],m,hm,_=>hm
  | x :: l,m,hm,h=>by
    show (minS (if cmpS x m<0 then x else m) l).f0.length=n∧_
    refine minS_len l _ ?_ (fun y hy=>h y (List.mem_cons_of_mem _ hy))
    split
    · exact h x List.mem_cons_self
    · exact hm
theorem canonS_len {r u:List Int} (h:transB r u=true):(canonS r u).f0.length=r.length∧(canonS r u).f1.length=r.length:=by
  have h0:=(transB_side h).2.2.2.1
  exact minS_len _ _ (renS_len h (by omega) (by omega)) (namedG_in h _ 1 (by omega) (by omega))
theorem named_cons {r u:List Int} (h:transB r u=true):namedL r u=renS r u 0 :: namedG r u (r.length - 1) 1:=by
  have h0:=(transB_side h).2.2.2.1
  unfold namedL
  rw [if_pos h]
  obtain ⟨m,hm⟩:∃ m,r.length=m+1:=⟨r.length - 1,by omega⟩
  rw [hm,namedG]
  rfl
def canonR (r u:List Int):List Int × List Int × Bool:=if transB r u=true then ((canonS r u).f0,(canonS r u).f1,true) else ([],[],false)
theorem i_canon (r u:List Int):Ev (fun k=>i_CanonOf.f k r u) (canonR r u):=by
  unfold i_CanonOf.f canonR
  refine Ev.bind (i_named r u) ?_
  by_cases h:transB r u=true
  · have hn:=(transB_side h).1.1
    have hl:(namedL r u).length=r.length:=by unfold namedL;rw [if_pos h,namedG_len]
    rw [if_pos h]
    simp only [if_pos (show (namedL r u).length≤1000 by omega)]
    have hc:=named_cons h
    rw [hc]
    simp only [if_neg (show ¬ (renS r u 0 :: namedG r u (r.length - 1) 1)=[] by simp)]
    have e0:rd_T25 (renS r u 0 :: namedG r u (r.length - 1) 1) 0=renS r u 0:=rfl
    rw [e0]
    refine Ev.bind (a:=canonS r u) ?_ (Ev.now _)
    refine i_minGo _ _ (fun x hx => ?_)
    have:=namedG_in h (r.length - 1) 1 (by omega) (by have:=(transB_side h).2.2.2.1;omega) x hx
    omega
  · have hl:namedL r u=[]:=by unfold namedL;rw [if_neg h]
    rw [if_neg h,hl]
    simp only [List.length_nil,if_pos (show 0≤1000 by omega),if_true]
    exact Ev.now _
theorem i_eq_l0 (a b:List Int) (ha:a.length≤1000) (hab:a.length=b.length):∀ (sa pa sb pb:List Int),a=pa ++ sa→b=pb ++ sb→pa.length=pb.length→Ev (fun k=>slices_Equal_int_int.l0 k a b (a.length:Int) (pa.length:Int)) (decide (sa=sb))
  | [],pa,sb,pb,ea,eb,hl=>by
    have e2:a=pa:=by simpa using ea
    subst e2
    have hb:b.length=pb.length+sb.length:=by rw [eb];simp
    have:sb=[]:=List.eq_nil_of_length_eq_zero (by omega)
    subst this
    refine ev_up ?_
    simp only [slices_Equal_int_int.l0,if_neg (show ¬ ((a.length:Int)<a.length) by omega)]
    exact Ev.now _
  | x :: sa,pa,sb,pb,ea,eb,hl=>by
    have hlen:a.length=pa.length+sa.length+1:=by rw [ea];simp;omega
    have hx:rd a (pa.length:Int)=x:=by rw [ea];exact rd_mid _ _ _
    have hb:b.length=pb.length+sb.length:=by rw [eb];simp
    have hw:wrap64 ((pa.length:Int)+1)=((pa ++ [x]).length:Int):=by rw [pw_wrap (by omega) (by omega)];simp
    cases sb with
    | nil=>simp at hb;omega
    | cons y sb =>
      have hy:rd b (pa.length:Int)=y:=by rw [eb,hl];exact rd_mid _ _ _
      refine ev_up ?_
      simp only [slices_Equal_int_int.l0,if_pos (show ((pa.length:Int)<a.length) by omega),if_pos (Int.natCast_nonneg pa.length),if_pos (show (pa.length:Int)<(b.length:Int) by omega),hx,hy,hw]
      by_cases c:x=y
      · simp only [if_pos c]
        have ih:=i_eq_l0 a b ha hab sa (pa ++ [x]) sb (pb ++ [y]) (by simp [ea]) (by simp [eb]) (by simp [hl])
        have e:decide (x :: sa=y :: sb)=decide (sa=sb):=decide_eq_decide.2 (by simp [c])
        rw [e]
        exact ih
      · simp only [if_neg c,decide_eq_false (show ¬ (x :: sa=y :: sb) by simp [c])]
        exact Ev.now _
theorem i_sameL (a b:List Int) (ha:a.length≤1000):Ev (fun k=>i_SameList.f k a b) (decide (a=b)):=by
  unfold i_SameList.f
  refine Ev.bind (a:=decide (a=b)) ?_ (Ev.now _)
  unfold slices_Equal_int_int.f
  by_cases h:a.length=b.length
  · simp only [if_pos (show (a.length:Int)=b.length by omega)]
    exact i_eq_l0 a b ha h a [] b [] rfl rfl rfl
  · simp only [if_neg (show ¬ (a.length:Int)=b.length by omega),decide_eq_false (show ¬ a=b from fun e=>h (congrArg List.length e))]
    exact Ev.now _
theorem i_sameS (x y:Sf) (h0:x.f0.length≤1000) (h1:x.f1.length≤1000):Ev (fun k=>i_SameSurface.f k x.f0 x.f1 y.f0 y.f1) (decide (x.f0=y.f0) && decide (x.f1=y.f1)):=by
  unfold i_SameSurface.f
  refine Ev.bind (i_sameL _ _ h0) ?_
  by_cases c:x.f0=y.f0
  · simp only [decide_eq_true c,if_true,Bool.true_and]
    exact Ev.bind (i_sameL _ _ h1) (Ev.now _)
  · simp only [decide_eq_false c,Bool.false_eq_true,if_false,Bool.false_and]
    exact Ev.now _
theorem trans_ind {r u:List Int} (h:transB r u=true) (P:Int→Prop) (h0:P 0) (hr:∀ x:Int,0≤x→x<r.length→P x→P (rd r x)) (hu:∀ x:Int,0≤x→x<r.length→P x→P (rd u x)) {x:Int} (x0:0≤x) (x1:x<r.length):P x:=by
  obtain ⟨pr,pu,he,hn,hq⟩:=transB_side h
  obtain ⟨g1,g2,g3⟩:=reach_facts h
  have hnb:∀ x:Int,0≤x→x<r.length→∀ y∈nbT r u x,0≤y∧y<(r.length:Int):=fun x x0 x1=>nbT_lt pr pu he x0 x1
  exact(bfs_sub (nbT r u) (fun x=>(0≤x∧x<(r.length:Int))∧P x) (fun x hx y hy _=>by
    refine ⟨hnb x hx.1.1 hx.1.2 y hy,?_⟩
    simp only [nbT,List.mem_cons,List.not_mem_nil,or_false] at hy
    rcases hy with rfl|rfl
    · exact hr x hx.1.1 hx.1.2 hx.2
    · exact hu x hx.1.1 hx.1.2 hx.2) (r.length+1) [0] 0 (fun x hx=>by simp at hx;subst hx;exact ⟨⟨by omega,by omega⟩,h0⟩) x (g2 x x0 x1)).2
theorem nodup_sub_len : ∀ (a b:List Int),a.Nodup→(∀ x∈a,x∈b)→a.length≤b.length
  | [],b,_,_=>by simp
  | x :: a,b,hn,hs=>by
    obtain ⟨b1,b2,rfl⟩:=List.append_of_mem (hs x (by simp))
    have hx:=List.nodup_cons.1 hn
    have:=nodup_sub_len a (b1 ++ b2) hx.2 (fun y hy=>by
      have:=hs y (List.mem_cons_of_mem _ hy)
      simp only [List.mem_append,List.mem_cons] at this ⊢
      rcases this with h|h|h
      · exact .inl h
      · subst h;exact absurd hy hx.1
      · exact .inr h)
    simp only [List.length_append,List.length_cons] at this ⊢
    omega
theorem trans_of {r u:List Int} (pr:isPerm r) (pu:isPerm u) (he:r.length=u.length) (hn:0<r.length) (hall:∀ P:Int→Prop,P 0→(∀ x:Int,0≤x→x<r.length→P x→P (rd r x))→(∀ x:Int,0≤x→x<r.length→P x→P (rd u x))→∀ x:Int,0≤x→x<r.length→P x):transB r u=true:=by
  have hnb:∀ x:Int,0≤x→x<r.length→∀ y∈nbT r u x,0≤y∧y<(r.length:Int):=fun x x0 x1=>nbT_lt pr pu he x0 x1
  have hf0:=few_z (n:=r.length) (by omega)
  have hfew:Few r.length (reachOf r u):=bfs_few _ (fun x x0 x1 y hy=>(hnb x x0 x1 y hy).2) _ _ _ hf0
  have hcl:∀ x∈reachOf r u,∀ k∈nbT r u x,0≤k→k∈reachOf r u:=bfs_closed _ (fun x x0 x1 y hy=>(hnb x x0 x1 y hy).2) _ _ _ hf0 rfl (fun j hj hji=>absurd hji (by omega))
  have h0:(0:Int)∈reachOf r u:=by
    obtain ⟨s,hs⟩:=bfs_pre (nbT r u) (r.length+1) [0] 0
    unfold reachOf
    rw [hs]
    simp
  have full:=hall (fun x=>x∈reachOf r u) h0 (fun x x0 x1 hx=>hcl x hx _ (by simp [nbT]) (pm_in pr x0 x1).1) (fun x x0 x1 hx=>hcl x hx _ (by simp [nbT]) (pm_in pu x0 (by omega)).1)
  have hlen:(reachOf r u).length=r.length:=by
    refine Nat.le_antisymm (few_len hfew) ?_
    have hs:((List.range r.length).map fun (i:Nat)=>(i:Int)).length≤(reachOf r u).length:=by
      refine nodup_sub_len _ _ ?_ fun x hx => ?_
      · exact List.pairwise_map.2 (List.nodup_range.imp fun {a b} hne e=>hne (by have e2:(a:Int)=(b:Int):=e;omega))
      · obtain ⟨i,hi,rfl⟩:=List.mem_map.1 hx
        rw [List.mem_range] at hi
        exact full _ (by omega) (by omega)
    simpa using hs
  unfold transB
  rw [(permB_iff r).2 pr,(permB_iff u).2 pu,decide_eq_true he,decide_eq_true hn,hlen]
  simp
theorem cmpL_anti : ∀ a b:List Int,cmpL b a = - cmpL a b
  | [],[]=>rfl
  | [],_ :: _=>rfl
  | _ :: _,[]=>rfl
  | x :: a,y :: b=>by
    have ih:=cmpL_anti a b
    rcases Int.lt_trichotomy x y with c|c|c
    · have h1:¬ y<x:=by omega
      simp [cmpL,c,h1]
    · subst c
      simp [cmpL,ih]
    · have h1:¬ x<y:=by omega
      simp [cmpL,c,h1]
theorem cmpL_trans : ∀ a b c:List Int,cmpL a b<0→cmpL b c<0→cmpL a c<0
  | [],[],_,h,_=>by simp [cmpL] at h
  | [],_ :: _,[],_,h=>by simp [cmpL] at h
  | [],_ :: _,_ :: _,_,_=>by simp [cmpL]
  | _ :: _,[],_,h,_=>by simp [cmpL] at h
  | _ :: _,_ :: _,[],_,h=>by simp [cmpL] at h
  | x :: a,y :: b,z :: c,h1,h2=>by
    rw [cmpL] at h1 h2 ⊢
    by_cases p:x<z
    · rw [if_pos p]
      decide
    · by_cases p1:x<y
      · rw [if_pos p1] at h1
        by_cases p2:y<z
        · omega
        · rw [if_neg p2,if_pos (by omega)] at h2
          omega
      · rw [if_neg p1] at h1
        by_cases p3:x > y
        · rw [if_pos p3] at h1
          omega
        · rw [if_neg p3] at h1
          by_cases p2:y<z
          · omega
          · rw [if_neg p2] at h2
            by_cases p4:y > z
            · rw [if_pos p4] at h2
              omega
            · rw [if_neg p4] at h2
              rw [if_neg p,if_neg (by omega)]
              exact cmpL_trans a b c h1 h2
theorem cmpS_anti (x y:Sf):cmpS y x = - cmpS x y:=by
  unfold cmpS
  rw [cmpL_anti x.f0 y.f0,cmpL_anti x.f1 y.f1]
  by_cases h:cmpL x.f0 y.f0=0
  · rw [if_pos h,if_pos (by omega)]
  · rw [if_neg h,if_neg (by omega)]
theorem cmpS_zero (x y:Sf) (h:cmpS x y=0):x=y:=by
  unfold cmpS at h
  by_cases c:cmpL x.f0 y.f0=0
  · rw [if_pos c] at h
    have e1:=(cmpL_zero _ _).1 c
    have e2:=(cmpL_zero _ _).1 h
    cases x;cases y
    simp only at e1 e2
    rw [e1,e2]
  · rw [if_neg c] at h
    exact absurd h c
theorem cmpS_trans (x y z:Sf) (h1:cmpS x y<0) (h2:cmpS y z<0):cmpS x z<0:=by
  unfold cmpS at h1 h2 ⊢
  by_cases c:cmpL x.f0 y.f0=0
  · rw [if_pos c] at h1
    have e:=(cmpL_zero _ _).1 c
    rw [e]
    by_cases d:cmpL y.f0 z.f0=0
    · rw [if_pos d] at h2 ⊢
      exact cmpL_trans _ _ _ h1 h2
    · rw [if_neg d] at h2 ⊢
      exact h2
  · rw [if_neg c] at h1
    by_cases d:cmpL y.f0 z.f0=0
    · have e:=(cmpL_zero _ _).1 d
      rw [e] at h1 c
      rw [if_neg c]
      exact h1
    · rw [if_neg d] at h2
      have:=cmpL_trans _ _ _ h1 h2
      rw [if_neg (by omega)]
      exact this
theorem minS_facts : ∀ (l:List Sf) (m:Sf),(minS m l=m∨minS m l∈l)∧¬ cmpS m (minS m l)<0∧∀ x∈l,¬ cmpS x (minS m l)<0
  | [],m=>⟨.inl rfl,by
    have:=cmpS_anti m m
    show ¬ cmpS m m<0
    omega,fun x hx=>absurd hx (by simp)⟩
  | y :: l,m=>by
    have e:minS m (y :: l)=minS (if cmpS y m<0 then y else m) l:=rfl
    rw [e]
    by_cases c:cmpS y m<0
    · rw [if_pos c]
      obtain ⟨a,b,d⟩:=minS_facts l y
      refine ⟨.inr ?_,fun h => ?_,fun x hx => ?_⟩
      · rcases a with a|a
        · rw [a];simp
        · simp [a]
      · exact b (cmpS_trans _ _ _ c h)
      · rcases List.mem_cons.1 hx with rfl|hx
        · exact b
        · exact d x hx
    · rw [if_neg c]
      obtain ⟨a,b,d⟩:=minS_facts l m
      refine ⟨?_,b,fun x hx => ?_⟩
      · rcases a with a|a
        · exact .inl a
        · exact .inr (by simp [a])
      · rcases List.mem_cons.1 hx with rfl|hx
        · intro h
          have h2:=cmpS_anti x m
          by_cases z:cmpS m x<0
          · exact b (cmpS_trans _ _ _ z h)
          · have:=cmpS_zero m x (by omega)
            subst this
            exact b h
        · exact d x hx
theorem mem_namedG (r u:List Int) (x:Sf):∀ (d:Nat) (i:Int),x∈namedG r u d i↔∃ k,i≤k∧k<i+d∧x=renS r u k
  | 0,i=>by
    simp only [namedG,List.not_mem_nil,false_iff]
    rintro ⟨k,a,b,_⟩
    omega
  | d+1,i=>by
    rw [namedG,List.mem_cons,mem_namedG r u x d (i+1)]
    constructor
    · rintro (rfl|⟨k,a,b,rfl⟩)
      · exact ⟨i,by omega,by omega,rfl⟩
      · exact ⟨k,by omega,by omega,rfl⟩
    · rintro ⟨k,a,b,rfl⟩
      by_cases e:k=i
      · subst e
        exact .inl rfl
      · exact .inr ⟨k,by omega,by omega,rfl⟩
theorem canon_facts {r u:List Int} (h:transB r u=true):(∃ k:Int,0≤k∧k<r.length∧canonS r u=renS r u k)∧∀ k:Int,0≤k→k<r.length→¬ cmpS (renS r u k) (canonS r u)<0:=by
  have hn:=(transB_side h).2.2.2.1
  obtain ⟨a,b,c⟩:=minS_facts (namedG r u (r.length - 1) 1) (renS r u 0)
  refine ⟨?_,fun k k0 k1 => ?_⟩
  · rcases a with a|a
    · exact ⟨0,by omega,by omega,a⟩
    · obtain ⟨k,k0,k1,e⟩:=(mem_namedG r u _ _ _).1 a
      exact ⟨k,by omega,by omega,e⟩
  · by_cases e:k=0
    · subst e
      exact b
    · exact c _ ((mem_namedG r u _ _ _).2 ⟨k,by omega,by omega,rfl⟩)
structure Iso (r u r' u' g:List Int):Prop where
  pg:isPerm g
  lg:g.length=r.length
  le:r'.length=r.length
  hr:∀ x:Int,0≤x→x<r.length→rd g (rd r x)=rd r' (rd g x)
  hu:∀ x:Int,0≤x→x<r.length→rd g (rd u x)=rd u' (rd g x)
theorem push_sub {q:List Int} {k x:Int} (h:x∈push q k):x∈q∨x=k:=by
  unfold push at h
  split at h
  · rcases List.mem_append.1 h with h|h
    · exact .inl h
    · exact .inr (List.mem_singleton.1 h)
  · exact .inl h
theorem push_map {g:List Int} (hg:isPerm g) {q:List Int} (hq:∀ x∈q,0≤x∧x<(g.length:Int)) {k:Int} (k0:0≤k) (k1:k<g.length):push (q.map (rd g)) (rd g k)=(push q k).map (rd g):=by
  have h0:=(pm_in hg k0 k1).1
  have hm:rd g k∈q.map (rd g)↔k∈q:=by
    rw [List.mem_map]
    constructor
    · rintro ⟨x,hx,e⟩
      have:=pm_inj hg (hq x hx).1 (hq x hx).2 k0 k1 e
      exact this ▸ hx
    · exact fun h=>⟨k,h,rfl⟩
  unfold push
  by_cases c:k∈q
  · rw [if_neg (fun h=>h.2 (hm.2 c)),if_neg (fun h=>h.2 c)]
  · rw [if_pos ⟨h0,fun h=>c (hm.1 h)⟩,if_pos ⟨k0,c⟩,List.map_append]
    rfl
theorem bfs_map {r u r' u' g:List Int} (h:Iso r u r' u' g) (pr:isPerm r) (pu:isPerm u) (he:r.length=u.length):∀ (f:Nat) (q:List Int) (i:Nat),(∀ x∈q,0≤x∧x<(r.length:Int))→bfs (nbT r' u') f (q.map (rd g)) i=(bfs (nbT r u) f q i).map (rd g)
  | 0,q,i,hq=>rfl
  | f+1,q,i,hq=>by
    rw [bfs,bfs]
    by_cases c:i<q.length
    · rw [dif_pos c,dif_pos (by simpa using c)]
      have b:=hq _ (List.getElem_mem c)
      have b1:=pm_in pr b.1 b.2
      have b2:=pm_in pu b.1 (by omega)
      have lg:=h.lg
      have hq2:∀ x∈push q (rd r q[i]),0≤x∧x<(r.length:Int):=fun x hx=>by
        rcases push_sub hx with hx|rfl
        · exact hq x hx
        · exact b1
      have hq3:∀ x∈push (push q (rd r q[i])) (rd u q[i]),0≤x∧x<(r.length:Int):=fun x hx=>by
        rcases push_sub hx with hx|rfl
        · exact hq2 x hx
        · exact ⟨b2.1,by omega⟩
      have e:pushAll (q.map (rd g)) (nbT r' u' ((q.map (rd g))[i]'(by simpa using c)))=(pushAll q (nbT r u q[i])).map (rd g):=by
        have e0:(q.map (rd g))[i]'(by simpa using c)=rd g q[i]:=by simp
        rw [e0]
        unfold nbT pushAll
        rw [← h.hr _ b.1 b.2,← h.hu _ b.1 b.2]
        simp only [List.foldl_cons,List.foldl_nil]
        rw [push_map h.pg (fun x hx=>by have:=hq x hx;omega) b1.1 (by omega),push_map h.pg (fun x hx=>by have:=hq2 x hx;omega) b2.1 (by omega)]
      rw [e]
      exact bfs_map h pr pu he f _ (i+1) (by
        unfold nbT pushAll
        simp only [List.foldl_cons,List.foldl_nil]
        exact hq3)
    · rw [dif_neg c,dif_neg (by simpa using c)]
theorem reachK_map {r u r' u' g:List Int} (h:Iso r u r' u' g) (ht:transB r u=true) {k:Int} (k0:0≤k) (k1:k<r.length):reachK r' u' (rd g k)=(reachK r u k).map (rd g):=by
  obtain ⟨pr,pu,he,hn,_⟩:=transB_side ht
  unfold reachK
  rw [h.le]
  exact bfs_map h pr pu he _ [k] 0 (fun x hx=>by rw [List.mem_singleton] at hx;subst hx;exact ⟨k0,k1⟩)
theorem ren_at {p nm q:List Int} (hp:isPerm p) (hq:isPerm q) (he:q.length=p.length) (e:nm=invL q) {j:Int} (j0:0≤j) (j1:j<p.length):rd (renL p nm) j=rd nm (rd p (rd q j)):=by
  have hm:isPerm nm:=e ▸ inv_perm hq
  have hl:nm.length=p.length:=by rw [e,invL_len hq,he]
  have b:=pm_in hq j0 (by omega)
  have h:=renL_rd hp hm hl b.1 (by omega)
  rw [e,inv_left hq j0 (by omega)] at h
  rw [e]
  exact h
theorem renS_map {r u r' u' g:List Int} (h:Iso r u r' u' g) (ht:transB r u=true) (ht':transB r' u'=true) {k:Int} (k0:0≤k) (k1:k<r.length):renS r' u' (rd g k)=renS r u k:=by
  obtain ⟨pr,pu,he,hn,_⟩:=transB_side ht
  obtain ⟨pr',pu',he',hn',_⟩:=transB_side ht'
  have lg:=h.lg
  have le:=h.le
  have bg:=pm_in h.pg k0 (by omega)
  have q1:=reachK_perm ht k0 k1
  have q2:=reachK_perm ht' (k:=rd g k) bg.1 (by omega)
  have n1:=names_perm ht k0 k1
  have n2:=names_perm ht' (k:=rd g k) bg.1 (by omega)
  have e1:=reachK_map h ht k0 k1
  have l1:(reachK r u k).length=r.length:=(reachK_full ht k0 k1).2
  have l2:(reachK r' u' (rd g k)).length=r'.length:=(reachK_full ht' (k:=rd g k) bg.1 (by omega)).2
  have hat:∀ j:Int,0≤j→j<r.length→rd (reachK r' u' (rd g k)) j=rd g (rd (reachK r u k) j):=fun j j0 j1=>by
    rw [e1]
    obtain ⟨i,rfl⟩:=Int.eq_ofNat_of_zero_le j0
    have hi:i<(reachK r u k).length:=by omega
    rw [rd_get _ i (by simpa using hi),rd_get _ i hi]
    simp
  have hnm:∀ x:Int,0≤x→x<r.length→rd (namesOf r' u' (rd g k)) (rd g x)=rd (namesOf r u k) x:=fun x x0 x1=>by
    have c:=inv_right q1 (y:=x) x0 (by omega)
    have d:=hat (rd (namesOf r u k) x) c.2.1 (by have:=c.2.2;unfold namesOf;omega)
    unfold namesOf at d ⊢
    rw [c.1] at d
    rw [← d]
    exact inv_left q2 c.2.1 (by have:=c.2.2;omega)
  have key:∀ p p':List Int,isPerm p→isPerm p'→p.length=r.length→p'.length=r.length→(∀ x:Int,0≤x→x<r.length→rd g (rd p x)=rd p' (rd g x))→renL p' (namesOf r' u' (rd g k))=renL p (namesOf r u k):=by
    intro p p' hp hp' lp lp' hx
    refine rd_ext (by rw [renL_len hp' n2.1 (by omega),renL_len hp n1.1 (by omega),lp,lp']) fun j j0 j1 => ?_
    rw [renL_len hp' n2.1 (by omega)] at j1
    have b:=pm_in q1 j0 (by omega)
    have b2:=pm_in hp b.1 (by omega)
    rw [ren_at (nm:=namesOf r' u' (rd g k)) hp' q2 (by omega) rfl j0 (by omega),ren_at (nm:=namesOf r u k) hp q1 (by omega) rfl j0 (by omega),hat j j0 (by omega),← hx _ b.1 (by omega),hnm _ b2.1 (by omega)]
  unfold renS
  rw [key r r' pr pr' rfl le h.hr,key u u' pu pu' (by omega) (by omega) h.hu]
theorem canon_iso {r u r' u' g:List Int} (h:Iso r u r' u' g) (ht:transB r u=true) (ht':transB r' u'=true):canonS r' u'=canonS r u:=by
  obtain ⟨⟨k,k0,k1,e⟩,m⟩:=canon_facts ht
  obtain ⟨⟨k',k0',k1',e'⟩,m'⟩:=canon_facts ht'
  have lg:=h.lg
  have le:=h.le
  have bg:=pm_in h.pg k0 (by omega)
  have c:=inv_right h.pg (y:=k') k0' (by omega)
  have a1:=m' (rd g k) bg.1 (by omega)
  rw [renS_map h ht ht' k0 k1,← e] at a1
  have a2:=m (rd (invL g) k') c.2.1 (by omega)
  rw [← renS_map h ht ht' c.2.1 (by omega),c.1,← e'] at a2
  have:=cmpS_anti (canonS r u) (canonS r' u')
  exact(cmpS_zero _ _ (by omega)).symm
theorem iso_names {r u:List Int} (ht:transB r u=true) {k:Int} (k0:0≤k) (k1:k<r.length):Iso r u (renS r u k).f0 (renS r u k).f1 (namesOf r u k):=by
  obtain ⟨pr,pu,he,hn,_⟩:=transB_side ht
  have n1:=names_perm ht k0 k1
  exact ⟨n1.1,n1.2,(renS_len ht k0 k1).1,fun x x0 x1=>(renL_rd pr n1.1 n1.2 x0 x1).symm,fun x x0 x1=>(renL_rd pu n1.1 (by omega) x0 (by omega)).symm⟩
theorem then_iso {r u r' u' g r'' u'' g':List Int} (h:Iso r u r' u' g) (h':Iso r' u' r'' u'' g') (pr:isPerm r) (pu:isPerm u) (he:r.length=u.length):Iso r u r'' u'' (thenL g g'):=by
  have lg:=h.lg
  have le:=h.le
  have lg':=h'.lg
  have le':=h'.le
  refine ⟨then_perm h.pg h'.pg (by omega),by rw [then_len];omega,by omega,fun x x0 x1 => ?_,fun x x0 x1 => ?_⟩
  · have b:=pm_in pr x0 x1
    have bx:=pm_in h.pg x0 (by omega)
    rw [then_rd _ _ b.1 (by omega),then_rd _ _ x0 (by omega),h.hr x x0 x1,h'.hr _ bx.1 (by omega)]
  · have b:=pm_in pu x0 (by omega)
    have bx:=pm_in h.pg x0 (by omega)
    rw [then_rd _ _ b.1 (by omega),then_rd _ _ x0 (by omega),h.hu x x0 x1,h'.hu _ bx.1 (by omega)]
theorem inv_iso {r u r' u' g:List Int} (h:Iso r u r' u' g) (pr:isPerm r) (pu:isPerm u) (he:r.length=u.length):Iso r' u' r u (invL g):=by
  have lg:=h.lg
  have le:=h.le
  have li:=invL_len h.pg
  refine ⟨inv_perm h.pg,by omega,by omega,fun x x0 x1 => ?_,fun x x0 x1 => ?_⟩
  · have c:=inv_right h.pg (y:=x) x0 (by omega)
    have e:=h.hr (rd (invL g) x) c.2.1 (by omega)
    rw [c.1] at e
    have b:=pm_in pr c.2.1 (by omega)
    rw [← e,inv_left h.pg b.1 (by omega)]
  · have c:=inv_right h.pg (y:=x) x0 (by omega)
    have e:=h.hu (rd (invL g) x) c.2.1 (by omega)
    rw [c.1] at e
    have b:=pm_in pu c.2.1 (by omega)
    rw [← e,inv_left h.pg b.1 (by omega)]
theorem iso_of_canon {r u r' u':List Int} (ht:transB r u=true) (ht':transB r' u'=true) (e:canonS r u=canonS r' u'):∃ g,Iso r u r' u' g:=by
  obtain ⟨pr,pu,he,hn,_⟩:=transB_side ht
  obtain ⟨pr',pu',he',hn',_⟩:=transB_side ht'
  obtain ⟨⟨k,k0,k1,e1⟩,_⟩:=canon_facts ht
  obtain ⟨⟨k',k0',k1',e2⟩,_⟩:=canon_facts ht'
  have i1:=iso_names ht k0 k1
  have i2:=iso_names ht' k0' k1'
  rw [← e2,← e,e1] at i2
  exact ⟨_,then_iso i1 (inv_iso i2 pr' pu' he') pr pu he⟩

def wordB (ws:List UInt8):ByteArray:=⟨ws.toArray⟩
def letters : List UInt8:=[84,116,83,115]
def GoodW (ws:List UInt8):Prop:=∀ c∈ws,c∈letters
theorem wordB_size (ws:List UInt8):(wordB ws).size=ws.length:=by
  have h:(wordB ws).size=ws.toArray.size:=rfl
  rw [h,List.size_toArray]
theorem bt_mid (p s:List UInt8) (c:UInt8):bt (wordB (p ++ c :: s)) (p.length:Int)=(c.toNat:Int):=by
  have h:((p.length:Nat):Int).toNat<(wordB (p ++ c :: s)).size:=by rw [wordB_size];simp
  unfold bt
  rw [dif_pos h]
  have e:(wordB (p ++ c :: s))[((p.length:Nat):Int).toNat]'h=c:=by
    show (p ++ c :: s).toArray[((p.length:Nat):Int).toNat]'_=c
    simp
  rw [e]
theorem wordOk_l0 (ws:List UInt8) (hl:ws.length≤40) (hg:GoodW ws):∀ (suf pre:List UInt8),ws=pre ++ suf→Ev (fun k=>i_WordOk.l0 k (wordB ws) (pre.length:Int)) true
  | [],pre,e=>by
    refine ev_up ?_
    have e2:ws=pre:=by simpa using e
    subst e2
    simp only [i_WordOk.l0,wordB_size,if_neg (show ¬ ((ws.length:Int)<ws.length) by omega),decide_eq_true (show (ws.length:Int)≤40 by omega)]
    exact Ev.now _
  | c :: suf,pre,e=>by
    refine ev_up ?_
    have hlen:ws.length=pre.length+suf.length+1:=by rw [e];simp;omega
    have hc:=hg c (by rw [e];simp)
    have hb:bt (wordB ws) (pre.length:Int)=(c.toNat:Int):=by rw [e];exact bt_mid _ _ _
    have hw:wrap64 ((pre.length:Int)+1)=((pre ++ [c]).length:Int):=by rw [pw_wrap (by omega) (by omega)];simp
    have hi:∃ z:Int,strings_IndexByte.f (⟨#[84,116,83,115]⟩:ByteArray) (c.toNat:Int)=some z∧¬ z<0:=by
      simp only [letters,List.mem_cons,List.not_mem_nil,or_false] at hc
      rcases hc with rfl|rfl|rfl|rfl
      · exact ⟨0,by decide,by omega⟩
      · exact ⟨1,by decide,by omega⟩
      · exact ⟨2,by decide,by omega⟩
      · exact ⟨3,by decide,by omega⟩
    obtain ⟨z,hz,hz0⟩:=hi
    simp only [i_WordOk.l0,wordB_size,if_pos (show ((pre.length:Int)<ws.length) by omega),if_pos (show (0≤(pre.length:Int)) by omega),hb,hz,Option.bind_some,if_neg hz0,hw]
    exact wordOk_l0 ws hl hg suf (pre ++ [c]) (by simp [e])
theorem wordOk (ws:List UInt8) (hl:ws.length≤40) (hg:GoodW ws):Ev (fun k=>i_WordOk.f k (wordB ws)) true:=wordOk_l0 ws hl hg ws [] rfl

def letterR (r u:List Int) (c:Int):List Int:=if c=84 then r else if c=116 then r else if c=83 then invL u else u
def letterU (r u:List Int) (c:Int):List Int:=if c=84 then thenL (invL r) u else if c=116 then thenL r u else if c=83 then r else invL r
theorem copyInts_ev {l:List Int} (h:l.length≤1000):i_copyInts.f l=some l:=by
  unfold i_copyInts.f
  simp only [Option.bind_some,List.length_nil,List.nil_append,if_pos (show 0+l.length<17592186044416 by omega)]
theorem back_of {p:List Int} (hp:isPerm p) {P:Int→Prop} (hP:∀ x:Int,0≤x→x<p.length→P x→P (rd (invL p) x)) {x:Int} (x0:0≤x) (x1:x<p.length) (h:P x):P (rd p x):=by
  have b:=pm_in hp x0 x1
  refine closed_back (inv_perm hp) (P:=P) (fun y y0 y1=>hP y y0 (by rw [invL_len hp] at y1;exact y1)) b.1 (by rw [invL_len hp];exact b.2) ?_
  rw [inv_left hp x0 x1]
  exact h
theorem letter_trans {r u:List Int} (h:transB r u=true) (c:Int):transB (letterR r u c) (letterU r u c)=true∧(letterR r u c).length=r.length:=by
  obtain ⟨pr,pu,he,hn,_⟩:=transB_side h
  have ir:=inv_perm pr
  have iu:=inv_perm pu
  have lr:=invL_len pr
  have lu:=invL_len pu
  unfold letterR letterU
  by_cases c1:c=84
  · rw [if_pos c1,if_pos c1]
    refine ⟨trans_of pr (then_perm ir pu (by omega)) (by rw [then_len];omega) hn fun P h0 h1 h2 x x0 x1=>trans_ind h P h0 h1 (fun y y0 y1 hy => ?_) x0 x1,rfl⟩
    have b:=pm_in pr y0 y1
    have:=h2 (rd r y) b.1 b.2 (h1 y y0 y1 hy)
    rw [then_rd _ _ b.1 (by omega),inv_left pr y0 y1] at this
    exact this
  · by_cases c2:c=116
    · rw [if_neg c1,if_neg c1,if_pos c2,if_pos c2]
      refine ⟨trans_of pr (then_perm pr pu he) (by rw [then_len]) hn fun P h0 h1 h2 x x0 x1=>trans_ind h P h0 h1 (fun y y0 y1 hy => ?_) x0 x1,rfl⟩
      have b:=inv_right pr y0 y1
      have hz:P (rd (invL r) y):=closed_back pr h1 b.2.1 b.2.2 (by rw [b.1];exact hy)
      have:=h2 (rd (invL r) y) b.2.1 b.2.2 hz
      rw [then_rd _ _ b.2.1 b.2.2,b.1] at this
      exact this
    · by_cases c3:c=83
      · rw [if_neg c1,if_neg c1,if_neg c2,if_neg c2,if_pos c3,if_pos c3]
        refine ⟨trans_of iu pr (by omega) (by omega) fun P h0 h1 h2 x x0 x1=>trans_ind h P h0 (fun y y0 y1 hy=>h2 y y0 (by omega) hy) (fun y y0 y1 hy=>back_of pu (fun z z0 z1 hz=>h1 z z0 (by omega) hz) y0 (by omega) hy) x0 (by omega),by omega⟩
      · rw [if_neg c1,if_neg c1,if_neg c2,if_neg c2,if_neg c3,if_neg c3]
        refine ⟨trans_of pu ir (by omega) (by omega) fun P h0 h1 h2 x x0 x1=>trans_ind h P h0 (fun y y0 y1 hy=>back_of pr (fun z z0 z1 hz=>h2 z z0 (by omega) hz) y0 y1 hy) (fun y y0 y1 hy=>h1 y y0 (by omega) hy) x0 (by omega),by omega⟩
theorem i_letter {r u:List Int} (h:transB r u=true) (c:Int) (hc:c=84∨c=116∨c=83∨c=115):Ev (fun k=>i_letterSurface.f k r u c) (letterR r u c,letterU r u c):=by
  obtain ⟨pr,pu,he,hn,_⟩:=transB_side h
  have ir:=inv_perm pr
  have cr:r.length≤1000:=by have:=pr.1;omega
  have cu:u.length≤1000:=by omega
  unfold i_letterSurface.f letterR letterU
  by_cases c1:c=84
  · simp only [if_pos c1]
    unfold i_ShearSurface.f
    refine Ev.bind (a:=(r,thenL (invL r) u,true)) (Ev.bind (i_surfOk r u) ?_) (Ev.now _)
    rw [h]
    simp only [if_true,copyInts_ev cr,Option.bind_some]
    exact Ev.bind (i_inv pr) (Ev.bind (i_thn ir pu (by rw [invL_len pr];exact he)) (Ev.now _))
  · simp only [if_neg c1]
    by_cases c2:c=116
    · simp only [if_pos c2]
      unfold i_UnshearSurface.f
      refine Ev.bind (a:=(r,thenL r u,true)) (Ev.bind (i_surfOk r u) ?_) (Ev.now _)
      rw [h]
      simp only [if_true,copyInts_ev cr,Option.bind_some]
      exact Ev.bind (i_thn pr pu he) (Ev.now _)
    · simp only [if_neg c2]
      by_cases c3:c=83
      · simp only [if_pos c3]
        unfold i_TurnSurface.f
        refine Ev.bind (a:=(invL u,r,true)) (Ev.bind (i_surfOk r u) ?_) (Ev.now _)
        rw [h]
        simp only [if_true,copyInts_ev cr,Option.bind_some]
        exact Ev.bind (i_inv pu) (Ev.now _)
      · have c4:c=115:=by omega
        simp only [if_neg c3,if_pos c4]
        unfold i_UnturnSurface.f
        refine Ev.bind (a:=(u,invL r,true)) (Ev.bind (i_surfOk r u) ?_) (Ev.now _)
        rw [h]
        simp only [if_true,copyInts_ev cu,Option.bind_some]
        exact Ev.bind (i_inv pr) (Ev.now _)
def runS (r u:List Int):List UInt8→List Int × List Int
  | []=>(r,u)
  | c :: ws=>runS (letterR r u c.toNat) (letterU r u c.toNat) ws
theorem runS_trans : ∀ (ws:List UInt8) (r u:List Int),transB r u=true→transB (runS r u ws).1 (runS r u ws).2=true
  | [],r,u,h=>h
  | c :: ws,r,u,h=>runS_trans ws _ _ (letter_trans h _).1
theorem letters_num {c:UInt8} (hc:c∈letters):(c.toNat:Int)=84∨(c.toNat:Int)=116∨(c.toNat:Int)=83∨(c.toNat:Int)=115:=by
  simp only [letters,List.mem_cons,List.not_mem_nil,or_false] at hc
  rcases hc with rfl|rfl|rfl|rfl
  · exact .inl rfl
  · exact .inr (.inl rfl)
  · exact .inr (.inr (.inl rfl))
  · exact .inr (.inr (.inr rfl))
theorem i_run_l0 (ws:List UInt8) (hl:ws.length≤40) (hg:GoodW ws):∀ (suf pre:List UInt8) (r u:List Int),ws=pre ++ suf→transB r u=true→Ev (fun k=>i_RunWord.l0 k (wordB ws) (pre.length:Int) r u) ((runS r u suf).1,(runS r u suf).2,true)
  | [],pre,r,u,e,h=>by
    refine ev_up ?_
    have e2:ws=pre:=by simpa using e
    subst e2
    simp only [i_RunWord.l0,wordB_size,if_neg (show ¬ ((ws.length:Int)<ws.length) by omega)]
    exact Ev.now _
  | c :: suf,pre,r,u,e,h=>by
    refine ev_up ?_
    have hlen:ws.length=pre.length+suf.length+1:=by rw [e];simp;omega
    have hc:=letters_num (hg c (by rw [e];simp))
    have hb:bt (wordB ws) (pre.length:Int)=(c.toNat:Int):=by rw [e];exact bt_mid _ _ _
    have hw:wrap64 ((pre.length:Int)+1)=((pre ++ [c]).length:Int):=by rw [pw_wrap (by omega) (by omega)];simp
    simp only [i_RunWord.l0,wordB_size,if_pos (show ((pre.length:Int)<ws.length) by omega),if_pos (show (0≤(pre.length:Int)) by omega),hb,hw]
    refine Ev.bind (i_letter h _ hc) ?_
    exact i_run_l0 ws hl hg suf (pre ++ [c]) _ _ (by simp [e]) (letter_trans h _).1
theorem i_run {r u:List Int} (h:transB r u=true) (ws:List UInt8) (hl:ws.length≤40) (hg:GoodW ws):Ev (fun k=>i_RunWord.f k r u (wordB ws)) ((runS r u ws).1,(runS r u ws).2,true):=by
  obtain ⟨pr,pu,he,hn,_⟩:=transB_side h
  have cr:r.length≤1000:=by have:=pr.1;omega
  have cu:u.length≤1000:=by omega
  unfold i_RunWord.f
  refine Ev.bind (i_surfOk r u) ?_
  rw [h]
  simp only [if_true]
  refine Ev.bind (wordOk ws hl hg) ?_
  refine ev_up ?_
  simp only [i_RunWord.j0,Bool.not_true,Bool.false_eq_true,if_false,i_copySurface.f,copyInts_ev cr,copyInts_ev cu,Option.bind_some]
  exact i_run_l0 ws hl hg ws [] r u rfl h
def sameB (r u r' u':List Int):Bool:=decide ((canonS r u).f0=(canonS r' u').f0) && decide ((canonS r u).f1=(canonS r' u').f1)
theorem sameB_iff {r u r' u':List Int} (h:transB r u=true) (h':transB r' u'=true):sameB r u r' u'=true↔∃ g,Iso r u r' u' g:=by
  unfold sameB
  rw [Bool.and_eq_true,decide_eq_true_eq,decide_eq_true_eq]
  constructor
  · rintro ⟨a,b⟩
    exact iso_of_canon h h' (by
      generalize canonS r u=s at a b
      generalize canonS r' u'=t at a b
      cases s;cases t
      simp only at a b
      rw [a,b])
  · rintro ⟨g,i⟩
    rw [canon_iso i h h']
    exact ⟨rfl,rfl⟩
theorem i_are {r u r' u':List Int} (h:transB r u=true) (h':transB r' u'=true):Ev (fun k=>i_AreIsomorphic.f k r u r' u') (sameB r u r' u'):=by
  have e1:canonR r u=((canonS r u).f0,(canonS r u).f1,true):=if_pos h
  have e2:canonR r' u'=((canonS r' u').f0,(canonS r' u').f1,true):=if_pos h'
  have n:=(transB_side h).1.1
  have l:=canonS_len h
  unfold i_AreIsomorphic.f
  refine Ev.bind (i_canon r u) ?_
  refine Ev.bind (i_canon r' u') ?_
  rw [e1,e2]
  simp only [if_true]
  exact i_sameS (canonS r u) (canonS r' u') (by omega) (by omega)
def fixB (r u:List Int) (ws:List UInt8):Bool:=sameB (runS r u ws).1 (runS r u ws).2 r u
theorem i_fixBy {r u:List Int} (h:transB r u=true) (ws:List UInt8) (hl:ws.length≤40) (hg:GoodW ws):Ev (fun k=>i_IsFixedBy.f k r u (wordB ws)) (fixB r u ws):=by
  unfold i_IsFixedBy.f fixB
  refine Ev.bind (i_run h ws hl hg) ?_
  simp only [if_true]
  exact Ev.bind (i_are (runS_trans ws r u h) h) (Ev.now _)
theorem half_run (r u:List Int):runS r u [83,83]=(invL r,invL u):=rfl
theorem half_iff {r u:List Int} (h:transB r u=true):fixB r u [83,83]=true↔∃ a,IsT r u a:=by
  have ht:=runS_trans [83,83] r u h
  unfold fixB
  rw [sameB_iff ht h]
  rw [half_run] at ht ⊢
  obtain ⟨pr,pu,he,hn,_⟩:=transB_side h
  have lr:=invL_len pr
  have lu:=invL_len pu
  constructor
  · rintro ⟨g,i⟩
    have j:=inv_iso i (inv_perm pr) (inv_perm pu) (lr.trans (he.trans lu.symm))
    exact ⟨_,j.pg,j.lg,fun x x0 x1=>⟨j.hr x x0 x1,j.hu x x0 x1⟩⟩
  · rintro ⟨a,pa,la,ha⟩
    exact ⟨_,inv_iso (⟨pa,la,lr,fun x x0 x1=>(ha x x0 x1).1,fun x x0 x1=>(ha x x0 x1).2⟩:Iso r u (invL r) (invL u) a) pr pu he⟩
theorem i_half {r u:List Int} (h:transB r u=true):Ev (fun k=>i_HasHalfTurn.f k r u) (fixB r u [83,83]):=by
  unfold i_HasHalfTurn.f
  exact Ev.bind (i_fixBy h [83,83] (by decide) (fun c hc=>by
    simp only [List.mem_cons,List.not_mem_nil,or_false,or_self] at hc
    subst hc
    decide)) (Ev.now _)

structure Cyc (p:List Int) (c:List Int):Prop where
  ne:0<c.length
  gen:∀ y∈c,∃ m,y=iter (rd p) m (rd c 0)
  fwd:∀ y∈c,rd p y∈c
theorem iter_in {p:List Int} (hp:isPerm p) {i:Int} (i0:0≤i) (i1:i<p.length):∀ m,0≤iter (rd p) m i∧iter (rd p) m i<p.length
  | 0=>⟨i0,i1⟩
  | m+1=>by
    have h:=iter_in hp i0 i1 m
    rw [iter_succ]
    exact pm_in hp h.1 h.2
theorem iter_backq {p q0:List Int} (hp:isPerm p) (hb:∀ y:Int,0≤y→y<p.length→rd p y∈q0→y∈q0) {i:Int} (i0:0≤i) (i1:i<p.length):∀ m,iter (rd p) m i∈q0→i∈q0
  | 0,h=>h
  | m+1,h=>by
    rw [iter_succ] at h
    have b:=iter_in hp i0 i1 m
    exact iter_backq hp hb i0 i1 m (hb _ b.1 b.2 h)
def its (p:List Int) (i:Int) (m:Nat):List Int:=(List.range m).map fun k=>iter (rd p) k i
theorem its_len (p:List Int) (i:Int) (m:Nat):(its p i m).length=m:=by simp [its]
theorem its_succ (p:List Int) (i:Int) (m:Nat):its p i (m+1)=its p i m ++ [iter (rd p) m i]:=by simp [its,List.range_succ]
theorem its_get (p:List Int) (i:Int) (m:Nat) (k:Nat) (h:k<(its p i m).length):(its p i m)[k]=iter (rd p) k i:=by simp [its]
theorem its_mem {p:List Int} {i y:Int} {m:Nat}:y∈its p i m↔∃ k,k<m∧iter (rd p) k i=y:=by simp [its]
theorem walkC_cyc {p q0:List Int} (hp:isPerm p) (hb:∀ y:Int,0≤y→y<p.length→rd p y∈q0→y∈q0) {i:Int} (i0:0≤i) (i1:i<p.length) (hi:i∉q0) :
    ∀ (f m:Nat),Few p.length (q0 ++ its p i m)→f+(q0 ++ its p i m).length=p.length+1 →
      ∃ M,(m≤M∧0<M)∧walkC p f (q0 ++ its p i m) (its p i m) (iter (rd p) m i)=(q0 ++ its p i M,its p i M)∧Few p.length (q0 ++ its p i M)∧iter (rd p) M i=i
  | 0,m,hq,hf=>by
    have:=few_len hq
    omega
  | f+1,m,hq,hf=>by
    have bm:=iter_in hp i0 i1 m
    rw [walkC]
    by_cases hx:iter (rd p) m i∈q0 ++ its p i m
    · rw [if_pos hx]
      rcases List.mem_append.1 hx with hx|hx
      · exact absurd (iter_backq hp hb i0 i1 m hx) hi
      · obtain ⟨j,hj,hji⟩:=its_mem.1 hx
        cases j with
        | zero=>exact ⟨m,⟨Nat.le_refl _,by omega⟩,rfl,hq,hji.symm⟩
        | succ j =>
          exfalso
          obtain ⟨m',rfl⟩:∃ m',m=m'+1:=⟨m - 1,by omega⟩
          rw [iter_succ,iter_succ] at hji
          have bj:=iter_in hp i0 i1 j
          have bm':=iter_in hp i0 i1 m'
          have e:=pm_inj hp bj.1 bj.2 bm'.1 bm'.2 hji
          have hn:=(List.nodup_append.1 hq.1).2.1
          have e2:(its p i (m'+1))[j]'(by rw [its_len];omega)=(its p i (m'+1))[m']'(by rw [its_len];omega):=by rw [its_get,its_get];exact e
          have:=(List.getElem_inj hn).1 e2
          omega
    · rw [if_neg hx]
      have hs:q0 ++ its p i m ++ [iter (rd p) m i]=q0 ++ its p i (m+1):=by rw [its_succ,List.append_assoc]
      have hq':=few_snoc hq bm.1 bm.2 hx
      rw [hs] at hq'
      obtain ⟨M,hM,h1,h2,h3⟩:=walkC_cyc hp hb i0 i1 hi f (m+1) hq' (by
        have h1:=congrArg List.length hs
        simp only [List.length_append,List.length_singleton] at h1
        simp only [List.length_append] at hf ⊢
        omega)
      refine ⟨M,⟨by omega,hM.2⟩,?_,h2,h3⟩
      rw [hs,← its_succ,← iter_succ (rd p)]
      exact h1
theorem its_cyc {p:List Int} {i:Int} {M:Nat} (h0:0<M) (hM:iter (rd p) M i=i):Cyc p (its p i M):=by
  have hz:rd (its p i M) 0=i:=by
    have:=rd_get (its p i M) 0 (by rw [its_len];exact h0)
    rw [its_get] at this
    exact this
  refine ⟨by rw [its_len];exact h0,fun y hy => ?_,fun y hy => ?_⟩
  · obtain ⟨k,_,rfl⟩:=its_mem.1 hy
    exact ⟨k,by rw [hz]⟩
  · obtain ⟨k,hk,rfl⟩:=its_mem.1 hy
    rw [← iter_succ (rd p)]
    by_cases e:k+1=M
    · rw [e,hM]
      exact its_mem.2 ⟨0,h0,rfl⟩
    · exact its_mem.2 ⟨k+1,by omega,rfl⟩
theorem its_back {p:List Int} (hp:isPerm p) {i:Int} (i0:0≤i) (i1:i<p.length) {M:Nat} (h0:0<M) (hM:iter (rd p) M i=i) {y:Int} (y0:0≤y) (y1:y<p.length) (h:rd p y∈its p i M):y∈its p i M:=by
  obtain ⟨k,hk,e⟩:=its_mem.1 h
  have key:∀ j,rd p (iter (rd p) j i)=rd p y→j<M→y∈its p i M:=fun j hj hjM=>by
    have b:=iter_in hp i0 i1 j
    have:=pm_inj hp b.1 b.2 y0 y1 hj
    exact its_mem.2 ⟨j,hjM,this⟩
  cases k with
  | zero =>
    refine key (M - 1) ?_ (by omega)
    rw [← iter_succ (rd p),show M - 1+1=M by omega,hM]
    exact e
  | succ k =>
    rw [iter_succ] at e
    exact key k e (by omega)
theorem cycGo_facts {p:List Int} (hp:isPerm p):∀ (d:Nat) (i:Int) (q:List Int) (out:List (List Int)),0≤i→i+d=p.length→Few p.length q→q=out.flatten→(∀ y:Int,0≤y→y<p.length→rd p y∈q→y∈q)→(∀ c∈out,Cyc p c)→(∀ x:Int,0≤x→x<i→x∈q) →
    Few p.length (cycGo p d i q out).flatten∧(∀ x:Int,0≤x→x<p.length→x∈(cycGo p d i q out).flatten)∧∀ c∈cycGo p d i q out,Cyc p c
  | 0,i,q,out,i0,hi,hq,e,hb,hc,hx=>by
    subst e
    exact ⟨hq,fun x x0 x1=>hx x x0 (by omega),hc⟩
  | d+1,i,q,out,i0,hi,hq,e,hb,hc,hx=>by
    have i1:i<p.length:=by omega
    rw [cycGo]
    by_cases hm:i∈q
    · rw [if_pos hm,walkOf_in hq hm]
      exact cycGo_facts hp d (i+1) q out (by omega) (by omega) hq e hb hc (fun x x0 x1=>by
        by_cases ex:x=i
        · exact ex ▸ hm
        · exact hx x x0 (by omega))
    · rw [if_neg hm]
      have hql:=few_len hq
      obtain ⟨M,hM,h1,h2,h3⟩:=walkC_cyc hp hb i0 i1 hm (p.length+1 - q.length) 0 (by simpa [its] using hq) (by simp [its];omega)
      have hw:walkOf p q i=(q ++ its p i M,its p i M):=by
        unfold walkOf
        have:walkC p (p.length+1 - q.length) (q ++ its p i 0) (its p i 0) (iter (rd p) 0 i)=walkC p (p.length+1 - q.length) q [] i:=by simp [its,iter]
        rw [← this]
        exact h1
      rw [hw]
      refine cycGo_facts hp d (i+1) _ _ (by omega) (by omega) h2 (by simp [e]) (fun y y0 y1 hy => ?_) (fun c hcm => ?_) (fun x x0 x1 => ?_)
      · rcases List.mem_append.1 hy with hy|hy
        · exact List.mem_append_left _ (hb y y0 y1 hy)
        · exact List.mem_append_right _ (its_back hp i0 i1 hM.2 h3 y0 y1 hy)
      · rcases List.mem_append.1 hcm with hcm|hcm
        · exact hc c hcm
        · simp at hcm
          subst hcm
          exact its_cyc hM.2 h3
      · by_cases ex:x=i
        · subst ex
          exact List.mem_append_right _ (its_mem.2 ⟨0,hM.2,rfl⟩)
        · exact List.mem_append_left _ (hx x x0 (by omega))
theorem cycles_facts {p:List Int} (hp:isPerm p):Few p.length (cyclesOf p).flatten∧(∀ x:Int,0≤x→x<p.length→x∈(cyclesOf p).flatten)∧∀ c∈cyclesOf p,Cyc p c:=by
  unfold cyclesOf
  rw [if_pos ((permB_iff p).2 hp)]
  exact cycGo_facts hp p.length 0 [] [] (by omega) (by omega) ⟨by simp,by simp⟩ rfl (by simp) (by simp) (fun x x0 x1=>by omega)

def aroundL (r u:List Int):List Int:=thenL (thenL r u) (thenL (invL r) (invL u))
def cornersL (r u:List Int):List (List Int):=if transB r u=true then cyclesOf (aroundL r u) else []
theorem around_perm {r u:List Int} (h:transB r u=true):isPerm (aroundL r u)∧(aroundL r u).length=r.length:=by
  obtain ⟨hr,hu,he,h0,_⟩:=transB_side h
  have l1:=invL_len hr
  have l2:=invL_len hu
  unfold aroundL
  refine ⟨then_perm (then_perm hr hu he) (then_perm (inv_perm hr) (inv_perm hu) (by omega)) (by rw [then_len,then_len];omega),by rw [then_len,then_len]⟩
theorem around_rd {r u:List Int} (h:transB r u=true) {x:Int} (x0:0≤x) (x1:x<r.length):rd (aroundL r u) x=rd (invL u) (rd (invL r) (rd u (rd r x))):=by
  obtain ⟨hr,hu,he,h0,_⟩:=transB_side h
  have l1:=invL_len hr
  have b1:=pm_in hr x0 x1
  have b2:=pm_in hu b1.1 (by omega)
  unfold aroundL
  rw [then_rd _ _ x0 (by rw [then_len];exact x1),then_rd _ _ x0 x1,then_rd _ _ b2.1 (by omega)]
theorem i_around {r u:List Int} (h:transB r u=true):Ev (fun k=>i_AroundOf.f k r u) (aroundL r u):=by
  obtain ⟨hr,hu,he,h0,_⟩:=transB_side h
  have l1:=invL_len hr
  have l2:=invL_len hu
  unfold i_AroundOf.f aroundL
  refine Ev.bind (i_surfOk r u) ?_
  simp only [if_pos h]
  refine Ev.bind (i_thn hr hu he) ?_
  refine Ev.bind (i_inv hr) ?_
  refine Ev.bind (i_inv hu) ?_
  refine Ev.bind (i_thn (inv_perm hr) (inv_perm hu) (by omega)) ?_
  refine Ev.bind (i_thn (then_perm hr hu he) (then_perm (inv_perm hr) (inv_perm hu) (by omega)) (by rw [then_len,then_len];omega)) ?_
  exact Ev.now _
theorem i_corners (r u:List Int):Ev (fun k=>i_CornersOf.f k r u) (cornersL r u):=by
  unfold i_CornersOf.f cornersL
  refine Ev.bind (i_surfOk r u) ?_
  by_cases h:transB r u=true
  · simp only [if_pos h]
    refine Ev.bind (i_around h) ?_
    refine Ev.bind (i_cycles _) ?_
    exact Ev.now _
  · simp only [if_neg h]
    exact Ev.now _

def decB (u:Nat):ByteArray:=⟨(Go.Lib.decDigits u).toArray⟩
def itoaB (n:Int):ByteArray:=⟨(Go.Lib.itoa n).toArray⟩
theorem nDig_le : ∀ (d u:Nat),u<10 ^ (d+1)→Go.Lib.nDigits u≤d+1
  | 0,u,h=>by rw [Go.Lib.nDigits_small (by simpa using h)];omega
  | d+1,u,h=>by
    by_cases hu:u<10
    · rw [Go.Lib.nDigits_small hu];omega
    · rw [Go.Lib.nDigits_big hu]
      have:=nDig_le d (u / 10) (by rw [Nat.pow_succ] at h;omega)
      omega
theorem decB_size (u:Nat):(decB u).size=Go.Lib.nDigits u:=by
  show (Go.Lib.decDigits u).toArray.size=_
  rw [List.size_toArray,Go.Lib.decDigits_length]
theorem bytes_app (a b:List UInt8):(⟨a.toArray⟩:ByteArray) ++ ⟨b.toArray⟩=⟨(a ++ b).toArray⟩:=by
  apply ByteArray.ext
  rw [ByteArray.data_append]
  simp
theorem itoaB_pos {n:Int} (h:0≤n):itoaB n=decB n.toNat:=by
  unfold itoaB Go.Lib.itoa decB
  rw [if_neg (by omega)]
theorem itoaB_neg {n:Int} (h:n<0):itoaB n=(⟨#[45]⟩:ByteArray) ++ decB n.natAbs:=by
  unfold itoaB Go.Lib.itoa decB
  rw [if_pos h,show (⟨#[45]⟩:ByteArray)=⟨[45].toArray⟩ from rfl,bytes_app]
  rfl
theorem itoaB_size {n:Int} (h0 : -9223372036854775808≤n) (h1:n≤9223372036854775807):(itoaB n).size≤20:=by
  by_cases h:0≤n
  · rw [itoaB_pos h,decB_size]
    have:=nDig_le 18 n.toNat (by omega)
    omega
  · rw [itoaB_neg (by omega),ByteArray.size_append,decB_size]
    have:=nDig_le 18 n.natAbs (by omega)
    show 1+_≤20
    omega
theorem i_fmtint {n:Int} (h0 : -9223372036854775808≤n) (h1:n≤9223372036854775807):i_FormatInt.f n=some (itoaB n):=by
  unfold i_FormatInt.f strconv_Itoa.f
  rw [if_pos ⟨h0,h1⟩]
  rfl
def joinOf (l:List ByteArray) (sep:ByteArray):ByteArray:=⟨(joinB l sep).toArray⟩
def tot (l:List ByteArray) (sep:ByteArray):Nat:=match l with
  | []=>0
  | x :: xs=>x.size+sep.size+tot xs sep
theorem join_two (sep a:List UInt8) (xs:List (List UInt8)) (h:xs≠[]):Go.Lib.join (a :: xs) sep=a ++ sep ++ Go.Lib.join xs sep:=by
  cases xs with
  | nil=>exact absurd rfl h
  | cons b t=>simp [Go.Lib.join,List.intercalate]
theorem bytes_self (x:ByteArray):(⟨x.data.toList.toArray⟩:ByteArray)=x:=by
  apply ByteArray.ext
  simp
theorem joinOf_nil (sep:ByteArray):joinOf [] sep=⟨#[]⟩:=by simp [joinOf,joinB,Go.Lib.join,List.intercalate]
theorem joinOf_one (x sep:ByteArray):joinOf [x] sep=x:=by
  simp [joinOf,joinB,Go.Lib.join,List.intercalate]
theorem joinOf_size (sep:ByteArray):∀ (l:List ByteArray),(joinOf l sep).size≤tot l sep
  | []=>by rw [joinOf_nil];exact Nat.zero_le _
  | [x]=>by rw [joinOf_one];simp only [tot];omega
  | x :: y :: l=>by
    have h:joinOf (x :: y :: l) sep=x ++ sep ++ joinOf (y :: l) sep:=by
      unfold joinOf joinB
      rw [List.map_cons,join_two _ _ _ (by simp),← bytes_app,← bytes_app,bytes_self,bytes_self]
    rw [h,ByteArray.size_append,ByteArray.size_append]
    have:=joinOf_size sep (y :: l)
    rw [tot]
    omega
theorem i_join (sep:ByteArray) (l:List ByteArray) (hl:l.length≤1000000000000) (ht:tot l sep≤1000000000000):i_Join.f l sep=some (joinOf l sep):=by
  unfold i_Join.f strings_Join.f
  have hs:(joinB l sep).length≤tot l sep:=by
    have:=joinOf_size sep l
    exact this
  rw [if_pos ⟨by omega,by omega⟩]
  rfl

def Ints64 (l:List Int):Prop:=∀ x∈l,-9223372036854775808≤x∧x≤9223372036854775807
theorem tot_ints (sep:ByteArray) (hs:sep.size=1):∀ (l:List Int),Ints64 l→tot (l.map itoaB) sep≤21*l.length
  | [],_=>by simp [tot]
  | x :: l,h=>by
    have h1:=tot_ints sep hs l (fun y hy=>h y (List.mem_cons_of_mem _ hy))
    have h2:=h x List.mem_cons_self
    have h3:=itoaB_size h2.1 h2.2
    simp only [List.map_cons,tot,List.length_cons]
    omega
theorem i_ints_l0 (sep:ByteArray) (hs:sep.size=1) (l:List Int) (hl:l.length≤1048576) (h:Ints64 l):∀ (suf pre:List Int),l=pre ++ suf→Ev (fun k=>i_joinInts.l0 k sep (pre.map itoaB) l (l.length:Int) (pre.length:Int)) (joinOf (l.map itoaB) sep)
  | [],pre,e=>by
    refine ev_up ?_
    have e2:l=pre:=by simpa using e
    subst e2
    have:=tot_ints sep hs l h
    simp only [i_joinInts.l0,if_neg (show ¬ ((l.length:Int)<l.length) by omega),i_join sep (l.map itoaB) (by rw [List.length_map];omega) (by omega),Option.bind_some]
    exact Ev.now _
  | x :: suf,pre,e=>by
    refine ev_up ?_
    have hlen:l.length=pre.length+suf.length+1:=by rw [e];simp;omega
    have hx:rd l (pre.length:Int)=x:=by rw [e];exact rd_mid _ _ _
    have hxm:=h x (by rw [e];simp)
    have hw:wrap64 ((pre.length:Int)+1)=((pre ++ [x]).length:Int):=by rw [pw_wrap (by omega) (by omega)];simp
    have ih:=i_ints_l0 sep hs l hl h suf (pre ++ [x]) (by simp [e])
    simp only [i_joinInts.l0,if_pos (show ((pre.length:Int)<l.length) by omega),if_pos (show (0≤(pre.length:Int)) by omega),hx,hw,i_fmtint hxm.1 hxm.2,Option.bind_some]
    refine Ev.congr (f:=fun k=>_) (fun k=>if_pos (by rw [List.length_map];omega)) ?_
    rw [List.map_append] at ih
    exact ih
theorem i_ints (sep:ByteArray) (hs:sep.size=1) (l:List Int) (hl:l.length≤1048576) (h:Ints64 l):Ev (fun k=>i_joinInts.f k l sep) (joinOf (l.map itoaB) sep):=by
  unfold i_joinInts.f
  exact i_ints_l0 sep hs l hl h l [] rfl
def fx (out:List Int) (j:Nat) (c:Prop) [Decidable c]:List Int:=if c then out.set j (wrap64 (rd out (j:Int)+1)) else out
theorem fx_len (out:List Int) (j:Nat) (c:Prop) [Decidable c]:(fx out j c).length=out.length:=by
  unfold fx
  split <;> simp
def fixGo (r u a:List Int):Nat→Int→List Int→List Int
  | 0,_,out=>out
  | d+1,i,out=>fixGo r u a d (i+1) (fx (fx (fx out 0 (rd a i=i)) 1 (rd a i=rd r i)) 2 (rd a i=rd u i))
theorem fixGo_len (r u a:List Int):∀ (d:Nat) (i:Int) (out:List Int),(fixGo r u a d i out).length=out.length
  | 0,_,_=>rfl
  | d+1,i,out=>by rw [fixGo,fixGo_len r u a d,fx_len,fx_len,fx_len]
theorem wrap64_in (x:Int) : -9223372036854775808≤wrap64 x∧wrap64 x≤9223372036854775807:=by
  unfold wrap64
  omega
theorem fx_ints {out:List Int} (h:Ints64 out) (j:Nat) (c:Prop) [Decidable c]:Ints64 (fx out j c):=by
  unfold fx
  split
  · intro x hx
    rcases List.mem_or_eq_of_mem_set hx with hx|rfl
    · exact h x hx
    · exact wrap64_in _
  · exact h
theorem fixGo_ints (r u a:List Int):∀ (d:Nat) (i:Int) (out:List Int),Ints64 out→Ints64 (fixGo r u a d i out)
  | 0,_,_,h=>h
  | d+1,i,out,h=>fixGo_ints r u a d (i+1) _ (fx_ints (fx_ints (fx_ints h _ _) _ _) _ _)
theorem i_fix_l0 {r u a:List Int} {n:Nat} (hn:n≤24) (hr:r.length=n) (hu:u.length=n) (ha:a.length=n) (hR:isPerm r) (hU:isPerm u) {cyc:List (List Int)} (hc:Ev (fun k=>i_CornersOf.f k r u) cyc) (fin:List Int→List Int × Bool)
    (hf:∀ out:List Int,out.length=4→Ev (fun k=>i_FixedPoints.l1 k a out (invL r) (invL u) (List.replicate n 0) cyc cyc (cyc.length:Int) 0) (fin out)):∀ (d:Nat) (i:Int) (out:List Int),0≤i→i+d=n→out.length=4 →
    Ev (fun k=>i_FixedPoints.l0 k a out a (n:Int) i r u) (fin (fixGo r u a d i out))
  | 0,i,out,i0,hi,ho=>by
    refine ev_up ?_
    simp only [i_FixedPoints.l0,if_neg (show ¬ i<(n:Int) by omega)]
    refine Ev.bind (i_inv hR) ?_
    refine Ev.bind (i_inv hU) ?_
    simp only [ha,if_pos (Int.natCast_nonneg n),Int.toNat_natCast,if_pos (show n≤35184372088832 by omega)]
    refine Ev.bind hc ?_
    exact hf out ho
  | d+1,i,out,i0,hi,ho=>by
    have i1:i<n:=by omega
    have hw:wrap64 (i+1)=i+1:=pw_wrap (by omega) (by omega)
    rw [fixGo]
    have ih:=i_fix_l0 hn hr hu ha hR hU hc fin hf d (i+1) (fx (fx (fx out 0 (rd a i=i)) 1 (rd a i=rd r i)) 2 (rd a i=rd u i)) (by omega) (by omega) (by rw [fx_len,fx_len,fx_len];exact ho)
    have l1:(fx out 0 (rd a i=i)).length=4:=by rw [fx_len];exact ho
    have st:Ev (fun k=>i_FixedPoints.j1 k a (fx out 0 (rd a i=i)) i (rd a i) a (n:Int) i r u) (fin (fixGo r u a d (i+1) (fx (fx (fx out 0 (rd a i=i)) 1 (rd a i=rd r i)) 2 (rd a i=rd u i)))):=by
      generalize fx out 0 (rd a i=i)=o1 at *
      refine ev_up ?_
      simp only [i_FixedPoints.j1,if_pos i0,if_pos (show i<(r.length:Int) by omega),if_pos (show i<(u.length:Int) by omega),hw,l1,if_pos (show (1:Int)<((4:Nat):Int) by decide),if_pos (show (2:Int)<((4:Nat):Int) by decide),Option.bind_some]
      unfold fx at ih ⊢
      by_cases c1:rd a i=rd r i
      · by_cases c2:rd a i=rd u i
        · simp only [if_pos c1,if_pos c2] at ih ⊢
          exact ih
        · simp only [if_pos c1,if_neg c2] at ih ⊢
          exact ih
      · by_cases c2:rd a i=rd u i
        · simp only [if_neg c1,if_pos c2] at ih ⊢
          exact ih
        · simp only [if_neg c1,if_neg c2] at ih ⊢
          exact ih
    refine ev_up ?_
    simp only [i_FixedPoints.l0,if_pos i1,if_pos i0,if_pos (show i<(a.length:Int) by omega),ho,if_pos (show (0:Int)<((4:Nat):Int) by decide)]
    by_cases c0:rd a i=i
    · rw [show fx out 0 (rd a i=i)=out.set 0 (wrap64 (rd out 0+1)) from if_pos c0] at st ⊢
      simp only [if_pos c0]
      exact st
    · rw [show fx out 0 (rd a i=i)=out from if_neg c0] at st ⊢
      simp only [if_neg c0]
      exact st
def phi (r u a:List Int) (y:Int):Int:=rd (invL u) (rd (invL r) (rd a y))
theorem phi_in {r u a:List Int} (h:transB r u=true) (ht:IsT r u a) {y:Int} (y0:0≤y) (y1:y<r.length):(0≤rd a y∧rd a y<r.length)∧(0≤rd (invL r) (rd a y)∧rd (invL r) (rd a y)<r.length)∧(0≤phi r u a y∧phi r u a y<r.length):=by
  obtain ⟨hr,hu,he,h0,_⟩:=transB_side h
  have b1:=pm_in ht.1 y0 (by have:=ht.2.1;omega)
  have l:=ht.2.1
  have b2:=inv_right hr b1.1 (by omega)
  have b3:=inv_right hu b2.2.1 (by omega)
  exact ⟨⟨b1.1,by omega⟩,b2.2,b3.2.1,by have:=b3.2.2;show rd (invL u) (rd (invL r) (rd a y))<_;omega⟩
theorem phi_around {r u a:List Int} (h:transB r u=true) (ht:IsT r u a) {x:Int} (x0:0≤x) (x1:x<r.length):phi r u a (rd (aroundL r u) x)=rd (aroundL r u) (phi r u a x):=by
  obtain ⟨hr,hu,he,h0,_⟩:=transB_side h
  obtain ⟨t1,t2,t3⟩:=ht
  have ht:IsT r u a:=⟨t1,t2,t3⟩
  have lr:=invL_len hr
  have lu:=invL_len hu
  have aL:∀ z:Int,0≤z→z<r.length→rd a (rd (invL r) z)=rd r (rd a z):=fun z z0 z1=>by
    have b:=inv_right hr z0 z1
    have e:=(t3 _ b.2.1 b.2.2).1
    rw [b.1] at e
    have c:=pm_in t1 b.2.1 (by omega)
    rw [e,(inv_right hr c.1 (by omega)).1]
  have aD:∀ z:Int,0≤z→z<r.length→rd a (rd (invL u) z)=rd u (rd a z):=fun z z0 z1=>by
    have b:=inv_right hu z0 (by omega)
    have e:=(t3 _ b.2.1 (by omega)).2
    rw [b.1] at e
    have c:=pm_in t1 b.2.1 (by omega)
    rw [e,(inv_right hu c.1 (by omega)).1]
  have b1:=pm_in hr x0 x1
  have b2:=pm_in hu b1.1 (by omega)
  have b3:=pm_in (inv_perm hr) b2.1 (by omega)
  have p:=phi_in h ht x0 x1
  rw [around_rd h x0 x1,around_rd h p.2.2.1 p.2.2.2]
  unfold phi
  rw [aD _ b3.1 (by omega),aL _ b2.1 (by omega),(t3 _ b1.1 b1.2).2,(t3 x x0 x1).1]
def cornStep (r u a:List Int) (out c:List Int):List Int:=fx out 3 (phi r u a (rd c 0)∈c)
theorem corn_len (r u a:List Int):∀ (cyc:List (List Int)) (out:List Int),(cyc.foldl (cornStep r u a) out).length=out.length
  | [],_=>rfl
  | c :: cyc,out=>by
    rw [List.foldl_cons,corn_len r u a cyc]
    exact fx_len _ _ _
theorem corn_ints (r u a:List Int):∀ (cyc:List (List Int)) (out:List Int),Ints64 out→Ints64 (cyc.foldl (cornStep r u a) out)
  | [],_,h=>h
  | c :: cyc,out,h=>by
    rw [List.foldl_cons]
    exact corn_ints r u a cyc _ (fx_ints h _ _)
structure CC (r u:List Int) (cyc:List (List Int)):Prop where
  few:Few r.length cyc.flatten
  all:∀ x:Int,0≤x→x<r.length→x∈cyc.flatten
  each:∀ c∈cyc,Cyc (aroundL r u) c
  len:cyc.length≤24
  good:∀ c∈cyc,GoodC c
theorem corners_CC {r u:List Int} (h:transB r u=true):CC r u (cornersL r u):=by
  have hp:=around_perm h
  have hf:=cycles_facts hp.1
  have hb:=cyclesOf_bd (aroundL r u)
  rw [hp.2] at hf
  unfold cornersL
  rw [if_pos h]
  exact ⟨hf.1,hf.2.1,hf.2.2,hb.2,hb.1⟩
theorem CC.bd {r u:List Int} {cyc:List (List Int)} (h:CC r u cyc) {c:List Int} (hc:c∈cyc) {y:Int} (hy:y∈c):0≤y∧y<r.length:=h.few.2 y (List.mem_flatten.2 ⟨c,hc,hy⟩)
theorem rd_zero_mem {c:List Int} (h:0<c.length):rd c 0∈c:=by
  cases c with
  | nil=>exact absurd h (by simp)
  | cons x c=>simp [rd]
theorem rdL_midF (pre suf:List (List Int)) (x:List Int):rd_L2 (pre ++ x :: suf) (pre.length:Int)=x:=by simp [rd_L2,List.getD]
def fillC (k:Int) (c cor:List Int):List Int:=c.foldl (fun cor y=>cor.set y.toNat k) cor
theorem fill_len (k:Int):∀ (c cor:List Int),(fillC k c cor).length=cor.length
  | [],_=>rfl
  | y :: c,cor=>by
    show (fillC k c (cor.set y.toNat k)).length=_
    rw [fill_len k c,List.length_set]
theorem fill_rd (k:Int):∀ (c cor:List Int),(∀ y∈c,0≤y∧y<(cor.length:Int))→∀ z:Int,0≤z→(z∈c→rd (fillC k c cor) z=k)∧(z∉c→rd (fillC k c cor) z=rd cor z)
  | [],cor,_,z,_=>⟨fun h=>absurd h (by simp),fun _=>rfl⟩
  | y :: c,cor,hb,z,z0=>by
    have yb:=hb y List.mem_cons_self
    have ih:=fill_rd k c (cor.set y.toNat k) (fun x hx=>by rw [List.length_set];exact hb x (List.mem_cons_of_mem _ hx)) z z0
    have e:fillC k (y :: c) cor=fillC k c (cor.set y.toNat k):=rfl
    rw [e]
    refine ⟨fun hz => ?_,fun hz => ?_⟩
    · by_cases hc:z∈c
      · exact ih.1 hc
      · rcases List.mem_cons.1 hz with rfl|hz
        · rw [ih.2 hc]
          exact rdS_same yb.1 yb.2
        · exact absurd hz hc
    · rw [ih.2 (fun hc=>hz (List.mem_cons_of_mem _ hc))]
      exact rdS_ne yb.1 z0 (fun ez=>hz (ez ▸ List.mem_cons_self))
def Filled (pre:List (List Int)) (cor:List Int):Prop:=∀ p1 c p2,pre=p1 ++ c :: p2→∀ y∈c,rd cor y=p1.length
theorem i_fix_l2 {a out p q:List Int} {cyc:List (List Int)} (k0 i:Int) (hi:0≤i∧i≤1000) (res:List Int × Bool) (c:List Int) (hl:c.length≤1000):∀ (suf pre cor:List Int),c=pre ++ suf→(∀ y∈c,0≤y∧y<(cor.length:Int)) →
    Ev (fun k=>i_FixedPoints.l1 k a out p q (fillC k0 suf cor) cyc cyc (cyc.length:Int) (i+1)) res →
    Ev (fun k=>i_FixedPoints.l2 k a out p q cor cyc k0 cyc (cyc.length:Int) i c (c.length:Int) (pre.length:Int)) res
  | [],pre,cor,e,hb,hr=>by
    have e2:c=pre:=by simpa using e
    subst e2
    refine ev_up ?_
    simp only [i_FixedPoints.l2,if_neg (show ¬ ((c.length:Int)<c.length) by omega),pw_wrap (a:=i+1) (by omega) (by omega)]
    exact hr
  | y :: suf,pre,cor,e,hb,hr=>by
    have hlen:c.length=pre.length+suf.length+1:=by rw [e];simp;omega
    have hx:rd c (pre.length:Int)=y:=by rw [e];exact rd_mid _ _ _
    have hw:wrap64 ((pre.length:Int)+1)=((pre ++ [y]).length:Int):=by rw [pw_wrap (by omega) (by omega)];simp
    have yb:=hb y (by rw [e];simp)
    refine ev_up ?_
    simp only [i_FixedPoints.l2,if_pos (show ((pre.length:Int)<c.length) by omega),if_pos (Int.natCast_nonneg pre.length),hx,hw,if_pos yb.1,if_pos yb.2]
    exact i_fix_l2 k0 i hi res c hl suf (pre ++ [y]) (cor.set y.toNat k0) (by simp [e]) (fun z hz=>by rw [List.length_set];exact hb z hz) hr
theorem i_fix_l1 {r u a out:List Int} {cyc:List (List Int)} (hC:CC r u cyc) (res:List Int × Bool) (hf:∀ cor:List Int,cor.length=r.length→Filled cyc cor→Ev (fun k=>i_FixedPoints.l3 k a out (invL r) (invL u) cor cyc (cyc.length:Int) 0) res) :
    ∀ (suf pre:List (List Int)) (cor:List Int),cyc=pre ++ suf→cor.length=r.length→Filled pre cor→Ev (fun k=>i_FixedPoints.l1 k a out (invL r) (invL u) cor cyc cyc (cyc.length:Int) (pre.length:Int)) res
  | [],pre,cor,e,hl,hF=>by
    have e2:cyc=pre:=by simpa using e
    subst e2
    refine ev_up ?_
    simp only [i_FixedPoints.l1,if_neg (show ¬ ((cyc.length:Int)<cyc.length) by omega)]
    exact hf cor hl hF
  | c :: suf,pre,cor,e,hl,hF=>by
    have hcm:c∈cyc:=by rw [e];simp
    have hlen:cyc.length=pre.length+suf.length+1:=by rw [e];simp;omega
    have hl24:=hC.len
    have hx:rd_L2 cyc (pre.length:Int)=c:=by rw [e];exact rdL_midF _ _ _
    have hg:=hC.good c hcm
    have cb:∀ y∈c,0≤y∧y<(cor.length:Int):=fun y hy=>by have:=hC.bd hcm hy;omega
    refine ev_up ?_
    simp only [i_FixedPoints.l1,if_pos (show ((pre.length:Int)<cyc.length) by omega),if_pos (Int.natCast_nonneg pre.length),hx]
    refine i_fix_l2 (pre.length:Int) (pre.length:Int) ⟨by omega,by omega⟩ res c (by have:=hg.2;omega) c [] cor rfl cb ?_
    have ih:=i_fix_l1 hC res hf suf (pre ++ [c]) (fillC (pre.length:Int) c cor) (by simp [e]) (by rw [fill_len];exact hl) (fun p1 x p2 ep y hy=>by
      have dis:∀ p1' x' p2',pre=p1' ++ x' :: p2'→y∈x'→y∉c:=fun p1' x' p2' ep' hy' hyc=>by
        have hn:=hC.few.1
        rw [e,ep'] at hn
        simp only [List.flatten_append,List.flatten_cons] at hn
        have h2:=(List.nodup_append.1 hn).2.2
        exact h2 y (List.mem_append_right _ (List.mem_append_left _ hy')) y (List.mem_append_left _ hyc) rfl
      rcases List.append_eq_append_iff.1 ep with ⟨s,e1,e2⟩|⟨s,e1,e2⟩
      · cases s with
        | nil =>
          simp only [List.nil_append] at e2
          simp only [List.append_nil] at e1
          obtain ⟨rfl,rfl⟩:=List.cons.inj e2
          subst e1
          have yb:=cb y hy
          exact(fill_rd _ _ _ cb y yb.1).1 hy
        | cons z s=>exact absurd (congrArg List.length e2) (by simp)
      · cases s with
        | nil =>
          simp only [List.nil_append] at e2
          simp only [List.append_nil] at e1
          obtain ⟨rfl,rfl⟩:=List.cons.inj e2.symm
          subst e1
          have yb:=cb y hy
          exact(fill_rd _ _ _ cb y yb.1).1 hy
        | cons z s =>
          obtain ⟨rfl,e3⟩:=List.cons.inj e2
          have hym:=dis p1 x s e1 hy
          have yb:0≤y:=(hC.bd (show x∈cyc by rw [e,e1];simp) hy).1
          rw [(fill_rd _ _ _ cb y yb).2 hym]
          exact hF p1 x s e1 y hy)
    rw [List.length_append] at ih
    simpa using ih
theorem filled_iff {r u:List Int} {cyc:List (List Int)} (hC:CC r u cyc) {cor:List Int} (hF:Filled cyc cor) {pre suf:List (List Int)} {c:List Int} (e:cyc=pre ++ c :: suf) {z:Int} (z0:0≤z) (z1:z<r.length):rd cor z=pre.length↔z∈c:=by
  constructor
  · intro hz
    obtain ⟨x,hx,hzx⟩:=List.mem_flatten.1 (hC.all z z0 z1)
    obtain ⟨p1,p2,e1⟩:=List.append_of_mem hx
    have h1:=hF p1 x p2 e1 z hzx
    have hl:p1.length=pre.length:=by omega
    have e2:p1 ++ x :: p2=pre ++ c :: suf:=e1.symm.trans e
    obtain ⟨_,e3⟩:=List.append_inj e2 hl
    obtain ⟨rfl,_⟩:=List.cons.inj e3
    exact hzx
  · exact hF pre c suf e z
theorem stays_iff {r u a:List Int} (h:transB r u=true) (ht:IsT r u a) {c:List Int} (hc:Cyc (aroundL r u) c) (cb:∀ y∈c,0≤y∧y<(r.length:Int)):(∀ y∈c,phi r u a y∈c)↔phi r u a (rd c 0)∈c:=by
  have hz:=rd_zero_mem hc.ne
  have zb:=cb _ hz
  have hp:=around_perm h
  refine ⟨fun hy=>hy _ hz,fun h0 y hy => ?_⟩
  have all:∀ m,phi r u a (iter (rd (aroundL r u)) m (rd c 0))∈c:=by
    intro m
    induction m with
    | zero=>exact h0
    | succ m ih =>
      have b:=iter_in hp.1 zb.1 (by rw [hp.2];exact zb.2) m
      rw [hp.2] at b
      rw [iter_succ,phi_around h ht b.1 b.2]
      exact hc.fwd _ ih
  obtain ⟨m,rfl⟩:=hc.gen y hy
  exact all m
theorem i_fix_l4 {r u a out cor:List Int} (h:transB r u=true) (ht:IsT r u a) {cyc:List (List Int)} (hl:cor.length=r.length) (k0:Int) (c:List Int) (hcl:c.length≤1000) (cb:∀ y∈c,0≤y∧y<(r.length:Int)) (res:List Int × Bool):∀ (suf pre:List Int) (b:Bool),c=pre ++ suf→0≤k0 →
    (∀ b',b'=(b && decide (∀ y∈suf,rd cor (phi r u a y)=k0))→Ev (fun k=>i_FixedPoints.l4 k a out (invL r) (invL u) cor k0 b' cyc (cyc.length:Int) k0 c (c.length:Int) (c.length:Int)) res) →
    Ev (fun k=>i_FixedPoints.l4 k a out (invL r) (invL u) cor k0 b cyc (cyc.length:Int) k0 c (c.length:Int) (pre.length:Int)) res
  | [],pre,b,e,hk,hr=>by
    have e2:c=pre:=by simpa using e
    subst e2
    exact hr b (by simp)
  | y :: suf,pre,b,e,hk,hr=>by
    obtain ⟨hR,hU,he,h0,_⟩:=transB_side h
    have hlen:c.length=pre.length+suf.length+1:=by rw [e];simp;omega
    have hx:rd c (pre.length:Int)=y:=by rw [e];exact rd_mid _ _ _
    have hw:wrap64 ((pre.length:Int)+1)=((pre ++ [y]).length:Int):=by rw [pw_wrap (by omega) (by omega)];simp
    have yb:=cb y (by rw [e];simp)
    have pb:=phi_in h ht yb.1 yb.2
    have l1:=invL_len hR
    have l2:=invL_len hU
    have la:=ht.2.1
    refine ev_up ?_
    simp only [i_FixedPoints.l4,if_pos (show ((pre.length:Int)<c.length) by omega),if_pos (Int.natCast_nonneg pre.length),hx,hw,if_pos yb.1,if_pos (show y<(a.length:Int) by omega),if_pos pb.1.1,if_pos (show rd a y<((invL r).length:Int) by omega),if_pos pb.2.1.1,if_pos (show rd (invL r) (rd a y)<((invL u).length:Int) by omega),if_pos (show 0≤rd (invL u) (rd (invL r) (rd a y)) from pb.2.2.1),if_pos (show rd (invL u) (rd (invL r) (rd a y))<(cor.length:Int) by have:=pb.2.2.2;unfold phi at this;omega)]
    cases b with
    | true =>
      simp only [if_true]
      refine i_fix_l4 h ht hl k0 c hcl cb res suf (pre ++ [y]) _ (by simp [e]) hk (fun b' hb'=>hr b' ?_)
      rw [hb']
      have e3:rd (invL u) (rd (invL r) (rd a y))=phi r u a y:=rfl
      rw [e3]
      by_cases q:rd cor (phi r u a y)=k0 <;> simp [q]
    | false =>
      simp only [Bool.false_eq_true,if_false]
      exact i_fix_l4 h ht hl k0 c hcl cb res suf (pre ++ [y]) false (by simp [e]) hk (fun b' hb'=>hr b' (by rw [hb'];simp))
theorem i_fix_l3 {r u a cor:List Int} (h:transB r u=true) (ht:IsT r u a) {cyc:List (List Int)} (hC:CC r u cyc) (hl:cor.length=r.length) (hF:Filled cyc cor):∀ (suf pre:List (List Int)) (out:List Int),cyc=pre ++ suf→out.length=4 →
    Ev (fun k=>i_FixedPoints.l3 k a out (invL r) (invL u) cor cyc (cyc.length:Int) (pre.length:Int)) (suf.foldl (cornStep r u a) out,true)
  | [],pre,out,e,ho=>by
    have e2:cyc=pre:=by simpa using e
    subst e2
    refine ev_up ?_
    simp only [i_FixedPoints.l3,if_neg (show ¬ ((cyc.length:Int)<cyc.length) by omega)]
    exact Ev.now _
  | c :: suf,pre,out,e,ho=>by
    have hcm:c∈cyc:=by rw [e];simp
    have hlen:cyc.length=pre.length+suf.length+1:=by rw [e];simp;omega
    have hl24:=hC.len
    have hx:rd_L2 cyc (pre.length:Int)=c:=by rw [e];exact rdL_midF _ _ _
    have hw:wrap64 ((pre.length:Int)+1)=((pre ++ [c]).length:Int):=by rw [pw_wrap (by omega) (by omega)];simp
    have hg:=hC.good c hcm
    have cb:∀ y∈c,0≤y∧y<(r.length:Int):=fun y hy=>hC.bd hcm hy
    have ih:=i_fix_l3 h ht hC hl hF suf (pre ++ [c]) (cornStep r u a out c) (by simp [e]) (by rw [cornStep,fx_len];exact ho)
    refine ev_up ?_
    simp only [i_FixedPoints.l3,if_pos (show ((pre.length:Int)<cyc.length) by omega),if_pos (Int.natCast_nonneg pre.length),hx]
    rw [List.foldl_cons]
    refine i_fix_l4 h ht hl (pre.length:Int) c (by have:=hg.2;omega) cb _ c [] true rfl (by omega) (fun b' hb' => ?_)
    have eb:b'=decide (phi r u a (rd c 0)∈c):=by
      rw [hb',Bool.true_and]
      apply decide_eq_decide.2
      rw [← stays_iff h ht (hC.each c hcm) cb]
      constructor
      · intro hy y hyc
        have pb:=phi_in h ht (cb y hyc).1 (cb y hyc).2
        exact(filled_iff hC hF e pb.2.2.1 pb.2.2.2).1 (hy y hyc)
      · intro hy y hyc
        have pb:=phi_in h ht (cb y hyc).1 (cb y hyc).2
        exact(filled_iff hC hF e pb.2.2.1 pb.2.2.2).2 (hy y hyc)
    refine ev_up ?_
    simp only [i_FixedPoints.l4,if_neg (show ¬ ((c.length:Int)<c.length) by omega),ho,if_pos (show (3:Int)<((4:Nat):Int) by decide),hw,eb]
    unfold cornStep fx at ih
    by_cases m:phi r u a (rd c 0)∈c
    · simp only [if_pos m] at ih
      simp only [decide_eq_true m,if_true,cornStep,fx,if_pos m]
      exact ih
    · simp only [if_neg m] at ih
      simp only [decide_eq_false m,Bool.false_eq_true,if_false,cornStep,fx,if_neg m]
      exact ih
def fixedOf (r u a:List Int):List Int × Bool:=if turnB r u a=true then ((cornersL r u).foldl (cornStep r u a) (fixGo r u a a.length 0 [0,0,0,0]),true) else ([],false)
theorem i_fixed {r u:List Int} (h:transB r u=true) (a:List Int):Ev (fun k=>i_FixedPoints.f k r u a) (fixedOf r u a):=by
  obtain ⟨hr,hu,he,h0,_⟩:=transB_side h
  unfold i_FixedPoints.f fixedOf
  refine Ev.bind (i_isTurn h a) ?_
  by_cases c:turnB r u a=true
  · simp only [if_pos c,if_pos (show 4≤35184372088832 by decide)]
    have ht:=(turnB_iff r u a).1 c
    have l:=ht.2.1
    have hC:=corners_CC h
    exact i_fix_l0 ht.1.1 l.symm (by omega) rfl hr hu (i_corners r u) (fun out=>((cornersL r u).foldl (cornStep r u a) out,true)) (fun out ho=>i_fix_l1 hC _ (fun cor hcl hF=>i_fix_l3 h ht hC hcl hF (cornersL r u) [] out rfl ho) (cornersL r u) [] _ rfl (by simp [l]) (fun p1 x p2 ep=>absurd ep (by simp))) a.length 0 (List.replicate 4 0) (by omega) (by omega) rfl
  · simp only [if_neg c]
    exact Ev.now _
theorem fixed_side {r u a:List Int} (h:transB r u=true):Ints64 (fixedOf r u a).1∧(fixedOf r u a).1.length≤4:=by
  unfold fixedOf
  split
  · refine ⟨corn_ints _ _ _ _ _ (fixGo_ints _ _ _ _ _ _ (fun x hx=>by simp at hx;subst hx;omega)),?_⟩
    simp only [corn_len,fixGo_len]
    simp
  · exact ⟨fun x hx=>absurd hx (by simp),by simp⟩

def squaresS (r u:List Int):Int:=if transB r u=true then (r.length:Int) else 0
theorem i_squares (r u:List Int):Ev (fun k=>i_CountSquares.f k r u) (squaresS r u):=by
  unfold i_CountSquares.f squaresS
  refine Ev.bind (i_surfOk r u) ?_
  by_cases h:transB r u=true
  · simp only [if_pos h];exact Ev.now _
  · simp only [if_neg h];exact Ev.now _
def genusS (r u:List Int):Int:=if transB r u=true then wrap64 (1+wrap64 (Int.tdiv (wrap64 ((r.length:Int) - ((cornersL r u).length:Int))) 2)) else -1
theorem i_genus (r u:List Int):Ev (fun k=>i_GenusOf.f k r u) (genusS r u):=by
  unfold i_GenusOf.f genusS
  refine Ev.bind (i_surfOk r u) ?_
  by_cases h:transB r u=true
  · simp only [if_pos h]
    have hs:squaresS r u=(r.length:Int):=by unfold squaresS;rw [if_pos h]
    have:=i_squares r u
    rw [hs] at this
    refine Ev.bind this ?_
    refine Ev.bind (i_corners r u) ?_
    exact Ev.now _
  · simp only [if_neg h];exact Ev.now _
def ups : Nat→Int→List Int
  | 0,_=>[]
  | d+1,i=>i :: ups d (i+1)
theorem ups_len : ∀ (d:Nat) (i:Int),(ups d i).length=d
  | 0,_=>rfl
  | d+1,i=>by simp [ups,ups_len d]
theorem mem_ups (x:Int):∀ (d:Nat) (i:Int),x∈ups d i↔i≤x∧x<i+d
  | 0,i=>by
    simp only [ups,List.not_mem_nil,false_iff]
    omega
  | d+1,i=>by
    rw [ups,List.mem_cons,mem_ups x d (i+1)]
    omega
theorem ups_nodup : ∀ (d:Nat) (i:Int),(ups d i).Nodup
  | 0,_=>List.nodup_nil
  | d+1,i=>by
    rw [ups,List.nodup_cons,mem_ups]
    exact ⟨by omega,ups_nodup d (i+1)⟩
theorem ups_rd : ∀ (d:Nat) (i j:Int),0≤j→j<d→rd (ups d i) j=i+j
  | 0,i,j,h0,h1=>by omega
  | d+1,i,j,h0,h1=>by
    by_cases e:j=0
    · subst e
      simp [ups,rd]
    · have h:=ups_rd d (i+1) (j - 1) (by omega) (by omega)
      obtain ⟨m,rfl⟩:=Int.eq_ofNat_of_zero_le h0
      obtain ⟨m,rfl⟩:∃ q,m=q+1:=⟨m - 1,by omega⟩
      have e2:(((m+1:Nat):Int) - 1)=(m:Int):=by omega
      rw [e2] at h
      have e3:rd (ups (d+1) i) ((m+1:Nat):Int)=rd (ups d (i+1)) (m:Int):=by simp [ups,rd]
      rw [e3,h]
      omega
def cntI (n:Nat) (P:Int→Bool):Nat:=((ups n 0).filter P).length
theorem map_ups {g:List Int} {n:Nat} (hl:g.length=n):(ups n 0).map (rd g)=g:=by
  refine rd_ext (by rw [List.length_map,ups_len,hl]) fun x x0 x1 => ?_
  rw [List.length_map,ups_len] at x1
  obtain ⟨m,rfl⟩:=Int.eq_ofNat_of_zero_le x0
  have h:=ups_rd n 0 (m:Int) x0 x1
  have hm:m<(ups n 0).length:=by rw [ups_len];omega
  rw [rd_get _ m hm] at h
  rw [rd_get _ m (by rw [List.length_map];exact hm)]
  simp only [List.getElem_map,h,Int.zero_add]
theorem ups_perm {g:List Int} {n:Nat} (hg:isPerm g) (hl:g.length=n):(ups n 0).Perm g:=by
  rw [List.perm_ext_iff_of_nodup (ups_nodup n 0) hg.2.2]
  intro x
  rw [mem_ups]
  constructor
  · intro h
    obtain ⟨y,y0,y1,e⟩:=pm_sur hg (y:=x) (by omega) (by omega)
    rw [← e]
    exact rd_memL y0 y1
  · intro h
    have:=hg.2.1 x h
    omega
theorem filter_same {l:List Int} {P Q:Int→Bool} (h:∀ x∈l,P x=Q x):(l.filter P).length=(l.filter Q).length:=by
  induction l with
  | nil=>rfl
  | cons x l ih =>
    have ih:=ih fun y hy=>h y (by simp [hy])
    rw [List.filter_cons,List.filter_cons,h x (by simp)]
    split <;> simp [ih]
theorem cntI_same {n:Nat} {P Q:Int→Bool} (h:∀ x:Int,0≤x→x<n→P x=Q x):cntI n P=cntI n Q:=filter_same fun x hx=>by
  rw [mem_ups] at hx
  exact h x (by omega) (by omega)
theorem cntI_re {g:List Int} {n:Nat} (hg:isPerm g) (hl:g.length=n) {P Q:Int→Bool} (h:∀ x:Int,0≤x→x<n→P x=Q (rd g x)):cntI n P=cntI n Q:=by
  rw [cntI_same (Q:=fun x=>Q (rd g x)) h]
  have e:((ups n 0).filter fun x=>Q (rd g x)).length=(((ups n 0).map (rd g)).filter Q).length:=by
    rw [List.filter_map,List.length_map]
    rfl
  unfold cntI
  rw [e,map_ups hl]
  exact((ups_perm hg hl).filter Q).length_eq.symm
def c0N (r u a:List Int):Nat:=cntI r.length fun x=>decide (rd a x=x)
def c1N (r u a:List Int):Nat:=cntI r.length fun x=>decide (rd a x=rd r x)
def c2N (r u a:List Int):Nat:=cntI r.length fun x=>decide (rd a x=rd u x)
def keepC (r u a c:List Int):Bool:=decide (phi r u a (rd c 0)∈c)
def c3N (r u a:List Int):Nat:=((cornersL r u).filter (keepC r u a)).length
theorem fx_at (x0 x1 x2 x3:Nat) (c:Prop) [Decidable c] (hb:x0≤1000∧x1≤1000∧x2≤1000∧x3≤1000) :
    fx [(x0:Int),x1,x2,x3] 0 c=[((x0+(if decide c=true then 1 else 0):Nat):Int),x1,x2,x3]∧fx [(x0:Int),x1,x2,x3] 1 c=[(x0:Int),((x1+(if decide c=true then 1 else 0):Nat):Int),x2,x3]∧fx [(x0:Int),x1,x2,x3] 2 c=[(x0:Int),x1,((x2+(if decide c=true then 1 else 0):Nat):Int),x3]∧fx [(x0:Int),x1,x2,x3] 3 c=[(x0:Int),x1,x2,((x3+(if decide c=true then 1 else 0):Nat):Int)]:=by
  unfold fx
  have w0:wrap64 ((x0:Int)+1)=((x0+1:Nat):Int):=by rw [pw_wrap (by omega) (by omega)];omega
  have w1:wrap64 ((x1:Int)+1)=((x1+1:Nat):Int):=by rw [pw_wrap (by omega) (by omega)];omega
  have w2:wrap64 ((x2:Int)+1)=((x2+1:Nat):Int):=by rw [pw_wrap (by omega) (by omega)];omega
  have w3:wrap64 ((x3:Int)+1)=((x3+1:Nat):Int):=by rw [pw_wrap (by omega) (by omega)];omega
  have r0:rd [(x0:Int),x1,x2,x3] ((0:Nat):Int)=x0:=rfl
  have r1:rd [(x0:Int),x1,x2,x3] ((1:Nat):Int)=x1:=rfl
  have r2:rd [(x0:Int),x1,x2,x3] ((2:Nat):Int)=x2:=rfl
  have r3:rd [(x0:Int),x1,x2,x3] ((3:Nat):Int)=x3:=rfl
  by_cases h:c
  · simp only [if_pos h,decide_eq_true h,if_true,r0,r1,r2,r3,w0,w1,w2,w3]
    exact ⟨rfl,rfl,rfl,rfl⟩
  · simp only [if_neg h,decide_eq_false h,Bool.false_eq_true,if_false,Nat.add_zero]
    refine ⟨?_,?_,?_,?_⟩ <;> trivial
theorem filter_one {P:Int→Bool} (d:Nat) (i:Int):((ups (d+1) i).filter P).length=(if P i=true then 1 else 0)+((ups d (i+1)).filter P).length:=by
  rw [ups,List.filter_cons]
  split
  · rw [List.length_cons];omega
  · omega
theorem fixGo_cnt (r u a:List Int):∀ (d:Nat) (i:Int) (x0 x1 x2:Nat),x0+d≤1000→x1+d≤1000→x2+d≤1000 →
    fixGo r u a d i [(x0:Int),x1,x2,((0:Nat):Int)]=[((x0+((ups d i).filter fun x=>decide (rd a x=x)).length:Nat):Int),((x1+((ups d i).filter fun x=>decide (rd a x=rd r x)).length:Nat):Int),((x2+((ups d i).filter fun x=>decide (rd a x=rd u x)).length:Nat):Int),((0:Nat):Int)]
  | 0,i,x0,x1,x2,_,_,_=>rfl
  | d+1,i,x0,x1,x2,h0,h1,h2=>by
    rw [fixGo,(fx_at x0 x1 x2 0 _ (by omega)).1]
    have b0:x0+(if decide (rd a i=i)=true then 1 else 0)≤x0+1:=by split <;> omega
    have b1:x1+(if decide (rd a i=rd r i)=true then 1 else 0)≤x1+1:=by split <;> omega
    have b2:x2+(if decide (rd a i=rd u i)=true then 1 else 0)≤x2+1:=by split <;> omega
    rw [(fx_at _ x1 x2 0 _ (by omega)).2.1,(fx_at _ _ x2 0 _ (by omega)).2.2.1,fixGo_cnt r u a d (i+1) _ _ _ (by omega) (by omega) (by omega),filter_one,filter_one,filter_one]
    simp only [Nat.add_assoc]
theorem corn_cnt (r u a:List Int):∀ (cyc:List (List Int)) (x0 x1 x2 x3:Nat),x0≤1000→x1≤1000→x2≤1000→x3+cyc.length≤1000 →
    cyc.foldl (cornStep r u a) [(x0:Int),x1,x2,x3]=[(x0:Int),x1,x2,((x3+(cyc.filter (keepC r u a)).length:Nat):Int)]
  | [],_,_,_,_,_,_,_,_=>rfl
  | c :: cyc,x0,x1,x2,x3,h0,h1,h2,h3=>by
    rw [List.length_cons] at h3
    rw [List.foldl_cons,cornStep,(fx_at x0 x1 x2 x3 _ (by omega)).2.2.2]
    have b:x3+(if decide (phi r u a (rd c 0)∈c)=true then 1 else 0)≤x3+1:=by split <;> omega
    rw [corn_cnt r u a cyc _ _ _ _ h0 h1 h2 (by omega),List.filter_cons]
    have e:keepC r u a c=decide (phi r u a (rd c 0)∈c):=rfl
    rw [e]
    split
    · rw [List.length_cons,Nat.add_assoc,Nat.add_comm 1]
    · rw [Nat.add_zero]
theorem fixed_counts {r u a:List Int} (h:transB r u=true) (ht:turnB r u a=true):fixedOf r u a=([(c0N r u a:Int),c1N r u a,c2N r u a,c3N r u a],true):=by
  have n:=(transB_side h).1.1
  have la:=((turnB_iff r u a).1 ht).2.1
  have e:([0,0,0,0]:List Int)=[((0:Nat):Int),((0:Nat):Int),((0:Nat):Int),((0:Nat):Int)]:=rfl
  have bd:∀ P:Int→Bool,((ups r.length 0).filter P).length≤r.length:=fun P=>by
    have:=List.length_filter_le P (ups r.length 0)
    rw [ups_len] at this
    exact this
  have hl:=(corners_CC h).len
  unfold fixedOf
  rw [if_pos ht,e,la,fixGo_cnt r u a _ _ 0 0 0 (by omega) (by omega) (by omega)]
  have b0:=bd fun x=>decide (rd a x=x)
  have b1:=bd fun x=>decide (rd a x=rd r x)
  have b2:=bd fun x=>decide (rd a x=rd u x)
  rw [corn_cnt r u a _ _ _ _ 0 (by omega) (by omega) (by omega) (by omega)]
  simp only [Nat.zero_add]
  rfl
theorem iso_inv {r r' g:List Int} (hg:isPerm g) (lg:g.length=r.length) (le:r'.length=r.length) (pr:isPerm r) (pr':isPerm r') (h:∀ x:Int,0≤x→x<r.length→rd g (rd r x)=rd r' (rd g x)) {x:Int} (x0:0≤x) (x1:x<r.length):rd g (rd (invL r) x)=rd (invL r') (rd g x):=by
  have b:=inv_right pr x0 x1
  have e:=h _ b.2.1 b.2.2
  rw [b.1] at e
  have c:=pm_in hg b.2.1 (by omega)
  rw [e,inv_left pr' c.1 (by omega)]
theorem around_iso {r u r' u' g:List Int} (i:Iso r u r' u' g) (h:transB r u=true) (h':transB r' u'=true) {x:Int} (x0:0≤x) (x1:x<r.length):rd g (rd (aroundL r u) x)=rd (aroundL r' u') (rd g x):=by
  obtain ⟨pr,pu,he,hn,_⟩:=transB_side h
  obtain ⟨pr',pu',he',hn',_⟩:=transB_side h'
  have lg:=i.lg
  have le:=i.le
  have bg:=pm_in i.pg x0 (by omega)
  have b1:=pm_in pr x0 x1
  have b2:=pm_in pu b1.1 (by omega)
  have b3:=inv_right pr b2.1 (by omega)
  rw [around_rd h x0 x1,around_rd h' bg.1 (by omega),iso_inv i.pg (by omega) (by omega) pu pu' (fun y y0 y1=>i.hu y y0 (by omega)) b3.2.1 (by omega),iso_inv i.pg lg le pr pr' i.hr b2.1 (by omega),i.hu _ b1.1 (by omega),i.hr x x0 x1]
theorem iter_iso {r u r' u' g:List Int} (i:Iso r u r' u' g) (h:transB r u=true) (h':transB r' u'=true) {x:Int} (x0:0≤x) (x1:x<r.length):∀ m,rd g (iter (rd (aroundL r u)) m x)=iter (rd (aroundL r' u')) m (rd g x)
  | 0=>rfl
  | m+1=>by
    have hp:=around_perm h
    have b:=iter_in hp.1 x0 (by rw [hp.2];exact x1) m
    rw [hp.2] at b
    rw [iter_succ,iter_succ,around_iso i h h' b.1 b.2,iter_iso i h h' x0 x1 m]
theorem iter_addI (f:Int→Int) (x:Int) (m:Nat):∀ k,iter f (m+k) x=iter f k (iter f m x)
  | 0=>rfl
  | k+1=>by
    rw [← Nat.add_assoc,iter_succ,iter_succ,iter_addI f x m k]
theorem cyc_fwd {p c:List Int} (hc:Cyc p c) {y:Int} (hy:y∈c):∀ m,iter (rd p) m y∈c
  | 0=>hy
  | m+1=>by
    rw [iter_succ]
    exact hc.fwd _ (cyc_fwd hc hy m)
theorem cyc_all {p c:List Int} (hp:isPerm p) (hc:Cyc p c) (cb:∀ y∈c,0≤y∧y<(p.length:Int)) {y z:Int} (hy:y∈c) (hz:z∈c):∃ m,z=iter (rd p) m y:=by
  have h0:=rd_zero_mem hc.ne
  have b0:=cb _ h0
  obtain ⟨m,hm⟩:=hc.gen y hy
  obtain ⟨k,hk⟩:=hc.gen z hz
  obtain ⟨q,q1,_,hq⟩:=iter_ret (n:=p.length) (f:=rd p) (fun x x0 x1=>pm_in hp x0 x1) (fun a b a0 a1 b0 b1 e=>pm_inj hp a0 a1 b0 b1 e) b0.1 b0.2
  have hmul:∀ t,iter (rd p) (q*t) (rd c 0)=rd c 0:=fun t=>by
    induction t with
    | zero=>rfl
    | succ t ih=>rw [Nat.mul_succ,iter_addI,ih,hq]
  have hle:m≤q*m:=Nat.le_mul_of_pos_left m (by omega)
  refine ⟨q*m - m+k,?_⟩
  rw [hk,hm,← iter_addI,show m+(q*m - m+k)=q*m+k by omega,iter_addI,hmul]
theorem nodup_sub_lenL {α:Type}:∀ (a b:List α),a.Nodup→(∀ x∈a,x∈b)→a.length≤b.length
  | [],b,_,_=>by simp
  | x :: a,b,hn,hs=>by
    obtain ⟨b1,b2,rfl⟩:=List.append_of_mem (hs x (by simp))
    have hx:=List.nodup_cons.1 hn
    have:=nodup_sub_lenL a (b1 ++ b2) hx.2 (fun y hy=>by
      have:=hs y (List.mem_cons_of_mem _ hy)
      simp only [List.mem_append,List.mem_cons] at this ⊢
      rcases this with h|h|h
      · exact .inl h
      · subst h;exact absurd hy hx.1
      · exact .inr h)
    simp only [List.length_append,List.length_cons] at this ⊢
    omega
theorem flat_same : ∀ (cyc:List (List Int)),cyc.flatten.Nodup→∀ c∈cyc,∀ d∈cyc,∀ x,x∈c→x∈d→c=d
  | [],_,c,hc,_,_,_,_,_=>absurd hc (by simp)
  | e :: cyc,h,c,hc,d,hd,x,xc,xd=>by
    rw [List.flatten_cons,List.nodup_append] at h
    rcases List.mem_cons.1 hc with hc2|hc2
    · rcases List.mem_cons.1 hd with hd2|hd2
      · rw [hc2,hd2]
      · exact absurd rfl (h.2.2 x (hc2 ▸ xc) x (List.mem_flatten.2 ⟨d,hd2,xd⟩))
    · rcases List.mem_cons.1 hd with hd2|hd2
      · exact absurd rfl (h.2.2 x (hd2 ▸ xd) x (List.mem_flatten.2 ⟨c,hc2,xc⟩))
      · exact flat_same cyc h.2.1 c hc2 d hd2 x xc xd
theorem cyc_nodup : ∀ (cyc:List (List Int)),cyc.flatten.Nodup→(∀ c∈cyc,0<c.length)→cyc.Nodup
  | [],_,_=>List.nodup_nil
  | c :: cyc,h,hn=>by
    rw [List.flatten_cons,List.nodup_append] at h
    refine List.nodup_cons.2 ⟨fun hm => ?_,cyc_nodup cyc h.2.1 fun d hd=>hn d (by simp [hd])⟩
    have hz:=rd_zero_mem (hn c (by simp))
    exact absurd rfl (h.2.2 _ hz _ (List.mem_flatten.2 ⟨c,hm,hz⟩))
def homeC (cyc:List (List Int)) (x:Int):List Int:=(cyc.find? fun c=>decide (x∈c)).getD []
theorem home_mem {cyc:List (List Int)} {x:Int} (h:x∈cyc.flatten):homeC cyc x∈cyc∧x∈homeC cyc x:=by
  obtain ⟨c,hc,hx⟩:=List.mem_flatten.1 h
  unfold homeC
  cases e:cyc.find? fun c=>decide (x∈c) with
  | none=>exact absurd (List.find?_eq_none.1 e c hc) (by simp [hx])
  | some d =>
    have h1:=List.mem_of_find?_eq_some e
    have h2:=List.find?_some e
    exact ⟨h1,by simpa using h2⟩
theorem cyc_le {r u r' u' g:List Int} (i:Iso r u r' u' g) (h:transB r u=true) (h':transB r' u'=true) (Q Q':List Int→Bool) (hQ:∀ c∈cornersL r u,Q c=true→∀ c'∈cornersL r' u',rd g (rd c 0)∈c'→Q' c'=true):((cornersL r u).filter Q).length≤((cornersL r' u').filter Q').length:=by
  have C:=corners_CC h
  have C':=corners_CC h'
  have hp:=around_perm h
  have hp':=around_perm h'
  have lg:=i.lg
  have le:=i.le
  have hd:∀ c∈cornersL r u,0≤rd c 0∧rd c 0<r.length:=fun c hc=>C.bd hc (rd_zero_mem (C.each c hc).ne)
  have hm:∀ c∈cornersL r u,homeC (cornersL r' u') (rd g (rd c 0))∈cornersL r' u'∧rd g (rd c 0)∈homeC (cornersL r' u') (rd g (rd c 0)):=fun c hc=>by
    have b:=pm_in i.pg (hd c hc).1 (by have:=(hd c hc).2;omega)
    exact home_mem (C'.all _ b.1 (by omega))
  have inj:∀ c∈cornersL r u,∀ d∈cornersL r u,homeC (cornersL r' u') (rd g (rd c 0))=homeC (cornersL r' u') (rd g (rd d 0))→c=d:=fun c hc d hdm e=>by
    have m1:=hm c hc
    have m2:=hm d hdm
    rw [← e] at m2
    obtain ⟨m,em⟩:=cyc_all hp'.1 (C'.each _ m1.1) (fun y hy=>by have:=C'.bd m1.1 hy;rw [hp'.2];exact this) m1.2 m2.2
    rw [← iter_iso i h h' (hd c hc).1 (hd c hc).2 m] at em
    have b:=iter_in hp.1 (hd c hc).1 (by rw [hp.2];exact(hd c hc).2) m
    rw [hp.2] at b
    have e2:=pm_inj i.pg (hd d hdm).1 (by have:=(hd d hdm).2;omega) b.1 (by omega) em
    refine flat_same _ C.few.1 c hc d hdm (rd d 0) ?_ (rd_zero_mem (C.each d hdm).ne)
    rw [e2]
    exact cyc_fwd (C.each c hc) (rd_zero_mem (C.each c hc).ne) m
  have nd:=(cyc_nodup _ C.few.1 fun c hc=>(C.each c hc).ne).filter Q
  have nd2:(((cornersL r u).filter Q).map fun c=>homeC (cornersL r' u') (rd g (rd c 0))).Nodup:=by
    refine List.pairwise_map.2 (List.Pairwise.imp_of_mem (fun {c d} hc hd2 hne e=>hne ?_) nd)
    exact inj c (List.mem_filter.1 hc).1 d (List.mem_filter.1 hd2).1 e
  have:=nodup_sub_lenL _ ((cornersL r' u').filter Q') nd2 fun x hx=>by
    obtain ⟨c,hc,rfl⟩:=List.mem_map.1 hx
    obtain ⟨hc,hq⟩:=List.mem_filter.1 hc
    have m:=hm c hc
    exact List.mem_filter.2 ⟨m.1,hQ c hc hq _ m.1 m.2⟩
  rw [List.length_map] at this
  exact this
def conjT (g a:List Int):List Int:=thenL (invL g) (thenL a g)
theorem conj_rd {g a:List Int} (hg:isPerm g) (ha:isPerm a) (e:a.length=g.length) {x:Int} (x0:0≤x) (x1:x<g.length):rd (conjT g a) (rd g x)=rd g (rd a x):=by
  have b:=pm_in hg x0 x1
  unfold conjT
  rw [then_rd _ _ b.1 (by rw [invL_len hg];exact b.2),inv_left hg x0 x1,then_rd _ _ x0 (by omega)]
theorem conj_turn {r u r' u' g a:List Int} (i:Iso r u r' u' g) (h:transB r u=true) (h':transB r' u'=true) (ht:IsT r u a):IsT r' u' (conjT g a):=by
  obtain ⟨pr,pu,he,hn,_⟩:=transB_side h
  obtain ⟨pr',pu',he',hn',_⟩:=transB_side h'
  obtain ⟨pa,la,hx⟩:=ht
  have lg:=i.lg
  have le:=i.le
  have lc:(conjT g a).length=g.length:=by unfold conjT;rw [then_len,invL_len i.pg]
  refine ⟨then_perm (inv_perm i.pg) (then_perm pa i.pg (by omega)) (by rw [invL_len i.pg,then_len];omega),by omega,fun y y0 y1 => ?_⟩
  obtain ⟨x,x0,x1,rfl⟩:=pm_sur i.pg y0 (by omega)
  have b1:=pm_in pr x0 (by omega)
  have b2:=pm_in pu x0 (by omega)
  have b3:=pm_in pa x0 (by omega)
  have c:=fun z z0 z1=>conj_rd i.pg pa (by omega) (x:=z) z0 z1
  rw [← i.hr x x0 (by omega),← i.hu x x0 (by omega),c _ b1.1 (by omega),c _ b2.1 (by omega),c x x0 x1,(hx x x0 (by omega)).1,(hx x x0 (by omega)).2,iso_inv i.pg lg le pr pr' i.hr b3.1 (by omega),iso_inv i.pg (by omega) (by omega) pu pu' (fun y y0 y1=>i.hu y y0 (by omega)) b3.1 (by omega)]
  exact ⟨rfl,rfl⟩
theorem phi_iso {r u r' u' g a:List Int} (i:Iso r u r' u' g) (h:transB r u=true) (h':transB r' u'=true) (ht:IsT r u a) {x:Int} (x0:0≤x) (x1:x<r.length):phi r' u' (conjT g a) (rd g x)=rd g (phi r u a x):=by
  obtain ⟨pr,pu,he,hn,_⟩:=transB_side h
  obtain ⟨pr',pu',he',hn',_⟩:=transB_side h'
  have lg:=i.lg
  have le:=i.le
  have la:=ht.2.1
  have b:=phi_in h ht x0 x1
  unfold phi
  rw [conj_rd i.pg ht.1 (by omega) x0 (by omega),← iso_inv i.pg lg le pr pr' i.hr b.1.1 b.1.2,← iso_inv i.pg (by omega) (by omega) pu pu' (fun y y0 y1=>i.hu y y0 (by omega)) b.2.1.1 (by omega)]
theorem keep_iso {r u r' u' g a:List Int} (i:Iso r u r' u' g) (h:transB r u=true) (h':transB r' u'=true) (ht:IsT r u a):c3N r u a≤c3N r' u' (conjT g a):=by
  have C:=corners_CC h
  have C':=corners_CC h'
  have hp:=around_perm h
  have hp':=around_perm h'
  have lg:=i.lg
  have le:=i.le
  have ht':=conj_turn i h h' ht
  refine cyc_le i h h' _ _ fun c hc hq c' hc' hg => ?_
  have hq:=of_decide_eq_true hq
  have hz:=rd_zero_mem (C.each c hc).ne
  have b:=C.bd hc hz
  obtain ⟨m,hm⟩:=(C.each c hc).gen _ hq
  have e:phi r' u' (conjT g a) (rd g (rd c 0))∈c':=by
    rw [phi_iso i h h' ht b.1 b.2,hm,iter_iso i h h' b.1 b.2]
    exact cyc_fwd (C'.each c' hc') hg m
  refine decide_eq_true ?_
  obtain ⟨k,hk⟩:=cyc_all hp'.1 (C'.each c' hc') (fun y hy=>by have:=C'.bd hc' hy;rw [hp'.2];exact this) hg (rd_zero_mem (C'.each c' hc').ne)
  have bg:=pm_in i.pg b.1 (by omega)
  have all:∀ k,phi r' u' (conjT g a) (iter (rd (aroundL r' u')) k (rd g (rd c 0)))∈c':=fun k=>by
    induction k with
    | zero=>exact e
    | succ k ih =>
      have d:=iter_in hp'.1 bg.1 (by rw [hp'.2];omega) k
      rw [hp'.2] at d
      rw [iter_succ,phi_around h' ht' d.1 d.2]
      exact(C'.each c' hc').fwd _ ih
  rw [hk]
  exact all k

def invB (a:List Int):Bool:=(ups a.length 0).all fun x=>decide (rd a (rd a x)=x)
def nN (r u a:List Int):Nat:=c0N r u a+c1N r u a+c2N r u a+c3N r u a
def gI (r u:List Int):Int:=1+Int.tdiv ((r.length:Int) - ((cornersL r u).length:Int)) 2
def hI (r u a:List Int):Int:=Int.tdiv (2*gI r u+2 - (nN r u a:Int)) 4
def okA (r u a:List Int):Bool:=(!invB a || decide (hI r u a<0) || decide (4*hI r u a=2*gI r u+2 - (nN r u a:Int))) && (!decide (gI r u=1) || decide (nN r u a=4))
def hypA (r u a:List Int):Bool:=invB a && decide (hI r u a=0)
structure Good (r u:List Int):Prop where
  each:∀ a,IsT r u a→okA r u a=true
  hyp:gI r u≤2→∃ a,IsT r u a∧hypA r u a=true
def chkS (r u:List Int):Bool:=(turnsOf r u).all (okA r u) && (decide (2<gI r u) || (turnsOf r u).any (hypA r u))
theorem turnsGo_keep (r u:List Int):∀ (d:Nat) (i:Int) (out:List (List Int)),∀ a∈out,a∈turnsGo r u d i out
  | 0,_,out,a,ha=>ha
  | d+1,i,out,a,ha=>by
    rw [turnsGo]
    refine turnsGo_keep r u d (i+1) _ a ?_
    split
    · exact List.mem_append_left _ ha
    · exact ha
theorem turnsGo_has (r u:List Int):∀ (d:Nat) (i:Int) (out:List (List Int)) (k:Int),i≤k→k<i+d→turnB r u (fromS r u k)=true→fromS r u k∈turnsGo r u d i out
  | 0,i,out,k,h0,h1,_=>by omega
  | d+1,i,out,k,h0,h1,ht=>by
    rw [turnsGo]
    by_cases e:k=i
    · subst e
      rw [if_pos ht]
      exact turnsGo_keep r u d _ _ _ (by simp)
    · exact turnsGo_has r u d (i+1) _ k (by omega) (by omega) ht
theorem turnsOf_all {r u a:List Int} (h:transB r u=true) (ht:IsT r u a):a∈turnsOf r u:=by
  have hn:=(transB_side h).2.2.2.1
  have b:=pm_in ht.1 (x:=0) (by omega) (by have:=ht.2.1;omega)
  have e:=fromS_turn h ht
  unfold turnsOf
  rw [if_pos h]
  have:=turnsGo_has r u r.length 0 [] (rd a 0) b.1 (by have:=ht.2.1;omega) (by rw [e];exact(turnB_iff r u a).2 ht)
  rw [e] at this
  exact this
theorem good_of_chk {r u:List Int} (h:transB r u=true) (hc:chkS r u=true):Good r u:=by
  unfold chkS at hc
  rw [Bool.and_eq_true,Bool.or_eq_true,decide_eq_true_eq] at hc
  refine ⟨fun a ha=>List.all_eq_true.1 hc.1 a (turnsOf_all h ha),fun hg => ?_⟩
  rcases hc.2 with h2|h2
  · omega
  · obtain ⟨a,ha,e⟩:=List.any_eq_true.1 h2
    exact ⟨a,(turnB_iff r u a).1 (turnsOf_mem ha).2,e⟩
theorem isoB {r u r' u' g:List Int} (i:Iso r u r' u' g) (h:transB r u=true):Iso r' u' r u (invL g):=by
  obtain ⟨pr,pu,he,_⟩:=transB_side h
  exact inv_iso i pr pu he
theorem vN_iso {r u r' u' g:List Int} (i:Iso r u r' u' g) (h:transB r u=true) (h':transB r' u'=true):(cornersL r u).length=(cornersL r' u').length:=by
  have a:=cyc_le i h h' (fun _=>true) (fun _=>true) fun _ _ _ _ _ _=>rfl
  have b:=cyc_le (isoB i h) h' h (fun _=>true) (fun _=>true) fun _ _ _ _ _ _=>rfl
  have e:∀ l:List (List Int),l.filter (fun _=>true)=l:=fun l=>List.filter_eq_self.2 fun _ _=>rfl
  rw [e,e] at a b
  omega
theorem gI_iso {r u r' u' g:List Int} (i:Iso r u r' u' g) (h:transB r u=true) (h':transB r' u'=true):gI r u=gI r' u':=by
  unfold gI
  rw [vN_iso i h h',i.le]
theorem conj_len {g a:List Int} (hg:isPerm g):(conjT g a).length=g.length:=by
  unfold conjT
  rw [then_len,invL_len hg]
theorem conj_back {g a:List Int} (hg:isPerm g) (ha:isPerm a) (e:a.length=g.length):conjT (invL g) (conjT g a)=a:=by
  have lg:=invL_len hg
  have pc:isPerm (conjT g a):=then_perm (inv_perm hg) (then_perm ha hg e) (by rw [lg,then_len,e])
  have lc:(conjT g a).length=g.length:=conj_len hg
  refine rd_ext (by rw [conj_len (inv_perm hg),lg,e]) fun x x0 x1 => ?_
  rw [conj_len (inv_perm hg),lg] at x1
  have b:=pm_in hg x0 x1
  have c:=pm_in ha x0 (by omega)
  have h1:=conj_rd (inv_perm hg) pc (by rw [lc,lg]) b.1 (by rw [lg];exact b.2)
  rw [inv_left hg x0 x1,conj_rd hg ha e x0 x1,inv_left hg c.1 (by omega)] at h1
  exact h1
theorem nN_iso {r u r' u' g a:List Int} (i:Iso r u r' u' g) (h:transB r u=true) (h':transB r' u'=true) (ht:IsT r u a):nN r u a=nN r' u' (conjT g a):=by
  obtain ⟨pr,pu,he,hn,_⟩:=transB_side h
  have lg:=i.lg
  have le:=i.le
  have la:=ht.2.1
  have c:=fun z z0 z1=>conj_rd i.pg ht.1 (by omega) (x:=z) z0 z1
  have inj:∀ x y:Int,0≤x→x<r.length→0≤y→y<r.length→(x=y↔rd g x=rd g y):=fun x y x0 x1 y0 y1=>⟨fun e=>by rw [e],pm_inj i.pg x0 (by omega) y0 (by omega)⟩
  have e0:c0N r u a=c0N r' u' (conjT g a):=by
    unfold c0N
    rw [le]
    refine cntI_re i.pg lg fun x x0 x1 => ?_
    have b:=pm_in ht.1 x0 (by omega)
    rw [decide_eq_decide,c x x0 (by omega)]
    exact inj _ _ b.1 (by omega) x0 x1
  have e1:c1N r u a=c1N r' u' (conjT g a):=by
    unfold c1N
    rw [le]
    refine cntI_re i.pg lg fun x x0 x1 => ?_
    have b:=pm_in ht.1 x0 (by omega)
    have b2:=pm_in pr x0 x1
    rw [decide_eq_decide,c x x0 (by omega),← i.hr x x0 x1]
    exact inj _ _ b.1 (by omega) b2.1 b2.2
  have e2:c2N r u a=c2N r' u' (conjT g a):=by
    unfold c2N
    rw [le]
    refine cntI_re i.pg lg fun x x0 x1 => ?_
    have b:=pm_in ht.1 x0 (by omega)
    have b2:=pm_in pu x0 (by omega)
    rw [decide_eq_decide,c x x0 (by omega),← i.hu x x0 x1]
    exact inj _ _ b.1 (by omega) b2.1 (by omega)
  have e3:c3N r u a=c3N r' u' (conjT g a):=by
    have k1:=keep_iso i h h' ht
    have k2:=keep_iso (isoB i h) h' h (conj_turn i h h' ht)
    rw [conj_back i.pg ht.1 (by omega)] at k2
    omega
  unfold nN
  rw [e0,e1,e2,e3]
theorem inv_isoB {g a:List Int} (hg:isPerm g) (ha:isPerm a) (e:a.length=g.length):invB a=invB (conjT g a):=by
  have c:=fun z z0 z1=>conj_rd hg ha e (x:=z) z0 z1
  have lc:(conjT g a).length=g.length:=conj_len hg
  have key:invB a=true↔invB (conjT g a)=true:=by
    unfold invB
    rw [List.all_eq_true,List.all_eq_true]
    constructor
    · intro h y hy
      rw [mem_ups,lc] at hy
      obtain ⟨x,x0,x1,rfl⟩:=pm_sur hg (y:=y) (by omega) (by omega)
      have b:=pm_in ha x0 (by omega)
      have hx:=of_decide_eq_true (h x ((mem_ups _ _ _).2 (by omega)))
      refine decide_eq_true ?_
      rw [c x x0 x1,c _ b.1 (by omega),hx]
    · intro h x hx
      rw [mem_ups] at hx
      have b0:=pm_in hg (x:=x) (by omega) (by omega)
      have b:=pm_in ha (x:=x) (by omega) (by omega)
      have b2:=pm_in ha b.1 b.2
      have hy:=of_decide_eq_true (h (rd g x) ((mem_ups _ _ _).2 (by omega)))
      rw [c x (by omega) (by omega),c _ b.1 (by omega)] at hy
      exact decide_eq_true (pm_inj hg b2.1 (by omega) (by omega) (by omega) hy)
  cases h1:invB a with
  | true=>exact(key.1 h1).symm
  | false =>
    cases h2:invB (conjT g a) with
    | true=>rw [key.2 h2] at h1;exact h1.symm
    | false=>rfl
theorem ok_iso {r u r' u' g a:List Int} (i:Iso r u r' u' g) (h:transB r u=true) (h':transB r' u'=true) (ht:IsT r u a):okA r u a=okA r' u' (conjT g a)∧hypA r u a=hypA r' u' (conjT g a):=by
  have lg:=i.lg
  have la:=ht.2.1
  have e1:=gI_iso i h h'
  have e2:=nN_iso i h h' ht
  have e3:=inv_isoB i.pg ht.1 (by omega)
  unfold okA hypA hI
  rw [e1,e2,e3]
  exact ⟨rfl,rfl⟩
theorem good_iso {r u r' u' g:List Int} (i:Iso r u r' u' g) (h:transB r u=true) (h':transB r' u'=true) (G:Good r' u'):Good r u:=by
  refine ⟨fun a ha => ?_,fun hg => ?_⟩
  · rw [(ok_iso i h h' ha).1]
    exact G.each _ (conj_turn i h h' ha)
  · rw [gI_iso i h h'] at hg
    obtain ⟨a,ha,e⟩:=G.hyp hg
    have j:=isoB i h
    exact ⟨_,conj_turn j h' h ha,by rw [← (ok_iso j h' h ha).2];exact e⟩
def listsN (n:Nat):Nat→List (List Int)
  | 0=>[[]]
  | m+1=>(ups n 0).flatMap fun x=>(listsN n m).map (x :: ·)
theorem mem_listsN (n:Nat):∀ (l:List Int),(∀ x∈l,0≤x∧x<(n:Int))→l∈listsN n l.length
  | [],_=>by simp [listsN]
  | x :: l,h=>by
    rw [List.length_cons,listsN,List.mem_flatMap]
    exact ⟨x,(mem_ups _ _ _).2 (by have:=h x (by simp);omega),List.mem_map.2 ⟨l,mem_listsN n l fun y hy=>h y (by simp [hy]),rfl⟩⟩
def eqL : List Int→List Int→Bool
  | [],[]=>true
  | x :: a,y :: b=>decide (x=y) && eqL a b
  | _,_=>false
theorem eqL_eq : ∀ a b:List Int,eqL a b=true→a=b
  | [],[],_=>rfl
  | [],_ :: _,h=>by simp [eqL] at h
  | _ :: _,[],h=>by simp [eqL] at h
  | x :: a,y :: b,h=>by
    simp only [eqL,Bool.and_eq_true,decide_eq_true_eq] at h
    rw [h.1,eqL_eq a b h.2]
def nodB : List Int→Bool
  | []=>true
  | x :: l => !l.any (fun y=>decide (x=y)) && nodB l
theorem nodB_of : ∀ l:List Int,l.Nodup→nodB l=true
  | [],_=>rfl
  | x :: l,h=>by
    have h2:=List.nodup_cons.1 h
    rw [nodB,nodB_of l h2.2,Bool.and_true,Bool.not_eq_true',List.any_eq_false]
    intro y hy e
    rw [decide_eq_true_eq] at e
    subst e
    exact h2.1 hy
def perms1 : List (List Int):=[[0]]
def perms2 : List (List Int):=[[0,1],[1,0]]
def perms3 : List (List Int):=[[0,1,2],[0,2,1],[1,0,2],[1,2,0],[2,0,1],[2,1,0]]
def perms4 : List (List Int):=[[0,1,2,3],[0,1,3,2],[0,2,1,3],[0,2,3,1],[0,3,1,2],[0,3,2,1],[1,0,2,3],[1,0,3,2],[1,2,0,3],[1,2,3,0],[1,3,0,2],[1,3,2,0],[2,0,1,3],[2,0,3,1],[2,1,0,3],[2,1,3,0],[2,3,0,1],[2,3,1,0],[3,0,1,2],[3,0,2,1],[3,1,0,2],[3,1,2,0],[3,2,0,1],[3,2,1,0]]
def perms5 : List (List Int):=[[0,1,2,3,4],[0,1,2,4,3],[0,1,3,2,4],[0,1,3,4,2],[0,1,4,2,3],[0,1,4,3,2],[0,2,1,3,4],[0,2,1,4,3],[0,2,3,1,4],[0,2,3,4,1],[0,2,4,1,3],[0,2,4,3,1],[0,3,1,2,4],[0,3,1,4,2],[0,3,2,1,4],[0,3,2,4,1],[0,3,4,1,2],[0,3,4,2,1],[0,4,1,2,3],[0,4,1,3,2],[0,4,2,1,3],[0,4,2,3,1],[0,4,3,1,2],[0,4,3,2,1],[1,0,2,3,4],[1,0,2,4,3],[1,0,3,2,4],[1,0,3,4,2],[1,0,4,2,3],[1,0,4,3,2],[1,2,0,3,4],[1,2,0,4,3],[1,2,3,0,4],[1,2,3,4,0],[1,2,4,0,3],[1,2,4,3,0],[1,3,0,2,4],[1,3,0,4,2],[1,3,2,0,4],[1,3,2,4,0],[1,3,4,0,2],[1,3,4,2,0],[1,4,0,2,3],[1,4,0,3,2],[1,4,2,0,3],[1,4,2,3,0],[1,4,3,0,2],[1,4,3,2,0],[2,0,1,3,4],[2,0,1,4,3],[2,0,3,1,4],[2,0,3,4,1],[2,0,4,1,3],[2,0,4,3,1],[2,1,0,3,4],[2,1,0,4,3],[2,1,3,0,4],[2,1,3,4,0],[2,1,4,0,3],[2,1,4,3,0],[2,3,0,1,4],[2,3,0,4,1],[2,3,1,0,4],[2,3,1,4,0],[2,3,4,0,1],[2,3,4,1,0],[2,4,0,1,3],[2,4,0,3,1],[2,4,1,0,3],[2,4,1,3,0],[2,4,3,0,1],[2,4,3,1,0],[3,0,1,2,4],[3,0,1,4,2],[3,0,2,1,4],[3,0,2,4,1],[3,0,4,1,2],[3,0,4,2,1],[3,1,0,2,4],[3,1,0,4,2],[3,1,2,0,4],[3,1,2,4,0],[3,1,4,0,2],[3,1,4,2,0],[3,2,0,1,4],[3,2,0,4,1],[3,2,1,0,4],[3,2,1,4,0],[3,2,4,0,1],[3,2,4,1,0],[3,4,0,1,2],[3,4,0,2,1],[3,4,1,0,2],[3,4,1,2,0],[3,4,2,0,1],[3,4,2,1,0],[4,0,1,2,3],[4,0,1,3,2],[4,0,2,1,3],[4,0,2,3,1],[4,0,3,1,2],[4,0,3,2,1],[4,1,0,2,3],[4,1,0,3,2],[4,1,2,0,3],[4,1,2,3,0],[4,1,3,0,2],[4,1,3,2,0],[4,2,0,1,3],[4,2,0,3,1],[4,2,1,0,3],[4,2,1,3,0],[4,2,3,0,1],[4,2,3,1,0],[4,3,0,1,2],[4,3,0,2,1],[4,3,1,0,2],[4,3,1,2,0],[4,3,2,0,1],[4,3,2,1,0]]
def permsN : Nat→List (List Int)
  | 1=>perms1
  | 2=>perms2
  | 3=>perms3
  | 4=>perms4
  | _=>perms5
def allIn (n:Nat):Bool:=(listsN n n).all fun l => !nodB l || (permsN n).any (eqL l)
theorem allIn_1 : allIn 1=true:=by decide +kernel
theorem allIn_2 : allIn 2=true:=by decide +kernel
theorem allIn_3 : allIn 3=true:=by decide +kernel
theorem allIn_4 : allIn 4=true:=by decide +kernel
theorem allIn_5 : allIn 5=true:=by decide +kernel
def rootB (r u:List Int):Bool:=eqL (reachK r u 0) (ups r.length 0)
def chkR (n:Nat) (r:List Int):Bool:=decide (1<rd r 0) || (permsN n).all fun u=>decide (2<rd u 0) || !rootB r u || chkS r u
def chkN (n:Nat):Bool:=(permsN n).all (chkR n)
theorem chk_1 : chkN 1=true:=by decide +kernel
theorem chk_2 : chkN 2=true:=by decide +kernel
theorem chk_3 : chkN 3=true:=by decide +kernel
theorem chk_4 : chkN 4=true:=by decide +kernel
theorem chk_5 : chkN 5=true:=by decide +kernel

def symS (c:Sf):List Sf→Int→Int
  | [],n=>n
  | s :: l,n=>symS c l (if (decide (s.f0=c.f0) && decide (s.f1=c.f1))=true then wrap64 (n+1) else n)
def symsS (r u:List Int):Int:=if transB r u=true then symS (canonS r u) (namedL r u) 0 else 0
theorem i_symGo (c:Sf):∀ (l:List Sf) (n:Int),(∀ x∈l,x.f0.length≤1000∧x.f1.length≤1000)→Ev (fun k=>symGo k c.f0 c.f1 l n) (symS c l n)
  | [],n,_=>Ev.now _
  | s :: l,n,h=>by
    have hx:=h s List.mem_cons_self
    refine Ev.congr (f:=fun k=>(i_SameSurface.f k s.f0 s.f1 c.f0 c.f1).bind fun b=>symGo k c.f0 c.f1 l (if b=true then wrap64 (n+1) else n)) (fun k=>rfl) ?_
    refine Ev.bind (i_sameS s c hx.1 hx.2) ?_
    exact i_symGo c l _ (fun y hy=>h y (List.mem_cons_of_mem _ hy))
theorem i_syms (r u:List Int):Ev (fun k=>i_CountSymmetries.f k r u) (symsS r u):=by
  unfold i_CountSymmetries.f symsS
  refine Ev.bind (i_canon r u) ?_
  refine Ev.bind (i_named r u) ?_
  by_cases h:transB r u=true
  · have hn:=(transB_side h).1.1
    have hl:(namedL r u).length=r.length:=by unfold namedL;rw [if_pos h,namedG_len]
    rw [if_pos h]
    simp only [if_pos (show (namedL r u).length≤1000 by omega),canonR,if_pos h]
    refine i_symGo (canonS r u) _ 0 (fun x hx => ?_)
    unfold namedL at hx
    rw [if_pos h] at hx
    have:=namedG_in h r.length 0 (by omega) (by omega) x hx
    omega
  · have hl:namedL r u=[]:=by unfold namedL;rw [if_neg h]
    rw [if_neg h,hl]
    simp only [List.length_nil,if_pos (show 0≤1000 by omega)]
    exact Ev.now _
theorem names_at {r u:List Int} (h:transB r u=true) {k:Int} (k0:0≤k) (k1:k<r.length):rd (namesOf r u k) k=0:=by
  have hp:=reachK_perm h k0 k1
  have hf:=(reachK_full h k0 k1).2
  have e:rd (reachK r u k) 0=k:=by
    obtain ⟨s,hs⟩:=bfs_pre (nbT r u) (r.length+1) [k] 0
    unfold reachK
    rw [hs]
    rfl
  have hn:=(transB_side h).2.2.2.1
  have:=inv_left hp (x:=0) (by omega) (by omega)
  rw [e] at this
  exact this
theorem trans_iso {r u r' u' g:List Int} (i:Iso r u r' u' g) (h:transB r u=true) (pr':isPerm r') (pu':isPerm u') (lu:u'.length=r.length) (g0:rd g 0=0):transB r' u'=true:=by
  obtain ⟨pr,pu,he,hn,_⟩:=transB_side h
  have lg:=i.lg
  have le:=i.le
  refine trans_of pr' pu' (by omega) (by omega) fun P h0 h1 h2 y y0 y1 => ?_
  obtain ⟨x,x0,x1,rfl⟩:=pm_sur i.pg y0 (by omega)
  refine trans_ind h (fun x=>P (rd g x)) (by rw [g0];exact h0) (fun z z0 z1 hz => ?_) (fun z z0 z1 hz => ?_) x0 (by omega)
  · have b:=pm_in i.pg z0 (by omega)
    rw [i.hr z z0 z1]
    exact h1 _ b.1 (by omega) hz
  · have b:=pm_in i.pg z0 (by omega)
    rw [i.hu z z0 z1]
    exact h2 _ b.1 (by omega) hz
theorem pre_ups {n:Nat} {a s:List Int} (e:ups n 0=a ++ s) {x:Int} (hx:x∈a):x<a.length:=by
  obtain ⟨j,hj,rfl⟩:=List.getElem_of_mem hx
  have hl:=congrArg List.length e
  rw [ups_len,List.length_append] at hl
  have h:=ups_rd n 0 (j:Int) (by omega) (by omega)
  rw [e,rd_get _ j (by rw [List.length_append];omega),List.getElem_append_left hj] at h
  omega
theorem root_low {r u:List Int} (h:transB r u=true) (e:reachK r u 0=ups r.length 0):rd r 0≤1∧rd u 0≤2:=by
  obtain ⟨pr,pu,he,hn,_⟩:=transB_side h
  have b1:=pm_in pr (x:=0) (by omega) (by omega)
  have b2:=pm_in pu (x:=0) (by omega) (by omega)
  have e1:reachK r u 0=bfs (nbT r u) r.length (push (push [0] (rd r 0)) (rd u 0)) 1:=rfl
  obtain ⟨s,hs⟩:=bfs_pre (nbT r u) r.length (push (push [0] (rd r 0)) (rd u 0)) 1
  obtain ⟨s2,hs2⟩:=pushAll_pre [rd u 0] (push [0] (rd r 0))
  have hs3:push (push [0] (rd r 0)) (rd u 0)=push [0] (rd r 0) ++ s2:=hs2
  have pl:∀ (q:List Int) (k:Int),(push q k).length≤q.length+1:=fun q k=>by
    unfold push
    split <;> simp
  have l1:=pl [0] (rd r 0)
  have l2:=pl (push [0] (rd r 0)) (rd u 0)
  have hz:([0]:List Int).length=1:=rfl
  constructor
  · have:=pre_ups (s:=s2 ++ s) (by rw [← e,e1,hs,hs3,List.append_assoc]) (push_mem (q:=[0]) b1.1)
    omega
  · have:=pre_ups (s:=s) (by rw [← e,e1,hs]) (push_mem (q:=push [0] (rd r 0)) b2.1)
    omega
theorem in_perms {n:Nat} (ha:allIn n=true) {p:List Int} (hp:isPerm p) (hl:p.length=n):p∈permsN n:=by
  have hm:=mem_listsN n p fun x hx=>by have:=hp.2.1 x hx;omega
  rw [hl] at hm
  have h:=List.all_eq_true.1 ha p hm
  rw [Bool.or_eq_true,nodB_of p hp.2.2,Bool.not_true] at h
  rcases h with h|h
  · exact absurd h (by decide)
  · obtain ⟨q,hq,e⟩:=List.any_eq_true.1 h
    rw [eqL_eq p q e]
    exact hq
theorem eqL_self : ∀ l:List Int,eqL l l=true
  | []=>rfl
  | x :: l=>by simp [eqL,eqL_self l]
theorem root_chk {n:Nat} (ha:allIn n=true) (hc:chkN n=true) {r u:List Int} (h:transB r u=true) (hl:r.length=n) (e:reachK r u 0=ups r.length 0):chkS r u=true:=by
  obtain ⟨pr,pu,he,hn,_⟩:=transB_side h
  have lo:=root_low h e
  have h1:=List.all_eq_true.1 hc r (in_perms ha pr hl)
  unfold chkR at h1
  rw [Bool.or_eq_true,decide_eq_true_eq] at h1
  rcases h1 with h1|h1
  · omega
  · have h2:=List.all_eq_true.1 h1 u (in_perms ha pu (by omega))
    rw [Bool.or_eq_true,Bool.or_eq_true,decide_eq_true_eq] at h2
    rcases h2 with (h2|h2)|h2
    · omega
    · unfold rootB at h2
      rw [e,eqL_self] at h2
      exact absurd h2 (by decide)
    · exact h2
theorem small_good {r u:List Int} (h:transB r u=true) (h5:r.length≤5):Good r u:=by
  obtain ⟨pr,pu,he,hn,_⟩:=transB_side h
  have i:=iso_names h (k:=0) (by omega) (by omega)
  have n1:=names_perm h (k:=0) (by omega) (by omega)
  have g0:=names_at h (k:=0) (by omega) (by omega)
  have pr':isPerm (renS r u 0).f0:=renL_perm pr n1.1 n1.2
  have pu':isPerm (renS r u 0).f1:=renL_perm pu n1.1 (by omega)
  have ls:=renS_len h (k:=0) (by omega) (by omega)
  have h':=trans_iso i h pr' pu' ls.2 g0
  have q1:=reachK_perm h (k:=0) (by omega) (by omega)
  have ql:=(reachK_full h (k:=0) (by omega) (by omega)).2
  have e:reachK (renS r u 0).f0 (renS r u 0).f1 0=ups (renS r u 0).f0.length 0:=by
    have e1:=reachK_map i h (k:=0) (by omega) (by omega)
    rw [g0] at e1
    rw [e1,ls.1]
    refine rd_ext (by rw [List.length_map,ups_len,ql]) fun x x0 x1 => ?_
    rw [List.length_map,ql] at x1
    rw [ups_rd _ _ _ x0 x1,Int.zero_add]
    obtain ⟨j,rfl⟩:=Int.eq_ofNat_of_zero_le x0
    rw [rd_get _ j (by rw [List.length_map];omega),List.getElem_map]
    have b:=inv_left q1 (x:=(j:Int)) (by omega) (by omega)
    rw [rd_get _ j (by omega)] at b
    exact b
  refine good_iso i h h' (good_of_chk h' ?_)
  have hn':(renS r u 0).f0.length=1∨(renS r u 0).f0.length=2∨(renS r u 0).f0.length=3∨(renS r u 0).f0.length=4∨(renS r u 0).f0.length=5:=by omega
  rcases hn' with hl|hl|hl|hl|hl
  · exact root_chk allIn_1 chk_1 h' hl e
  · exact root_chk allIn_2 chk_2 h' hl e
  · exact root_chk allIn_3 chk_3 h' hl e
  · exact root_chk allIn_4 chk_4 h' hl e
  · exact root_chk allIn_5 chk_5 h' hl e
theorem iso_at {r u r' u':List Int} (h:transB r u=true) (h':transB r' u'=true) {k k':Int} (k0:0≤k) (k1:k<r.length) (l0:0≤k') (l1:k'<r'.length) (e:renS r u k=renS r' u' k'):∃ g,Iso r u r' u' g∧rd g k=k':=by
  obtain ⟨pr,pu,he,hn,_⟩:=transB_side h
  obtain ⟨pr',pu',he',hn',_⟩:=transB_side h'
  have i1:=iso_names h k0 k1
  have i2:=iso_names h' l0 l1
  have e1:=names_at h k0 k1
  have e2:=names_at h' l0 l1
  rw [← e] at i2
  have n2:=names_perm h' l0 l1
  refine ⟨_,then_iso i1 (inv_iso i2 pr' pu' he') pr pu he,?_⟩
  have b:=inv_left n2.1 l0 (by omega)
  rw [e2] at b
  have lg:=i1.lg
  rw [then_rd _ _ k0 (by omega),e1,b]
def eqR (r u:List Int) (i j:Int):Bool:=decide ((renS r u i).f0=(renS r u j).f0) && decide ((renS r u i).f1=(renS r u j).f1)
theorem sf_eq {x y:Sf} (a:x.f0=y.f0) (b:x.f1=y.f1):x=y:=by
  cases x;cases y
  simp only at a b
  rw [a,b]
theorem eqR_iff (r u:List Int) (i j:Int):eqR r u i j=true↔renS r u i=renS r u j:=by
  unfold eqR
  rw [Bool.and_eq_true,decide_eq_true_eq,decide_eq_true_eq]
  exact ⟨fun h=>sf_eq h.1 h.2,fun h=>by rw [h];exact ⟨rfl,rfl⟩⟩
def fibN (r u:List Int) (i:Int):Nat:=cntI r.length fun k=>eqR r u k i
theorem bool_same {a b:Bool} (h:a=true↔b=true):a=b:=by
  cases a <;> cases b <;> simp_all
theorem fib_step {r u p:List Int} (h:transB r u=true) (hp:isPerm p) (lp:p.length=r.length) (hc:∀ g,Iso r u r u g→∀ x:Int,0≤x→x<r.length→rd g (rd p x)=rd p (rd g x)) {i:Int} (i0:0≤i) (i1:i<r.length):fibN r u i=fibN r u (rd p i):=by
  have bi:=pm_in hp i0 (by omega)
  refine cntI_re hp lp fun k k0 k1=>bool_same ?_
  have bk:=pm_in hp k0 (by omega)
  rw [eqR_iff,eqR_iff]
  constructor
  · intro e
    obtain ⟨g,ig,eg⟩:=iso_at h h k0 k1 i0 i1 e
    have:=renS_map ig h h (k:=rd p k) bk.1 (by omega)
    rw [hc g ig k k0 k1,eg] at this
    exact this.symm
  · intro e
    obtain ⟨g,ig,eg⟩:=iso_at h h bk.1 (by omega) bi.1 (by omega) e
    have lg:=ig.lg
    have bg:=pm_in ig.pg k0 (by omega)
    rw [hc g ig k k0 k1] at eg
    have e2:=pm_inj hp bg.1 (by omega) i0 (by omega) eg
    have:=renS_map ig h h k0 k1
    rw [e2] at this
    exact this.symm
theorem fib_all {r u:List Int} (h:transB r u=true) {x:Int} (x0:0≤x) (x1:x<r.length):fibN r u x=fibN r u 0:=by
  obtain ⟨pr,pu,he,hn,_⟩:=transB_side h
  exact trans_ind h (fun x=>fibN r u x=fibN r u 0) rfl (fun z z0 z1 hz=>by rw [← fib_step h pr rfl (fun g ig=>ig.hr) z0 z1];exact hz) (fun z z0 z1 hz=>by rw [← fib_step h pu he.symm (fun g ig=>ig.hu) z0 z1];exact hz) x0 x1
theorem symS_cnt (r u:List Int) (c:Sf):∀ (d:Nat) (i:Int) (m:Nat),m+d≤1000→symS c (namedG r u d i) (m:Int)=((m+((ups d i).filter fun k=>decide ((renS r u k).f0=c.f0) && decide ((renS r u k).f1=c.f1)).length:Nat):Int)
  | 0,_,_,_=>rfl
  | d+1,i,m,hm=>by
    rw [filter_one,namedG,symS]
    by_cases e:(decide ((renS r u i).f0=c.f0) && decide ((renS r u i).f1=c.f1))=true
    · rw [if_pos e,if_pos e,pw_wrap (by omega) (by omega),show ((m:Int)+1)=((m+1:Nat):Int) by omega,symS_cnt r u c d (i+1) (m+1) (by omega)]
      omega
    · rw [if_neg e,if_neg e,symS_cnt r u c d (i+1) m (by omega)]
      omega
theorem syms_fib {r u:List Int} (h:transB r u=true):symsS r u=(fibN r u 0:Int):=by
  have n:=(transB_side h).1.1
  obtain ⟨⟨k,k0,k1,e⟩,_⟩:=canon_facts h
  have h1:=symS_cnt r u (canonS r u) r.length 0 0 (by omega)
  unfold symsS namedL
  rw [if_pos h,if_pos h]
  have h2:symS (canonS r u) (namedG r u r.length 0) 0=symS (canonS r u) (namedG r u r.length 0) ((0:Nat):Int):=rfl
  rw [h2,h1,← fib_all h k0 k1,Nat.zero_add,e]
  rfl
theorem turnsGo_len (r u:List Int):∀ (d:Nat) (i:Int) (out:List (List Int)),(turnsGo r u d i out).length=out.length+((ups d i).filter fun k=>turnB r u (fromS r u k)).length
  | 0,_,_=>rfl
  | d+1,i,out=>by
    rw [turnsGo,turnsGo_len r u d,filter_one]
    split
    · rw [List.length_append,List.length_singleton]
      omega
    · omega
theorem isT_iso {r u a:List Int} (h:transB r u=true):IsT r u a↔Iso r u (invL r) (invL u) a:=by
  obtain ⟨pr,pu,he,hn,_⟩:=transB_side h
  exact ⟨fun ⟨pa,la,hx⟩=>⟨pa,la,invL_len pr,fun x x0 x1=>(hx x x0 x1).1,fun x x0 x1=>(hx x x0 x1).2⟩,fun i=>⟨i.pg,i.lg,fun x x0 x1=>⟨i.hr x x0 x1,i.hu x x0 x1⟩⟩⟩
theorem turns_fib {r u b:List Int} (h:transB r u=true) (hb:IsT r u b):(turnsOf r u).length=fibN r u 0:=by
  obtain ⟨pr,pu,he,hn,_⟩:=transB_side h
  have h':transB (invL r) (invL u)=true:=by
    have:=runS_trans [83,83] r u h
    rw [half_run] at this
    exact this
  have lr:=invL_len pr
  have ib:=(isT_iso h).1 hb
  unfold turnsOf
  rw [if_pos h,turnsGo_len,List.length_nil,Nat.zero_add]
  refine Eq.symm (cntI_re hb.1 hb.2.1 fun j j0 j1=>bool_same ?_)
  have bj:=pm_in hb.1 j0 (by have:=hb.2.1;omega)
  have lb:=hb.2.1
  have em:=renS_map ib h h' j0 j1
  rw [eqR_iff,← em]
  constructor
  · intro e
    obtain ⟨g,ig,eg⟩:=iso_at h h' (k:=0) (k':=rd b j) (by omega) (by omega) bj.1 (by omega) e.symm
    have hg:=(isT_iso h).2 ig
    have:=fromS_turn h hg
    rw [eg] at this
    rw [this]
    exact(turnB_iff r u g).2 hg
  · intro e
    have ht:=(turnB_iff r u _).1 e
    have hz:=fromS_zero h bj.1 (by omega) ht
    have:=renS_map ((isT_iso h).1 ht) h h' (k:=0) (by omega) (by omega)
    rw [hz] at this
    exact this
theorem turns_none {r u:List Int} (h:¬ ∃ a,IsT r u a):turnsOf r u=[]:=by
  cases e:turnsOf r u with
  | nil=>rfl
  | cons a l=>exact absurd ⟨a,(turnB_iff r u a).1 (turnsOf_mem (by rw [e];simp)).2⟩ h
theorem turns_syms {r u:List Int} (h:transB r u=true):turnsOf r u=[]∨((turnsOf r u).length:Int)=symsS r u:=by
  by_cases e:∃ a,IsT r u a
  · obtain ⟨a,ha⟩:=e
    exact .inr (by rw [turns_fib h ha,syms_fib h])
  · exact .inl (turns_none e)

def cycT (c:List Int):ByteArray:=(⟨#[40]⟩:ByteArray) ++ joinOf (c.map itoaB) ⟨#[32]⟩ ++ (⟨#[41]⟩:ByteArray)
def cycsT : List (List Int)→ByteArray→ByteArray
  | [],acc=>acc
  | c :: cs,acc=>cycsT cs (if c.length > 1 then acc ++ cycT c else acc)
def endT (t:ByteArray):ByteArray:=if t.toList=([]:List UInt8) then ⟨#[40,41]⟩ else t
theorem good_ints {c:List Int} (h:GoodC c):Ints64 c:=fun x hx=>by have:=h.1 x hx;omega
theorem cyc_sz {c:List Int} (h:GoodC c):(joinOf (c.map itoaB) ⟨#[32]⟩).size≤504:=by
  have:=joinOf_size ⟨#[32]⟩ (c.map itoaB)
  have:=tot_ints ⟨#[32]⟩ rfl c (good_ints h)
  have:=h.2
  omega
theorem one_sz (b:UInt8):(⟨#[b]⟩:ByteArray).size=1:=id rfl
theorem rdL_mid' (pre suf:List (List Int)) (x:List Int):rd_L2 (pre ++ x :: suf) (pre.length:Int)=x:=by simp [rd_L2,List.getD]
theorem i_fmtperm_l0 (l:List (List Int)) (hl:l.length≤24) (h:∀ c∈l,GoodC c):∀ (suf pre:List (List Int)) (acc:ByteArray),l=pre ++ suf→acc.size≤600*pre.length→Ev (fun k=>i_FormatPerm.l0 k acc l (l.length:Int) (pre.length:Int)) (endT (cycsT suf acc))
  | [],pre,acc,e,ha=>by
    refine ev_up ?_
    have e2:l=pre:=by simpa using e
    subst e2
    simp only [i_FormatPerm.l0,if_neg (show ¬ ((l.length:Int)<l.length) by omega),cycsT]
    by_cases hz:acc.toList=([]:List UInt8)
    · simp only [if_pos hz]
      rw [show endT acc=_ from if_pos hz]
      exact Ev.now _
    · simp only [if_neg hz]
      rw [show endT acc=_ from if_neg hz]
      exact Ev.now _
  | x :: suf,pre,acc,e,ha=>by
    refine ev_up ?_
    have hlen:l.length=pre.length+suf.length+1:=by rw [e];simp;omega
    have hx:rd_L2 l (pre.length:Int)=x:=by rw [e];exact rdL_mid' _ _ _
    have hg:=h x (by rw [e];simp)
    have hs:=cyc_sz hg
    have hw:wrap64 ((pre.length:Int)+1)=((pre ++ [x]).length:Int):=by rw [pw_wrap (by omega) (by omega)];simp
    simp only [i_FormatPerm.l0,if_pos (show ((pre.length:Int)<l.length) by omega),if_pos (show (0≤(pre.length:Int)) by omega),hx,hw,cycsT]
    by_cases h1:x.length > 1
    · simp only [if_pos (show (x.length:Int) > 1 by omega),if_pos h1]
      have ih:=i_fmtperm_l0 l hl h suf (pre ++ [x]) (acc ++ cycT x) (by simp [e]) (by
        unfold cycT
        simp only [ByteArray.size_append,one_sz,List.length_append,List.length_cons,List.length_nil]
        omega)
      refine Ev.bind (i_ints _ rfl x (by have:=hg.2;omega) (good_ints hg)) ?_
      refine Ev.congr (f:=fun k=>_) (fun k=>((if_pos (by omega)).trans (if_pos (by simp only [ByteArray.size_append,one_sz];omega))).trans (if_pos (by simp only [ByteArray.size_append,one_sz];omega))) ?_
      exact ih
    · simp only [if_neg (show ¬ (x.length:Int) > 1 by omega),if_neg h1]
      exact i_fmtperm_l0 l hl h suf (pre ++ [x]) acc (by simp [e]) (by simp only [List.length_append,List.length_cons,List.length_nil];omega)
def permT (p:List Int):ByteArray:=if permB p=true then endT (cycsT (cyclesOf p) ⟨#[]⟩) else ⟨#[]⟩
theorem i_fmtperm (p:List Int):Ev (fun k=>i_FormatPerm.f k p) (permT p):=by
  unfold i_FormatPerm.f permT
  simp only [i_PermOk.f,Option.bind_some]
  by_cases h:permB p=true
  · simp only [if_pos h]
    refine Ev.bind (i_cycles p) ?_
    have hb:=cyclesOf_bd p
    exact i_fmtperm_l0 _ hb.2 hb.1 _ [] ⟨#[]⟩ rfl (Nat.zero_le _)
  · simp only [if_neg h]
    exact Ev.now _

theorem permT_size (p:List Int):(permT p).size≤600*24+2:=by
  unfold permT
  split
  · have hb:=cyclesOf_bd p
    have key:∀ (l:List (List Int)) (acc:ByteArray),(∀ c∈l,GoodC c)→(cycsT l acc).size≤acc.size+600*l.length:=by
      intro l
      induction l with
      | nil=>intro acc _;simp [cycsT]
      | cons c l ih =>
        intro acc hg
        rw [cycsT]
        have hs:=cyc_sz (hg c List.mem_cons_self)
        have h1:=ih (if c.length > 1 then acc ++ cycT c else acc) (fun d hd=>hg d (List.mem_cons_of_mem _ hd))
        have h2:(if c.length > 1 then acc ++ cycT c else acc).size≤acc.size+600:=by
          split
          · unfold cycT
            simp only [ByteArray.size_append,one_sz]
            omega
          · omega
        simp only [List.length_cons]
        omega
    have hk:=key (cyclesOf p) ⟨#[]⟩ hb.1
    have hz:(⟨#[]⟩:ByteArray).size=0:=id rfl
    have hl:=hb.2
    unfold endT
    split
    · have:(⟨#[40,41]⟩:ByteArray).size=2:=id rfl
      omega
    · omega
  · have hz:(⟨#[]⟩:ByteArray).size=0:=id rfl
    omega
def turnT (r u:List Int):ByteArray:=if ((turnsOf r u).length:Int)=0 then ⟨#[110,111,110,101]⟩ else permT (rd_L2 (turnsOf r u) 0) ++ (⟨#[32,102,105,120,101,100,32]⟩:ByteArray) ++ joinOf ((fixedOf r u (rd_L2 (turnsOf r u) 0)).1.map itoaB) ⟨#[32]⟩
theorem turn_trans {r u:List Int} (h:¬ ((turnsOf r u).length:Int)=0):transB r u=true:=by
  refine Classical.byContradiction fun hc=>h ?_
  unfold turnsOf
  rw [if_neg hc]
  rfl
theorem i_turnline (r u:List Int):Ev (fun k=>i_TurnLine.f k r u) (turnT r u):=by
  unfold i_TurnLine.f turnT
  refine Ev.bind (i_turns r u) ?_
  by_cases h:((turnsOf r u).length:Int)=0
  · simp only [if_pos h]
    exact Ev.now _
  · have ht:=turn_trans h
    have fs:=fixed_side (a:=rd_L2 (turnsOf r u) 0) ht
    have s1:=permT_size (rd_L2 (turnsOf r u) 0)
    have s2:=tot_ints ⟨#[32]⟩ rfl _ fs.1
    have s3:=joinOf_size ⟨#[32]⟩ ((fixedOf r u (rd_L2 (turnsOf r u) 0)).1.map itoaB)
    have e7:(⟨#[32,102,105,120,101,100,32]⟩:ByteArray).size=7:=id rfl
    simp only [if_neg h,if_pos (show 0<((turnsOf r u).length:Int) by omega)]
    refine Ev.bind (i_fixed ht _) ?_
    refine Ev.bind (i_fmtperm _) ?_
    refine Ev.congr (f:=fun k=>_) (fun k=>if_pos (by omega)) ?_
    refine Ev.bind (i_ints _ rfl _ (by have:=fs.2;omega) fs.1) ?_
    refine Ev.congr (fun k=>if_pos (by simp only [ByteArray.size_append,e7];have:=fs.2;omega)) ?_
    exact Ev.now _

def sumI : List Int→Int
  | []=>0
  | x :: xs=>x+sumI xs
theorem laws_total_l0 (a:List Int) (ha:a.length≤1000) (hx:∀ x∈a,0≤x∧x≤1000):∀ (suf pre:List Int) (s:Int),a=pre ++ suf→0≤s→s+1000*suf.length≤1000000 →
    Ev (fun k=>laws_total.l0 k s a (a.length:Int) (pre.length:Int)) (s+sumI suf):=by
  intro suf
  induction suf with
  | nil =>
    intro pre s h h0 h1
    have hlen:¬ ((pre.length:Nat):Int)<(a.length:Int):=by rw [h];simp
    refine ev_up ?_
    simp only [laws_total.l0,if_neg hlen,sumI,Int.add_zero]
    exact Ev.now _
  | cons x suf ih =>
    intro pre s h h0 h1
    have hlt:((pre.length:Nat):Int)<(a.length:Int):=by rw [h];exact lt_mid pre suf x
    have hrd:rd a (pre.length:Int)=x:=by rw [h];exact rd_mid pre suf x
    have hw:wrap64 ((pre.length:Int)+1)=((pre ++ [x]).length:Int):=wrap_snoc (s:=suf) (by rw [← h];omega)
    have hx1:=hx x (by rw [h];simp)
    simp at h1
    refine ev_up ?_
    simp only [laws_total.l0,if_pos hlt,if_pos (Int.natCast_nonneg pre.length),hrd,hw,pw_wrap (a:=s+x) (by omega) (by omega),sumI]
    rw [← Int.add_assoc]
    exact ih (pre ++ [x]) (s+x) (by simp [h]) (by omega) (by omega)
theorem laws_totalL (a:List Int) (ha:a.length≤1000) (hx:∀ x∈a,0≤x∧x≤1000):Ev (fun k=>laws_total.f k a) (sumI a):=by
  have:=laws_total_l0 a ha hx a [] 0 rfl (by omega) (by omega)
  simpa [laws_total.f] using this

theorem loop_eq (b:ByteArray):∀ (d i:Nat) (r:List UInt8),b.size - i=d→ByteArray.toList.loop b i r=r.reverse ++ b.data.toList.drop i
  | 0,i,r,h=>by
    rw [ByteArray.toList.loop,if_neg (by omega),List.drop_eq_nil_of_le (by have e:b.data.toList.length=b.size:=rfl;omega)]
    simp
  | d+1,i,r,h=>by
    have hi:i<b.data.toList.length:=by have e:b.data.toList.length=b.size:=rfl;omega
    rw [ByteArray.toList.loop,if_pos (by omega),loop_eq b d (i+1) _ (by omega),List.drop_eq_getElem_cons hi]
    have e:b.get! i=b.data.toList[i]:=by
      have h2:i<b.data.size:=by simpa using hi
      show b.data[i]! = _
      rw [getElem!_pos b.data i h2]
      simp
    rw [e]
    simp
theorem toList_eq (b:ByteArray):b.toList=b.data.toList:=by
  unfold ByteArray.toList
  rw [loop_eq b b.size 0 [] (by omega)]
  simp
theorem toList_ne {b:ByteArray} (h:0<b.size):b.toList≠[]:=by
  rw [toList_eq]
  intro e
  have e2:b.data.toList.length=b.size:=rfl
  have e3:=congrArg List.length e
  simp only [List.length_nil] at e3
  omega

theorem torus_chk : ((List.range 4).all fun w=>(List.range 3).all fun h=>(List.range 4).all fun c=>chkS (sheared c (torusP (w+1) (h+1))).1 (sheared c (torusP (w+1) (h+1))).2)=true:=by decide +kernel
theorem ell_chk : ((List.range 4).all fun a=>(List.range 4).all fun b=>chkS (ellP (a+1) (b+1)).1 (ellP (a+1) (b+1)).2)=true:=by decide +kernel
theorem kind_good {r u:List Int} (h:transB r u=true) (hk:Kind r u):Good r u:=by
  rcases hk with h5|⟨w,t,c,hw,ht,hc,e⟩|⟨a,b,ha,hb,e⟩
  · exact small_good h h5
  · have:=List.all_eq_true.1 (List.all_eq_true.1 (List.all_eq_true.1 torus_chk w (List.mem_range.2 hw)) t (List.mem_range.2 ht)) c (List.mem_range.2 hc)
    rw [← e] at this
    exact good_of_chk h this
  · have:=List.all_eq_true.1 (List.all_eq_true.1 ell_chk a (List.mem_range.2 ha)) b (List.mem_range.2 hb)
    rw [← e] at this
    exact good_of_chk h this
theorem flat_len : ∀ cyc:List (List Int),(∀ c∈cyc,0<c.length)→cyc.length≤cyc.flatten.length
  | [],_=>by simp
  | c :: cyc,h=>by
    have:=flat_len cyc fun d hd=>h d (by simp [hd])
    have:=h c (by simp)
    rw [List.flatten_cons,List.length_append,List.length_cons]
    omega
theorem gI_bd {r u:List Int} (h:transB r u=true):genusS r u=gI r u∧1≤gI r u∧gI r u≤20:=by
  have n:=(transB_side h).1.1
  have C:=corners_CC h
  have h1:=flat_len _ fun c hc=>(C.each c hc).ne
  have h2:=few_len C.few
  have e:Int.tdiv ((r.length:Int) - ((cornersL r u).length:Int)) 2=((r.length:Int) - ((cornersL r u).length:Int)) / 2:=Int.tdiv_eq_ediv_of_nonneg (by omega)
  unfold genusS gI
  rw [if_pos h,pw_wrap (a:=(r.length:Int) - ((cornersL r u).length:Int)) (by omega) (by omega),e,pw_wrap (a:=((r.length:Int) - ((cornersL r u).length:Int)) / 2) (by omega) (by omega),pw_wrap (by omega) (by omega)]
  exact ⟨rfl,by omega,by omega⟩
theorem cnt_le (n:Nat) (P:Int→Bool):cntI n P≤n:=by
  have:=List.length_filter_le P (ups n 0)
  rw [ups_len] at this
  exact this
theorem c_bd {r u:List Int} (h:transB r u=true) (a:List Int):c0N r u a≤24∧c1N r u a≤24∧c2N r u a≤24∧c3N r u a≤24:=by
  have n:=(transB_side h).1.1
  have h3:=List.length_filter_le (keepC r u a) (cornersL r u)
  have hl:=(corners_CC h).len
  have b:=fun P=>cnt_le r.length P
  refine ⟨Nat.le_trans (b _) n,Nat.le_trans (b _) n,Nat.le_trans (b _) n,?_⟩
  unfold c3N
  omega
theorem i_countFix {r u a:List Int} (h:transB r u=true) (ht:turnB r u a=true):Ev (fun k=>i_CountFixed.f k r u a) (nN r u a:Int):=by
  have b:=c_bd h a
  unfold i_CountFixed.f
  refine Ev.bind (i_fixed h a) ?_
  rw [fixed_counts h ht]
  have r0:rd [(c0N r u a:Int),c1N r u a,c2N r u a,c3N r u a] 0=c0N r u a:=rfl
  have r1:rd [(c0N r u a:Int),c1N r u a,c2N r u a,c3N r u a] 1=c1N r u a:=rfl
  have r2:rd [(c0N r u a:Int),c1N r u a,c2N r u a,c3N r u a] 2=c2N r u a:=rfl
  have r3:rd [(c0N r u a:Int),c1N r u a,c2N r u a,c3N r u a] 3=c3N r u a:=rfl
  simp only [if_true,List.length_cons,List.length_nil,if_pos (show (0:Int)<((0+1+1+1+1:Nat):Int) by omega),if_pos (show (1:Int)<((0+1+1+1+1:Nat):Int) by omega),if_pos (show (2:Int)<((0+1+1+1+1:Nat):Int) by omega),if_pos (show (3:Int)<((0+1+1+1+1:Nat):Int) by omega),r0,r1,r2,r3]
  rw [pw_wrap (a:=(c0N r u a:Int)+(c1N r u a:Int)) (by omega) (by omega),pw_wrap (a:=(c0N r u a:Int)+(c1N r u a:Int)+(c2N r u a:Int)) (by omega) (by omega),pw_wrap (by omega) (by omega)]
  have e:(c0N r u a:Int)+(c1N r u a:Int)+(c2N r u a:Int)+(c3N r u a:Int)=((nN r u a:Nat):Int):=by
    unfold nN
    omega
  rw [e]
  exact Ev.now _
def quotI (r u a:List Int):Int:=if invB a=true then hI r u a else -1
theorem nN_bd {r u:List Int} (h:transB r u=true) (a:List Int):nN r u a≤96:=by
  have:=c_bd h a
  unfold nN
  omega
theorem i_quot_l0 {r u a:List Int} (h:transB r u=true) (ht:IsT r u a):∀ (d:Nat) (i:Int),0≤i→i+d=a.length→Ev (fun k=>i_QuotientGenus.l0 k a (a.length:Int) i r u) (if (ups d i).all (fun x=>decide (rd a (rd a x)=x))=true then hI r u a else -1)
  | 0,i,i0,hi=>by
    have g:=gI_bd h
    have n:=nN_bd h a
    refine ev_up ?_
    simp only [i_QuotientGenus.l0,if_neg (show ¬ i<(a.length:Int) by omega)]
    refine Ev.bind (i_genus r u) ?_
    refine Ev.bind (i_countFix h ((turnB_iff r u a).2 ht)) ?_
    have e:(ups 0 i).all (fun x=>decide (rd a (rd a x)=x))=true:=rfl
    rw [if_pos e,g.1,pw_wrap (a:=2*gI r u) (by omega) (by omega),pw_wrap (a:=2*gI r u+2) (by omega) (by omega),pw_wrap (a:=2*gI r u+2 - (nN r u a:Int)) (by omega) (by omega)]
    have hb : -100≤Int.tdiv (2*gI r u+2 - (nN r u a:Int)) 4∧Int.tdiv (2*gI r u+2 - (nN r u a:Int)) 4≤100:=by
      by_cases c:0≤2*gI r u+2 - (nN r u a:Int)
      · rw [Int.tdiv_eq_ediv_of_nonneg c]
        omega
      · have e2:2*gI r u+2 - (nN r u a:Int) = -((nN r u a:Int) - (2*gI r u+2)):=by omega
        rw [e2,Int.neg_tdiv,Int.tdiv_eq_ediv_of_nonneg (by omega)]
        omega
    rw [pw_wrap (by omega) (by omega)]
    exact Ev.now _
  | d+1,i,i0,hi=>by
    have b:=pm_in ht.1 i0 (by omega)
    have hn:=ht.1.1
    refine ev_up ?_
    simp only [i_QuotientGenus.l0,if_pos (show i<(a.length:Int) by omega),if_pos i0,if_pos b.1,if_pos b.2,pw_wrap (a:=i+1) (by omega) (by omega)]
    have e:(ups (d+1) i).all (fun x=>decide (rd a (rd a x)=x))=(decide (rd a (rd a i)=i) && (ups d (i+1)).all (fun x=>decide (rd a (rd a x)=x))):=rfl
    rw [e]
    by_cases c:rd a (rd a i)=i
    · simp only [if_pos c,decide_eq_true c,Bool.true_and]
      exact i_quot_l0 h ht d (i+1) (by omega) (by omega)
    · simp only [if_neg c,decide_eq_false c,Bool.false_and,Bool.false_eq_true,if_false]
      exact Ev.now _
theorem i_quot {r u a:List Int} (h:transB r u=true) (ht:turnB r u a=true):Ev (fun k=>i_QuotientGenus.f k r u a) (quotI r u a):=by
  unfold i_QuotientGenus.f
  refine Ev.bind (i_isTurn h a) ?_
  rw [ht]
  simp only [if_true]
  exact i_quot_l0 h ((turnB_iff r u a).1 ht) a.length 0 (by omega) (by omega)
theorem rdL_midT (pre suf:List (List Int)) (x:List Int):rd_L2 (pre ++ x :: suf) (pre.length:Int)=x:=by simp [rd_L2,List.getD]
theorem i_hyper_l0 {r u:List Int} (h:transB r u=true) (l:List (List Int)) (hl:l.length≤1000):∀ (suf pre:List (List Int)),l=pre ++ suf→(∀ a∈suf,turnB r u a=true)→Ev (fun k=>i_IsHyperelliptic.l0 k l (l.length:Int) (pre.length:Int) r u) (suf.any fun a=>decide (quotI r u a=0))
  | [],pre,e,_=>by
    have e2:l=pre:=by simpa using e
    subst e2
    refine ev_up ?_
    simp only [i_IsHyperelliptic.l0,if_neg (show ¬ (l.length:Int)<(l.length:Int) by omega)]
    exact Ev.now _
  | a :: suf,pre,e,ht=>by
    have hlen:l.length=pre.length+suf.length+1:=by rw [e];simp;omega
    have hrd:rd_L2 l (pre.length:Int)=a:=by rw [e];exact rdL_midT _ _ _
    have hw:wrap64 ((pre.length:Int)+1)=((pre ++ [a]).length:Int):=by rw [pw_wrap (by omega) (by omega)];simp
    refine ev_up ?_
    simp only [i_IsHyperelliptic.l0,if_pos (show (pre.length:Int)<(l.length:Int) by omega),if_pos (show (0:Int)≤(pre.length:Int) by omega),hrd,hw]
    refine Ev.bind (i_quot h (ht a (by simp))) ?_
    rw [List.any_cons]
    by_cases c:quotI r u a=0
    · simp only [if_pos c,decide_eq_true c,Bool.true_or]
      exact Ev.now _
    · simp only [if_neg c,decide_eq_false c,Bool.false_or]
      exact i_hyper_l0 h l hl suf (pre ++ [a]) (by simp [e]) fun b hb=>ht b (by simp [hb])
theorem turns_few {r u:List Int} (h:transB r u=true):(turnsOf r u).length≤24:=by
  have n:=(transB_side h).1.1
  have hf:=List.length_filter_le (fun k=>turnB r u (fromS r u k)) (ups r.length 0)
  rw [ups_len] at hf
  unfold turnsOf
  rw [if_pos h,turnsGo_len,List.length_nil]
  omega
theorem i_hyper {r u:List Int} (h:transB r u=true):Ev (fun k=>i_IsHyperelliptic.f k r u) ((turnsOf r u).any fun a=>decide (quotI r u a=0)):=by
  unfold i_IsHyperelliptic.f
  refine Ev.bind (i_turns r u) ?_
  have:=turns_few h
  exact i_hyper_l0 h (turnsOf r u) (by omega) (turnsOf r u) [] rfl fun a ha=>(turnsOf_mem ha).2
theorem turnT_ne (r u:List Int):((turnT r u).toList != ([]:List UInt8))=true:=by
  rw [bne_iff_ne]
  refine toList_ne ?_
  unfold turnT
  have e4:(⟨#[110,111,110,101]⟩:ByteArray).size=4:=id rfl
  have e7:(⟨#[32,102,105,120,101,100,32]⟩:ByteArray).size=7:=id rfl
  split
  · omega
  · simp only [ByteArray.size_append,e7]
    omega
theorem td_l0 {r u:List Int} (h:transB r u=true) (G:Good r u) (l:List (List Int)) (hl:l.length≤1000):∀ (suf pre:List (List Int)),l=pre ++ suf→(∀ a∈suf,turnB r u a=true)→Ev (fun k=>laws_FnTurned.l0 k (gI r u) l (l.length:Int) (pre.length:Int) r u) true
  | [],pre,e,_=>by
    have e2:l=pre:=by simpa using e
    subst e2
    refine ev_up ?_
    simp only [laws_FnTurned.l0,if_neg (show ¬ (l.length:Int)<(l.length:Int) by omega)]
    refine Ev.bind (i_turnline r u) ?_
    rw [turnT_ne]
    exact Ev.now _
  | a :: suf,pre,e,ht=>by
    have hta:=ht a (by simp)
    have hlen:l.length=pre.length+suf.length+1:=by rw [e];simp;omega
    have hrd:rd_L2 l (pre.length:Int)=a:=by rw [e];exact rdL_midT _ _ _
    have hw:wrap64 ((pre.length:Int)+1)=((pre ++ [a]).length:Int):=by rw [pw_wrap (by omega) (by omega)];simp
    have g:=gI_bd h
    have n:=nN_bd h a
    have b:=c_bd h a
    have ok:=G.each a ((turnB_iff r u a).1 hta)
    unfold okA at ok
    rw [Bool.and_eq_true,Bool.or_eq_true,Bool.or_eq_true,Bool.or_eq_true,Bool.not_eq_true',Bool.not_eq_true',decide_eq_true_eq,decide_eq_true_eq,decide_eq_true_eq,decide_eq_false_iff_not] at ok
    have q1:quotI r u a≥0→4*quotI r u a=2*gI r u+2 - (nN r u a:Int):=fun hq=>by
      unfold quotI at hq ⊢
      split at hq
      · rename_i hi
        rw [if_pos hi]
        rcases ok.1 with (h1|h1)|h1
        · rw [hi] at h1;exact absurd h1 (by decide)
        · omega
        · exact h1
      · omega
    have q2:gI r u=1→(nN r u a:Int)=4:=fun hq=>by
      rcases ok.2 with h1|h1
      · exact absurd hq h1
      · omega
    have q3:quotI r u a=0→(nN r u a:Int)=2*gI r u+2:=fun hq=>by
      have:=q1 (by omega)
      omega
    have qb:quotI r u a≥0→quotI r u a≤100:=fun hq=>by have:=q1 hq;omega
    have next:Ev (fun k=>laws_FnTurned.l0 k (gI r u) l (l.length:Int) ((pre ++ [a]).length:Int) r u) true:=td_l0 h G l hl suf (pre ++ [a]) (by simp [e]) fun c hc=>ht c (by simp [hc])
    refine ev_up ?_
    simp only [laws_FnTurned.l0,if_pos (show (pre.length:Int)<(l.length:Int) by omega),if_pos (show (0:Int)≤(pre.length:Int) by omega),hrd,hw]
    refine Ev.bind (i_fixed h a) ?_
    refine Ev.bind (i_countFix h hta) ?_
    refine Ev.bind (i_quot h hta) ?_
    rw [fixed_counts h hta]
    simp only [if_true]
    refine Ev.bind (i_isTurn h a) ?_
    rw [hta]
    have e4:((([(c0N r u a:Int),c1N r u a,c2N r u a,c3N r u a]:List Int).length:Nat):Int)=4:=rfl
    simp only [if_true,e4]
    refine Ev.bind (laws_totalL _ (by simp) (fun x hx=>by
      simp only [List.mem_cons,List.not_mem_nil,or_false] at hx
      omega)) ?_
    have es:sumI [(c0N r u a:Int),c1N r u a,c2N r u a,c3N r u a]=(nN r u a:Int):=by
      unfold nN
      simp only [sumI]
      omega
    have w2:wrap64 (2*gI r u)=2*gI r u:=pw_wrap (by omega) (by omega)
    have w3:wrap64 (2*gI r u+2)=2*gI r u+2:=pw_wrap (by omega) (by omega)
    have w4:wrap64 (2*gI r u+2 - (nN r u a:Int))=2*gI r u+2 - (nN r u a:Int):=pw_wrap (by omega) (by omega)
    simp only [es,if_true,w2,w3,w4]
    have tail:Ev (fun k=>if gI r u=1 then (if (nN r u a:Int)=4 then (if quotI r u a=0 then (if (nN r u a:Int)=2*gI r u+2 then (laws_FnTurned.l0 k (gI r u) l (l.length:Int) ((pre ++ [a]).length:Int) r u) else (some false)) else (laws_FnTurned.l0 k (gI r u) l (l.length:Int) ((pre ++ [a]).length:Int) r u)) else (some false)) else (if quotI r u a=0 then (if (nN r u a:Int)=2*gI r u+2 then (laws_FnTurned.l0 k (gI r u) l (l.length:Int) ((pre ++ [a]).length:Int) r u) else (some false)) else (laws_FnTurned.l0 k (gI r u) l (l.length:Int) ((pre ++ [a]).length:Int) r u))) true:=by
      have inner:Ev (fun k=>if quotI r u a=0 then (if (nN r u a:Int)=2*gI r u+2 then (laws_FnTurned.l0 k (gI r u) l (l.length:Int) ((pre ++ [a]).length:Int) r u) else (some false)) else (laws_FnTurned.l0 k (gI r u) l (l.length:Int) ((pre ++ [a]).length:Int) r u)) true:=by
        by_cases c0:quotI r u a=0
        · simp only [if_pos c0,if_pos (q3 c0)]
          exact next
        · simp only [if_neg c0]
          exact next
      by_cases c1:gI r u=1
      · simp only [if_pos c1,if_pos (q2 c1)]
        exact inner
      · simp only [if_neg c1]
        exact inner
    by_cases c:quotI r u a≥0
    · have wq:wrap64 (4*quotI r u a)=4*quotI r u a:=pw_wrap (by omega) (by have:=qb c;omega)
      simp only [if_pos c,wq,if_pos (q1 c)]
      exact tail
    · simp only [if_neg c]
      exact tail
theorem FnTurned : laws_FnTurned.Pure:=by
  intro l hl _
  apply Ev.rounds
  unfold laws_FnTurned.f
  by_cases hlen:(l.length:Int) > 1048576
  · simp only [if_pos hlen]
    exact Ev.now _
  · simp only [if_neg hlen]
    obtain ⟨r,u,hm,h,hk⟩:=surface_kind l (by omega)
    have G:=kind_good h hk
    have g:=gI_bd h
    have few:=turns_few h
    have fin:Ev (fun k=>laws_FnTurned.j0 k (turnsOf r u) (gI r u) false r u) true:=by
      refine ev_up ?_
      simp only [laws_FnTurned.j0,Bool.false_eq_true,if_false]
      exact td_l0 h G (turnsOf r u) (by omega) (turnsOf r u) [] rfl fun a ha=>(turnsOf_mem ha).2
    have hyp:gI r u≤2→((turnsOf r u).any fun a=>decide (quotI r u a=0))=true:=fun hg=>by
      obtain ⟨a,ha,e⟩:=G.hyp hg
      unfold hypA at e
      rw [Bool.and_eq_true,decide_eq_true_eq] at e
      refine List.any_eq_true.2 ⟨a,turnsOf_all h ha,decide_eq_true ?_⟩
      unfold quotI
      rw [if_pos e.1]
      exact e.2
    have half:fixB r u [83,83]=decide (((turnsOf r u).length:Int) > 0):=by
      refine bool_same ?_
      rw [half_iff h,decide_eq_true_eq]
      constructor
      · rintro ⟨a,ha⟩
        have:=List.length_pos_of_mem (turnsOf_all h ha)
        omega
      · intro hp
        cases e:turnsOf r u with
        | nil=>rw [e] at hp;simp at hp
        | cons a q=>exact ⟨a,(turnB_iff r u a).1 (turnsOf_mem (by rw [e];simp)).2⟩
    have rest:Ev (fun k=>(i_HasHalfTurn.f k r u).bind fun t=>(if (t != (decide (((turnsOf r u).length:Int) > 0)))=true then (laws_FnTurned.j0 k (turnsOf r u) (gI r u) true r u) else (if gI r u<1 then (laws_FnTurned.j0 k (turnsOf r u) (gI r u) true r u) else (if gI r u≤2 then ((i_IsHyperelliptic.f k r u).bind fun t2=>(laws_FnTurned.j0 k (turnsOf r u) (gI r u) (!t2) r u)) else (laws_FnTurned.j0 k (turnsOf r u) (gI r u) false r u))))) true:=by
      refine Ev.bind (i_half h) ?_
      rw [half]
      simp only [bne_self_eq_false,Bool.false_eq_true,if_false,if_neg (show ¬ gI r u<1 by omega)]
      by_cases c:gI r u≤2
      · simp only [if_pos c]
        refine Ev.bind (i_hyper h) ?_
        rw [hyp c]
        exact fin
      · simp only [if_neg c]
        exact fin
    refine Ev.bind hm ?_
    refine Ev.bind (i_turns r u) ?_
    refine Ev.bind (i_genus r u) ?_
    rw [g.1]
    by_cases c0:((turnsOf r u).length:Int)=0
    · simp only [if_pos c0]
      exact rest
    · simp only [if_neg c0]
      refine Ev.bind (i_syms r u) ?_
      have e:((turnsOf r u).length:Int)=symsS r u:=by
        rcases turns_syms h with h1|h1
        · rw [h1] at c0;exact absurd rfl c0
        · exact h1
      simp only [if_pos e]
      exact rest

end Go.Proofs.YthhdgeafdnikcaaDoor.Pure
