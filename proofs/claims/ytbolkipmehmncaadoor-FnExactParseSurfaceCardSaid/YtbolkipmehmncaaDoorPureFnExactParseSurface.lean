/- The program's ParseSurface returns what the reference's returns, for all arguments: no condition. -/
import Derived.Test.YtbolkipmehmncaaDoorSayFnExactParseSurface
namespace Go.Proofs.YtbolkipmehmncaaDoor.Pure
open Go.RowKit Go.Proofs.YtbolkipmehmncaaDoor.S Go.Proofs.YtbolkipmehmncaaDoorW.PrintWords Go.Proofs.YtbolkipmehmncaaDoorW.PrintLast
set_option linter.unusedVariables false
set_option linter.unusedSimpArgs false

theorem ev_up {α : Type} {g : Nat → Option α} {r : α} (h : Ev (fun k => g (k + 1)) r) : Ev g r := Ev.step (fun _ => rfl) h
theorem pw_wrap {a : Int} (h0 : -9223372036854775808 ≤ a) (h1 : a ≤ 9223372036854775807) : wrap64 a = a := by
  unfold wrap64
  omega

/-- A permutation of at most 24 elements. -/
def isPerm (p : List Int) : Prop := p.length ≤ 24 ∧ (∀ x ∈ p, 0 ≤ x ∧ x < (p.length : Int)) ∧ p.Nodup
theorem perm_go (n : Nat) (hn : n ≤ 24) : ∀ (p pre : List Int) (seen : List Bool), seen.length = 24 → (∀ x : Int, 0 ≤ x → x < n → (seen.getD x.toNat false = true ↔ x ∈ pre)) →
    permGo n p seen = permSGo n pre p := by
  intro p
  induction p with
  | nil => intro pre seen _ _; rfl
  | cons x p ih =>
    intro pre seen hl hs
    simp only [permGo, permSGo]
    by_cases h0 : x < 0
    · rw [if_pos h0, if_neg (by omega)]
    · rw [if_neg h0]
      by_cases h1 : (n : Int) ≤ x
      · rw [if_pos h1, if_neg (by omega)]
      · rw [if_neg h1, if_pos (show 0 ≤ x ∧ x ≤ (n : Int) - 1 by omega)]
        have hx := hs x (by omega) (by omega)
        by_cases h2 : x ∈ pre
        · rw [if_pos (hx.2 h2), if_pos h2]
        · rw [if_neg (fun h => h2 (hx.1 h)), if_neg h2]
          refine ih _ _ (by simpa using hl) (fun y hy0 hy1 => ?_)
          by_cases hxy : x = y
          · subst hxy
            have : x.toNat < seen.length := by omega
            simp [List.getD, this]
          · have hne : x.toNat ≠ y.toNat := by omega
            have := hs y hy0 hy1
            simp only [List.getD, List.getElem?_set_ne hne]
            rw [List.getD] at this
            rw [this]
            simp [Ne.symm hxy]
theorem perm_same (p : List Int) : permB p = permSB p := by
  unfold permB permSB
  by_cases h : p.length ≤ 24
  · rw [if_pos h, if_pos h]
    refine perm_go p.length h p [] no24 rfl (fun x h0 h1 => ?_)
    have : no24.getD x.toNat false = false := by
      unfold no24
      simp only [List.getD, List.getElem?_replicate]
      split <;> rfl
    rw [this]
    simp
  · rw [if_neg h, if_neg h]
theorem permS_iff (n : Nat) : ∀ (p pre : List Int), permSGo n pre p = true ↔ ((∀ x ∈ p, 0 ≤ x ∧ x < (n : Int)) ∧ (∀ x ∈ p, x ∉ pre) ∧ p.Nodup)
  | [], pre => by simp [permSGo]
  | x :: p, pre => by
    simp only [permSGo]
    by_cases h : 0 ≤ x ∧ x ≤ (n : Int) - 1
    · rw [if_pos h]
      by_cases h2 : x ∈ pre
      · rw [if_pos h2]
        simp [h2]
      · rw [if_neg h2, permS_iff n p (pre ++ [x])]
        simp only [List.mem_cons, forall_eq_or_imp, List.nodup_cons]
        constructor
        · rintro ⟨h3, h4, h5⟩
          exact ⟨⟨by omega, h3⟩, ⟨h2, fun y hy hp => h4 y hy (List.mem_append.2 (.inl hp))⟩, fun hx => h4 x hx (List.mem_append.2 (.inr (List.mem_singleton.2 rfl))), h5⟩
        · rintro ⟨h3, h4, h5, h6⟩
          refine ⟨h3.2, fun y hy hp => ?_, h6⟩
          rcases List.mem_append.1 hp with hp | hp
          · exact h4.2 y hy hp
          · rw [List.mem_singleton.1 hp] at hy
            exact h5 hy
    · rw [if_neg h]
      simp only [Bool.false_eq_true, List.mem_cons, forall_eq_or_imp, false_iff]
      intro h2
      omega
theorem permB_iff (p : List Int) : permB p = true ↔ isPerm p := by
  rw [perm_same]
  unfold permSB isPerm
  by_cases h : p.length ≤ 24
  · rw [if_pos h, permS_iff]
    simp [h]
  · rw [if_neg h]
    simp [h]

/-! Lists without a number twice; what is met from a place. -/
theorem nodup_len (n : Nat) : ∀ l : List Int, l.Nodup → (∀ x ∈ l, 0 ≤ x ∧ x < n) → l.length ≤ n := by
  induction n with
  | zero =>
    intro l _ h
    cases l with
    | nil => simp
    | cons x l => have := h x (by simp); omega
  | succ n ih =>
    intro l hn h
    have h2 := ih (l.filter (fun x => x != (n : Int))) (hn.filter _) (fun x hx => by
      have h3 := List.mem_filter.1 hx
      have h4 := h x h3.1
      have h5 : x ≠ (n : Int) := by simpa using h3.2
      omega)
    have h3 : l.length ≤ (l.filter (fun x => x != (n : Int))).length + 1 := by
      clear h h2 ih
      induction l with
      | nil => simp
      | cons y l ihl =>
        have hn2 := List.nodup_cons.1 hn
        by_cases hy : y = (n : Int)
        · have : l.filter (fun x => x != (n : Int)) = l := List.filter_eq_self.2 (fun x hx => by
            have : x ≠ (n : Int) := fun e => hn2.1 (by rw [hy, ← e]; exact hx)
            simpa using this)
          simp [hy, this]
        · have := ihl hn2.2
          simp [hy]
          omega
    omega
def push (q : List Int) (k : Int) : List Int := if 0 ≤ k ∧ k ∉ q then q ++ [k] else q
def pushAll (q : List Int) (ks : List Int) : List Int := ks.foldl push q
/-- Distinct numbers below n. -/
def Few (n : Nat) (q : List Int) : Prop := q.Nodup ∧ ∀ x ∈ q, 0 ≤ x ∧ x < (n : Int)
theorem few_push {n : Nat} {q : List Int} {k : Int} (h : Few n q) (hk : k < n) : Few n (push q k) := by
  unfold push
  split
  · rename_i h2
    refine ⟨?_, fun x hx => ?_⟩
    · rw [List.nodup_append]
      refine ⟨h.1, by simp, ?_⟩
      intro a ha b hb
      simp at hb
      subst hb
      exact fun e => h2.2 (e ▸ ha)
    · rcases List.mem_append.1 hx with hx | hx
      · exact h.2 x hx
      · simp at hx; subst hx; exact ⟨h2.1, hk⟩
  · exact h
theorem push_len (q : List Int) (k : Int) : q.length ≤ (push q k).length := by unfold push; split <;> simp
theorem few_pushAll {n : Nat} : ∀ (ks q : List Int), Few n q → (∀ k ∈ ks, k < n) → Few n (pushAll q ks) ∧ q.length ≤ (pushAll q ks).length
  | [], q, h, _ => ⟨h, Nat.le_refl _⟩
  | k :: ks, q, h, hk => by
    have h1 := few_push h (hk k (by simp))
    have h2 := few_pushAll ks (push q k) h1 (fun x hx => hk x (by simp [hx]))
    exact ⟨h2.1, Nat.le_trans (push_len q k) h2.2⟩
theorem few_len {n : Nat} {q : List Int} (h : Few n q) : q.length ≤ n := nodup_len n q h.1 h.2
/-- The queue behind the places from 'at_' on. -/
def bfs (nb : Int → List Int) : Nat → List Int → Nat → List Int
  | 0, q, _ => q
  | f + 1, q, i => if h : i < q.length then bfs nb f (pushAll q (nb q[i])) (i + 1) else q
theorem bfs_done (nb : Int → List Int) (f : Nat) (q : List Int) (i : Nat) (h : ¬ i < q.length) : bfs nb f q i = q := by
  cases f with
  | zero => rfl
  | succ f => rw [bfs, dif_neg h]
/-! Small words on lists, read at a place. -/
theorem wrap_snoc {α : Type} {p s : List α} {x : α} (h : (p ++ x :: s).length ≤ 4611686018427387904) : wrap64 ((p.length : Int) + 1) = ((p ++ [x]).length : Int) := by
  simp at h ⊢
  unfold wrap64
  omega
theorem lt_mid {α : Type} (p s : List α) (x : α) : ((p.length : Nat) : Int) < ((p ++ x :: s).length : Int) := by simp; omega
theorem nlt_end {α : Type} (p : List α) : ¬ ((p.length : Nat) : Int) < ((p ++ []).length : Int) := by simp
theorem rd_mid (p s : List Int) (x : Int) : rd (p ++ x :: s) (p.length : Int) = x := by simp [rd, List.getD]
theorem rd_get (q : List Int) (i : Nat) (h : i < q.length) : rd q (i : Int) = q[i] := by simp [rd, List.getD, h]

/-- Which of the numbers below n are on the list. -/
def flagsOf (n : Nat) (q : List Int) : List Bool := (List.range n).map (fun (i : Nat) => decide ((i : Int) ∈ q))
theorem flagsOf_len (n : Nat) (q : List Int) : (flagsOf n q).length = n := by simp [flagsOf]
theorem flagsOf_nil (n : Nat) : flagsOf n [] = List.replicate n false := by
  apply List.ext_getElem?
  intro i
  by_cases h : i < n <;> simp [flagsOf, List.getElem?_replicate, h]
theorem flagsOf_rd (n : Nat) (q : List Int) {x : Int} (h0 : 0 ≤ x) (h1 : x < n) : rdOf false (flagsOf n q) x = decide (x ∈ q) := by
  have e : ((x.toNat : Nat) : Int) = x := by omega
  simp [rdOf, flagsOf, List.getD, show x.toNat < n by omega, e]
theorem flagsOf_set (n : Nat) (q : List Int) {x : Int} (h0 : 0 ≤ x) (h1 : x < n) : (flagsOf n q).set x.toNat true = flagsOf n (q ++ [x]) := by
  apply List.ext_getElem?
  intro i
  have hl : x.toNat < (flagsOf n q).length := by rw [flagsOf_len]; omega
  by_cases h : i = x.toNat
  · subst h
    have e : ((x.toNat : Nat) : Int) = x := by omega
    simp [flagsOf, show x.toNat < n by omega, e]
  · have hne : ((i : Nat) : Int) ≠ x := by omega
    rw [List.getElem?_set_ne (by omega)]
    by_cases hi : i < n <;> simp [flagsOf, hi, hne]
theorem perm_rd {p : List Int} (h : isPerm p) {x : Int} (h0 : 0 ≤ x) (h1 : x < p.length) : 0 ≤ rd p x ∧ rd p x < (p.length : Int) := by
  have e : rd p x = p[x.toNat]'(by omega) := by simp [rd, List.getD, show x.toNat < p.length by omega]
  rw [e]
  exact h.2.1 _ (List.getElem_mem _)

theorem spec_has_l0 (l : List Int) (hl : l.length ≤ 4611686018427387904) (x : Int) : ∀ (suf pre : List Int), l = pre ++ suf →
    Ev (fun k => spec_l02Has.l0 k x l (l.length : Int) (pre.length : Int)) (decide (x ∈ suf)) := by
  intro suf
  induction suf with
  | nil =>
    intro pre h
    subst h
    refine ev_up ?_
    simp only [spec_l02Has.l0, if_neg (nlt_end pre)]
    simpa using Ev.now false
  | cons c suf ih =>
    intro pre h
    have := ih (pre ++ [c]) (by simp [h])
    subst h
    refine ev_up ?_
    by_cases hc : c = x
    · simp only [spec_l02Has.l0, if_pos (lt_mid pre suf c), if_pos (Int.natCast_nonneg pre.length), rd_mid, if_pos hc]
      simpa [hc] using Ev.now true
    · simp only [spec_l02Has.l0, if_pos (lt_mid pre suf c), if_pos (Int.natCast_nonneg pre.length), rd_mid, if_neg hc, wrap_snoc hl]
      rw [show decide (x ∈ c :: suf) = decide (x ∈ suf) by simp [Ne.symm hc]]
      exact this
theorem spec_has (l : List Int) (hl : l.length ≤ 4611686018427387904) (x : Int) : Ev (fun k => spec_l02Has.f k l x) (decide (x ∈ l)) := spec_has_l0 l hl x l [] rfl

def nbT (r u : List Int) (x : Int) : List Int := [rd r x, rd u x]
theorem spec_reach_l1 (rr u : List Int) (n : Nat) (hn : n ≤ 24) (x8 : Int) (hx : 0 ≤ x8 ∧ x8 ≤ 1000) (ys : List Int) (hy : ys.length ≤ 1000) (r : List Int) : ∀ (suf pre q : List Int), ys = pre ++ suf → Few n q → (∀ k ∈ suf, 0 ≤ k ∧ k < (n : Int)) →
    Ev (fun k => spec_l02Reach.l0 k rr u (pushAll q suf) (x8 + 1)) r → Ev (fun k => spec_l02Reach.l1 k rr u q x8 ys (ys.length : Int) (pre.length : Int)) r := by
  intro suf
  induction suf with
  | nil =>
    intro pre q h hq hk hr
    subst h
    refine ev_up ?_
    simp only [spec_l02Reach.l1, if_neg (nlt_end pre), pw_wrap (a := x8 + 1) (by omega) (by omega)]
    exact hr
  | cons c suf ih =>
    intro pre q h hq hk hr
    have hc := hk c (by simp)
    have hf := few_push hq hc.2
    have hi := ih (pre ++ [c]) (push q c) (by simp [h]) hf (fun k h' => hk k (by simp [h'])) hr
    subst h
    have hql := few_len hq
    refine ev_up ?_
    simp only [spec_l02Reach.l1, if_pos (lt_mid pre suf c), if_pos (Int.natCast_nonneg pre.length), rd_mid, wrap_snoc (x := c) (s := suf) (p := pre) (by simp at hy ⊢; omega)]
    refine Ev.bind (spec_has q (by omega) c) ?_
    by_cases hm : c ∈ q
    · simp only [decide_eq_true hm, if_true]
      unfold push at hi
      rw [if_neg (fun h => h.2 hm)] at hi
      exact hi
    · simp only [decide_eq_false hm, Bool.false_eq_true, if_false, if_pos (show q.length < 17592186044416 by omega)]
      unfold push at hi
      rw [if_pos ⟨hc.1, hm⟩] at hi
      exact hi
theorem nbT_lt {rr u : List Int} (hr : isPerm rr) (hu : isPerm u) (he : rr.length = u.length) {x : Int} (h0 : 0 ≤ x) (h1 : x < rr.length) : ∀ k ∈ nbT rr u x, 0 ≤ k ∧ k < (rr.length : Int) := by
  intro k hk
  have a := perm_rd hr h0 h1
  have b := perm_rd hu h0 (by omega)
  simp only [nbT, List.mem_cons, List.not_mem_nil, or_false] at hk
  rcases hk with rfl | rfl <;> omega
theorem spec_reach_l0 {rr u : List Int} (hr : isPerm rr) (hu : isPerm u) (he : rr.length = u.length) : ∀ (f : Nat) (q : List Int) (i : Nat), Few rr.length q → i ≤ q.length → f + i = rr.length + 1 →
    Ev (fun k => spec_l02Reach.l0 k rr u q (i : Int)) (bfs (nbT rr u) f q i) := by
  intro f
  have hn := hr.1
  induction f with
  | zero =>
    intro q i hq hi hf
    have := few_len hq
    omega
  | succ f ih =>
    intro q i hq hi hf
    have hql := few_len hq
    refine ev_up ?_
    by_cases h : i < q.length
    · have hx := hq.2 _ (List.getElem_mem h)
      simp only [spec_l02Reach.l0, if_pos (show ((i : Nat) : Int) < (q.length : Int) by omega), if_pos (Int.natCast_nonneg i), rd_get q i h, if_pos hx.1, if_pos hx.2, if_pos (show q[i] < (u.length : Int) by omega), Option.bind_some]
      have hlt := nbT_lt hr hu he hx.1 hx.2
      have hp := few_pushAll _ q hq (fun k hk => (hlt k hk).2)
      have := ih _ (i + 1) hp.1 (by have := hp.2; omega) (by omega)
      rw [bfs, dif_pos h]
      exact spec_reach_l1 rr u rr.length hn i (by omega) (nbT rr u q[i]) (by simp [nbT]) _ _ [] q rfl hq hlt this
    · simp only [spec_l02Reach.l0, if_neg (show ¬ ((i : Nat) : Int) < (q.length : Int) by omega)]
      rw [bfs_done _ _ _ _ h]
      exact Ev.now _
def reachOf (r u : List Int) : List Int := bfs (nbT r u) (r.length + 1) [0] 0
def transB (r u : List Int) : Bool := permB r && permB u && decide (r.length = u.length) && decide (0 < r.length) && ((reachOf r u).length : Int) == (r.length : Int)
theorem few_z {n : Nat} (h : 1 ≤ n) : Few n [0] := ⟨by simp, fun x hx => by simp at hx; subst hx; omega⟩
theorem spec_trans (r u : List Int) : Ev (fun k => spec_IsTransitive.f k r u) (transB r u) := by
  unfold spec_IsTransitive.f transB
  simp only [spec_PermOk.f, ← perm_same, Option.bind_some]
  by_cases h1 : permB r = true
  · simp only [h1, if_true, Bool.true_and]
    by_cases h2 : permB u = true
    · simp only [h2, if_true, Bool.true_and]
      by_cases h3 : r.length = u.length
      · simp only [if_pos (show (r.length : Int) = u.length by omega), decide_eq_true h3, Bool.true_and]
        by_cases h4 : 0 < r.length
        · simp only [if_pos (show (r.length : Int) > 0 by omega), decide_eq_true h4, Bool.true_and]
          refine Ev.bind (a := reachOf r u) ?_ (Ev.now _)
          unfold spec_l02Reach.f
          exact spec_reach_l0 ((permB_iff r).1 h1) ((permB_iff u).1 h2) h3 _ [0] 0 (few_z h4) (by simp) (by omega)
        · simp only [if_neg (show ¬ (r.length : Int) > 0 by omega), decide_eq_false h4, Bool.false_and]
          exact Ev.now _
      · simp only [if_neg (show ¬ (r.length : Int) = u.length by omega), decide_eq_false h3, Bool.false_and]
        exact Ev.now _
    · simp only [Bool.eq_false_iff.2 h2, Bool.false_eq_true, if_false, Bool.false_and]
      exact Ev.now _
  · simp only [Bool.eq_false_iff.2 h1, Bool.false_eq_true, if_false, Bool.false_and]
    exact Ev.now _
theorem impl_trans_l1 (rr u : List Int) (n : Nat) (hn : n ≤ 24) (x8 : Int) (hx : 0 ≤ x8 ∧ x8 ≤ 1000) (ys : List Int) (hy : ys.length ≤ 1000) (r : Bool) : ∀ (suf pre q : List Int), ys = pre ++ suf → Few n q → (∀ k ∈ suf, 0 ≤ k ∧ k < (n : Int)) →
    Ev (fun k => impl_IsTransitive.l0 k rr u (flagsOf n (pushAll q suf)) (pushAll q suf) (x8 + 1)) r → Ev (fun k => impl_IsTransitive.l1 k rr u (flagsOf n q) q x8 ys (ys.length : Int) (pre.length : Int)) r := by
  intro suf
  induction suf with
  | nil =>
    intro pre q h hq hk hr
    subst h
    refine ev_up ?_
    simp only [impl_IsTransitive.l1, if_neg (nlt_end pre), pw_wrap (a := x8 + 1) (by omega) (by omega)]
    exact hr
  | cons c suf ih =>
    intro pre q h hq hk hr
    have hc := hk c (by simp)
    have hf := few_push hq hc.2
    have hi := ih (pre ++ [c]) (push q c) (by simp [h]) hf (fun k h' => hk k (by simp [h'])) hr
    subst h
    have hql := few_len hq
    refine ev_up ?_
    simp only [impl_IsTransitive.l1, if_pos (lt_mid pre suf c), if_pos (Int.natCast_nonneg pre.length), rd_mid, wrap_snoc (x := c) (s := suf) (p := pre) (by simp at hy ⊢; omega), if_pos hc.1, flagsOf_len, if_pos hc.2, flagsOf_rd n q hc.1 hc.2]
    by_cases hm : c ∈ q
    · simp only [decide_eq_true hm, if_true]
      unfold push at hi
      rw [if_neg (fun h => h.2 hm)] at hi
      exact hi
    · simp only [decide_eq_false hm, Bool.false_eq_true, if_false, if_pos (show q.length < 17592186044416 by omega), flagsOf_set n q hc.1 hc.2]
      unfold push at hi
      rw [if_pos ⟨hc.1, hm⟩] at hi
      exact hi
theorem impl_trans_l0 {rr u : List Int} (hr : isPerm rr) (hu : isPerm u) (he : rr.length = u.length) : ∀ (f : Nat) (q : List Int) (i : Nat), Few rr.length q → i ≤ q.length → f + i = rr.length + 1 →
    Ev (fun k => impl_IsTransitive.l0 k rr u (flagsOf rr.length q) q (i : Int)) (((bfs (nbT rr u) f q i).length : Int) == (rr.length : Int)) := by
  intro f
  have hn := hr.1
  induction f with
  | zero =>
    intro q i hq hi hf
    have := few_len hq
    omega
  | succ f ih =>
    intro q i hq hi hf
    have hql := few_len hq
    refine ev_up ?_
    by_cases h : i < q.length
    · have hx := hq.2 _ (List.getElem_mem h)
      simp only [impl_IsTransitive.l0, if_pos (show ((i : Nat) : Int) < (q.length : Int) by omega), if_pos (Int.natCast_nonneg i), rd_get q i h, if_pos hx.1, if_pos hx.2, if_pos (show q[i] < (u.length : Int) by omega), Option.bind_some]
      have hlt := nbT_lt hr hu he hx.1 hx.2
      have hp := few_pushAll _ q hq (fun k hk => (hlt k hk).2)
      have := ih _ (i + 1) hp.1 (by have := hp.2; omega) (by omega)
      rw [bfs, dif_pos h]
      exact impl_trans_l1 rr u rr.length hn i (by omega) (nbT rr u q[i]) (by simp [nbT]) _ _ [] q rfl hq hlt this
    · simp only [impl_IsTransitive.l0, if_neg (show ¬ ((i : Nat) : Int) < (q.length : Int) by omega)]
      rw [bfs_done _ _ _ _ h]
      exact Ev.now _
theorem impl_trans (r u : List Int) : Ev (fun k => impl_IsTransitive.f k r u) (transB r u) := by
  unfold impl_IsTransitive.f transB
  have hbad : ∀ b : Bool, b = false → Ev (fun k => impl_IsTransitive.j0 k r u true) b := by
    rintro b rfl
    refine ev_up ?_
    simp only [impl_IsTransitive.j0, if_true]
    exact Ev.now _
  simp only [impl_PermOk.f, Option.bind_some]
  by_cases h1 : permB r = true
  · simp only [h1, if_true, Bool.true_and]
    by_cases h2 : permB u = true
    · simp only [h2, if_true, Bool.true_and]
      by_cases h3 : r.length = u.length
      · simp only [if_pos (show (r.length : Int) = u.length by omega), decide_eq_true h3, Bool.true_and]
        by_cases h4 : 0 < r.length
        · have hn := ((permB_iff r).1 h1).1
          have e : ((r.length : Int) == 0) = false := by simp; intro e; rw [e] at h4; exact absurd h4 (by simp)
          rw [e]
          simp only [decide_eq_true h4, Bool.true_and]
          refine ev_up ?_
          have hset : (List.replicate r.length false).set (0 : Int).toNat true = flagsOf r.length [0] := by
            rw [← flagsOf_nil, flagsOf_set r.length [] (by omega) (by omega)]
            rfl
          simp only [impl_IsTransitive.j0, Bool.false_eq_true, if_false, if_pos (Int.natCast_nonneg r.length), Int.toNat_natCast, if_pos (show r.length ≤ 281474976710656 by omega), Option.bind_some, List.length_replicate, if_pos (show (0 : Int) < (r.length : Int) by omega), hset]
          exact impl_trans_l0 ((permB_iff r).1 h1) ((permB_iff u).1 h2) h3 _ [0] 0 (few_z h4) (by simp) (by omega)
        · have e : ((r.length : Int) == 0) = true := by
            have : r.length = 0 := by omega
            rw [this]; rfl
          rw [e]
          simp only [decide_eq_false h4, Bool.false_and]
          exact hbad _ rfl
      · simp only [if_neg (show ¬ (r.length : Int) = u.length by omega), decide_eq_false h3, Bool.false_and]
        exact hbad _ rfl
    · simp only [Bool.eq_false_iff.2 h2, Bool.false_eq_true, if_false, Bool.false_and]
      exact hbad _ rfl
  · simp only [Bool.eq_false_iff.2 h1, Bool.false_eq_true, if_false, Bool.false_and]
    exact hbad _ rfl
theorem transB_side {r u : List Int} (h : transB r u = true) : isPerm r ∧ isPerm u ∧ r.length = u.length ∧ 0 < r.length ∧ (reachOf r u).length = r.length := by
  unfold transB at h
  simp only [Bool.and_eq_true, decide_eq_true_eq, beq_iff_eq] at h
  obtain ⟨⟨⟨⟨h1, h2⟩, h3⟩, h4⟩, h5⟩ := h
  exact ⟨(permB_iff r).1 h1, (permB_iff u).1 h2, h3, h4, by omega⟩
theorem spec_surfOk (r u : List Int) : Ev (fun k => spec_SurfaceOk.f k r u) (transB r u) := Ev.bind (spec_trans r u) (Ev.now _)
theorem impl_surfOk (r u : List Int) : Ev (fun k => impl_SurfaceOk.f k r u) (transB r u) := Ev.bind (impl_trans r u) (Ev.now _)

/-- A number in decimals. -/
def decB (u : Nat) : ByteArray := ⟨(Go.Lib.decDigits u).toArray⟩
def itoaB (n : Int) : ByteArray := ⟨(Go.Lib.itoa n).toArray⟩
theorem nDig_le : ∀ (d u : Nat), u < 10 ^ (d + 1) → Go.Lib.nDigits u ≤ d + 1
  | 0, u, h => by rw [Go.Lib.nDigits_small (by simpa using h)]; omega
  | d + 1, u, h => by
    by_cases hu : u < 10
    · rw [Go.Lib.nDigits_small hu]; omega
    · rw [Go.Lib.nDigits_big hu]
      have := nDig_le d (u / 10) (by rw [Nat.pow_succ] at h; omega)
      omega
theorem decB_size (u : Nat) : (decB u).size = Go.Lib.nDigits u := by
  show (Go.Lib.decDigits u).toArray.size = _
  rw [List.size_toArray, Go.Lib.decDigits_length]
theorem bytes_app (a b : List UInt8) : (⟨a.toArray⟩ : ByteArray) ++ ⟨b.toArray⟩ = ⟨(a ++ b).toArray⟩ := by
  apply ByteArray.ext
  rw [ByteArray.data_append]
  simp
theorem app_assocB (a b c : ByteArray) : a ++ b ++ c = a ++ (b ++ c) := by
  apply ByteArray.ext
  simp [ByteArray.data_append, Array.append_assoc]
theorem one_strB (n : Int) (u : Nat) (h : n = ((u : Nat) : Int)) : strOfNums [n] = ⟨[UInt8.ofNat u].toArray⟩ := by
  subst h
  simp [strOfNums]
theorem strOne_size (n : Int) : (strOfNums [n]).size = 1 := id rfl
theorem decB_small {u : Nat} (h : u < 10) : decB u = strOfNums [(48 + (u : Int))] := by
  rw [one_strB _ (48 + u) (by omega)]
  unfold decB
  rw [Go.Lib.decDigits, dif_pos h]
theorem decB_big {u : Nat} (h : ¬ u < 10) : decB u = decB (u / 10) ++ strOfNums [(48 + (u : Int) % 10)] := by
  rw [one_strB _ (48 + u % 10) (by omega)]
  unfold decB
  rw [bytes_app, Go.Lib.decDigits, dif_neg h]
theorem itoaB_pos {n : Int} (h : 0 ≤ n) : itoaB n = decB n.toNat := by
  unfold itoaB Go.Lib.itoa decB
  rw [if_neg (by omega)]
theorem itoaB_neg {n : Int} (h : n < 0) : itoaB n = (⟨#[45]⟩ : ByteArray) ++ decB n.natAbs := by
  unfold itoaB Go.Lib.itoa decB
  rw [if_pos h, show (⟨#[45]⟩ : ByteArray) = ⟨[45].toArray⟩ from rfl, bytes_app]
  rfl
theorem itoaB_size {n : Int} (h0 : -9223372036854775808 ≤ n) (h1 : n ≤ 9223372036854775807) : (itoaB n).size ≤ 20 := by
  by_cases h : 0 ≤ n
  · rw [itoaB_pos h, decB_size]
    have := nDig_le 18 n.toNat (by omega)
    omega
  · rw [itoaB_neg (by omega), ByteArray.size_append, decB_size]
    have := nDig_le 18 n.natAbs (by omega)
    show 1 + _ ≤ 20
    omega
theorem spec_fmt_l0 : ∀ (u : Nat) (x : Int) (acc : ByteArray), x = u → u < 10 ^ 19 → acc.size + Go.Lib.nDigits u ≤ 40 → Ev (fun k => spec_FormatInt.l0 k x acc) (decB u ++ acc) := by
  intro u
  induction u using Nat.strongRecOn with
  | _ u ih =>
    intro x acc hx hu hs
    subst hx
    refine ev_up ?_
    have h9 : (10 : Int) ^ 19 = 10000000000000000000 := by decide
    by_cases h : u < 10
    · have hw : (wrap64 (48 + (u : Int))) % 256 = 48 + (u : Int) := by rw [pw_wrap (by omega) (by omega)]; omega
      have hn := Go.Lib.nDigits_small h
      simp only [spec_FormatInt.l0, if_neg (show ¬ ((u : Int) > 9) by omega), hw, Option.bind_some, strOne_size, if_pos (show 1 + acc.size ≤ 9223372036854775807 by omega)]
      rw [decB_small h]
      exact Ev.now _
    · have ht : Int.tmod (u : Int) 10 = (u : Int) % 10 := Int.tmod_eq_emod_of_nonneg (by omega)
      have hq : Int.tdiv (u : Int) 10 = (u : Int) / 10 := Int.tdiv_eq_ediv_of_nonneg (by omega)
      have hw : (wrap64 (48 + (u : Int) % 10)) % 256 = 48 + (u : Int) % 10 := by rw [pw_wrap (by omega) (by omega)]; omega
      have hw2 : wrap64 ((u : Int) / 10) = ((u / 10 : Nat) : Int) := by rw [pw_wrap (by omega) (by omega)]; omega
      have hn := Go.Lib.nDigits_big h
      simp only [spec_FormatInt.l0, if_pos (show ((u : Int) > 9) by omega), ht, hq, hw, hw2, Option.bind_some, strOne_size, if_pos (show 1 + acc.size ≤ 9223372036854775807 by omega)]
      rw [decB_big h, app_assocB]
      exact ih (u / 10) (by omega) _ _ rfl (by omega) (by rw [ByteArray.size_append, strOne_size]; omega)
theorem spec_fmtint {n : Int} (h0 : -9223372036854775808 ≤ n) (h1 : n ≤ 9223372036854775807) : Ev (fun k => spec_FormatInt.f k n) (itoaB n) := by
  by_cases hn : 0 ≤ n
  · refine ev_up ?_
    simp only [spec_FormatInt.f, if_neg (show ¬ n < 0 by omega)]
    rw [itoaB_pos hn]
    have := spec_fmt_l0 n.toNat n ⟨#[]⟩ (by omega) (by omega) (by
      have := nDig_le 18 n.toNat (by omega)
      show 0 + _ ≤ 40
      omega)
    rw [show decB n.toNat ++ (⟨#[]⟩ : ByteArray) = decB n.toNat from by apply ByteArray.ext; simp [ByteArray.data_append]] at this
    exact this
  · have key : ∀ (u : Nat) (n : Int), n = -(u : Int) → 1 ≤ u → u ≤ 9223372036854775808 → Ev (fun k => spec_FormatInt.f k n) ((⟨#[45]⟩ : ByteArray) ++ decB u) := by
      intro u
      induction u using Nat.strongRecOn with
      | _ u ih =>
        intro n hx h1 h2
        subst hx
        refine ev_up ?_
        have hq : Int.tdiv (-(u : Int)) 10 = -((u / 10 : Nat) : Int) := by rw [Int.neg_tdiv, Int.tdiv_eq_ediv_of_nonneg (by omega)]; omega
        have ht : Int.tmod (-(u : Int)) 10 = -((u : Int) % 10) := by rw [Int.neg_tmod, Int.tmod_eq_emod_of_nonneg (by omega)]
        have hw2 : wrap64 (-((u / 10 : Nat) : Int)) = -((u / 10 : Nat) : Int) := pw_wrap (by omega) (by omega)
        by_cases h : u < 10
        · have hw : (wrap64 (48 - -(u : Int))) % 256 = 48 + (u : Int) := by rw [pw_wrap (by omega) (by omega)]; omega
          simp only [spec_FormatInt.f, if_pos (show -(u : Int) < 0 by omega), hq, hw2, hw, if_pos (show -((u / 10 : Nat) : Int) = 0 by omega), Option.bind_some, strOne_size, if_pos (show 1 + 1 ≤ 9223372036854775807 by omega)]
          rw [decB_small h]
          exact Ev.now _
        · have hw : (wrap64 (48 - -((u : Int) % 10))) % 256 = 48 + (u : Int) % 10 := by rw [pw_wrap (by omega) (by omega)]; omega
          simp only [spec_FormatInt.f, if_pos (show -(u : Int) < 0 by omega), hq, ht, hw2, hw, if_neg (show ¬ -((u / 10 : Nat) : Int) = 0 by omega)]
          refine Ev.bind (ih (u / 10) (by omega) _ rfl (by omega) (by omega)) ?_
          have hz : ((⟨#[45]⟩ : ByteArray) ++ decB (u / 10)).size ≤ 20 := by
            rw [ByteArray.size_append, decB_size]
            have := nDig_le 18 (u / 10) (by omega)
            show 1 + _ ≤ 20
            omega
          simp only [Option.bind_some, strOne_size, if_pos (show ((⟨#[45]⟩ : ByteArray) ++ decB (u / 10)).size + 1 ≤ 9223372036854775807 by omega)]
          rw [decB_big h, ← app_assocB]
          exact Ev.now _
    rw [itoaB_neg (by omega)]
    exact key n.natAbs n (by omega) (by omega) (by omega)
theorem impl_fmtint {n : Int} (h0 : -9223372036854775808 ≤ n) (h1 : n ≤ 9223372036854775807) : impl_FormatInt.f n = some (itoaB n) := by
  unfold impl_FormatInt.f strconv_Itoa.f
  rw [if_pos ⟨h0, h1⟩]
  rfl
def joinOf (l : List ByteArray) (sep : ByteArray) : ByteArray := ⟨(joinB l sep).toArray⟩
def tot (l : List ByteArray) (sep : ByteArray) : Nat := match l with
  | [] => 0
  | x :: xs => x.size + sep.size + tot xs sep
theorem tot_append (sep : ByteArray) : ∀ (a b : List ByteArray), tot (a ++ b) sep = tot a sep + tot b sep
  | [], b => by simp [tot]
  | x :: a, b => by simp only [List.cons_append, tot, tot_append sep a b]; omega
theorem join_two (sep a : List UInt8) (xs : List (List UInt8)) (h : xs ≠ []) : Go.Lib.join (a :: xs) sep = a ++ sep ++ Go.Lib.join xs sep := by
  cases xs with
  | nil => exact absurd rfl h
  | cons b t => simp [Go.Lib.join, List.intercalate]
theorem join_snoc (sep x : List UInt8) : ∀ (xs : List (List UInt8)), xs ≠ [] → Go.Lib.join (xs ++ [x]) sep = Go.Lib.join xs sep ++ sep ++ x
  | [], h => absurd rfl h
  | [a], _ => by simp [Go.Lib.join, List.intercalate]
  | a :: b :: t, _ => by
    rw [List.cons_append, join_two sep a _ (by simp), join_snoc sep x (b :: t) (by simp), join_two sep a (b :: t) (by simp)]
    simp [List.append_assoc]
theorem bytes_self (x : ByteArray) : (⟨x.data.toList.toArray⟩ : ByteArray) = x := by
  apply ByteArray.ext
  simp
theorem joinOf_nil (sep : ByteArray) : joinOf [] sep = ⟨#[]⟩ := by simp [joinOf, joinB, Go.Lib.join, List.intercalate]
theorem joinOf_one (x sep : ByteArray) : joinOf [x] sep = x := by
  simp [joinOf, joinB, Go.Lib.join, List.intercalate]
theorem joinOf_snoc (l : List ByteArray) (x sep : ByteArray) (h : l ≠ []) : joinOf (l ++ [x]) sep = joinOf l sep ++ sep ++ x := by
  unfold joinOf joinB
  rw [List.map_append, List.map_cons, List.map_nil, join_snoc _ _ _ (by simpa using h), ← bytes_app, ← bytes_app, bytes_self, bytes_self]
theorem joinOf_size (sep : ByteArray) : ∀ (l : List ByteArray), (joinOf l sep).size ≤ tot l sep
  | [] => by rw [joinOf_nil]; exact Nat.zero_le _
  | [x] => by rw [joinOf_one]; simp only [tot]; omega
  | x :: y :: l => by
    have h : joinOf (x :: y :: l) sep = x ++ sep ++ joinOf (y :: l) sep := by
      unfold joinOf joinB
      rw [List.map_cons, join_two _ _ _ (by simp), ← bytes_app, ← bytes_app, bytes_self, bytes_self]
    rw [h, ByteArray.size_append, ByteArray.size_append]
    have := joinOf_size sep (y :: l)
    rw [tot]
    omega
theorem rdOf_mid (d : ByteArray) (pre suf : List ByteArray) (x : ByteArray) : rdOf d (pre ++ x :: suf) (pre.length : Int) = x := by
  simp [rdOf, List.getD]
theorem spec_join_l0 (sep : ByteArray) (l : List ByteArray) (hl : l.length ≤ 1000000000000) (ht : tot l sep ≤ 1000000000000) : ∀ (suf pre : List ByteArray), l = pre ++ suf → Ev (fun k => spec_Join.l0 k sep (joinOf pre sep) l (l.length : Int) (pre.length : Int)) (joinOf l sep)
  | [], pre, e => by
    refine ev_up ?_
    have e2 : l = pre := by simpa using e
    subst e2
    simp only [spec_Join.l0, if_neg (show ¬ ((l.length : Int) < l.length) by omega)]
    exact Ev.now _
  | x :: suf, pre, e => by
    refine ev_up ?_
    have hlen : l.length = pre.length + suf.length + 1 := by rw [e]; simp; omega
    have htt : tot l sep = tot pre sep + (x.size + sep.size + tot suf sep) := by rw [e, tot_append]; simp only [tot]
    have hs := joinOf_size sep pre
    have hx : rdOf ByteArray.empty l (pre.length : Int) = x := by rw [e]; exact rdOf_mid _ _ _ _
    have hw : wrap64 ((pre.length : Int) + 1) = ((pre ++ [x]).length : Int) := by rw [pw_wrap (by omega) (by omega)]; simp
    have ih := spec_join_l0 sep l hl ht suf (pre ++ [x]) (by simp [e])
    simp only [spec_Join.l0, if_pos (show ((pre.length : Int) < l.length) by omega), if_pos (show (0 ≤ (pre.length : Int)) by omega), hx, hw]
    by_cases hp : pre = []
    · subst hp
      rw [List.nil_append, joinOf_one] at ih
      have hz : (joinOf [] sep).size = 0 := by rw [joinOf_nil]; rfl
      refine Ev.congr (f := fun k => _) (fun k => (if_neg (show ¬ (((([] : List ByteArray).length : Nat) : Int) > 0) by simp)).trans (if_pos (by omega))) ?_
      rw [joinOf_nil, show (⟨#[]⟩ : ByteArray) ++ x = x from by apply ByteArray.ext; simp [ByteArray.data_append]]
      exact ih
    · have hpl : 0 < pre.length := List.length_pos_iff.2 hp
      rw [joinOf_snoc _ _ _ hp] at ih
      refine Ev.congr (f := fun k => _) (fun k => ((if_pos (show (pre.length : Int) > 0 by omega)).trans (if_pos (by omega))).trans (if_pos (by rw [ByteArray.size_append]; omega))) ?_
      exact ih
theorem spec_join (sep : ByteArray) (l : List ByteArray) (hl : l.length ≤ 1000000000000) (ht : tot l sep ≤ 1000000000000) : Ev (fun k => spec_Join.f k l sep) (joinOf l sep) := by
  unfold spec_Join.f
  have := spec_join_l0 sep l hl ht l [] rfl
  rw [joinOf_nil] at this
  exact this
theorem impl_join (sep : ByteArray) (l : List ByteArray) (hl : l.length ≤ 1000000000000) (ht : tot l sep ≤ 1000000000000) : impl_Join.f l sep = some (joinOf l sep) := by
  unfold impl_Join.f strings_Join.f
  have hs : (joinB l sep).length ≤ tot l sep := by
    have := joinOf_size sep l
    exact this
  rw [if_pos ⟨by omega, by omega⟩]
  rfl

def Ints64 (l : List Int) : Prop := ∀ x ∈ l, -9223372036854775808 ≤ x ∧ x ≤ 9223372036854775807
theorem tot_ints (sep : ByteArray) (hs : sep.size = 1) : ∀ (l : List Int), Ints64 l → tot (l.map itoaB) sep ≤ 21 * l.length
  | [], _ => by simp [tot]
  | x :: l, h => by
    have h1 := tot_ints sep hs l (fun y hy => h y (List.mem_cons_of_mem _ hy))
    have h2 := h x List.mem_cons_self
    have h3 := itoaB_size h2.1 h2.2
    simp only [List.map_cons, tot, List.length_cons]
    omega
theorem spec_ints_l0 (sep : ByteArray) (hs : sep.size = 1) (l : List Int) (hl : l.length ≤ 1048576) (h : Ints64 l) : ∀ (suf pre : List Int), l = pre ++ suf → Ev (fun k => spec_l17Ints.l0 k sep (pre.map itoaB) l (l.length : Int) (pre.length : Int)) (joinOf (l.map itoaB) sep)
  | [], pre, e => by
    refine ev_up ?_
    have e2 : l = pre := by simpa using e
    subst e2
    simp only [spec_l17Ints.l0, if_neg (show ¬ ((l.length : Int) < l.length) by omega)]
    have := tot_ints sep hs l h
    refine Ev.bind (spec_join sep (l.map itoaB) (by rw [List.length_map]; omega) (by omega)) ?_
    exact Ev.now _
  | x :: suf, pre, e => by
    refine ev_up ?_
    have hlen : l.length = pre.length + suf.length + 1 := by rw [e]; simp; omega
    have hx : rd l (pre.length : Int) = x := by rw [e]; exact rd_mid _ _ _
    have hxm := h x (by rw [e]; simp)
    have hw : wrap64 ((pre.length : Int) + 1) = ((pre ++ [x]).length : Int) := by rw [pw_wrap (by omega) (by omega)]; simp
    have ih := spec_ints_l0 sep hs l hl h suf (pre ++ [x]) (by simp [e])
    simp only [spec_l17Ints.l0, if_pos (show ((pre.length : Int) < l.length) by omega), if_pos (show (0 ≤ (pre.length : Int)) by omega), hx, hw]
    refine Ev.bind (spec_fmtint hxm.1 hxm.2) ?_
    refine Ev.congr (f := fun k => _) (fun k => if_pos (by rw [List.length_map]; omega)) ?_
    rw [List.map_append] at ih
    exact ih
theorem spec_ints (sep : ByteArray) (hs : sep.size = 1) (l : List Int) (hl : l.length ≤ 1048576) (h : Ints64 l) : Ev (fun k => spec_l17Ints.f k l sep) (joinOf (l.map itoaB) sep) := by
  unfold spec_l17Ints.f
  exact spec_ints_l0 sep hs l hl h l [] rfl
theorem impl_ints_l0 (sep : ByteArray) (hs : sep.size = 1) (l : List Int) (hl : l.length ≤ 1048576) (h : Ints64 l) : ∀ (suf pre : List Int), l = pre ++ suf → Ev (fun k => impl_joinInts.l0 k sep (pre.map itoaB) l (l.length : Int) (pre.length : Int)) (joinOf (l.map itoaB) sep)
  | [], pre, e => by
    refine ev_up ?_
    have e2 : l = pre := by simpa using e
    subst e2
    have := tot_ints sep hs l h
    simp only [impl_joinInts.l0, if_neg (show ¬ ((l.length : Int) < l.length) by omega), impl_join sep (l.map itoaB) (by rw [List.length_map]; omega) (by omega), Option.bind_some]
    exact Ev.now _
  | x :: suf, pre, e => by
    refine ev_up ?_
    have hlen : l.length = pre.length + suf.length + 1 := by rw [e]; simp; omega
    have hx : rd l (pre.length : Int) = x := by rw [e]; exact rd_mid _ _ _
    have hxm := h x (by rw [e]; simp)
    have hw : wrap64 ((pre.length : Int) + 1) = ((pre ++ [x]).length : Int) := by rw [pw_wrap (by omega) (by omega)]; simp
    have ih := impl_ints_l0 sep hs l hl h suf (pre ++ [x]) (by simp [e])
    simp only [impl_joinInts.l0, if_pos (show ((pre.length : Int) < l.length) by omega), if_pos (show (0 ≤ (pre.length : Int)) by omega), hx, hw, impl_fmtint hxm.1 hxm.2, Option.bind_some]
    refine Ev.congr (f := fun k => _) (fun k => if_pos (by rw [List.length_map]; omega)) ?_
    rw [List.map_append] at ih
    exact ih
theorem impl_ints (sep : ByteArray) (hs : sep.size = 1) (l : List Int) (hl : l.length ≤ 1048576) (h : Ints64 l) : Ev (fun k => impl_joinInts.f k l sep) (joinOf (l.map itoaB) sep) := by
  unfold impl_joinInts.f
  exact impl_ints_l0 sep hs l hl h l [] rfl
def surfT (r u : List Int) : ByteArray := if transB r u = true then joinOf (r.map itoaB) ⟨#[44]⟩ ++ (⟨#[124]⟩ : ByteArray) ++ joinOf (u.map itoaB) ⟨#[44]⟩ else ⟨#[]⟩
theorem perm_ints {p : List Int} (h : isPerm p) : Ints64 p := fun x hx => by have := h.2.1 x hx; have := h.1; omega
theorem perm_text {p : List Int} (h : isPerm p) (sep : ByteArray) (hs : sep.size = 1) : (joinOf (p.map itoaB) sep).size ≤ 504 := by
  have := joinOf_size sep (p.map itoaB)
  have := tot_ints sep hs p (perm_ints h)
  have := h.1
  omega
theorem surf_sz {r u : List Int} (h : transB r u = true) : (joinOf (r.map itoaB) ⟨#[44]⟩).size ≤ 504 ∧ (joinOf (u.map itoaB) ⟨#[44]⟩).size ≤ 504 ∧ (joinOf (r.map itoaB) ⟨#[44]⟩ ++ (⟨#[124]⟩ : ByteArray)).size + (joinOf (u.map itoaB) ⟨#[44]⟩).size ≤ 1009 := by
  obtain ⟨hr, hu, _⟩ := transB_side h
  have a := perm_text hr ⟨#[44]⟩ rfl
  have b := perm_text hu ⟨#[44]⟩ rfl
  have e : (⟨#[124]⟩ : ByteArray).size = 1 := rfl
  rw [ByteArray.size_append, e]
  omega
theorem spec_fmtsurf (r u : List Int) : Ev (fun k => spec_FormatSurface.f k r u) (surfT r u) := by
  unfold spec_FormatSurface.f surfT
  refine Ev.bind (spec_surfOk r u) ?_
  by_cases h : transB r u = true
  · obtain ⟨hr, hu, _⟩ := transB_side h
    obtain ⟨s1, s2, s3⟩ := surf_sz h
    simp only [if_pos h]
    refine Ev.bind (spec_ints _ rfl r (by have := hr.1; omega) (perm_ints hr)) ?_
    refine Ev.congr (f := fun k => _) (fun k => if_pos (by omega)) ?_
    refine Ev.bind (spec_ints _ rfl u (by have := hu.1; omega) (perm_ints hu)) ?_
    exact Ev.congr (fun k => if_pos (by omega)) (Ev.now _)
  · simp only [if_neg h]
    exact Ev.now _
theorem impl_fmtsurf (r u : List Int) : Ev (fun k => impl_FormatSurface.f k r u) (surfT r u) := by
  unfold impl_FormatSurface.f surfT
  refine Ev.bind (impl_surfOk r u) ?_
  by_cases h : transB r u = true
  · obtain ⟨hr, hu, _⟩ := transB_side h
    obtain ⟨s1, s2, s3⟩ := surf_sz h
    simp only [if_pos h]
    refine Ev.bind (impl_ints _ rfl r (by have := hr.1; omega) (perm_ints hr)) ?_
    refine Ev.congr (f := fun k => _) (fun k => if_pos (by omega)) ?_
    refine Ev.bind (impl_ints _ rfl u (by have := hu.1; omega) (perm_ints hu)) ?_
    exact Ev.congr (fun k => if_pos (by omega)) (Ev.now _)
  · simp only [if_neg h]
    exact Ev.now _

theorem loop_eq (b : ByteArray) : ∀ (d i : Nat) (r : List UInt8), b.size - i = d → ByteArray.toList.loop b i r = r.reverse ++ b.data.toList.drop i
  | 0, i, r, h => by
    rw [ByteArray.toList.loop, if_neg (by omega), List.drop_eq_nil_of_le (by have e : b.data.toList.length = b.size := rfl; omega)]
    simp
  | d + 1, i, r, h => by
    have hi : i < b.data.toList.length := by have e : b.data.toList.length = b.size := rfl; omega
    rw [ByteArray.toList.loop, if_pos (by omega), loop_eq b d (i + 1) _ (by omega), List.drop_eq_getElem_cons hi]
    have e : b.get! i = b.data.toList[i] := by
      have h2 : i < b.data.size := by simpa using hi
      show b.data[i]! = _
      rw [getElem!_pos b.data i h2]
      simp
    rw [e]
    simp
theorem toList_eq (b : ByteArray) : b.toList = b.data.toList := by
  unfold ByteArray.toList
  rw [loop_eq b b.size 0 [] (by omega)]
  simp
/-! A text cut at a byte. -/
def ofL (l : List UInt8) : ByteArray := ⟨l.toArray⟩
theorem ofL_self (s : ByteArray) : ofL s.data.toList = s := by
  apply ByteArray.ext
  simp [ofL]
theorem ofL_size (l : List UInt8) : (ofL l).size = l.length := by
  show l.toArray.size = _
  simp
theorem len_data (s : ByteArray) : s.data.toList.length = s.size := rfl
def consH (b : UInt8) (x : List (List UInt8)) : List (List UInt8) := match x with
  | [] => [[b]]
  | y :: ys => (b :: y) :: ys
def consL (a : List UInt8) (x : List (List UInt8)) : List (List UInt8) := match x with
  | [] => [a]
  | y :: ys => (a ++ y) :: ys
def splL (c : UInt8) : List UInt8 → List (List UInt8)
  | [] => [[]]
  | b :: l => if b = c then [] :: splL c l else consH b (splL c l)
theorem splL_ne (c : UInt8) : ∀ l : List UInt8, splL c l ≠ []
  | [] => by simp [splL]
  | b :: l => by
    unfold splL
    split
    · simp
    · unfold consH
      split <;> simp
theorem consL_nil (x : List (List UInt8)) (h : x ≠ []) : consL [] x = x := by
  cases x with
  | nil => exact absurd rfl h
  | cons y ys => simp [consL]
theorem consL_snoc (a : List UInt8) (b : UInt8) (x : List (List UInt8)) : consL (a ++ [b]) x = consL a (consH b x) := by
  cases x with
  | nil => simp [consL, consH]
  | cons y ys => simp [consL, consH]
theorem splL_app (c : UInt8) : ∀ (a l : List UInt8), c ∉ a → splL c (a ++ l) = consL a (splL c l)
  | [], l, _ => (consL_nil _ (splL_ne c l)).symm
  | b :: a, l, h => by
    have hb : ¬ b = c := fun e => h (by simp [e])
    have ih := splL_app c a l (fun h2 => h (List.mem_cons_of_mem _ h2))
    rw [List.cons_append, splL, if_neg hb, ih]
    cases splL c l with
    | nil => simp [consL, consH]
    | cons y ys => simp [consL, consH]
theorem splL_self (c : UInt8) (a : List UInt8) (h : c ∉ a) : splL c a = [a] := by
  have := splL_app c a [] h
  rw [List.append_nil] at this
  rw [this]
  simp [splL, consL]
theorem splL_cut (c : UInt8) (a l : List UInt8) (h : c ∉ a) : splL c (a ++ c :: l) = a :: splL c l := by
  rw [splL_app c a _ h, splL, if_pos rfl]
  simp [consL]
theorem splL_join (c : UInt8) : ∀ (l : List (List UInt8)), l ≠ [] → (∀ x ∈ l, c ∉ x) → splL c (Go.Lib.join l [c]) = l
  | [], h, _ => absurd rfl h
  | [x], _, h => by
    rw [show Go.Lib.join [x] [c] = x by simp [Go.Lib.join, List.intercalate]]
    exact splL_self c x (h x (by simp))
  | x :: y :: l, _, h => by
    have e : Go.Lib.join (x :: y :: l) [c] = x ++ c :: Go.Lib.join (y :: l) [c] := by
      simp [Go.Lib.join, List.intercalate]
    rw [e, splL_cut c x _ (h x (by simp)), splL_join c (y :: l) (by simp) (fun z hz => h z (List.mem_cons_of_mem _ hz))]
theorem consH_len (b : UInt8) (n : Nat) (x : List (List UInt8)) (h : ∀ p ∈ x, p.length ≤ n) : ∀ p ∈ consH b x, p.length ≤ n + 1 := by
  intro p hp
  cases x with
  | nil =>
    simp only [consH, List.mem_singleton] at hp
    subst hp
    simp
  | cons y ys =>
    simp only [consH, List.mem_cons] at hp
    rcases hp with rfl | hp
    · have := h y (by simp)
      simp only [List.length_cons]
      omega
    · have := h p (List.mem_cons_of_mem _ hp)
      omega
theorem splL_len (c : UInt8) : ∀ l : List UInt8, (splL c l).length ≤ l.length + 1 ∧ ∀ p ∈ splL c l, p.length ≤ l.length
  | [] => by simp [splL]
  | b :: l => by
    obtain ⟨h1, h2⟩ := splL_len c l
    unfold splL
    split
    · refine ⟨by simp only [List.length_cons]; omega, fun p hp => ?_⟩
      rcases List.mem_cons.1 hp with rfl | hp
      · simp
      · have := h2 p hp
        simp only [List.length_cons]
        omega
    · refine ⟨?_, by simpa using consH_len b l.length _ h2⟩
      cases hx : splL c l with
      | nil => exact absurd hx (splL_ne c l)
      | cons y ys =>
        rw [hx] at h1
        simp only [consH, List.length_cons] at h1 ⊢
        omega
/-- The pieces, as texts. -/
def splA (c : UInt8) (s : ByteArray) : List ByteArray := (splL c s.data.toList).map ofL
theorem splA_side (c : UInt8) (s : ByteArray) : 1 ≤ (splA c s).length ∧ (splA c s).length ≤ s.size + 1 ∧ ∀ p ∈ splA c s, p.size ≤ s.size := by
  obtain ⟨h1, h2⟩ := splL_len c s.data.toList
  have h3 := splL_ne c s.data.toList
  rw [len_data] at h1
  unfold splA
  refine ⟨by rw [List.length_map]; have := List.length_pos_iff.2 h3; omega, by rw [List.length_map]; omega, fun p hp => ?_⟩
  obtain ⟨q, hq, rfl⟩ := List.mem_map.1 hp
  rw [ofL_size]
  exact h2 q hq
/-- The library's pieces are these. -/
theorem splitK_cons (c b : UInt8) (l : List UInt8) (h : ¬ b = c) (n : Nat) : Go.Lib.splitK [c] 0 n (b :: l) = consH b (Go.Lib.splitK [c] 0 n l) := by
  have hp : ([c] : List UInt8).isPrefixOf (b :: l) = false := by simp [List.isPrefixOf, Ne.symm h]
  have hix : Go.Lib.index (b :: l) [c] = if Go.Lib.index l [c] == -1 then -1 else Go.Lib.index l [c] + 1 := by rw [Go.Lib.index, hp]; simp
  cases n with
  | zero => simp [Go.Lib.splitK, consH]
  | succ n =>
    unfold Go.Lib.splitK
    by_cases hm : Go.Lib.index l [c] = -1
    · rw [hix, hm]
      simp [consH]
    · have hge := Go.Lib.index_ge l [c]
      obtain ⟨j, hj⟩ : ∃ j : Nat, Go.Lib.index l [c] = j := ⟨(Go.Lib.index l [c]).toNat, by omega⟩
      have h1 : ¬ (((j : Nat) : Int) == -1) = true := by rw [beq_iff_eq]; omega
      have h2 : ¬ (((j : Nat) : Int) + 1 == -1) = true := by rw [beq_iff_eq]; omega
      have e : (((j : Nat) : Int) + 1).toNat = j + 1 := by omega
      rw [hix, hj, if_neg h1, if_neg h2, if_neg h1, e]
      simp [consH]
theorem splitK_splL (c : UInt8) : ∀ l : List UInt8, Go.Lib.splitK [c] 0 (Go.Lib.count l [c]) l = splL c l
  | [] => by
    rw [Go.Lib.count_miss (by simp [Go.Lib.index])]
    rfl
  | b :: l => by
    unfold splL
    by_cases h : b = c
    · subst h
      have hix : Go.Lib.index (b :: l) [b] = ((0 : Nat) : Int) := by rw [Go.Lib.index]; simp [List.isPrefixOf]
      rw [if_pos rfl, Go.Lib.count_cons_eq, Nat.add_comm, Go.Lib.splitK, hix, if_neg (by decide), ← splitK_splL b l]
      simp
    · rw [if_neg h, Go.Lib.count_cons_ne b c l h, splitK_cons c b l h, splitK_splL c l]
theorem impl_split (c : UInt8) (s : ByteArray) (hs : s.size ≤ 1048576) : strings_Split.f s ⟨#[c]⟩ = some (splA c s) := by
  unfold strings_Split.f
  have e1 : (⟨#[c]⟩ : ByteArray).size = 1 := rfl
  rw [if_pos ⟨by omega, by rw [e1]; omega⟩]
  congr 1
  have h := Go.Lib.splitB_data ⟨#[c]⟩ 0 (Go.Lib.countB s ⟨#[c]⟩) s
  have h2 : Go.Lib.splitK [c] 0 (Go.Lib.countB s ⟨#[c]⟩) s.data.toList = splL c s.data.toList := splitK_splL c s.data.toList
  have h3 : (Go.Lib.splitB ⟨#[c]⟩ 0 (Go.Lib.countB s ⟨#[c]⟩) s).map (·.data.toList) = splL c s.data.toList := h.trans h2
  unfold splA
  rw [← h3, List.map_map]
  conv => lhs; rw [← List.map_id (Go.Lib.splitB ⟨#[c]⟩ 0 (Go.Lib.countB s ⟨#[c]⟩) s)]
  refine List.map_congr_left fun x _ => ?_
  exact (ofL_self x).symm
/-- The reference's pieces are these. -/
theorem ext_ofL (s : ByteArray) (a b : Nat) : s.extract a b = ofL ((s.data.toList.drop a).take (b - a)) := by
  rw [← ofL_self (s.extract a b), Go.Lib.extract_data]
theorem bt_data (s : ByteArray) (i : Nat) (h : i < s.data.toList.length) : bt s (i : Int) = ((s.data.toList[i]).toNat : Int) := by
  have h2 : ((i : Int)).toNat < s.size := by rw [len_data] at h; simpa using h
  rw [← bt_at s (i : Int) h2]
  simp [ByteArray.getElem_eq_getElem_data]
theorem bt_one (c : UInt8) : bt ⟨#[c]⟩ 0 = (c.toNat : Int) := bt_data ⟨#[c]⟩ 0 (by simp)
theorem spec_split_l0 (c : UInt8) (s : ByteArray) (hs : s.size ≤ 1048576) : ∀ (d i a : Nat) (P : List ByteArray), s.size - i = d → a ≤ i → i ≤ s.size → P.length ≤ i →
    Ev (fun k => spec_SplitAny.l0 k s ⟨#[c]⟩ P (a : Int) (i : Int)) (P ++ (consL ((s.data.toList.drop a).take (i - a)) (splL c (s.data.toList.drop i))).map ofL)
  | 0, i, a, P, hd, ha, hi, hp => by
    have e : i = s.size := by omega
    subst e
    refine ev_up ?_
    have hn : s.data.toList.drop s.size = [] := List.drop_eq_nil_of_le (by rw [len_data]; omega)
    simp only [spec_SplitAny.l0, if_neg (show ¬ ((s.size : Int) < s.size) by omega), if_pos (show 0 ≤ (a : Int) by omega), if_pos (show (a : Int) ≤ s.size by omega), if_pos (show P.length < 8796093022208 by omega), hn, Int.toNat_natCast, ext_ofL s a s.size]
    simp only [splL, consL, List.append_nil, List.map_cons, List.map_nil]
    exact Ev.now _
  | d + 1, i, a, P, hd, ha, hi, hp => by
    have hl : i < s.data.toList.length := by rw [len_data]; omega
    have e1 : (⟨#[c]⟩ : ByteArray).size = 1 := rfl
    have hdr : s.data.toList.drop i = s.data.toList[i] :: s.data.toList.drop (i + 1) := List.drop_eq_getElem_cons hl
    have w1 : wrap64 ((i : Int) + 1) = ((i + 1 : Nat) : Int) := by rw [pw_wrap (by omega) (by omega)]; omega
    have w2 : wrap64 ((0 : Int) + 1) = 1 := by rw [pw_wrap (by omega) (by omega)]; omega
    have hb := bt_data s i hl
    refine ev_up ?_
    simp only [spec_SplitAny.l0, if_pos (show (i : Int) < s.size by omega)]
    refine ev_up ?_
    simp only [spec_SplitAny.l1, e1, if_pos (show (0 : Int) < ((1 : Nat) : Int) by omega), if_pos (show 0 ≤ (i : Int) by omega), if_pos (show (i : Int) < s.size by omega), if_pos (Int.le_refl 0), hb, bt_one, w1, w2]
    by_cases hc : s.data.toList[i] = c
    · have ih := spec_split_l0 c s hs d (i + 1) (i + 1) (P ++ [ofL ((s.data.toList.drop a).take (i - a))]) (by omega) (Nat.le_refl _) (by omega) (by simp; omega)
      simp only [if_pos (show ((s.data.toList[i].toNat : Nat) : Int) = (c.toNat : Int) by rw [hc]), if_pos (show 0 ≤ (a : Int) by omega), if_pos (show (a : Int) ≤ (i : Int) by omega), if_pos (show (i : Int) ≤ s.size by omega), if_pos (show P.length < 8796093022208 by omega), Int.toNat_natCast, ext_ofL s a i]
      rw [hdr, splL, if_pos hc]
      rw [Nat.sub_self, List.take_zero, consL_nil _ (splL_ne _ _)] at ih
      simpa [consL] using ih
    · have ih := spec_split_l0 c s hs d (i + 1) a P (by omega) (by omega) (by omega) (by omega)
      have hne : ¬ ((s.data.toList[i].toNat : Nat) : Int) = (c.toNat : Int) := fun e => hc (UInt8.toNat_inj.1 (by omega))
      simp only [if_neg hne]
      refine ev_up ?_
      simp only [spec_SplitAny.l1, e1, if_neg (show ¬ (1 : Int) < ((1 : Nat) : Int) by omega), w1]
      rw [hdr, splL, if_neg hc, ← consL_snoc]
      have ht : (s.data.toList.drop a).take (i + 1 - a) = (s.data.toList.drop a).take (i - a) ++ [s.data.toList[i]] := by
        rw [show i + 1 - a = (i - a) + 1 by omega, List.take_succ_eq_append_getElem (by rw [List.length_drop]; omega)]
        congr 2
        rw [List.getElem_drop]
        congr 1
        omega
      rw [← ht]
      exact ih
theorem spec_split (c : UInt8) (s : ByteArray) (hs : s.size ≤ 1048576) : Ev (fun k => spec_SplitAny.f k s ⟨#[c]⟩) (splA c s) := by
  have := spec_split_l0 c s hs s.size 0 0 [] (by omega) (Nat.le_refl _) (by omega) (by simp)
  rw [Nat.sub_self, List.take_zero, List.drop_zero, consL_nil _ (splL_ne _ _)] at this
  exact this

/-! Numbers out of texts. -/
theorem wrap_rng (x : Int) : -9223372036854775808 ≤ wrap64 x ∧ wrap64 x ≤ 9223372036854775807 := by
  unfold wrap64
  omega
theorem isdig_any (s : ByteArray) (hs : s.size ≤ 1048576) : ∀ (d i : Nat), s.size - i = d → ∃ b, Ev (fun k => spec_IsDigits.l0 k s (i : Int)) b
  | 0, i, hd => by
    refine ⟨decide ((s.size : Int) > 0), ev_up ?_⟩
    simp only [spec_IsDigits.l0, if_neg (show ¬ ((i : Int) < s.size) by omega)]
    exact Ev.now _
  | d + 1, i, hd => by
    have w1 : wrap64 ((i : Int) + 1) = ((i + 1 : Nat) : Int) := by rw [pw_wrap (by omega) (by omega)]; omega
    obtain ⟨b, hb⟩ := isdig_any s hs d (i + 1) (by omega)
    by_cases h1 : bt s (i : Int) < 48
    · refine ⟨false, ev_up ?_⟩
      simp only [spec_IsDigits.l0, if_pos (show ((i : Int) < s.size) by omega), if_pos (show 0 ≤ (i : Int) by omega), if_pos h1]
      exact Ev.now _
    · by_cases h2 : bt s (i : Int) > 57
      · refine ⟨false, ev_up ?_⟩
        simp only [spec_IsDigits.l0, if_pos (show ((i : Int) < s.size) by omega), if_pos (show 0 ≤ (i : Int) by omega), if_neg h1, if_pos h2]
        exact Ev.now _
      · refine ⟨b, ev_up ?_⟩
        simp only [spec_IsDigits.l0, if_pos (show ((i : Int) < s.size) by omega), if_pos (show 0 ≤ (i : Int) by omega), if_neg h1, if_neg h2, w1]
        exact hb
theorem isdig_yes (s : ByteArray) (hs : s.size ≤ 1048576) (h0 : 0 < s.size) : ∀ (d i : Nat), s.size - i = d → (∀ j : Nat, i ≤ j → j < s.size → 48 ≤ bt s (j : Int) ∧ bt s (j : Int) ≤ 57) → Ev (fun k => spec_IsDigits.l0 k s (i : Int)) true
  | 0, i, hd, _ => by
    refine ev_up ?_
    simp only [spec_IsDigits.l0, if_neg (show ¬ ((i : Int) < s.size) by omega), decide_eq_true (show (s.size : Int) > 0 by omega)]
    exact Ev.now _
  | d + 1, i, hd, h => by
    have w1 : wrap64 ((i : Int) + 1) = ((i + 1 : Nat) : Int) := by rw [pw_wrap (by omega) (by omega)]; omega
    have hb := h i (Nat.le_refl _) (by omega)
    have ih := isdig_yes s hs h0 d (i + 1) (by omega) (fun j h1 h2 => h j (by omega) h2)
    refine ev_up ?_
    simp only [spec_IsDigits.l0, if_pos (show ((i : Int) < s.size) by omega), if_pos (show 0 ≤ (i : Int) by omega), if_neg (show ¬ bt s (i : Int) < 48 by omega), if_neg (show ¬ bt s (i : Int) > 57 by omega), w1]
    exact ih
theorem fmt_or (s : ByteArray) (n : Int) (h : -9223372036854775808 ≤ n ∧ n ≤ 9223372036854775807) : Ev (fun k => (spec_FormatInt.f k n).bind fun t => if t.toList = s.toList then some (n, true) else some ((0 : Int), false)) (if (itoaB n).toList = s.toList then (n, true) else (0, false)) := by
  refine Ev.bind (spec_fmtint h.1 h.2) ?_
  by_cases e : (itoaB n).toList = s.toList
  · simp only [if_pos e]
    exact Ev.now _
  · simp only [if_neg e]
    exact Ev.now _
theorem pint_l0_any (s t : ByteArray) (neg : Bool) (hs : t.size ≤ 1048576) : ∀ (d i : Nat) (n : Int), t.size - i = d → (-9223372036854775808 ≤ n ∧ n ≤ 9223372036854775807) → ∃ v, Ev (fun k => spec_ParseInt.l0 k s neg t n (i : Int)) v
  | 0, i, n, hd, hn => by
    cases neg with
    | true =>
      refine ⟨if (itoaB n).toList = s.toList then (n, true) else (0, false), ev_up ?_⟩
      simp only [spec_ParseInt.l0, if_neg (show ¬ ((i : Int) < t.size) by omega), if_true]
      exact fmt_or s n hn
    | false =>
      by_cases h : n = -9223372036854775808
      · refine ⟨(0, false), ev_up ?_⟩
        simp only [spec_ParseInt.l0, if_neg (show ¬ ((i : Int) < t.size) by omega), if_pos h, Bool.false_eq_true, if_false]
        exact Ev.now _
      · refine ⟨if (itoaB (wrap64 (-n))).toList = s.toList then (wrap64 (-n), true) else (0, false), ev_up ?_⟩
        simp only [spec_ParseInt.l0, if_neg (show ¬ ((i : Int) < t.size) by omega), if_neg h, Bool.false_eq_true, if_false]
        exact fmt_or s _ (wrap_rng _)
  | d + 1, i, n, hd, hn => by
    have w1 : wrap64 ((i : Int) + 1) = ((i + 1 : Nat) : Int) := by rw [pw_wrap (by omega) (by omega)]; omega
    by_cases h : n < (wrap64 (Int.tdiv (wrap64 ((-9223372036854775808) + (wrap64 ((wrap64 (bt t (i : Int))) - 48)))) 10))
    · refine ⟨(0, false), ev_up ?_⟩
      simp only [spec_ParseInt.l0, if_pos (show ((i : Int) < t.size) by omega), if_pos (show 0 ≤ (i : Int) by omega), if_pos h]
      exact Ev.now _
    · obtain ⟨v, hv⟩ := pint_l0_any s t neg hs d (i + 1) (wrap64 ((wrap64 (n * 10)) - (wrap64 ((wrap64 (bt t (i : Int))) - 48)))) (by omega) (wrap_rng _)
      refine ⟨v, ev_up ?_⟩
      simp only [spec_ParseInt.l0, if_pos (show ((i : Int) < t.size) by omega), if_pos (show 0 ≤ (i : Int) by omega), if_neg h, w1]
      exact hv
theorem pint_j1_any (s t : ByteArray) (neg : Bool) (hs : t.size ≤ 1048576) : ∃ v, Ev (fun k => spec_ParseInt.j1 k s neg t) v := by
  obtain ⟨b, hb⟩ := isdig_any t hs t.size 0 (by omega)
  have key : ∀ c : Bool, ∃ v, Ev (fun k => spec_ParseInt.j2 k s neg t c) v := by
    intro c
    cases c with
    | true =>
      refine ⟨(0, false), ev_up ?_⟩
      simp only [spec_ParseInt.j2, if_true]
      exact Ev.now _
    | false =>
      obtain ⟨v, hv⟩ := pint_l0_any s t neg hs t.size 0 0 (by omega) (by omega)
      refine ⟨v, ev_up ?_⟩
      simp only [spec_ParseInt.j2, Bool.false_eq_true, if_false]
      exact hv
  cases b with
  | true =>
    obtain ⟨v, hv⟩ := key (decide ((t.size : Int) > 19))
    refine ⟨v, ev_up ?_⟩
    simp only [spec_ParseInt.j1]
    exact Ev.bind (show Ev (fun k => spec_IsDigits.f k t) _ from hb) (by simpa using hv)
  | false =>
    obtain ⟨v, hv⟩ := key true
    refine ⟨v, ev_up ?_⟩
    simp only [spec_ParseInt.j1]
    exact Ev.bind (show Ev (fun k => spec_IsDigits.f k t) _ from hb) (by simpa using hv)
theorem pint_any (s : ByteArray) (hs : s.size ≤ 1048576) : ∃ v, Ev (fun k => spec_ParseInt.f k s) v := by
  unfold spec_ParseInt.f
  have key : ∀ c : Bool, (c = true → 0 < s.size) → ∃ v, Ev (fun k => spec_ParseInt.j0 k s c) v := by
    intro c hc
    cases c with
    | true =>
      obtain ⟨v, hv⟩ := pint_j1_any s (s.extract 1 s.size) true (by rw [ByteArray.size_extract]; omega)
      refine ⟨v, ev_up ?_⟩
      have := hc rfl
      simp only [spec_ParseInt.j0, if_true, if_pos (show 1 ≤ (s.size : Int) by omega)]
      exact hv
    | false =>
      obtain ⟨v, hv⟩ := pint_j1_any s s false hs
      refine ⟨v, ev_up ?_⟩
      simp only [spec_ParseInt.j0, Bool.false_eq_true, if_false]
      exact hv
  by_cases h : (s.size : Int) > 0
  · simp only [if_pos h, if_pos (show 0 < (s.size : Int) from h)]
    exact key _ (fun _ => by omega)
  · simp only [if_neg h]
    exact key false (fun h => by simp at h)
/-- The digits of a small number. -/
theorem itoa_one {x : Int} (h0 : 0 ≤ x) (h1 : x < 10) : Go.Lib.itoa x = [UInt8.ofNat (48 + x.toNat)] := by
  unfold Go.Lib.itoa
  rw [if_neg (by omega), Go.Lib.decDigits, dif_pos (by omega)]
theorem itoa_two {x : Int} (h0 : 10 ≤ x) (h1 : x < 100) : Go.Lib.itoa x = [UInt8.ofNat (48 + x.toNat / 10), UInt8.ofNat (48 + x.toNat % 10)] := by
  unfold Go.Lib.itoa
  rw [if_neg (by omega), Go.Lib.decDigits, dif_neg (by omega), Go.Lib.decDigits, dif_pos (by omega)]
  rfl
theorem dig_nat {n : Nat} (h : n < 10) : (UInt8.ofNat (48 + n)).toNat = 48 + n := by
  rw [UInt8.toNat_ofNat']
  omega
theorem itoa_dig {x : Int} (h0 : 0 ≤ x) (h1 : x < 100) : ∀ b ∈ Go.Lib.itoa x, 48 ≤ b.toNat ∧ b.toNat ≤ 57 := by
  intro b hb
  by_cases h : x < 10
  · rw [itoa_one h0 h, List.mem_singleton] at hb
    subst hb
    rw [dig_nat (by omega)]
    omega
  · rw [itoa_two (by omega) h1] at hb
    simp only [List.mem_cons, List.not_mem_nil, or_false] at hb
    rcases hb with rfl | rfl
    · rw [dig_nat (by omega)]
      omega
    · rw [dig_nat (by omega)]
      omega
theorem bt_itoa {x : Int} (i : Nat) (h : i < (Go.Lib.itoa x).length) : bt (itoaB x) (i : Int) = (((Go.Lib.itoa x)[i]).toNat : Int) := by
  have h2 : i < (itoaB x).data.toList.length := by show i < (Go.Lib.itoa x).toArray.toList.length; simpa using h
  rw [bt_data (itoaB x) i h2]
  congr 1
theorem pint_step (s t : ByteArray) (ht : t.size ≤ 100) (i : Nat) (hi : i < t.size) (n c : Int) (hn : -100 ≤ n ∧ n ≤ 0) (hc : bt t (i : Int) = c) (hc2 : 48 ≤ c ∧ c ≤ 57) (v : Int × Bool) (h : Ev (fun k => spec_ParseInt.l0 k s false t (n * 10 - (c - 48)) ((i + 1 : Nat) : Int)) v) : Ev (fun k => spec_ParseInt.l0 k s false t n (i : Int)) v := by
  have w1 : wrap64 ((i : Int) + 1) = ((i + 1 : Nat) : Int) := by rw [pw_wrap (by omega) (by omega)]; omega
  have w2 : wrap64 c = c := pw_wrap (by omega) (by omega)
  have w3 : wrap64 (c - 48) = c - 48 := pw_wrap (by omega) (by omega)
  have w4 : wrap64 (-9223372036854775808 + (c - 48)) = -9223372036854775808 + (c - 48) := pw_wrap (by omega) (by omega)
  have w5 : wrap64 (n * 10) = n * 10 := pw_wrap (by omega) (by omega)
  have w6 : wrap64 (n * 10 - (c - 48)) = n * 10 - (c - 48) := pw_wrap (by omega) (by omega)
  have hd : Int.tdiv (-9223372036854775808 + (c - 48)) 10 ≤ -100000 ∧ -9223372036854775808 ≤ Int.tdiv (-9223372036854775808 + (c - 48)) 10 := by
    rw [show (-9223372036854775808 + (c - 48) : Int) = -(9223372036854775808 - (c - 48)) by omega, Int.neg_tdiv, Int.tdiv_eq_ediv_of_nonneg (by omega)]
    omega
  have w7 : wrap64 (Int.tdiv (-9223372036854775808 + (c - 48)) 10) = Int.tdiv (-9223372036854775808 + (c - 48)) 10 := pw_wrap (by omega) (by omega)
  refine ev_up ?_
  simp only [spec_ParseInt.l0, if_pos (show ((i : Int) < t.size) by omega), if_pos (show 0 ≤ (i : Int) by omega), hc, w1, w2, w3, w4, w5, w6, w7, if_neg (show ¬ n < Int.tdiv (-9223372036854775808 + (c - 48)) 10 by omega)]
  exact h
theorem pint_stop (x : Int) (h0 : 0 ≤ x) (h1 : x < 100) (t : ByteArray) (i : Nat) (hi : t.size = i) : Ev (fun k => spec_ParseInt.l0 k (itoaB x) false t (-x) (i : Int)) (x, true) := by
  have w : wrap64 (- -x) = x := by rw [Int.neg_neg]; exact pw_wrap (by omega) (by omega)
  refine ev_up ?_
  simp only [spec_ParseInt.l0, if_neg (show ¬ ((i : Int) < t.size) by omega), if_neg (show ¬ (-x = -9223372036854775808) by omega), Bool.false_eq_true, if_false, w]
  have := fmt_or (itoaB x) x (by omega)
  rw [if_pos rfl] at this
  exact this
theorem pint_small (x : Int) (h0 : 0 ≤ x) (h1 : x < 100) : Ev (fun k => spec_ParseInt.f k (itoaB x)) (x, true) := by
  have hz : (itoaB x).size = (Go.Lib.itoa x).length := by show (Go.Lib.itoa x).toArray.size = _; simp
  have hd := itoa_dig h0 h1
  have hlen : 1 ≤ (Go.Lib.itoa x).length ∧ (Go.Lib.itoa x).length ≤ 2 := by
    by_cases h : x < 10
    · rw [itoa_one h0 h]; simp
    · rw [itoa_two (by omega) h1]; simp
  have hb : ∀ j : Nat, j < (itoaB x).size → 48 ≤ bt (itoaB x) (j : Int) ∧ bt (itoaB x) (j : Int) ≤ 57 := by
    intro j hj
    rw [hz] at hj
    rw [bt_itoa j hj]
    have := hd _ (List.getElem_mem hj)
    omega
  have hdg := isdig_yes (itoaB x) (by omega) (by omega) (itoaB x).size 0 (by omega) (fun j _ h2 => hb j h2)
  have hl0 : Ev (fun k => spec_ParseInt.l0 k (itoaB x) false (itoaB x) 0 0) (x, true) := by
    by_cases h : x < 10
    · have e := itoa_one h0 h
      have b0 : bt (itoaB x) ((0 : Nat) : Int) = 48 + x := by
        rw [bt_itoa 0 (by omega)]
        simp only [e, List.getElem_cons_zero, dig_nat (show x.toNat < 10 by omega)]
        omega
      refine pint_step _ _ (by omega) 0 (by omega) 0 _ (by omega) b0 (by omega) _ ?_
      rw [show (0 : Int) * 10 - (48 + x - 48) = -x by omega]
      exact pint_stop x h0 h1 _ 1 (by rw [hz, e]; rfl)
    · have e := itoa_two (show 10 ≤ x by omega) h1
      have b0 : bt (itoaB x) ((0 : Nat) : Int) = 48 + x / 10 := by
        rw [bt_itoa 0 (by omega)]
        simp only [e, List.getElem_cons_zero, dig_nat (show x.toNat / 10 < 10 by omega)]
        omega
      have b1 : bt (itoaB x) ((1 : Nat) : Int) = 48 + x % 10 := by
        rw [bt_itoa 1 (by rw [e]; simp)]
        simp only [e, List.getElem_cons_succ, List.getElem_cons_zero, dig_nat (show x.toNat % 10 < 10 by omega)]
        omega
      have hs2 : (itoaB x).size = 2 := by rw [hz, e]; rfl
      refine pint_step _ _ (by omega) 0 (by omega) 0 _ (by omega) b0 (by omega) _ ?_
      refine pint_step _ _ (by omega) 1 (by omega) _ _ (by omega) b1 (by omega) _ ?_
      rw [show ((0 : Int) * 10 - (48 + x / 10 - 48)) * 10 - (48 + x % 10 - 48) = -x by omega]
      exact pint_stop x h0 h1 _ 2 hs2
  unfold spec_ParseInt.f
  have h45 : (bt (itoaB x) 0 == 45) = false := by
    rw [beq_eq_false_iff_ne]
    have := hb 0 (by omega)
    intro e
    rw [show ((0 : Nat) : Int) = 0 from rfl, e] at this
    omega
  simp only [if_pos (show ((itoaB x).size : Int) > 0 by omega), if_pos (show 0 < ((itoaB x).size : Int) by omega), h45]
  refine ev_up ?_
  simp only [spec_ParseInt.j0, Bool.false_eq_true, if_false]
  refine ev_up ?_
  simp only [spec_ParseInt.j1]
  refine Ev.bind (show Ev (fun k => spec_IsDigits.f k (itoaB x)) _ from hdg) ?_
  simp only [if_true, decide_eq_false (show ¬ ((itoaB x).size : Int) > 19 by omega)]
  refine ev_up ?_
  simp only [spec_ParseInt.j2, Bool.false_eq_true, if_false]
  exact hl0
/-- The program's. -/
theorem atoi_one : ∀ a : Fin 10, Go.Lib.atoi [UInt8.ofNat (48 + a.val)] = some (a.val : Int) := by decide
theorem atoi_two : ∀ a b : Fin 10, Go.Lib.atoi [UInt8.ofNat (48 + a.val), UInt8.ofNat (48 + b.val)] = some ((a.val * 10 + b.val : Nat) : Int) := by decide
theorem atoi_small {x : Int} (h0 : 0 ≤ x) (h1 : x < 100) : Go.Lib.atoiAll (Go.Lib.itoa x) = .ok x := by
  by_cases h : x < 10
  · rw [itoa_one h0 h, Go.Lib.atoiAll_short _ (by simp), atoi_one ⟨x.toNat, by omega⟩]
    show Go.Lib.NumEnd.ok _ = _
    congr 1
    simp only
    omega
  · rw [itoa_two (by omega) h1, Go.Lib.atoiAll_short _ (by simp), atoi_two ⟨x.toNat / 10, by omega⟩ ⟨x.toNat % 10, by omega⟩]
    show Go.Lib.NumEnd.ok _ = _
    congr 1
    simp only
    omega
theorem impl_pint (s : ByteArray) (hs : s.size ≤ 1048576) : impl_ParseInt.f s = some (pIntOf s) := by
  unfold impl_ParseInt.f
  rw [if_pos (by omega)]
theorem pIntOf_small {x : Int} (h0 : 0 ≤ x) (h1 : x < 100) : pIntOf (itoaB x) = (x, true) := by
  have e : (itoaB x).data.toList = Go.Lib.itoa x := by simp [itoaB]
  unfold pIntOf
  rw [e, atoi_small h0 h1]
  simp
/-- Rows of numbers. -/
theorem nums_any (l : List ByteArray) (hl : l.length ≤ 1048577) (h : ∀ x ∈ l, x.size ≤ 1048576) : ∀ (suf pre : List ByteArray) (acc : List Int), l = pre ++ suf → acc.length = pre.length → ∃ v : List Int × Bool, (v.2 = true → v.1.length = l.length) ∧ v.1.length ≤ l.length ∧ Ev (fun k => spec_l17Numbers.l0 k acc l (l.length : Int) (pre.length : Int)) v
  | [], pre, acc, e, ha => by
    have e2 : l = pre := by simpa using e
    subst e2
    refine ⟨(acc, true), fun _ => ha, Nat.le_of_eq ha, ev_up ?_⟩
    simp only [spec_l17Numbers.l0, if_neg (show ¬ ((l.length : Int) < l.length) by omega)]
    exact Ev.now _
  | x :: suf, pre, acc, e, ha => by
    have hlen : l.length = pre.length + suf.length + 1 := by rw [e]; simp; omega
    have hx : rdOf ByteArray.empty l (pre.length : Int) = x := by rw [e]; simp [rdOf, List.getD]
    have hw : wrap64 ((pre.length : Int) + 1) = ((pre ++ [x]).length : Int) := by rw [pw_wrap (by omega) (by omega)]; simp
    obtain ⟨⟨n, b⟩, hv⟩ := pint_any x (h x (by rw [e]; simp))
    cases b with
    | true =>
      obtain ⟨v, h1, h3, h2⟩ := nums_any l hl h suf (pre ++ [x]) (acc ++ [n]) (by simp [e]) (by simp [ha])
      refine ⟨v, h1, h3, ev_up ?_⟩
      simp only [spec_l17Numbers.l0, if_pos (show ((pre.length : Int) < l.length) by omega), if_pos (show (0 ≤ (pre.length : Int)) by omega), hx, hw]
      refine Ev.bind hv ?_
      simp only [if_true, if_pos (show acc.length < 17592186044416 by omega)]
      exact h2
    | false =>
      refine ⟨([], false), fun h => by simp at h, Nat.zero_le _, ev_up ?_⟩
      simp only [spec_l17Numbers.l0, if_pos (show ((pre.length : Int) < l.length) by omega), if_pos (show (0 ≤ (pre.length : Int)) by omega), hx]
      refine Ev.bind hv ?_
      simp only [Bool.false_eq_true, if_false]
      exact Ev.now _
theorem nums_small (m : List Int) (hm : m.length ≤ 1048577) (h : ∀ x ∈ m, 0 ≤ x ∧ x < 100) : ∀ (suf pre : List Int), m = pre ++ suf → Ev (fun k => spec_l17Numbers.l0 k pre (m.map itoaB) ((m.map itoaB).length : Int) (pre.length : Int)) (m, true)
  | [], pre, e => by
    have e2 : m = pre := by simpa using e
    subst e2
    refine ev_up ?_
    simp only [spec_l17Numbers.l0, if_neg (show ¬ ((m.length : Int) < (m.map itoaB).length) by simp)]
    exact Ev.now _
  | x :: suf, pre, e => by
    have hlen : m.length = pre.length + suf.length + 1 := by rw [e]; simp; omega
    have hll : (m.map itoaB).length = m.length := by simp
    have hx : rdOf ByteArray.empty (m.map itoaB) (pre.length : Int) = itoaB x := by rw [e]; simp [rdOf, List.getD]
    have hw : wrap64 ((pre.length : Int) + 1) = ((pre ++ [x]).length : Int) := by rw [pw_wrap (by omega) (by omega)]; simp
    have hxm := h x (by rw [e]; simp)
    have ih := nums_small m hm h suf (pre ++ [x]) (by simp [e])
    refine ev_up ?_
    simp only [spec_l17Numbers.l0, if_pos (show ((pre.length : Int) < (m.map itoaB).length) by omega), if_pos (show (0 ≤ (pre.length : Int)) by omega), hx, hw]
    refine Ev.bind (pint_small x hxm.1 hxm.2) ?_
    simp only [if_true, if_pos (show pre.length < 17592186044416 by omega)]
    exact ih
/-- The numbers of a text that is cut at ','. -/
def intsOf (s : ByteArray) : List Int := (splA 44 s).map fun p => (pIntOf p).1
theorem impl_nums_l0 (l : List ByteArray) (hl : l.length ≤ 1048577) (h : ∀ x ∈ l, x.size ≤ 1048576) : ∀ (suf pre : List ByteArray), l = pre ++ suf → Ev (fun k => impl_parseInts.l0 k (pre.map fun p => (pIntOf p).1) l (l.length : Int) (pre.length : Int)) (l.map fun p => (pIntOf p).1)
  | [], pre, e => by
    have e2 : l = pre := by simpa using e
    subst e2
    refine ev_up ?_
    simp only [impl_parseInts.l0, if_neg (show ¬ ((l.length : Int) < l.length) by omega)]
    exact Ev.now _
  | x :: suf, pre, e => by
    have hlen : l.length = pre.length + suf.length + 1 := by rw [e]; simp; omega
    have hx : rdOf ByteArray.empty l (pre.length : Int) = x := by rw [e]; simp [rdOf, List.getD]
    have hw : wrap64 ((pre.length : Int) + 1) = ((pre ++ [x]).length : Int) := by rw [pw_wrap (by omega) (by omega)]; simp
    have ih := impl_nums_l0 l hl h suf (pre ++ [x]) (by simp [e])
    refine ev_up ?_
    simp only [impl_parseInts.l0, if_pos (show ((pre.length : Int) < l.length) by omega), if_pos (show (0 ≤ (pre.length : Int)) by omega), hx, hw, impl_pint x (h x (by rw [e]; simp)), Option.bind_some, List.length_map, if_pos (show pre.length < 17592186044416 by omega)]
    rw [List.map_append] at ih
    exact ih
theorem impl_intsOf (s : ByteArray) (hs : s.size ≤ 1048576) : Ev (fun k => impl_parseInts.f k s) (intsOf s) := by
  obtain ⟨h1, h2, h3⟩ := splA_side 44 s
  unfold impl_parseInts.f
  simp only [impl_split 44 s hs, Option.bind_some]
  exact impl_nums_l0 (splA 44 s) (by omega) (fun x hx => by have := h3 x hx; omega) (splA 44 s) [] rfl
theorem no_sep {x : Int} (h0 : 0 ≤ x) (h1 : x < 100) (c : UInt8) (hc : c.toNat < 48 ∨ 57 < c.toNat) : c ∉ Go.Lib.itoa x := fun h => by
  have := itoa_dig h0 h1 c h
  omega

theorem ev_one {α : Type} {f : Nat → Option α} {a b : α} (h : Ev f a) (h2 : Ev f b) : a = b := by
  obtain ⟨n, hn⟩ := h
  obtain ⟨m, hm⟩ := h2
  have e1 := hn (max n m) (by omega)
  have e2 := hm (max n m) (by omega)
  exact Option.some.inj (e1.symm.trans e2)
theorem toList_inj {b c : ByteArray} (h : b.toList = c.toList) : b = c := by
  rw [toList_eq, toList_eq] at h
  rw [← ofL_self b, ← ofL_self c, h]
theorem joinOf_data (l : List ByteArray) (sep : ByteArray) : (joinOf l sep).data.toList = Go.Lib.join (l.map (·.data.toList)) sep.data.toList := by
  simp [joinOf, joinB]
theorem splA_join (c : UInt8) (l : List ByteArray) (h : l ≠ []) (hc : ∀ x ∈ l, c ∉ x.data.toList) : splA c (joinOf l ⟨#[c]⟩) = l := by
  unfold splA
  rw [joinOf_data]
  have e : (⟨#[c]⟩ : ByteArray).data.toList = [c] := rfl
  rw [e, splL_join c _ (by simpa using h) (by simpa using hc), List.map_map]
  conv => rhs; rw [← List.map_id l]
  exact List.map_congr_left fun x _ => ofL_self x
theorem join_no (c d : UInt8) (hcd : c ≠ d) : ∀ (l : List (List UInt8)), (∀ x ∈ l, c ∉ x) → c ∉ Go.Lib.join l [d]
  | [], _ => by simp [Go.Lib.join, List.intercalate]
  | [x], h => by
    rw [show Go.Lib.join [x] [d] = x by simp [Go.Lib.join, List.intercalate]]
    exact h x (by simp)
  | x :: y :: l, h => by
    have e : Go.Lib.join (x :: y :: l) [d] = x ++ d :: Go.Lib.join (y :: l) [d] := by
      simp [Go.Lib.join, List.intercalate]
    have ih := join_no c d hcd (y :: l) (fun z hz => h z (List.mem_cons_of_mem _ hz))
    rw [e]
    intro hm
    rcases List.mem_append.1 hm with hm | hm
    · exact h x (by simp) hm
    · rcases List.mem_cons.1 hm with hm | hm
      · exact hcd hm
      · exact ih hm
theorem index_cut (c : UInt8) : ∀ (a l : List UInt8), c ∉ a → Go.Lib.index (a ++ c :: l) [c] = (a.length : Int)
  | [], l, _ => by
    rw [List.nil_append, Go.Lib.index]
    simp [List.isPrefixOf]
  | b :: a, l, h => by
    have hb : ¬ b = c := fun e => h (by simp [e])
    have ih := index_cut c a l (fun h2 => h (List.mem_cons_of_mem _ h2))
    have hp : ([c] : List UInt8).isPrefixOf (b :: (a ++ c :: l)) = false := by simp [List.isPrefixOf, Ne.symm hb]
    have h1 : ¬ (((a.length : Nat) : Int) == -1) = true := by rw [beq_iff_eq]; omega
    rw [List.cons_append, Go.Lib.index, hp, ih]
    simp only [Bool.false_eq_true, if_false, if_neg h1, List.length_cons]
    omega
theorem cut_cut (c : UInt8) (a l : List UInt8) (h : c ∉ a) : Go.Lib.cut (a ++ c :: l) [c] = (a, l, true) := by
  unfold Go.Lib.cut
  rw [index_cut c a l h, if_pos (by omega)]
  simp
theorem cut_len (c : UInt8) (l : List UInt8) : (Go.Lib.cut l [c]).1.length ≤ l.length ∧ (Go.Lib.cut l [c]).2.1.length ≤ l.length := by
  unfold Go.Lib.cut
  split
  · simp
    omega
  · simp
/-- The numbers of a permutation are small. -/
theorem perm_small {p : List Int} (h : isPerm p) : ∀ x ∈ p, 0 ≤ x ∧ x < 100 := fun x hx => by have := h.2.1 x hx; have := h.1; omega
theorem ints_no {p : List Int} (h : ∀ x ∈ p, 0 ≤ x ∧ x < 100) (c : UInt8) (hc : c.toNat < 48 ∨ 57 < c.toNat) : ∀ y ∈ p.map itoaB, c ∉ y.data.toList := by
  intro y hy
  obtain ⟨x, hx, rfl⟩ := List.mem_map.1 hy
  have := h x hx
  have e : (itoaB x).data.toList = Go.Lib.itoa x := by simp [itoaB]
  rw [e]
  exact no_sep this.1 this.2 c hc
theorem ints_back {p : List Int} (h : ∀ x ∈ p, 0 ≤ x ∧ x < 100) (hne : p ≠ []) : splA 44 (joinOf (p.map itoaB) ⟨#[44]⟩) = p.map itoaB ∧ intsOf (joinOf (p.map itoaB) ⟨#[44]⟩) = p := by
  have e := splA_join 44 (p.map itoaB) (by simpa using hne) (ints_no h 44 (by decide))
  refine ⟨e, ?_⟩
  unfold intsOf
  rw [e, List.map_map]
  conv => rhs; rw [← List.map_id p]
  refine List.map_congr_left fun x hx => ?_
  have := h x hx
  simp [pIntOf_small this.1 this.2]
def psGood (s : ByteArray) (v : List Int × List Int × Bool) : Prop := v = ([], [], false) ∨ (v.2.2 = true ∧ transB v.1 v.2.1 = true ∧ surfT v.1 v.2.1 = s)
theorem surfT_nil {r u : List Int} (h : ¬ transB r u = true) : surfT r u = ⟨#[]⟩ := by
  unfold surfT
  rw [if_neg h]
def cutA (s : ByteArray) : ByteArray := ofL (Go.Lib.cut s.data.toList [124]).1
def cutB (s : ByteArray) : ByteArray := ofL (Go.Lib.cut s.data.toList [124]).2.1
theorem impl_cut (s : ByteArray) (hs : s.size ≤ 1048576) : ∃ b, strings_Cut.f s ⟨#[124]⟩ = some (cutA s, cutB s, b) := by
  refine ⟨(Go.Lib.cut s.data.toList [124]).2.2, ?_⟩
  unfold strings_Cut.f
  rw [if_pos (by omega)]
  rfl
theorem impl_ps (s : ByteArray) (hs : s.size ≤ 1048576) : Ev (fun k => impl_ParseSurface.f k s) (if s.toList = [] then ([], [], false) else if (surfT (intsOf (cutA s)) (intsOf (cutB s))).toList = s.toList then (intsOf (cutA s), intsOf (cutB s), true) else ([], [], false)) := by
  obtain ⟨b, hc⟩ := impl_cut s hs
  obtain ⟨l1, l2⟩ := cut_len 124 s.data.toList
  rw [len_data] at l1 l2
  have z1 : (cutA s).size ≤ 1048576 := by unfold cutA; rw [ofL_size]; omega
  have z2 : (cutB s).size ≤ 1048576 := by unfold cutB; rw [ofL_size]; omega
  unfold impl_ParseSurface.f
  simp only [hc, Option.bind_some]
  refine Ev.bind (impl_intsOf _ z1) ?_
  refine Ev.bind (impl_intsOf _ z2) ?_
  by_cases h0 : s.toList = []
  · simp only [if_pos h0]
    exact Ev.now _
  · simp only [if_neg h0]
    refine Ev.bind (impl_fmtsurf _ _) ?_
    by_cases h1 : (surfT (intsOf (cutA s)) (intsOf (cutB s))).toList = s.toList
    · simp only [if_pos h1]
      exact Ev.now _
    · simp only [if_neg h1]
      exact Ev.now _
theorem impl_psGood (s : ByteArray) (hs : s.size ≤ 1048576) : ∃ v, psGood s v ∧ Ev (fun k => impl_ParseSurface.f k s) v := by
  refine ⟨_, ?_, impl_ps s hs⟩
  by_cases h0 : s.toList = []
  · rw [if_pos h0]
    exact .inl rfl
  · rw [if_neg h0]
    by_cases h1 : (surfT (intsOf (cutA s)) (intsOf (cutB s))).toList = s.toList
    · rw [if_pos h1]
      have e := toList_inj h1
      refine .inr ⟨rfl, ?_, e⟩
      by_cases hb : transB (intsOf (cutA s)) (intsOf (cutB s)) = true
      · exact hb
      · exfalso
        apply h0
        rw [← e, surfT_nil hb, toList_eq]
    · rw [if_neg h1]
      exact .inl rfl
theorem surf_parts {r u : List Int} (h : transB r u = true) : (surfT r u).size ≤ 1009 ∧ (surfT r u).data.toList = (joinOf (r.map itoaB) ⟨#[44]⟩).data.toList ++ 124 :: (joinOf (u.map itoaB) ⟨#[44]⟩).data.toList ∧ (124 : UInt8) ∉ (joinOf (r.map itoaB) ⟨#[44]⟩).data.toList ∧ (124 : UInt8) ∉ (joinOf (u.map itoaB) ⟨#[44]⟩).data.toList := by
  obtain ⟨hr, hu, _⟩ := transB_side h
  obtain ⟨s1, s2, s3⟩ := surf_sz h
  have e44 : (⟨#[44]⟩ : ByteArray).data.toList = [44] := rfl
  have no : ∀ p : List Int, isPerm p → (124 : UInt8) ∉ (joinOf (p.map itoaB) ⟨#[44]⟩).data.toList := by
    intro p hp
    rw [joinOf_data, e44]
    refine join_no 124 44 (by decide) _ (fun x hx => ?_)
    obtain ⟨y, hy, rfl⟩ := List.mem_map.1 hx
    exact ints_no (perm_small hp) 124 (by decide) y hy
  refine ⟨?_, ?_, no r hr, no u hu⟩
  · unfold surfT
    rw [if_pos h, ByteArray.size_append]
    omega
  · unfold surfT
    rw [if_pos h]
    simp [ByteArray.data_append]
theorem impl_psYes (r u : List Int) (h : transB r u = true) : Ev (fun k => impl_ParseSurface.f k (surfT r u)) (r, u, true) := by
  obtain ⟨hr, hu, hl, h0, _⟩ := transB_side h
  obtain ⟨z, e, n1, n2⟩ := surf_parts h
  have hrne : r ≠ [] := List.length_pos_iff.1 h0
  have hune : u ≠ [] := List.length_pos_iff.1 (by omega)
  have hA : cutA (surfT r u) = joinOf (r.map itoaB) ⟨#[44]⟩ := by
    unfold cutA
    rw [e, cut_cut 124 _ _ n1]
    exact ofL_self _
  have hB : cutB (surfT r u) = joinOf (u.map itoaB) ⟨#[44]⟩ := by
    unfold cutB
    rw [e, cut_cut 124 _ _ n1]
    exact ofL_self _
  have := impl_ps (surfT r u) (by omega)
  rw [hA, hB, (ints_back (perm_small hr) hrne).2, (ints_back (perm_small hu) hune).2, if_pos rfl] at this
  have hne : ¬ (surfT r u).toList = [] := by
    rw [toList_eq, e]
    simp
  rw [if_neg hne] at this
  exact this
theorem nums_of (l : List ByteArray) (hl : l.length ≤ 1048577) (h : ∀ x ∈ l, x.size ≤ 1048576) : ∃ v, Ev (fun k => spec_l17Numbers.f k l) v := by
  obtain ⟨v, _, _, hv⟩ := nums_any l hl h l [] [] rfl rfl
  exact ⟨v, hv⟩
theorem spec_psGood (s : ByteArray) (hs : s.size ≤ 1048576) : ∃ v, psGood s v ∧ Ev (fun k => spec_ParseSurface.f k s) v := by
  obtain ⟨h1, h2, h3⟩ := splA_side 124 s
  unfold spec_ParseSurface.f
  by_cases h4 : ((splA 124 s).length : Int) = 2
  · obtain ⟨a, b, e⟩ : ∃ a b, splA 124 s = [a, b] := by
      match hx : splA 124 s with
      | [a, b] => exact ⟨a, b, rfl⟩
      | [] => rw [hx] at h4; simp at h4
      | [_] => rw [hx] at h4; simp at h4
      | _ :: _ :: _ :: _ => rw [hx] at h4; simp only [List.length_cons] at h4; omega
    have za : a.size ≤ 1048576 := by have := h3 a (by rw [e]; simp); omega
    have zb : b.size ≤ 1048576 := by have := h3 b (by rw [e]; simp); omega
    obtain ⟨_, a2, a3⟩ := splA_side 44 a
    obtain ⟨_, b2, b3⟩ := splA_side 44 b
    obtain ⟨⟨r, b1⟩, hr⟩ := nums_of (splA 44 a) (by omega) (fun x hx => by have := a3 x hx; omega)
    obtain ⟨⟨u, b2'⟩, hu⟩ := nums_of (splA 44 b) (by omega) (fun x hx => by have := b3 x hx; omega)
    have r0 : rdOf ByteArray.empty [a, b] 0 = a := rfl
    have r1 : rdOf ByteArray.empty [a, b] 1 = b := rfl
    have q2 : ((([a, b] : List ByteArray).length : Nat) : Int) = 2 := rfl
    have go : ∀ v : List Int × List Int × Bool, Ev (fun k => if b1 = true then if b2' = true then (spec_SurfaceOk.f k r u).bind fun t => if t = true then (spec_FormatSurface.f k r u).bind fun t => if t.toList = s.toList then some (r, u, true) else some ([], [], false) else some ([], [], false) else some ([], [], false) else some ([], [], false)) v →
        Ev (fun k => (spec_SplitAny.f k s ⟨#[124]⟩).bind fun t351 => (if (t351.length : Int) = 2 then (if 0 < (t351.length : Int) then ((spec_SplitAny.f k (rdOf ByteArray.empty t351 0) (⟨#[44]⟩ : ByteArray)).bind fun t355 => ((spec_l17Numbers.f k t355).bind fun bt358 => (if 1 < (t351.length : Int) then ((spec_SplitAny.f k (rdOf ByteArray.empty t351 1) (⟨#[44]⟩ : ByteArray)).bind fun t363 => ((spec_l17Numbers.f k t363).bind fun bt366 => (if bt358.2 = true then (if bt366.2 = true then ((spec_SurfaceOk.f k bt358.1 bt366.1).bind fun t371 => (if t371 = true then ((spec_FormatSurface.f k bt358.1 bt366.1).bind fun t372 => (if t372.toList = s.toList then (some (bt358.1, bt366.1, true)) else (some (([] : List Int), ([] : List Int), false)))) else (some (([] : List Int), ([] : List Int), false)))) else (some (([] : List Int), ([] : List Int), false))) else (some (([] : List Int), ([] : List Int), false))))) else (none)))) else (none)) else (some (([] : List Int), ([] : List Int), false)))) v := by
      intro v hv
      refine Ev.bind (spec_split 124 s hs) ?_
      rw [e]
      simp only [q2, if_true, if_pos (show (0 : Int) < 2 by decide), if_pos (show (1 : Int) < 2 by decide), r0, r1]
      refine Ev.bind (spec_split 44 a za) ?_
      refine Ev.bind hr ?_
      refine Ev.bind (spec_split 44 b zb) ?_
      refine Ev.bind hu ?_
      exact hv
    by_cases hb1 : b1 = true
    · by_cases hb2 : b2' = true
      · by_cases ht : transB r u = true
        · by_cases hf : (surfT r u).toList = s.toList
          · refine ⟨(r, u, true), .inr ⟨rfl, ht, toList_inj hf⟩, go _ ?_⟩
            simp only [if_pos hb1, if_pos hb2]
            refine Ev.bind (spec_surfOk r u) ?_
            simp only [if_pos ht]
            refine Ev.bind (spec_fmtsurf r u) ?_
            simp only [if_pos hf]
            exact Ev.now _
          · refine ⟨([], [], false), .inl rfl, go _ ?_⟩
            simp only [if_pos hb1, if_pos hb2]
            refine Ev.bind (spec_surfOk r u) ?_
            simp only [if_pos ht]
            refine Ev.bind (spec_fmtsurf r u) ?_
            simp only [if_neg hf]
            exact Ev.now _
        · refine ⟨([], [], false), .inl rfl, go _ ?_⟩
          simp only [if_pos hb1, if_pos hb2]
          refine Ev.bind (spec_surfOk r u) ?_
          simp only [if_neg ht]
          exact Ev.now _
      · refine ⟨([], [], false), .inl rfl, go _ ?_⟩
        simp only [if_pos hb1, if_neg hb2]
        exact Ev.now _
    · refine ⟨([], [], false), .inl rfl, go _ ?_⟩
      simp only [if_neg hb1]
      exact Ev.now _
  · refine ⟨([], [], false), .inl rfl, ?_⟩
    refine Ev.bind (spec_split 124 s hs) ?_
    simp only [if_neg h4]
    exact Ev.now _
theorem spec_psYes (r u : List Int) (h : transB r u = true) : Ev (fun k => spec_ParseSurface.f k (surfT r u)) (r, u, true) := by
  obtain ⟨hr, hu, hl, h0, _⟩ := transB_side h
  obtain ⟨z, e, n1, n2⟩ := surf_parts h
  obtain ⟨s1, s2, s3⟩ := surf_sz h
  have hrne : r ≠ [] := List.length_pos_iff.1 h0
  have hune : u ≠ [] := List.length_pos_iff.1 (by omega)
  have hs : splA 124 (surfT r u) = [joinOf (r.map itoaB) ⟨#[44]⟩, joinOf (u.map itoaB) ⟨#[44]⟩] := by
    unfold splA
    rw [e, splL_cut 124 _ _ n1, splL_self 124 _ n2]
    simp [ofL_self]
  have q2 : ((([joinOf (r.map itoaB) ⟨#[44]⟩, joinOf (u.map itoaB) ⟨#[44]⟩] : List ByteArray).length : Nat) : Int) = 2 := rfl
  have r0 : rdOf ByteArray.empty [joinOf (r.map itoaB) ⟨#[44]⟩, joinOf (u.map itoaB) ⟨#[44]⟩] 0 = joinOf (r.map itoaB) ⟨#[44]⟩ := rfl
  have r1 : rdOf ByteArray.empty [joinOf (r.map itoaB) ⟨#[44]⟩, joinOf (u.map itoaB) ⟨#[44]⟩] 1 = joinOf (u.map itoaB) ⟨#[44]⟩ := rfl
  have nr : Ev (fun k => spec_l17Numbers.f k (r.map itoaB)) (r, true) := nums_small r (by have := hr.1; omega) (perm_small hr) r [] rfl
  have nu : Ev (fun k => spec_l17Numbers.f k (u.map itoaB)) (u, true) := nums_small u (by have := hu.1; omega) (perm_small hu) u [] rfl
  unfold spec_ParseSurface.f
  refine Ev.bind (spec_split 124 _ (by omega)) ?_
  rw [hs]
  simp only [q2, if_true, if_pos (show (0 : Int) < 2 by decide), if_pos (show (1 : Int) < 2 by decide), r0, r1]
  refine Ev.bind (spec_split 44 _ (by omega)) ?_
  rw [(ints_back (perm_small hr) hrne).1]
  refine Ev.bind nr ?_
  refine Ev.bind (spec_split 44 _ (by omega)) ?_
  rw [(ints_back (perm_small hu) hune).1]
  refine Ev.bind nu ?_
  simp only [if_true]
  refine Ev.bind (spec_surfOk r u) ?_
  simp only [if_pos h]
  refine Ev.bind (spec_fmtsurf r u) ?_
  simp only [if_true]
  exact Ev.now _
theorem ps_both (s : ByteArray) (hs : s.size ≤ 1048576) : ∃ v : List Int × List Int × Bool, v.1.length ≤ 100 ∧ v.2.1.length ≤ 100 ∧ Ev (fun k => spec_ParseSurface.f k s) v ∧ Ev (fun k => impl_ParseSurface.f k s) v := by
  obtain ⟨v, g, hv⟩ := spec_psGood s hs
  obtain ⟨u, gu, hu⟩ := impl_psGood s hs
  rcases g with rfl | ⟨g1, g2, g3⟩
  · rcases gu with rfl | ⟨k1, k2, k3⟩
    · exact ⟨_, by simp, by simp, hv, hu⟩
    · have := spec_psYes u.1 u.2.1 k2
      rw [k3] at this
      have e := ev_one hv this
      simp at e
  · obtain ⟨r, q, b⟩ := v
    simp only at g1 g2 g3
    subst g1
    have := impl_psYes r q g2
    rw [g3] at this
    obtain ⟨hr, hq, _⟩ := transB_side g2
    have := hr.1
    have := hq.1
    exact ⟨(r, q, true), by show r.length ≤ 100; omega, by show q.length ≤ 100; omega, hv, by assumption⟩

theorem eqIntS_l0 (l : List Int) (hl : l.length ≤ 2147483648) : ∀ (suf pre : List Int), l = pre ++ suf → Ev (fun k => laws_eqIntS.l0 k l l (pre.length : Int)) true := by
  intro suf
  induction suf with
  | nil =>
    intro pre h
    subst h
    refine ev_up ?_
    simp only [laws_eqIntS.l0, if_neg (nlt_end pre)]
    exact Ev.now _
  | cons c suf ih =>
    intro pre h
    have := ih (pre ++ [c]) (by simp [h])
    subst h
    refine ev_up ?_
    simp only [laws_eqIntS.l0, if_pos (lt_mid pre suf c), if_pos (Int.natCast_nonneg pre.length), if_true, wrap_snoc (x := c) (s := suf) (p := pre) (by simp at hl ⊢; omega)]
    exact this
theorem eqIntS_ev (l : List Int) (hl : l.length ≤ 2147483648) : Ev (fun k => laws_eqIntS.f k l l) true := by
  unfold laws_eqIntS.f
  simp only [if_true]
  exact eqIntS_l0 l hl l [] rfl

/-- The numbers m, m + 1, .. -/
def marked : Nat → Int → List Int
  | 0, _ => []
  | n + 1, m => m :: marked n (m + 1)
theorem wrap_bd {a : Int} (h0 : -4611686018427387904 ≤ a) (h1 : a ≤ 4611686018427387904) : wrap64 a = a := by unfold wrap64; omega
theorem markIntS_l0 : ∀ (suf pre : List Int) (m : Int), (pre ++ suf).length ≤ 2147483648 → 0 ≤ m → m + suf.length ≤ 4000000000000000000 →
    Ev (fun k => laws_markIntS.l0 k (pre ++ suf) m (pre.length : Int)) (m + suf.length, pre ++ marked suf.length m) := by
  intro suf
  induction suf with
  | nil =>
    intro pre m _ _ _
    refine ev_up ?_
    simp only [laws_markIntS.l0, if_neg (nlt_end pre)]
    simpa [marked] using Ev.now (m, pre)
  | cons c suf ih =>
    intro pre m hl h0 h1
    have hs : (pre ++ c :: suf).set ((pre.length : Nat) : Int).toNat m = (pre ++ [m]) ++ suf := by simp
    have := ih (pre ++ [m]) (m + 1) (by simp at hl ⊢; omega) (by omega) (by simp at h1; omega)
    refine ev_up ?_
    simp only [laws_markIntS.l0, if_pos (lt_mid pre suf c), if_pos (Int.natCast_nonneg pre.length), hs, wrap_bd (a := m + 1) (by omega) (by simp at h1; omega), wrap_bd (a := (pre.length : Int) + 1) (by omega) (by simp at hl; omega)]
    rw [show (pre.length : Int) + 1 = ((pre ++ [m]).length : Int) by simp]
    rw [show m + ((c :: suf).length : Int) = m + 1 + (suf.length : Int) by simp; omega]
    simpa [marked] using this
theorem markIntS_ev (l : List Int) (m : Int) (hl : l.length ≤ 2147483648) (h0 : 0 ≤ m) (h1 : m ≤ 1000000000000000000) : Ev (fun k => laws_markIntS.f k l m) (m + l.length, marked l.length m) :=
  markIntS_l0 l [] m hl h0 (by omega)
theorem heldIntS_l0 : ∀ (n : Nat) (pre : List Int) (m : Int), pre.length + n ≤ 2147483648 → 0 ≤ m → m + n ≤ 4000000000000000000 →
    Ev (fun k => laws_heldIntS.l0 k (pre ++ marked n m) m (pre.length : Int)) (m + n) := by
  intro n
  induction n with
  | zero =>
    intro pre m _ _ _
    refine ev_up ?_
    simp only [laws_heldIntS.l0, marked, if_neg (nlt_end pre)]
    simpa using Ev.now m
  | succ n ih =>
    intro pre m hl h0 h1
    have := ih (pre ++ [m]) (m + 1) (by simp; omega) (by omega) (by omega)
    refine ev_up ?_
    simp only [laws_heldIntS.l0, marked, if_pos (lt_mid pre (marked n (m + 1)) m), if_pos (Int.natCast_nonneg pre.length), rd_mid, if_true, wrap_bd (a := m + 1) (by omega) (by omega), wrap_bd (a := (pre.length : Int) + 1) (by omega) (by omega)]
    rw [show (pre.length : Int) + 1 = ((pre ++ [m]).length : Int) by simp]
    rw [show m + ((n + 1 : Nat) : Int) = m + 1 + (n : Int) by push_cast; omega]
    simpa using this
theorem heldIntS_ev (n : Nat) (m : Int) (hl : n ≤ 2147483648) (h0 : 0 ≤ m) (h1 : m ≤ 1000000000000000000) : Ev (fun k => laws_heldIntS.f k (marked n m) m) (m + n) :=
  heldIntS_l0 n [] m (by simpa using hl) h0 (by omega)

theorem eqSurface_ev (a b : List Int) (ha : a.length ≤ 2147483648) (hb : b.length ≤ 2147483648) : Ev (fun k => laws_eqSurface.f k a b a b) true := by
  unfold laws_eqSurface.f
  refine Ev.bind (eqIntS_ev a ha) ?_
  simp only [if_true]
  refine Ev.bind (eqIntS_ev b hb) ?_
  exact Ev.now _
theorem markSurface_ev (a b : List Int) (m : Int) (ha : a.length ≤ 2147483648) (hb : b.length ≤ 2147483648) (h0 : 0 ≤ m) (h1 : m ≤ 100000000000) :
    Ev (fun k => laws_markSurface.f k a b m) (m + a.length + b.length, marked a.length m, marked b.length (m + a.length)) := by
  unfold laws_markSurface.f
  refine Ev.bind (markIntS_ev a m ha h0 (by omega)) ?_
  refine Ev.bind (markIntS_ev b (m + a.length) hb (by omega) (by omega)) ?_
  exact Ev.now _
theorem heldSurface_ev (a b : Nat) (m : Int) (ha : a ≤ 2147483648) (hb : b ≤ 2147483648) (h0 : 0 ≤ m) (h1 : m ≤ 100000000000) :
    Ev (fun k => laws_heldSurface.f k (marked a m) (marked b (m + a)) m) (m + a + b) := by
  unfold laws_heldSurface.f
  refine Ev.bind (heldIntS_ev a m ha h0 (by omega)) ?_
  simp only [if_neg (show ¬ m + (a : Int) < 0 by omega)]
  refine Ev.bind (heldIntS_ev b (m + a) hb (by omega) (by omega)) ?_
  simp only [if_neg (show ¬ m + (a : Int) + (b : Int) < 0 by omega)]
  exact Ev.now _

theorem FnExactParseSurface : laws_FnExactParseSurface.Pure := by
  intro a0 _
  apply Ev.rounds
  unfold laws_FnExactParseSurface.f
  by_cases hl : (a0.size : Int) > 1048576
  · simp only [if_pos hl]
    exact Ev.now _
  · obtain ⟨v, h1, h2, hs, hi⟩ := ps_both a0 (by omega)
    simp only [if_neg hl]
    refine Ev.bind hs ?_
    refine Ev.bind hi ?_
    refine Ev.bind (eqSurface_ev v.1 v.2.1 (by omega) (by omega)) ?_
    simp only [if_true, bne_self_eq_false]
    refine ev_up ?_
    simp only [laws_FnExactParseSurface.j0, Bool.false_eq_true, if_false]
    refine Ev.bind (markSurface_ev v.1 v.2.1 1 (by omega) (by omega) (by omega) (by omega)) ?_
    refine Ev.bind (heldSurface_ev v.1.length v.2.1.length 1 (by omega) (by omega) (by omega) (by omega)) ?_
    simp only [if_neg (show ¬ (1 + (v.1.length : Int) + (v.2.1.length : Int)) < 0 by omega), if_true]
    refine Ev.bind hi ?_
    refine Ev.bind (eqSurface_ev v.1 v.2.1 (by omega) (by omega)) ?_
    simp only [if_true, bne_self_eq_false]
    refine ev_up ?_
    simp only [laws_FnExactParseSurface.j1, Bool.false_eq_true, if_false]
    refine Ev.bind (heldSurface_ev v.1.length v.2.1.length 1 (by omega) (by omega) (by omega) (by omega)) ?_
    simp only [if_neg (show ¬ (1 + (v.1.length : Int) + (v.2.1.length : Int)) < 0 by omega), if_true]
    exact Ev.now _

end Go.Proofs.YtbolkipmehmncaaDoor.Pure
