/- The program's FormatSurface returns what the reference's returns, for all arguments: no condition. -/
import Derived.Test.YtnoopmbhdlfkbaaDoorSayFnExactFormatSurface
namespace Go.Proofs.YtnoopmbhdlfkbaaDoor.Pure
open Go.RowKit Go.Proofs.YtnoopmbhdlfkbaaDoor.S Go.Proofs.YtnoopmbhdlfkbaaDoorW.PrintWords Go.Proofs.YtnoopmbhdlfkbaaDoorW.PrintLast
set_option linter.unusedVariables false
set_option linter.unusedSimpArgs false

theorem ev_up {α : Type} {g : Nat → Option α} {r : α} (h : Ev (fun k => g (k + 1)) r) : Ev g r := Ev.step (fun _ => rfl) h
theorem ev_k {α : Type} {g : Nat → Option α} {r : α} {n : Nat} (h : ∀ k, n < k → g k = some r) : Ev g r := ⟨n + 1, fun k hk => h k (by omega)⟩

theorem pw_wf {a : Int} (h : (Lit.int .i64 a).wf = true) : -9223372036854775808 ≤ a ∧ a ≤ 9223372036854775807 := by
  simp [Lit.wf, IntKind.min, IntKind.max, IntKind.signed, IntKind.bits] at h
  omega
theorem pw_wrap {a : Int} (h0 : -9223372036854775808 ≤ a) (h1 : a ≤ 9223372036854775807) : wrap64 a = a := by
  unfold wrap64
  omega

/-- A permutation of at most 24 elements. -/
def isPerm (p : List Int) : Prop := p.length ≤ 24 ∧ (∀ x ∈ p, 0 ≤ x ∧ x < (p.length : Int)) ∧ p.Nodup
theorem perm_go (n : Nat) (hn : n ≤ 24) : ∀ (p pre : List Int) (seen : List Bool), seen.length = 24 → (∀ x : Int, 0 ≤ x → x < n → (seen.getD x.toNat false = true ↔ x ∈ pre)) →
    permGo n p seen = permSGo n pre p := by
  intro p
  induction p with
  | nil => intro pre seen _ _; rfl
  | cons x p ih =>
    intro pre seen hl hs
    simp only [permGo, permSGo]
    by_cases h0 : x < 0
    · rw [if_pos h0, if_neg (by omega)]
    · rw [if_neg h0]
      by_cases h1 : (n : Int) ≤ x
      · rw [if_pos h1, if_neg (by omega)]
      · rw [if_neg h1, if_pos (show 0 ≤ x ∧ x ≤ (n : Int) - 1 by omega)]
        have hx := hs x (by omega) (by omega)
        by_cases h2 : x ∈ pre
        · rw [if_pos (hx.2 h2), if_pos h2]
        · rw [if_neg (fun h => h2 (hx.1 h)), if_neg h2]
          refine ih _ _ (by simpa using hl) (fun y hy0 hy1 => ?_)
          by_cases hxy : x = y
          · subst hxy
            have : x.toNat < seen.length := by omega
            simp [List.getD, this]
          · have hne : x.toNat ≠ y.toNat := by omega
            have := hs y hy0 hy1
            simp only [List.getD, List.getElem?_set_ne hne]
            rw [List.getD] at this
            rw [this]
            simp [Ne.symm hxy]
theorem perm_same (p : List Int) : permB p = permSB p := by
  unfold permB permSB
  by_cases h : p.length ≤ 24
  · rw [if_pos h, if_pos h]
    refine perm_go p.length h p [] no24 rfl (fun x h0 h1 => ?_)
    have : no24.getD x.toNat false = false := by
      unfold no24
      simp only [List.getD, List.getElem?_replicate]
      split <;> rfl
    rw [this]
    simp
  · rw [if_neg h, if_neg h]
theorem permS_iff (n : Nat) : ∀ (p pre : List Int), permSGo n pre p = true ↔ ((∀ x ∈ p, 0 ≤ x ∧ x < (n : Int)) ∧ (∀ x ∈ p, x ∉ pre) ∧ p.Nodup)
  | [], pre => by simp [permSGo]
  | x :: p, pre => by
    simp only [permSGo]
    by_cases h : 0 ≤ x ∧ x ≤ (n : Int) - 1
    · rw [if_pos h]
      by_cases h2 : x ∈ pre
      · rw [if_pos h2]
        simp [h2]
      · rw [if_neg h2, permS_iff n p (pre ++ [x])]
        simp only [List.mem_cons, forall_eq_or_imp, List.nodup_cons]
        constructor
        · rintro ⟨h3, h4, h5⟩
          exact ⟨⟨by omega, h3⟩, ⟨h2, fun y hy hp => h4 y hy (List.mem_append.2 (.inl hp))⟩, fun hx => h4 x hx (List.mem_append.2 (.inr (List.mem_singleton.2 rfl))), h5⟩
        · rintro ⟨h3, h4, h5, h6⟩
          refine ⟨h3.2, fun y hy hp => ?_, h6⟩
          rcases List.mem_append.1 hp with hp | hp
          · exact h4.2 y hy hp
          · rw [List.mem_singleton.1 hp] at hy
            exact h5 hy
    · rw [if_neg h]
      simp only [Bool.false_eq_true, List.mem_cons, forall_eq_or_imp, false_iff]
      intro h2
      omega
theorem permB_iff (p : List Int) : permB p = true ↔ isPerm p := by
  rw [perm_same]
  unfold permSB isPerm
  by_cases h : p.length ≤ 24
  · rw [if_pos h, permS_iff]
    simp [h]
  · rw [if_neg h]
    simp [h]

/-! Lists without a number twice; what is met from a place. -/
theorem nodup_len (n : Nat) : ∀ l : List Int, l.Nodup → (∀ x ∈ l, 0 ≤ x ∧ x < n) → l.length ≤ n := by
  induction n with
  | zero =>
    intro l _ h
    cases l with
    | nil => simp
    | cons x l => have := h x (by simp); omega
  | succ n ih =>
    intro l hn h
    have h2 := ih (l.filter (fun x => x != (n : Int))) (hn.filter _) (fun x hx => by
      have h3 := List.mem_filter.1 hx
      have h4 := h x h3.1
      have h5 : x ≠ (n : Int) := by simpa using h3.2
      omega)
    have h3 : l.length ≤ (l.filter (fun x => x != (n : Int))).length + 1 := by
      clear h h2 ih
      induction l with
      | nil => simp
      | cons y l ihl =>
        have hn2 := List.nodup_cons.1 hn
        by_cases hy : y = (n : Int)
        · have : l.filter (fun x => x != (n : Int)) = l := List.filter_eq_self.2 (fun x hx => by
            have : x ≠ (n : Int) := fun e => hn2.1 (by rw [hy, ← e]; exact hx)
            simpa using this)
          simp [hy, this]
        · have := ihl hn2.2
          simp [hy]
          omega
    omega
def push (q : List Int) (k : Int) : List Int := if 0 ≤ k ∧ k ∉ q then q ++ [k] else q
def pushAll (q : List Int) (ks : List Int) : List Int := ks.foldl push q
/-- Distinct numbers below n. -/
def Few (n : Nat) (q : List Int) : Prop := q.Nodup ∧ ∀ x ∈ q, 0 ≤ x ∧ x < (n : Int)
theorem few_push {n : Nat} {q : List Int} {k : Int} (h : Few n q) (hk : k < n) : Few n (push q k) := by
  unfold push
  split
  · rename_i h2
    refine ⟨?_, fun x hx => ?_⟩
    · rw [List.nodup_append]
      refine ⟨h.1, by simp, ?_⟩
      intro a ha b hb
      simp at hb
      subst hb
      exact fun e => h2.2 (e ▸ ha)
    · rcases List.mem_append.1 hx with hx | hx
      · exact h.2 x hx
      · simp at hx; subst hx; exact ⟨h2.1, hk⟩
  · exact h
theorem push_len (q : List Int) (k : Int) : q.length ≤ (push q k).length := by unfold push; split <;> simp
theorem few_pushAll {n : Nat} : ∀ (ks q : List Int), Few n q → (∀ k ∈ ks, k < n) → Few n (pushAll q ks) ∧ q.length ≤ (pushAll q ks).length
  | [], q, h, _ => ⟨h, Nat.le_refl _⟩
  | k :: ks, q, h, hk => by
    have h1 := few_push h (hk k (by simp))
    have h2 := few_pushAll ks (push q k) h1 (fun x hx => hk x (by simp [hx]))
    exact ⟨h2.1, Nat.le_trans (push_len q k) h2.2⟩
theorem few_len {n : Nat} {q : List Int} (h : Few n q) : q.length ≤ n := nodup_len n q h.1 h.2
/-- The queue behind the places from 'at_' on. -/
def bfs (nb : Int → List Int) : Nat → List Int → Nat → List Int
  | 0, q, _ => q
  | f + 1, q, i => if h : i < q.length then bfs nb f (pushAll q (nb q[i])) (i + 1) else q
theorem bfs_done (nb : Int → List Int) (f : Nat) (q : List Int) (i : Nat) (h : ¬ i < q.length) : bfs nb f q i = q := by
  cases f with
  | zero => rfl
  | succ f => rw [bfs, dif_neg h]
theorem bfs_few {n : Nat} (nb : Int → List Int) (hnb : ∀ x : Int, 0 ≤ x → x < (n : Int) → ∀ k ∈ nb x, k < (n : Int)) : ∀ (f : Nat) (q : List Int) (i : Nat), Few n q → Few n (bfs nb f q i)
  | 0, q, i, h => h
  | f + 1, q, i, h => by
    rw [bfs]
    split
    · rename_i hi
      have := h.2 _ (List.getElem_mem hi)
      exact bfs_few nb hnb f _ _ (few_pushAll (nb q[i]) q h (hnb q[i] this.1 this.2)).1
    · exact h

/-! Small words on lists, read at a place. -/
theorem len_snoc {α : Type} (p : List α) (x : α) : (p ++ [x]).length = p.length + 1 := by simp
theorem wrap_snoc {α : Type} {p s : List α} {x : α} (h : (p ++ x :: s).length ≤ 4611686018427387904) : wrap64 ((p.length : Int) + 1) = ((p ++ [x]).length : Int) := by
  simp at h ⊢
  unfold wrap64
  omega
theorem lt_mid {α : Type} (p s : List α) (x : α) : ((p.length : Nat) : Int) < ((p ++ x :: s).length : Int) := by simp; omega
theorem nlt_end {α : Type} (p : List α) : ¬ ((p.length : Nat) : Int) < ((p ++ []).length : Int) := by simp
theorem rd_mid (p s : List Int) (x : Int) : rd (p ++ x :: s) (p.length : Int) = x := by simp [rd, List.getD]
theorem nil_or_snoc {α : Type} (l : List α) : l = [] ∨ ∃ p x, l = p ++ [x] := by
  rcases List.eq_nil_or_concat l with h | ⟨p, x, h⟩
  · exact .inl h
  · exact .inr ⟨p, x, by rw [h]; simp⟩

/-- Which of the numbers below n are on the list. -/
def flagsOf (n : Nat) (q : List Int) : List Bool := (List.range n).map (fun (i : Nat) => decide ((i : Int) ∈ q))
theorem flagsOf_len (n : Nat) (q : List Int) : (flagsOf n q).length = n := by simp [flagsOf]
theorem flagsOf_nil (n : Nat) : flagsOf n [] = List.replicate n false := by
  apply List.ext_getElem?
  intro i
  by_cases h : i < n <;> simp [flagsOf, List.getElem?_replicate, h]
theorem flagsOf_rd (n : Nat) (q : List Int) {x : Int} (h0 : 0 ≤ x) (h1 : x < n) : rdOf false (flagsOf n q) x = decide (x ∈ q) := by
  have e : ((x.toNat : Nat) : Int) = x := by omega
  simp [rdOf, flagsOf, List.getD, show x.toNat < n by omega, e]
theorem flagsOf_set (n : Nat) (q : List Int) {x : Int} (h0 : 0 ≤ x) (h1 : x < n) : (flagsOf n q).set x.toNat true = flagsOf n (q ++ [x]) := by
  apply List.ext_getElem?
  intro i
  have hl : x.toNat < (flagsOf n q).length := by rw [flagsOf_len]; omega
  by_cases h : i = x.toNat
  · subst h
    have e : ((x.toNat : Nat) : Int) = x := by omega
    simp [flagsOf, show x.toNat < n by omega, e]
  · have hne : ((i : Nat) : Int) ≠ x := by omega
    rw [List.getElem?_set_ne (by omega)]
    by_cases hi : i < n <;> simp [flagsOf, hi, hne]
theorem rd_get (q : List Int) (i : Nat) (h : i < q.length) : rd q (i : Int) = q[i] := by simp [rd, List.getD, h]
theorem perm_rd {p : List Int} (h : isPerm p) {x : Int} (h0 : 0 ≤ x) (h1 : x < p.length) : 0 ≤ rd p x ∧ rd p x < (p.length : Int) := by
  have e : rd p x = p[x.toNat]'(by omega) := by simp [rd, List.getD, show x.toNat < p.length by omega]
  rw [e]
  exact h.2.1 _ (List.getElem_mem _)

theorem spec_has_l0 (l : List Int) (hl : l.length ≤ 4611686018427387904) (x : Int) : ∀ (suf pre : List Int), l = pre ++ suf →
    Ev (fun k => spec_l02Has.l0 k x l (l.length : Int) (pre.length : Int)) (decide (x ∈ suf)) := by
  intro suf
  induction suf with
  | nil =>
    intro pre h
    subst h
    refine ev_up ?_
    simp only [spec_l02Has.l0, if_neg (nlt_end pre)]
    simpa using Ev.now false
  | cons c suf ih =>
    intro pre h
    have := ih (pre ++ [c]) (by simp [h])
    subst h
    refine ev_up ?_
    by_cases hc : c = x
    · simp only [spec_l02Has.l0, if_pos (lt_mid pre suf c), if_pos (Int.natCast_nonneg pre.length), rd_mid, if_pos hc]
      simpa [hc] using Ev.now true
    · simp only [spec_l02Has.l0, if_pos (lt_mid pre suf c), if_pos (Int.natCast_nonneg pre.length), rd_mid, if_neg hc, wrap_snoc hl]
      rw [show decide (x ∈ c :: suf) = decide (x ∈ suf) by simp [Ne.symm hc]]
      exact this
theorem spec_has (l : List Int) (hl : l.length ≤ 4611686018427387904) (x : Int) : Ev (fun k => spec_l02Has.f k l x) (decide (x ∈ l)) := spec_has_l0 l hl x l [] rfl

def nbT (r u : List Int) (x : Int) : List Int := [rd r x, rd u x]
theorem spec_reach_l1 (rr u : List Int) (n : Nat) (hn : n ≤ 24) (x8 : Int) (hx : 0 ≤ x8 ∧ x8 ≤ 1000) (ys : List Int) (hy : ys.length ≤ 1000) (r : List Int) : ∀ (suf pre q : List Int), ys = pre ++ suf → Few n q → (∀ k ∈ suf, 0 ≤ k ∧ k < (n : Int)) →
    Ev (fun k => spec_l02Reach.l0 k rr u (pushAll q suf) (x8 + 1)) r → Ev (fun k => spec_l02Reach.l1 k rr u q x8 ys (ys.length : Int) (pre.length : Int)) r := by
  intro suf
  induction suf with
  | nil =>
    intro pre q h hq hk hr
    subst h
    refine ev_up ?_
    simp only [spec_l02Reach.l1, if_neg (nlt_end pre), pw_wrap (a := x8 + 1) (by omega) (by omega)]
    exact hr
  | cons c suf ih =>
    intro pre q h hq hk hr
    have hc := hk c (by simp)
    have hf := few_push hq hc.2
    have hi := ih (pre ++ [c]) (push q c) (by simp [h]) hf (fun k h' => hk k (by simp [h'])) hr
    subst h
    have hql := few_len hq
    refine ev_up ?_
    simp only [spec_l02Reach.l1, if_pos (lt_mid pre suf c), if_pos (Int.natCast_nonneg pre.length), rd_mid, wrap_snoc (x := c) (s := suf) (p := pre) (by simp at hy ⊢; omega)]
    refine Ev.bind (spec_has q (by omega) c) ?_
    by_cases hm : c ∈ q
    · simp only [decide_eq_true hm, if_true]
      unfold push at hi
      rw [if_neg (fun h => h.2 hm)] at hi
      exact hi
    · simp only [decide_eq_false hm, Bool.false_eq_true, if_false, if_pos (show q.length < 17592186044416 by omega)]
      unfold push at hi
      rw [if_pos ⟨hc.1, hm⟩] at hi
      exact hi
theorem nbT_lt {rr u : List Int} (hr : isPerm rr) (hu : isPerm u) (he : rr.length = u.length) {x : Int} (h0 : 0 ≤ x) (h1 : x < rr.length) : ∀ k ∈ nbT rr u x, 0 ≤ k ∧ k < (rr.length : Int) := by
  intro k hk
  have a := perm_rd hr h0 h1
  have b := perm_rd hu h0 (by omega)
  simp only [nbT, List.mem_cons, List.not_mem_nil, or_false] at hk
  rcases hk with rfl | rfl <;> omega
theorem spec_reach_l0 {rr u : List Int} (hr : isPerm rr) (hu : isPerm u) (he : rr.length = u.length) : ∀ (f : Nat) (q : List Int) (i : Nat), Few rr.length q → i ≤ q.length → f + i = rr.length + 1 →
    Ev (fun k => spec_l02Reach.l0 k rr u q (i : Int)) (bfs (nbT rr u) f q i) := by
  intro f
  have hn := hr.1
  induction f with
  | zero =>
    intro q i hq hi hf
    have := few_len hq
    omega
  | succ f ih =>
    intro q i hq hi hf
    have hql := few_len hq
    refine ev_up ?_
    by_cases h : i < q.length
    · have hx := hq.2 _ (List.getElem_mem h)
      simp only [spec_l02Reach.l0, if_pos (show ((i : Nat) : Int) < (q.length : Int) by omega), if_pos (Int.natCast_nonneg i), rd_get q i h, if_pos hx.1, if_pos hx.2, if_pos (show q[i] < (u.length : Int) by omega), Option.bind_some]
      have hlt := nbT_lt hr hu he hx.1 hx.2
      have hp := few_pushAll _ q hq (fun k hk => (hlt k hk).2)
      have := ih _ (i + 1) hp.1 (by have := hp.2; omega) (by omega)
      rw [bfs, dif_pos h]
      exact spec_reach_l1 rr u rr.length hn i (by omega) (nbT rr u q[i]) (by simp [nbT]) _ _ [] q rfl hq hlt this
    · simp only [spec_l02Reach.l0, if_neg (show ¬ ((i : Nat) : Int) < (q.length : Int) by omega)]
      rw [bfs_done _ _ _ _ h]
      exact Ev.now _
def reachOf (r u : List Int) : List Int := bfs (nbT r u) (r.length + 1) [0] 0
def transB (r u : List Int) : Bool := permB r && permB u && decide (r.length = u.length) && decide (0 < r.length) && ((reachOf r u).length : Int) == (r.length : Int)
theorem few_z {n : Nat} (h : 1 ≤ n) : Few n [0] := ⟨by simp, fun x hx => by simp at hx; subst hx; omega⟩
theorem spec_trans (r u : List Int) : Ev (fun k => spec_IsTransitive.f k r u) (transB r u) := by
  unfold spec_IsTransitive.f transB
  simp only [spec_PermOk.f, ← perm_same, Option.bind_some]
  by_cases h1 : permB r = true
  · simp only [h1, if_true, Bool.true_and]
    by_cases h2 : permB u = true
    · simp only [h2, if_true, Bool.true_and]
      by_cases h3 : r.length = u.length
      · simp only [if_pos (show (r.length : Int) = u.length by omega), decide_eq_true h3, Bool.true_and]
        by_cases h4 : 0 < r.length
        · simp only [if_pos (show (r.length : Int) > 0 by omega), decide_eq_true h4, Bool.true_and]
          refine Ev.bind (a := reachOf r u) ?_ (Ev.now _)
          unfold spec_l02Reach.f
          exact spec_reach_l0 ((permB_iff r).1 h1) ((permB_iff u).1 h2) h3 _ [0] 0 (few_z h4) (by simp) (by omega)
        · simp only [if_neg (show ¬ (r.length : Int) > 0 by omega), decide_eq_false h4, Bool.false_and]
          exact Ev.now _
      · simp only [if_neg (show ¬ (r.length : Int) = u.length by omega), decide_eq_false h3, Bool.false_and]
        exact Ev.now _
    · simp only [Bool.eq_false_iff.2 h2, Bool.false_eq_true, if_false, Bool.false_and]
      exact Ev.now _
  · simp only [Bool.eq_false_iff.2 h1, Bool.false_eq_true, if_false, Bool.false_and]
    exact Ev.now _
theorem impl_trans_l1 (rr u : List Int) (n : Nat) (hn : n ≤ 24) (x8 : Int) (hx : 0 ≤ x8 ∧ x8 ≤ 1000) (ys : List Int) (hy : ys.length ≤ 1000) (r : Bool) : ∀ (suf pre q : List Int), ys = pre ++ suf → Few n q → (∀ k ∈ suf, 0 ≤ k ∧ k < (n : Int)) →
    Ev (fun k => impl_IsTransitive.l0 k rr u (flagsOf n (pushAll q suf)) (pushAll q suf) (x8 + 1)) r → Ev (fun k => impl_IsTransitive.l1 k rr u (flagsOf n q) q x8 ys (ys.length : Int) (pre.length : Int)) r := by
  intro suf
  induction suf with
  | nil =>
    intro pre q h hq hk hr
    subst h
    refine ev_up ?_
    simp only [impl_IsTransitive.l1, if_neg (nlt_end pre), pw_wrap (a := x8 + 1) (by omega) (by omega)]
    exact hr
  | cons c suf ih =>
    intro pre q h hq hk hr
    have hc := hk c (by simp)
    have hf := few_push hq hc.2
    have hi := ih (pre ++ [c]) (push q c) (by simp [h]) hf (fun k h' => hk k (by simp [h'])) hr
    subst h
    have hql := few_len hq
    refine ev_up ?_
    simp only [impl_IsTransitive.l1, if_pos (lt_mid pre suf c), if_pos (Int.natCast_nonneg pre.length), rd_mid, wrap_snoc (x := c) (s := suf) (p := pre) (by simp at hy ⊢; omega), if_pos hc.1, flagsOf_len, if_pos hc.2, flagsOf_rd n q hc.1 hc.2]
    by_cases hm : c ∈ q
    · simp only [decide_eq_true hm, if_true]
      unfold push at hi
      rw [if_neg (fun h => h.2 hm)] at hi
      exact hi
    · simp only [decide_eq_false hm, Bool.false_eq_true, if_false, if_pos (show q.length < 17592186044416 by omega), flagsOf_set n q hc.1 hc.2]
      unfold push at hi
      rw [if_pos ⟨hc.1, hm⟩] at hi
      exact hi
theorem impl_trans_l0 {rr u : List Int} (hr : isPerm rr) (hu : isPerm u) (he : rr.length = u.length) : ∀ (f : Nat) (q : List Int) (i : Nat), Few rr.length q → i ≤ q.length → f + i = rr.length + 1 →
    Ev (fun k => impl_IsTransitive.l0 k rr u (flagsOf rr.length q) q (i : Int)) (((bfs (nbT rr u) f q i).length : Int) == (rr.length : Int)) := by
  intro f
  have hn := hr.1
  induction f with
  | zero =>
    intro q i hq hi hf
    have := few_len hq
    omega
  | succ f ih =>
    intro q i hq hi hf
    have hql := few_len hq
    refine ev_up ?_
    by_cases h : i < q.length
    · have hx := hq.2 _ (List.getElem_mem h)
      simp only [impl_IsTransitive.l0, if_pos (show ((i : Nat) : Int) < (q.length : Int) by omega), if_pos (Int.natCast_nonneg i), rd_get q i h, if_pos hx.1, if_pos hx.2, if_pos (show q[i] < (u.length : Int) by omega), Option.bind_some]
      have hlt := nbT_lt hr hu he hx.1 hx.2
      have hp := few_pushAll _ q hq (fun k hk => (hlt k hk).2)
      have := ih _ (i + 1) hp.1 (by have := hp.2; omega) (by omega)
      rw [bfs, dif_pos h]
      exact impl_trans_l1 rr u rr.length hn i (by omega) (nbT rr u q[i]) (by simp [nbT]) _ _ [] q rfl hq hlt this
    · simp only [impl_IsTransitive.l0, if_neg (show ¬ ((i : Nat) : Int) < (q.length : Int) by omega)]
      rw [bfs_done _ _ _ _ h]
      exact Ev.now _
theorem impl_trans (r u : List Int) : Ev (fun k => impl_IsTransitive.f k r u) (transB r u) := by
  unfold impl_IsTransitive.f transB
  have hbad : ∀ b : Bool, b = false → Ev (fun k => impl_IsTransitive.j0 k r u true) b := by
    rintro b rfl
    refine ev_up ?_
    simp only [impl_IsTransitive.j0, if_true]
    exact Ev.now _
  simp only [impl_PermOk.f, Option.bind_some]
  by_cases h1 : permB r = true
  · simp only [h1, if_true, Bool.true_and]
    by_cases h2 : permB u = true
    · simp only [h2, if_true, Bool.true_and]
      by_cases h3 : r.length = u.length
      · simp only [if_pos (show (r.length : Int) = u.length by omega), decide_eq_true h3, Bool.true_and]
        by_cases h4 : 0 < r.length
        · have hn := ((permB_iff r).1 h1).1
          have e : ((r.length : Int) == 0) = false := by simp; intro e; rw [e] at h4; exact absurd h4 (by simp)
          rw [e]
          simp only [decide_eq_true h4, Bool.true_and]
          refine ev_up ?_
          have hset : (List.replicate r.length false).set (0 : Int).toNat true = flagsOf r.length [0] := by
            rw [← flagsOf_nil, flagsOf_set r.length [] (by omega) (by omega)]
            rfl
          simp only [impl_IsTransitive.j0, Bool.false_eq_true, if_false, if_pos (Int.natCast_nonneg r.length), Int.toNat_natCast, if_pos (show r.length ≤ 281474976710656 by omega), Option.bind_some, List.length_replicate, if_pos (show (0 : Int) < (r.length : Int) by omega), hset]
          exact impl_trans_l0 ((permB_iff r).1 h1) ((permB_iff u).1 h2) h3 _ [0] 0 (few_z h4) (by simp) (by omega)
        · have e : ((r.length : Int) == 0) = true := by
            have : r.length = 0 := by omega
            rw [this]; rfl
          rw [e]
          simp only [decide_eq_false h4, Bool.false_and]
          exact hbad _ rfl
      · simp only [if_neg (show ¬ (r.length : Int) = u.length by omega), decide_eq_false h3, Bool.false_and]
        exact hbad _ rfl
    · simp only [Bool.eq_false_iff.2 h2, Bool.false_eq_true, if_false, Bool.false_and]
      exact hbad _ rfl
  · simp only [Bool.eq_false_iff.2 h1, Bool.false_eq_true, if_false, Bool.false_and]
    exact hbad _ rfl
theorem transB_side {r u : List Int} (h : transB r u = true) : isPerm r ∧ isPerm u ∧ r.length = u.length ∧ 0 < r.length ∧ (reachOf r u).length = r.length := by
  unfold transB at h
  simp only [Bool.and_eq_true, decide_eq_true_eq, beq_iff_eq] at h
  obtain ⟨⟨⟨⟨h1, h2⟩, h3⟩, h4⟩, h5⟩ := h
  exact ⟨(permB_iff r).1 h1, (permB_iff u).1 h2, h3, h4, by omega⟩
theorem spec_surfOk (r u : List Int) : Ev (fun k => spec_SurfaceOk.f k r u) (transB r u) := Ev.bind (spec_trans r u) (Ev.now _)
theorem impl_surfOk (r u : List Int) : Ev (fun k => impl_SurfaceOk.f k r u) (transB r u) := Ev.bind (impl_trans r u) (Ev.now _)

/-- A number in decimals. -/
def decB (u : Nat) : ByteArray := ⟨(Go.Lib.decDigits u).toArray⟩
def itoaB (n : Int) : ByteArray := ⟨(Go.Lib.itoa n).toArray⟩
theorem nDig_le : ∀ (d u : Nat), u < 10 ^ (d + 1) → Go.Lib.nDigits u ≤ d + 1
  | 0, u, h => by rw [Go.Lib.nDigits_small (by simpa using h)]; omega
  | d + 1, u, h => by
    by_cases hu : u < 10
    · rw [Go.Lib.nDigits_small hu]; omega
    · rw [Go.Lib.nDigits_big hu]
      have := nDig_le d (u / 10) (by rw [Nat.pow_succ] at h; omega)
      omega
theorem decB_size (u : Nat) : (decB u).size = Go.Lib.nDigits u := by
  show (Go.Lib.decDigits u).toArray.size = _
  rw [List.size_toArray, Go.Lib.decDigits_length]
theorem bytes_app (a b : List UInt8) : (⟨a.toArray⟩ : ByteArray) ++ ⟨b.toArray⟩ = ⟨(a ++ b).toArray⟩ := by
  apply ByteArray.ext
  rw [ByteArray.data_append]
  simp
theorem app_assocB (a b c : ByteArray) : a ++ b ++ c = a ++ (b ++ c) := by
  apply ByteArray.ext
  simp [ByteArray.data_append, Array.append_assoc]
theorem one_strB (n : Int) (u : Nat) (h : n = ((u : Nat) : Int)) : strOfNums [n] = ⟨[UInt8.ofNat u].toArray⟩ := by
  subst h
  simp [strOfNums]
theorem strOne_size (n : Int) : (strOfNums [n]).size = 1 := id rfl
theorem decB_small {u : Nat} (h : u < 10) : decB u = strOfNums [(48 + (u : Int))] := by
  rw [one_strB _ (48 + u) (by omega)]
  unfold decB
  rw [Go.Lib.decDigits, dif_pos h]
theorem decB_big {u : Nat} (h : ¬ u < 10) : decB u = decB (u / 10) ++ strOfNums [(48 + (u : Int) % 10)] := by
  rw [one_strB _ (48 + u % 10) (by omega)]
  unfold decB
  rw [bytes_app, Go.Lib.decDigits, dif_neg h]
theorem itoaB_pos {n : Int} (h : 0 ≤ n) : itoaB n = decB n.toNat := by
  unfold itoaB Go.Lib.itoa decB
  rw [if_neg (by omega)]
theorem itoaB_neg {n : Int} (h : n < 0) : itoaB n = (⟨#[45]⟩ : ByteArray) ++ decB n.natAbs := by
  unfold itoaB Go.Lib.itoa decB
  rw [if_pos h, show (⟨#[45]⟩ : ByteArray) = ⟨[45].toArray⟩ from rfl, bytes_app]
  rfl
theorem itoaB_size {n : Int} (h0 : -9223372036854775808 ≤ n) (h1 : n ≤ 9223372036854775807) : (itoaB n).size ≤ 20 := by
  by_cases h : 0 ≤ n
  · rw [itoaB_pos h, decB_size]
    have := nDig_le 18 n.toNat (by omega)
    omega
  · rw [itoaB_neg (by omega), ByteArray.size_append, decB_size]
    have := nDig_le 18 n.natAbs (by omega)
    show 1 + _ ≤ 20
    omega
theorem spec_fmt_l0 : ∀ (u : Nat) (x : Int) (acc : ByteArray), x = u → u < 10 ^ 19 → acc.size + Go.Lib.nDigits u ≤ 40 → Ev (fun k => spec_FormatInt.l0 k x acc) (decB u ++ acc) := by
  intro u
  induction u using Nat.strongRecOn with
  | _ u ih =>
    intro x acc hx hu hs
    subst hx
    refine ev_up ?_
    have h9 : (10 : Int) ^ 19 = 10000000000000000000 := by decide
    by_cases h : u < 10
    · have hw : (wrap64 (48 + (u : Int))) % 256 = 48 + (u : Int) := by rw [pw_wrap (by omega) (by omega)]; omega
      have hn := Go.Lib.nDigits_small h
      simp only [spec_FormatInt.l0, if_neg (show ¬ ((u : Int) > 9) by omega), hw, Option.bind_some, strOne_size, if_pos (show 1 + acc.size ≤ 9223372036854775807 by omega)]
      rw [decB_small h]
      exact Ev.now _
    · have ht : Int.tmod (u : Int) 10 = (u : Int) % 10 := Int.tmod_eq_emod_of_nonneg (by omega)
      have hq : Int.tdiv (u : Int) 10 = (u : Int) / 10 := Int.tdiv_eq_ediv_of_nonneg (by omega)
      have hw : (wrap64 (48 + (u : Int) % 10)) % 256 = 48 + (u : Int) % 10 := by rw [pw_wrap (by omega) (by omega)]; omega
      have hw2 : wrap64 ((u : Int) / 10) = ((u / 10 : Nat) : Int) := by rw [pw_wrap (by omega) (by omega)]; omega
      have hn := Go.Lib.nDigits_big h
      simp only [spec_FormatInt.l0, if_pos (show ((u : Int) > 9) by omega), ht, hq, hw, hw2, Option.bind_some, strOne_size, if_pos (show 1 + acc.size ≤ 9223372036854775807 by omega)]
      rw [decB_big h, app_assocB]
      exact ih (u / 10) (by omega) _ _ rfl (by omega) (by rw [ByteArray.size_append, strOne_size]; omega)
theorem spec_fmtint {n : Int} (h0 : -9223372036854775808 ≤ n) (h1 : n ≤ 9223372036854775807) : Ev (fun k => spec_FormatInt.f k n) (itoaB n) := by
  by_cases hn : 0 ≤ n
  · refine ev_up ?_
    simp only [spec_FormatInt.f, if_neg (show ¬ n < 0 by omega)]
    rw [itoaB_pos hn]
    have := spec_fmt_l0 n.toNat n ⟨#[]⟩ (by omega) (by omega) (by
      have := nDig_le 18 n.toNat (by omega)
      show 0 + _ ≤ 40
      omega)
    rw [show decB n.toNat ++ (⟨#[]⟩ : ByteArray) = decB n.toNat from by apply ByteArray.ext; simp [ByteArray.data_append]] at this
    exact this
  · have key : ∀ (u : Nat) (n : Int), n = -(u : Int) → 1 ≤ u → u ≤ 9223372036854775808 → Ev (fun k => spec_FormatInt.f k n) ((⟨#[45]⟩ : ByteArray) ++ decB u) := by
      intro u
      induction u using Nat.strongRecOn with
      | _ u ih =>
        intro n hx h1 h2
        subst hx
        refine ev_up ?_
        have hq : Int.tdiv (-(u : Int)) 10 = -((u / 10 : Nat) : Int) := by rw [Int.neg_tdiv, Int.tdiv_eq_ediv_of_nonneg (by omega)]; omega
        have ht : Int.tmod (-(u : Int)) 10 = -((u : Int) % 10) := by rw [Int.neg_tmod, Int.tmod_eq_emod_of_nonneg (by omega)]
        have hw2 : wrap64 (-((u / 10 : Nat) : Int)) = -((u / 10 : Nat) : Int) := pw_wrap (by omega) (by omega)
        by_cases h : u < 10
        · have hw : (wrap64 (48 - -(u : Int))) % 256 = 48 + (u : Int) := by rw [pw_wrap (by omega) (by omega)]; omega
          simp only [spec_FormatInt.f, if_pos (show -(u : Int) < 0 by omega), hq, hw2, hw, if_pos (show -((u / 10 : Nat) : Int) = 0 by omega), Option.bind_some, strOne_size, if_pos (show 1 + 1 ≤ 9223372036854775807 by omega)]
          rw [decB_small h]
          exact Ev.now _
        · have hw : (wrap64 (48 - -((u : Int) % 10))) % 256 = 48 + (u : Int) % 10 := by rw [pw_wrap (by omega) (by omega)]; omega
          simp only [spec_FormatInt.f, if_pos (show -(u : Int) < 0 by omega), hq, ht, hw2, hw, if_neg (show ¬ -((u / 10 : Nat) : Int) = 0 by omega)]
          refine Ev.bind (ih (u / 10) (by omega) _ rfl (by omega) (by omega)) ?_
          have hz : ((⟨#[45]⟩ : ByteArray) ++ decB (u / 10)).size ≤ 20 := by
            rw [ByteArray.size_append, decB_size]
            have := nDig_le 18 (u / 10) (by omega)
            show 1 + _ ≤ 20
            omega
          simp only [Option.bind_some, strOne_size, if_pos (show ((⟨#[45]⟩ : ByteArray) ++ decB (u / 10)).size + 1 ≤ 9223372036854775807 by omega)]
          rw [decB_big h, ← app_assocB]
          exact Ev.now _
    rw [itoaB_neg (by omega)]
    exact key n.natAbs n (by omega) (by omega) (by omega)
theorem impl_fmtint {n : Int} (h0 : -9223372036854775808 ≤ n) (h1 : n ≤ 9223372036854775807) : impl_FormatInt.f n = some (itoaB n) := by
  unfold impl_FormatInt.f strconv_Itoa.f
  rw [if_pos ⟨h0, h1⟩]
  rfl
theorem i64_wf {x : Int} (h : (Lit.int .i64 x).wf = true) : -9223372036854775808 ≤ x ∧ x ≤ 9223372036854775807 := pw_wf h

def joinOf (l : List ByteArray) (sep : ByteArray) : ByteArray := ⟨(joinB l sep).toArray⟩
def tot (l : List ByteArray) (sep : ByteArray) : Nat := match l with
  | [] => 0
  | x :: xs => x.size + sep.size + tot xs sep
theorem tot_append (sep : ByteArray) : ∀ (a b : List ByteArray), tot (a ++ b) sep = tot a sep + tot b sep
  | [], b => by simp [tot]
  | x :: a, b => by simp only [List.cons_append, tot, tot_append sep a b]; omega
theorem join_two (sep a : List UInt8) (xs : List (List UInt8)) (h : xs ≠ []) : Go.Lib.join (a :: xs) sep = a ++ sep ++ Go.Lib.join xs sep := by
  cases xs with
  | nil => exact absurd rfl h
  | cons b t => simp [Go.Lib.join, List.intercalate]
theorem join_snoc (sep x : List UInt8) : ∀ (xs : List (List UInt8)), xs ≠ [] → Go.Lib.join (xs ++ [x]) sep = Go.Lib.join xs sep ++ sep ++ x
  | [], h => absurd rfl h
  | [a], _ => by simp [Go.Lib.join, List.intercalate]
  | a :: b :: t, _ => by
    rw [List.cons_append, join_two sep a _ (by simp), join_snoc sep x (b :: t) (by simp), join_two sep a (b :: t) (by simp)]
    simp [List.append_assoc]
theorem bytes_self (x : ByteArray) : (⟨x.data.toList.toArray⟩ : ByteArray) = x := by
  apply ByteArray.ext
  simp
theorem joinOf_nil (sep : ByteArray) : joinOf [] sep = ⟨#[]⟩ := by simp [joinOf, joinB, Go.Lib.join, List.intercalate]
theorem joinOf_one (x sep : ByteArray) : joinOf [x] sep = x := by
  simp [joinOf, joinB, Go.Lib.join, List.intercalate]
theorem joinOf_snoc (l : List ByteArray) (x sep : ByteArray) (h : l ≠ []) : joinOf (l ++ [x]) sep = joinOf l sep ++ sep ++ x := by
  unfold joinOf joinB
  rw [List.map_append, List.map_cons, List.map_nil, join_snoc _ _ _ (by simpa using h), ← bytes_app, ← bytes_app, bytes_self, bytes_self]
theorem joinOf_size (sep : ByteArray) : ∀ (l : List ByteArray), (joinOf l sep).size ≤ tot l sep
  | [] => by rw [joinOf_nil]; exact Nat.zero_le _
  | [x] => by rw [joinOf_one]; simp only [tot]; omega
  | x :: y :: l => by
    have h : joinOf (x :: y :: l) sep = x ++ sep ++ joinOf (y :: l) sep := by
      unfold joinOf joinB
      rw [List.map_cons, join_two _ _ _ (by simp), ← bytes_app, ← bytes_app, bytes_self, bytes_self]
    rw [h, ByteArray.size_append, ByteArray.size_append]
    have := joinOf_size sep (y :: l)
    rw [tot]
    omega
theorem tot_len (sep : ByteArray) (h : 1 ≤ sep.size) : ∀ (l : List ByteArray), l.length ≤ tot l sep
  | [] => by simp [tot]
  | x :: l => by
    have := tot_len sep h l
    simp only [List.length_cons, tot]
    omega
theorem rdOf_mid (d : ByteArray) (pre suf : List ByteArray) (x : ByteArray) : rdOf d (pre ++ x :: suf) (pre.length : Int) = x := by
  simp [rdOf, List.getD]
theorem spec_join_l0 (sep : ByteArray) (l : List ByteArray) (hl : l.length ≤ 1000000000000) (ht : tot l sep ≤ 1000000000000) : ∀ (suf pre : List ByteArray), l = pre ++ suf → Ev (fun k => spec_Join.l0 k sep (joinOf pre sep) l (l.length : Int) (pre.length : Int)) (joinOf l sep)
  | [], pre, e => by
    refine ev_up ?_
    have e2 : l = pre := by simpa using e
    subst e2
    simp only [spec_Join.l0, if_neg (show ¬ ((l.length : Int) < l.length) by omega)]
    exact Ev.now _
  | x :: suf, pre, e => by
    refine ev_up ?_
    have hlen : l.length = pre.length + suf.length + 1 := by rw [e]; simp; omega
    have htt : tot l sep = tot pre sep + (x.size + sep.size + tot suf sep) := by rw [e, tot_append]; simp only [tot]
    have hs := joinOf_size sep pre
    have hx : rdOf ByteArray.empty l (pre.length : Int) = x := by rw [e]; exact rdOf_mid _ _ _ _
    have hw : wrap64 ((pre.length : Int) + 1) = ((pre ++ [x]).length : Int) := by rw [pw_wrap (by omega) (by omega)]; simp
    have ih := spec_join_l0 sep l hl ht suf (pre ++ [x]) (by simp [e])
    simp only [spec_Join.l0, if_pos (show ((pre.length : Int) < l.length) by omega), if_pos (show (0 ≤ (pre.length : Int)) by omega), hx, hw]
    by_cases hp : pre = []
    · subst hp
      rw [List.nil_append, joinOf_one] at ih
      have hz : (joinOf [] sep).size = 0 := by rw [joinOf_nil]; rfl
      refine Ev.congr (f := fun k => _) (fun k => (if_neg (show ¬ (((([] : List ByteArray).length : Nat) : Int) > 0) by simp)).trans (if_pos (by omega))) ?_
      rw [joinOf_nil, show (⟨#[]⟩ : ByteArray) ++ x = x from by apply ByteArray.ext; simp [ByteArray.data_append]]
      exact ih
    · have hpl : 0 < pre.length := List.length_pos_iff.2 hp
      rw [joinOf_snoc _ _ _ hp] at ih
      refine Ev.congr (f := fun k => _) (fun k => ((if_pos (show (pre.length : Int) > 0 by omega)).trans (if_pos (by omega))).trans (if_pos (by rw [ByteArray.size_append]; omega))) ?_
      exact ih
theorem spec_join (sep : ByteArray) (l : List ByteArray) (hl : l.length ≤ 1000000000000) (ht : tot l sep ≤ 1000000000000) : Ev (fun k => spec_Join.f k l sep) (joinOf l sep) := by
  unfold spec_Join.f
  have := spec_join_l0 sep l hl ht l [] rfl
  rw [joinOf_nil] at this
  exact this
theorem impl_join (sep : ByteArray) (l : List ByteArray) (hl : l.length ≤ 1000000000000) (ht : tot l sep ≤ 1000000000000) : impl_Join.f l sep = some (joinOf l sep) := by
  unfold impl_Join.f strings_Join.f
  have hs : (joinB l sep).length ≤ tot l sep := by
    have := joinOf_size sep l
    exact this
  rw [if_pos ⟨by omega, by omega⟩]
  rfl

def Ints64 (l : List Int) : Prop := ∀ x ∈ l, -9223372036854775808 ≤ x ∧ x ≤ 9223372036854775807
theorem tot_ints (sep : ByteArray) (hs : sep.size = 1) : ∀ (l : List Int), Ints64 l → tot (l.map itoaB) sep ≤ 21 * l.length
  | [], _ => by simp [tot]
  | x :: l, h => by
    have h1 := tot_ints sep hs l (fun y hy => h y (List.mem_cons_of_mem _ hy))
    have h2 := h x List.mem_cons_self
    have h3 := itoaB_size h2.1 h2.2
    simp only [List.map_cons, tot, List.length_cons]
    omega
theorem spec_ints_l0 (sep : ByteArray) (hs : sep.size = 1) (l : List Int) (hl : l.length ≤ 1048576) (h : Ints64 l) : ∀ (suf pre : List Int), l = pre ++ suf → Ev (fun k => spec_l17Ints.l0 k sep (pre.map itoaB) l (l.length : Int) (pre.length : Int)) (joinOf (l.map itoaB) sep)
  | [], pre, e => by
    refine ev_up ?_
    have e2 : l = pre := by simpa using e
    subst e2
    simp only [spec_l17Ints.l0, if_neg (show ¬ ((l.length : Int) < l.length) by omega)]
    have := tot_ints sep hs l h
    refine Ev.bind (spec_join sep (l.map itoaB) (by rw [List.length_map]; omega) (by omega)) ?_
    exact Ev.now _
  | x :: suf, pre, e => by
    refine ev_up ?_
    have hlen : l.length = pre.length + suf.length + 1 := by rw [e]; simp; omega
    have hx : rd l (pre.length : Int) = x := by rw [e]; exact rd_mid _ _ _
    have hxm := h x (by rw [e]; simp)
    have hw : wrap64 ((pre.length : Int) + 1) = ((pre ++ [x]).length : Int) := by rw [pw_wrap (by omega) (by omega)]; simp
    have ih := spec_ints_l0 sep hs l hl h suf (pre ++ [x]) (by simp [e])
    simp only [spec_l17Ints.l0, if_pos (show ((pre.length : Int) < l.length) by omega), if_pos (show (0 ≤ (pre.length : Int)) by omega), hx, hw]
    refine Ev.bind (spec_fmtint hxm.1 hxm.2) ?_
    refine Ev.congr (f := fun k => _) (fun k => if_pos (by rw [List.length_map]; omega)) ?_
    rw [List.map_append] at ih
    exact ih
theorem spec_ints (sep : ByteArray) (hs : sep.size = 1) (l : List Int) (hl : l.length ≤ 1048576) (h : Ints64 l) : Ev (fun k => spec_l17Ints.f k l sep) (joinOf (l.map itoaB) sep) := by
  unfold spec_l17Ints.f
  exact spec_ints_l0 sep hs l hl h l [] rfl
theorem impl_ints_l0 (sep : ByteArray) (hs : sep.size = 1) (l : List Int) (hl : l.length ≤ 1048576) (h : Ints64 l) : ∀ (suf pre : List Int), l = pre ++ suf → Ev (fun k => impl_joinInts.l0 k sep (pre.map itoaB) l (l.length : Int) (pre.length : Int)) (joinOf (l.map itoaB) sep)
  | [], pre, e => by
    refine ev_up ?_
    have e2 : l = pre := by simpa using e
    subst e2
    have := tot_ints sep hs l h
    simp only [impl_joinInts.l0, if_neg (show ¬ ((l.length : Int) < l.length) by omega), impl_join sep (l.map itoaB) (by rw [List.length_map]; omega) (by omega), Option.bind_some]
    exact Ev.now _
  | x :: suf, pre, e => by
    refine ev_up ?_
    have hlen : l.length = pre.length + suf.length + 1 := by rw [e]; simp; omega
    have hx : rd l (pre.length : Int) = x := by rw [e]; exact rd_mid _ _ _
    have hxm := h x (by rw [e]; simp)
    have hw : wrap64 ((pre.length : Int) + 1) = ((pre ++ [x]).length : Int) := by rw [pw_wrap (by omega) (by omega)]; simp
    have ih := impl_ints_l0 sep hs l hl h suf (pre ++ [x]) (by simp [e])
    simp only [impl_joinInts.l0, if_pos (show ((pre.length : Int) < l.length) by omega), if_pos (show (0 ≤ (pre.length : Int)) by omega), hx, hw, impl_fmtint hxm.1 hxm.2, Option.bind_some]
    refine Ev.congr (f := fun k => _) (fun k => if_pos (by rw [List.length_map]; omega)) ?_
    rw [List.map_append] at ih
    exact ih
theorem impl_ints (sep : ByteArray) (hs : sep.size = 1) (l : List Int) (hl : l.length ≤ 1048576) (h : Ints64 l) : Ev (fun k => impl_joinInts.f k l sep) (joinOf (l.map itoaB) sep) := by
  unfold impl_joinInts.f
  exact impl_ints_l0 sep hs l hl h l [] rfl
theorem ints64_wf {l : List Int} (h : ∀ x ∈ l, (Lit.int .i64 x).wf = true) : Ints64 l := fun x hx => i64_wf (h x hx)

def surfT (r u : List Int) : ByteArray := if transB r u = true then joinOf (r.map itoaB) ⟨#[44]⟩ ++ (⟨#[124]⟩ : ByteArray) ++ joinOf (u.map itoaB) ⟨#[44]⟩ else ⟨#[]⟩
theorem perm_ints {p : List Int} (h : isPerm p) : Ints64 p := fun x hx => by have := h.2.1 x hx; have := h.1; omega
theorem perm_text {p : List Int} (h : isPerm p) (sep : ByteArray) (hs : sep.size = 1) : (joinOf (p.map itoaB) sep).size ≤ 504 := by
  have := joinOf_size sep (p.map itoaB)
  have := tot_ints sep hs p (perm_ints h)
  have := h.1
  omega
theorem surf_sz {r u : List Int} (h : transB r u = true) : (joinOf (r.map itoaB) ⟨#[44]⟩).size ≤ 504 ∧ (joinOf (u.map itoaB) ⟨#[44]⟩).size ≤ 504 ∧ (joinOf (r.map itoaB) ⟨#[44]⟩ ++ (⟨#[124]⟩ : ByteArray)).size + (joinOf (u.map itoaB) ⟨#[44]⟩).size ≤ 1009 := by
  obtain ⟨hr, hu, _⟩ := transB_side h
  have a := perm_text hr ⟨#[44]⟩ rfl
  have b := perm_text hu ⟨#[44]⟩ rfl
  have e : (⟨#[124]⟩ : ByteArray).size = 1 := rfl
  rw [ByteArray.size_append, e]
  omega
theorem spec_fmtsurf (r u : List Int) : Ev (fun k => spec_FormatSurface.f k r u) (surfT r u) := by
  unfold spec_FormatSurface.f surfT
  refine Ev.bind (spec_surfOk r u) ?_
  by_cases h : transB r u = true
  · obtain ⟨hr, hu, _⟩ := transB_side h
    obtain ⟨s1, s2, s3⟩ := surf_sz h
    simp only [if_pos h]
    refine Ev.bind (spec_ints _ rfl r (by have := hr.1; omega) (perm_ints hr)) ?_
    refine Ev.congr (f := fun k => _) (fun k => if_pos (by omega)) ?_
    refine Ev.bind (spec_ints _ rfl u (by have := hu.1; omega) (perm_ints hu)) ?_
    exact Ev.congr (fun k => if_pos (by omega)) (Ev.now _)
  · simp only [if_neg h]
    exact Ev.now _
theorem impl_fmtsurf (r u : List Int) : Ev (fun k => impl_FormatSurface.f k r u) (surfT r u) := by
  unfold impl_FormatSurface.f surfT
  refine Ev.bind (impl_surfOk r u) ?_
  by_cases h : transB r u = true
  · obtain ⟨hr, hu, _⟩ := transB_side h
    obtain ⟨s1, s2, s3⟩ := surf_sz h
    simp only [if_pos h]
    refine Ev.bind (impl_ints _ rfl r (by have := hr.1; omega) (perm_ints hr)) ?_
    refine Ev.congr (f := fun k => _) (fun k => if_pos (by omega)) ?_
    refine Ev.bind (impl_ints _ rfl u (by have := hu.1; omega) (perm_ints hu)) ?_
    exact Ev.congr (fun k => if_pos (by omega)) (Ev.now _)
  · simp only [if_neg h]
    exact Ev.now _

theorem eqIntS_l0 (l : List Int) (hl : l.length ≤ 2147483648) : ∀ (suf pre : List Int), l = pre ++ suf → Ev (fun k => laws_eqIntS.l0 k l l (pre.length : Int)) true := by
  intro suf
  induction suf with
  | nil =>
    intro pre h
    subst h
    refine ev_up ?_
    simp only [laws_eqIntS.l0, if_neg (nlt_end pre)]
    exact Ev.now _
  | cons c suf ih =>
    intro pre h
    have := ih (pre ++ [c]) (by simp [h])
    subst h
    refine ev_up ?_
    simp only [laws_eqIntS.l0, if_pos (lt_mid pre suf c), if_pos (Int.natCast_nonneg pre.length), if_true, wrap_snoc (x := c) (s := suf) (p := pre) (by simp at hl ⊢; omega)]
    exact this
theorem eqIntS_ev (l : List Int) (hl : l.length ≤ 2147483648) : Ev (fun k => laws_eqIntS.f k l l) true := by
  unfold laws_eqIntS.f
  simp only [if_true]
  exact eqIntS_l0 l hl l [] rfl

theorem toIntS_l0 (l : List Int) (hl : l.length ≤ 1048576) : ∀ (suf pre : List Int), l = pre ++ suf → Ev (fun k => laws_toIntS.l0 k l (pre ++ List.replicate suf.length 0) (pre.length : Int)) l := by
  intro suf
  induction suf with
  | nil =>
    intro pre h
    subst h
    refine ev_up ?_
    simp only [laws_toIntS.l0, if_neg (nlt_end pre)]
    simpa using Ev.now pre
  | cons c suf ih =>
    intro pre h
    have := ih (pre ++ [c]) (by simp [h])
    subst h
    refine ev_up ?_
    simp only [laws_toIntS.l0, if_pos (lt_mid pre suf c), if_pos (Int.natCast_nonneg pre.length), rd_mid, if_pos (show ((pre.length : Nat) : Int) < ((pre ++ List.replicate (c :: suf).length (0 : Int)).length : Int) by simp; omega), wrap_snoc (x := c) (s := suf) (p := pre) (by simp at hl ⊢; omega)]
    rw [show (pre ++ List.replicate (c :: suf).length (0 : Int)).set ((pre.length : Nat) : Int).toNat c = pre ++ [c] ++ List.replicate suf.length 0 by simp [List.replicate_succ]]
    exact this
theorem toIntS_ev (l : List Int) (hl : l.length ≤ 1048576) : Ev (fun k => laws_toIntS.f k l) l := by
  have := toIntS_l0 l hl l [] rfl
  unfold laws_toIntS.f
  simp only [if_pos (Int.natCast_nonneg l.length), if_pos (show ((l.length : Nat) : Int).toNat ≤ 35184372088832 by omega)]
  simpa using this

theorem szIntS_eq (l : List Int) (m : Int) (hl : l.length ≤ 9223372036854775807) (h0 : 0 ≤ m) (h1 : m ≤ 1048576) : laws_szIntS.f l m = some (if (l.length : Int) ≤ m then m - (l.length : Int) else -1) := by
  unfold laws_szIntS.f
  have e : wrap64 (m - (l.length : Int)) = m - (l.length : Int) := by unfold wrap64; omega
  rw [e]
  by_cases h : (l.length : Int) ≤ m
  · rw [if_neg (by omega), if_pos h]
  · rw [if_pos (by omega), if_neg h]

theorem szSurface_eq (a b : List Int) (ha : a.length ≤ 9223372036854775807) (hb : b.length ≤ 9223372036854775807) : laws_szSurface.f a b 1048576 = some (if a.length + b.length ≤ 1048576 then 1048576 - ((a.length + b.length : Nat) : Int) else -1) := by
  unfold laws_szSurface.f
  simp only [szIntS_eq a 1048576 ha (by omega) (by omega), Option.bind_some]
  by_cases h : (a.length : Int) ≤ 1048576
  · simp only [if_pos h, if_neg (show ¬ (1048576 - (a.length : Int) < 0) by omega), szIntS_eq b _ hb (show 0 ≤ 1048576 - (a.length : Int) by omega) (by omega), Option.bind_some]
    by_cases h2 : (b.length : Int) ≤ 1048576 - (a.length : Int)
    · simp only [if_pos h2, if_neg (show ¬ (1048576 - (a.length : Int) - (b.length : Int) < 0) by omega), if_pos (show a.length + b.length ≤ 1048576 by omega)]
      congr 1
      omega
    · simp only [if_neg h2, if_neg (show ¬ a.length + b.length ≤ 1048576 by omega)]
      rfl
  · simp only [if_neg h, if_neg (show ¬ a.length + b.length ≤ 1048576 by omega)]
    rfl
theorem toSurface_ev (a b : List Int) (h : a.length + b.length ≤ 1048576) : Ev (fun k => laws_toSurface.f k a b) (a, b) := by
  unfold laws_toSurface.f
  refine Ev.bind (toIntS_ev a (by omega)) ?_
  refine Ev.bind (toIntS_ev b (by omega)) ?_
  exact Ev.now _
theorem eqSurf_ev (a b : List Int) (h : a.length + b.length ≤ 1048576) : Ev (fun k => laws_eqSurface.f k a b a b) true := by
  unfold laws_eqSurface.f
  refine Ev.bind (eqIntS_ev a (by omega)) ?_
  simp only [if_true]
  refine Ev.bind (eqIntS_ev b (by omega)) ?_
  simp only [if_true]
  exact Ev.now _

theorem FnExactFormatSurface : laws_FnExactFormatSurface.Pure := by
  intro a b ha _ hb _
  apply Ev.rounds
  unfold laws_FnExactFormatSurface.f
  simp only [szSurface_eq a b ha hb, Option.bind_some]
  by_cases h : a.length + b.length ≤ 1048576
  · simp only [if_pos h]
    refine Ev.congr (f := fun k => _) (fun k => if_neg (by omega)) ?_
    refine Ev.bind (toSurface_ev a b h) ?_
    refine Ev.bind (spec_fmtsurf a b) ?_
    refine Ev.bind (toSurface_ev a b h) ?_
    refine Ev.bind (impl_fmtsurf a b) ?_
    simp only [if_true]
    refine Ev.bind (toSurface_ev a b h) ?_
    refine Ev.bind (eqSurf_ev a b h) ?_
    simp only [if_true]
    exact Ev.now _
  · simp only [if_neg h]
    exact Ev.congr (fun k => if_pos (by omega)) (Ev.now _)

end Go.Proofs.YtnoopmbhdlfkbaaDoor.Pure
