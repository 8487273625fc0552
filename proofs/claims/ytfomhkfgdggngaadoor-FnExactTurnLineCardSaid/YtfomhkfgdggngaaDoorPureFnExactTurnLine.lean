/- The program's TurnLine returns what the reference's returns, for all arguments: no condition. -/
import Derived.Test.YtfomhkfgdggngaaDoorSayFnExactTurnLine
namespace Go.Proofs.YtfomhkfgdggngaaDoor.Pure
open Go.RowKit Go.Proofs.YtfomhkfgdggngaaDoor.S Go.Proofs.YtfomhkfgdggngaaDoorW.PrintWords Go.Proofs.YtfomhkfgdggngaaDoorW.PrintLast
set_option linter.unusedVariables false
set_option linter.unusedSimpArgs false

theorem ev_up {α : Type} {g : Nat → Option α} {r : α} (h : Ev (fun k => g (k + 1)) r) : Ev g r := Ev.step (fun _ => rfl) h
theorem pw_wrap {a : Int} (h0 : -9223372036854775808 ≤ a) (h1 : a ≤ 9223372036854775807) : wrap64 a = a := by
  unfold wrap64
  omega

/-- A permutation of at most 24 elements. -/
def isPerm (p : List Int) : Prop := p.length ≤ 24 ∧ (∀ x ∈ p, 0 ≤ x ∧ x < (p.length : Int)) ∧ p.Nodup
theorem perm_go (n : Nat) (hn : n ≤ 24) : ∀ (p pre : List Int) (seen : List Bool), seen.length = 24 → (∀ x : Int, 0 ≤ x → x < n → (seen.getD x.toNat false = true ↔ x ∈ pre)) →
    permGo n p seen = permSGo n pre p := by
  intro p
  induction p with
  | nil => intro pre seen _ _; rfl
  | cons x p ih =>
    intro pre seen hl hs
    simp only [permGo, permSGo]
    by_cases h0 : x < 0
    · rw [if_pos h0, if_neg (by omega)]
    · rw [if_neg h0]
      by_cases h1 : (n : Int) ≤ x
      · rw [if_pos h1, if_neg (by omega)]
      · rw [if_neg h1, if_pos (show 0 ≤ x ∧ x ≤ (n : Int) - 1 by omega)]
        have hx := hs x (by omega) (by omega)
        by_cases h2 : x ∈ pre
        · rw [if_pos (hx.2 h2), if_pos h2]
        · rw [if_neg (fun h => h2 (hx.1 h)), if_neg h2]
          refine ih _ _ (by simpa using hl) (fun y hy0 hy1 => ?_)
          by_cases hxy : x = y
          · subst hxy
            have : x.toNat < seen.length := by omega
            simp [List.getD, this]
          · have hne : x.toNat ≠ y.toNat := by omega
            have := hs y hy0 hy1
            simp only [List.getD, List.getElem?_set_ne hne]
            rw [List.getD] at this
            rw [this]
            simp [Ne.symm hxy]
theorem perm_same (p : List Int) : permB p = permSB p := by
  unfold permB permSB
  by_cases h : p.length ≤ 24
  · rw [if_pos h, if_pos h]
    refine perm_go p.length h p [] no24 rfl (fun x h0 h1 => ?_)
    have : no24.getD x.toNat false = false := by
      unfold no24
      simp only [List.getD, List.getElem?_replicate]
      split <;> rfl
    rw [this]
    simp
  · rw [if_neg h, if_neg h]
theorem permS_iff (n : Nat) : ∀ (p pre : List Int), permSGo n pre p = true ↔ ((∀ x ∈ p, 0 ≤ x ∧ x < (n : Int)) ∧ (∀ x ∈ p, x ∉ pre) ∧ p.Nodup)
  | [], pre => by simp [permSGo]
  | x :: p, pre => by
    simp only [permSGo]
    by_cases h : 0 ≤ x ∧ x ≤ (n : Int) - 1
    · rw [if_pos h]
      by_cases h2 : x ∈ pre
      · rw [if_pos h2]
        simp [h2]
      · rw [if_neg h2, permS_iff n p (pre ++ [x])]
        simp only [List.mem_cons, forall_eq_or_imp, List.nodup_cons]
        constructor
        · rintro ⟨h3, h4, h5⟩
          exact ⟨⟨by omega, h3⟩, ⟨h2, fun y hy hp => h4 y hy (List.mem_append.2 (.inl hp))⟩, fun hx => h4 x hx (List.mem_append.2 (.inr (List.mem_singleton.2 rfl))), h5⟩
        · rintro ⟨h3, h4, h5, h6⟩
          refine ⟨h3.2, fun y hy hp => ?_, h6⟩
          rcases List.mem_append.1 hp with hp | hp
          · exact h4.2 y hy hp
          · rw [List.mem_singleton.1 hp] at hy
            exact h5 hy
    · rw [if_neg h]
      simp only [Bool.false_eq_true, List.mem_cons, forall_eq_or_imp, false_iff]
      intro h2
      omega
theorem permB_iff (p : List Int) : permB p = true ↔ isPerm p := by
  rw [perm_same]
  unfold permSB isPerm
  by_cases h : p.length ≤ 24
  · rw [if_pos h, permS_iff]
    simp [h]
  · rw [if_neg h]
    simp [h]

/-! Lists without a number twice; what is met from a place. -/
theorem nodup_len (n : Nat) : ∀ l : List Int, l.Nodup → (∀ x ∈ l, 0 ≤ x ∧ x < n) → l.length ≤ n := by
  induction n with
  | zero =>
    intro l _ h
    cases l with
    | nil => simp
    | cons x l => have := h x (by simp); omega
  | succ n ih =>
    intro l hn h
    have h2 := ih (l.filter (fun x => x != (n : Int))) (hn.filter _) (fun x hx => by
      have h3 := List.mem_filter.1 hx
      have h4 := h x h3.1
      have h5 : x ≠ (n : Int) := by simpa using h3.2
      omega)
    have h3 : l.length ≤ (l.filter (fun x => x != (n : Int))).length + 1 := by
      clear h h2 ih
      induction l with
      | nil => simp
      | cons y l ihl =>
        have hn2 := List.nodup_cons.1 hn
        by_cases hy : y = (n : Int)
        · have : l.filter (fun x => x != (n : Int)) = l := List.filter_eq_self.2 (fun x hx => by
            have : x ≠ (n : Int) := fun e => hn2.1 (by rw [hy, ← e]; exact hx)
            simpa using this)
          simp [hy, this]
        · have := ihl hn2.2
          simp [hy]
          omega
    omega
def push (q : List Int) (k : Int) : List Int := if 0 ≤ k ∧ k ∉ q then q ++ [k] else q
def pushAll (q : List Int) (ks : List Int) : List Int := ks.foldl push q
/-- Distinct numbers below n. -/
def Few (n : Nat) (q : List Int) : Prop := q.Nodup ∧ ∀ x ∈ q, 0 ≤ x ∧ x < (n : Int)
theorem few_push {n : Nat} {q : List Int} {k : Int} (h : Few n q) (hk : k < n) : Few n (push q k) := by
  unfold push
  split
  · rename_i h2
    refine ⟨?_, fun x hx => ?_⟩
    · rw [List.nodup_append]
      refine ⟨h.1, by simp, ?_⟩
      intro a ha b hb
      simp at hb
      subst hb
      exact fun e => h2.2 (e ▸ ha)
    · rcases List.mem_append.1 hx with hx | hx
      · exact h.2 x hx
      · simp at hx; subst hx; exact ⟨h2.1, hk⟩
  · exact h
theorem push_len (q : List Int) (k : Int) : q.length ≤ (push q k).length := by unfold push; split <;> simp
theorem few_pushAll {n : Nat} : ∀ (ks q : List Int), Few n q → (∀ k ∈ ks, k < n) → Few n (pushAll q ks) ∧ q.length ≤ (pushAll q ks).length
  | [], q, h, _ => ⟨h, Nat.le_refl _⟩
  | k :: ks, q, h, hk => by
    have h1 := few_push h (hk k (by simp))
    have h2 := few_pushAll ks (push q k) h1 (fun x hx => hk x (by simp [hx]))
    exact ⟨h2.1, Nat.le_trans (push_len q k) h2.2⟩
theorem few_len {n : Nat} {q : List Int} (h : Few n q) : q.length ≤ n := nodup_len n q h.1 h.2
/-- The queue behind the places from 'at_' on. -/
def bfs (nb : Int → List Int) : Nat → List Int → Nat → List Int
  | 0, q, _ => q
  | f + 1, q, i => if h : i < q.length then bfs nb f (pushAll q (nb q[i])) (i + 1) else q
theorem bfs_done (nb : Int → List Int) (f : Nat) (q : List Int) (i : Nat) (h : ¬ i < q.length) : bfs nb f q i = q := by
  cases f with
  | zero => rfl
  | succ f => rw [bfs, dif_neg h]
theorem bfs_few {n : Nat} (nb : Int → List Int) (hnb : ∀ x : Int, 0 ≤ x → x < (n : Int) → ∀ k ∈ nb x, k < (n : Int)) : ∀ (f : Nat) (q : List Int) (i : Nat), Few n q → Few n (bfs nb f q i)
  | 0, q, i, h => h
  | f + 1, q, i, h => by
    rw [bfs]
    split
    · rename_i hi
      have := h.2 _ (List.getElem_mem hi)
      exact bfs_few nb hnb f _ _ (few_pushAll (nb q[i]) q h (hnb q[i] this.1 this.2)).1
    · exact h

/-! Small words on lists, read at a place. -/
theorem wrap_snoc {α : Type} {p s : List α} {x : α} (h : (p ++ x :: s).length ≤ 4611686018427387904) : wrap64 ((p.length : Int) + 1) = ((p ++ [x]).length : Int) := by
  simp at h ⊢
  unfold wrap64
  omega
theorem lt_mid {α : Type} (p s : List α) (x : α) : ((p.length : Nat) : Int) < ((p ++ x :: s).length : Int) := by simp; omega
theorem nlt_end {α : Type} (p : List α) : ¬ ((p.length : Nat) : Int) < ((p ++ []).length : Int) := by simp
theorem rd_mid (p s : List Int) (x : Int) : rd (p ++ x :: s) (p.length : Int) = x := by simp [rd, List.getD]
theorem rd_get (q : List Int) (i : Nat) (h : i < q.length) : rd q (i : Int) = q[i] := by simp [rd, List.getD, h]

/-- Which of the numbers below n are on the list. -/
def flagsOf (n : Nat) (q : List Int) : List Bool := (List.range n).map (fun (i : Nat) => decide ((i : Int) ∈ q))
theorem flagsOf_len (n : Nat) (q : List Int) : (flagsOf n q).length = n := by simp [flagsOf]
theorem flagsOf_nil (n : Nat) : flagsOf n [] = List.replicate n false := by
  apply List.ext_getElem?
  intro i
  by_cases h : i < n <;> simp [flagsOf, List.getElem?_replicate, h]
theorem flagsOf_rd (n : Nat) (q : List Int) {x : Int} (h0 : 0 ≤ x) (h1 : x < n) : rdOf false (flagsOf n q) x = decide (x ∈ q) := by
  have e : ((x.toNat : Nat) : Int) = x := by omega
  simp [rdOf, flagsOf, List.getD, show x.toNat < n by omega, e]
theorem flagsOf_set (n : Nat) (q : List Int) {x : Int} (h0 : 0 ≤ x) (h1 : x < n) : (flagsOf n q).set x.toNat true = flagsOf n (q ++ [x]) := by
  apply List.ext_getElem?
  intro i
  have hl : x.toNat < (flagsOf n q).length := by rw [flagsOf_len]; omega
  by_cases h : i = x.toNat
  · subst h
    have e : ((x.toNat : Nat) : Int) = x := by omega
    simp [flagsOf, show x.toNat < n by omega, e]
  · have hne : ((i : Nat) : Int) ≠ x := by omega
    rw [List.getElem?_set_ne (by omega)]
    by_cases hi : i < n <;> simp [flagsOf, hi, hne]
theorem perm_rd {p : List Int} (h : isPerm p) {x : Int} (h0 : 0 ≤ x) (h1 : x < p.length) : 0 ≤ rd p x ∧ rd p x < (p.length : Int) := by
  have e : rd p x = p[x.toNat]'(by omega) := by simp [rd, List.getD, show x.toNat < p.length by omega]
  rw [e]
  exact h.2.1 _ (List.getElem_mem _)

/-- One cycle, from x on: the numbers met by then, the cycle. -/
def walkC (p : List Int) : Nat → List Int → List Int → Int → List Int × List Int
  | 0, q, c, _ => (q, c)
  | f + 1, q, c, x => if x ∈ q then (q, c) else walkC p f (q ++ [x]) (c ++ [x]) (rd p x)
def walkOf (p q : List Int) (i : Int) : List Int × List Int := walkC p (p.length + 1 - q.length) q [] i
def cycGo (p : List Int) : Nat → Int → List Int → List (List Int) → List (List Int)
  | 0, _, _, out => out
  | d + 1, i, q, out => cycGo p d (i + 1) (walkOf p q i).1 (if i ∈ q then out else out ++ [(walkOf p q i).2])
def cyclesOf (p : List Int) : List (List Int) := if permB p = true then cycGo p p.length 0 [] [] else []
theorem few_full {n : Nat} {q : List Int} (h : Few n q) (hl : q.length = n) {x : Int} (h0 : 0 ≤ x) (h1 : x < n) : x ∈ q := by
  refine Classical.byContradiction fun hm => ?_
  have hf := few_push h h1
  have := few_len hf
  unfold push at this
  rw [if_pos ⟨h0, hm⟩] at this
  simp at this
  omega
theorem few_snoc {n : Nat} {q : List Int} (h : Few n q) {x : Int} (h0 : 0 ≤ x) (h1 : x < n) (hm : x ∉ q) : Few n (q ++ [x]) := by
  have hf := few_push h h1
  unfold push at hf
  rw [if_pos ⟨h0, hm⟩] at hf
  exact hf
theorem walkC_bd {p : List Int} (hp : isPerm p) : ∀ (f : Nat) (q c : List Int) (x : Int), Few p.length q → c.length ≤ q.length → (∀ y ∈ c, 0 ≤ y ∧ y < (p.length : Int)) → 0 ≤ x → x < p.length →
    Few p.length (walkC p f q c x).1 ∧ (walkC p f q c x).2.length ≤ (walkC p f q c x).1.length ∧ (∀ y ∈ (walkC p f q c x).2, 0 ≤ y ∧ y < (p.length : Int)) ∧ c.length ≤ (walkC p f q c x).2.length
  | 0, q, c, x, hq, hc, hv, h0, h1 => ⟨hq, hc, hv, Nat.le_refl _⟩
  | f + 1, q, c, x, hq, hc, hv, h0, h1 => by
    rw [walkC]
    by_cases hm : x ∈ q
    · rw [if_pos hm]
      exact ⟨hq, hc, hv, Nat.le_refl _⟩
    · rw [if_neg hm]
      have hx := perm_rd hp h0 h1
      have := walkC_bd hp f (q ++ [x]) (c ++ [x]) (rd p x) (few_snoc hq h0 h1 hm) (by simp; omega) (fun y hy => by
        rcases List.mem_append.1 hy with hy | hy
        · exact hv y hy
        · simp at hy; subst hy; exact ⟨h0, h1⟩) hx.1 hx.2
      refine ⟨this.1, this.2.1, this.2.2.1, ?_⟩
      have := this.2.2.2
      simp at this
      omega
def GoodC (c : List Int) : Prop := (∀ y ∈ c, 0 ≤ y ∧ y < 24) ∧ c.length ≤ 24
theorem walkOf_bd {p q : List Int} (hp : isPerm p) (hq : Few p.length q) {i : Int} (h0 : 0 ≤ i) (h1 : i < p.length) : Few p.length (walkOf p q i).1 ∧ GoodC (walkOf p q i).2 := by
  have h := walkC_bd hp (p.length + 1 - q.length) q [] i hq (by simp) (by simp) h0 h1
  have hn := hp.1
  have hl := few_len h.1
  refine ⟨h.1, fun y hy => ?_, ?_⟩
  · have := h.2.2.1 y hy
    omega
  · have h2 := h.2.1
    have e : (walkC p (p.length + 1 - q.length) q [] i) = walkOf p q i := rfl
    rw [e] at h2 hl
    omega
theorem walkOf_ne {p q : List Int} (hp : isPerm p) (hq : Few p.length q) {i : Int} (h0 : 0 ≤ i) (h1 : i < p.length) (hm : i ∉ q) : 0 < (walkOf p q i).2.length := by
  have hl := few_len (few_snoc hq h0 h1 hm)
  simp at hl
  unfold walkOf
  obtain ⟨f, hf⟩ : ∃ f, p.length + 1 - q.length = f + 1 := ⟨p.length - q.length, by omega⟩
  rw [hf, walkC, if_neg hm]
  have hx := perm_rd hp h0 h1
  have := (walkC_bd hp f (q ++ [i]) ([] ++ [i]) (rd p i) (few_snoc hq h0 h1 hm) (by simp) (fun y hy => by simp at hy; subst hy; exact ⟨h0, h1⟩) hx.1 hx.2).2.2.2
  simp at this
  exact this
theorem walkOf_in {p q : List Int} (hq : Few p.length q) {i : Int} (hm : i ∈ q) : walkOf p q i = (q, []) := by
  unfold walkOf
  have hl := few_len hq
  obtain ⟨f, hf⟩ : ∃ f, p.length + 1 - q.length = f + 1 := ⟨p.length - q.length, by omega⟩
  rw [hf, walkC, if_pos hm]
theorem cycGo_bd {p : List Int} (hp : isPerm p) : ∀ (d : Nat) (i : Int) (q : List Int) (out : List (List Int)), 0 ≤ i → i + d = p.length → Few p.length q → (∀ c ∈ out, GoodC c) →
    (∀ c ∈ cycGo p d i q out, GoodC c) ∧ (cycGo p d i q out).length ≤ out.length + d
  | 0, _, _, out, _, _, _, ho => ⟨ho, Nat.le_refl _⟩
  | d + 1, i, q, out, h0, hi, hq, ho => by
    have hw := walkOf_bd hp hq h0 (show i < p.length by omega)
    simp only [cycGo]
    by_cases hm : i ∈ q
    · rw [if_pos hm]
      have := cycGo_bd hp d (i + 1) (walkOf p q i).1 out (by omega) (by omega) hw.1 ho
      exact ⟨this.1, by have := this.2; omega⟩
    · rw [if_neg hm]
      have := cycGo_bd hp d (i + 1) (walkOf p q i).1 (out ++ [(walkOf p q i).2]) (by omega) (by omega) hw.1 (fun c hc => by
        rcases List.mem_append.1 hc with hc | hc
        · exact ho c hc
        · simp at hc; subst hc; exact hw.2)
      refine ⟨this.1, ?_⟩
      have := this.2
      simp at this
      omega
theorem cyclesOf_bd (p : List Int) : (∀ c ∈ cyclesOf p, GoodC c) ∧ (cyclesOf p).length ≤ 24 := by
  unfold cyclesOf
  by_cases h : permB p = true
  · rw [if_pos h]
    have hp := (permB_iff p).1 h
    have := cycGo_bd hp p.length 0 [] [] (by omega) (by omega) ⟨by simp, by simp⟩ (by simp)
    refine ⟨this.1, ?_⟩
    have := this.2
    have := hp.1
    simp at *
    omega
  · rw [if_neg h]
    simp
theorem spec_cyc_l1 {p : List Int} (hp : isPerm p) (out : List (List Int)) (ho : out.length ≤ 24) (i : Int) (hi : 0 ≤ i ∧ i < p.length) (r : List (List Int)) : ∀ (f : Nat) (q c : List Int) (x : Int), Few p.length q → c.length ≤ q.length → f + q.length = p.length + 1 → 0 ≤ x → x < p.length →
    Ev (fun k => spec_CyclesOf.l0 k p (if 0 < (walkC p f q c x).2.length then out ++ [(walkC p f q c x).2] else out) (flagsOf p.length (walkC p f q c x).1) (p.length : Int) (i + 1)) r →
    Ev (fun k => spec_CyclesOf.l1 k p out (flagsOf p.length q) c x (p.length : Int) i) r
  | 0, q, c, x, hq, _, hf, _, _, _ => by
    have := few_len hq
    omega
  | f + 1, q, c, x, hq, hc, hf, h0, h1, hr => by
    have hn := hp.1
    have hql := few_len hq
    refine ev_up ?_
    have hw : wrap64 (i + 1) = i + 1 := pw_wrap (by omega) (by omega)
    simp only [spec_CyclesOf.l1, if_pos h0, flagsOf_len, if_pos h1, flagsOf_rd p.length q h0 h1, hw]
    rw [walkC] at hr
    by_cases hm : x ∈ q
    · rw [if_pos hm] at hr
      simp only [decide_eq_true hm, if_true]
      by_cases hz : 0 < c.length
      · rw [if_pos hz] at hr
        simp only [if_pos (show (c.length : Int) > 0 by omega), if_pos (show out.length < 5864062014805 by omega)]
        exact hr
      · rw [if_neg hz] at hr
        simp only [if_neg (show ¬ (c.length : Int) > 0 by omega)]
        exact hr
    · rw [if_neg hm] at hr
      simp only [decide_eq_false hm, Bool.false_eq_true, if_false, if_pos (show c.length < 17592186044416 by omega), flagsOf_set p.length q h0 h1]
      have hx := perm_rd hp h0 h1
      exact spec_cyc_l1 hp out ho i hi r f (q ++ [x]) (c ++ [x]) (rd p x) (few_snoc hq h0 h1 hm) (by simp; omega) (by simp; omega) hx.1 hx.2 hr
theorem spec_cyc_l0 {p : List Int} (hp : isPerm p) : ∀ (d : Nat) (i : Int) (q : List Int) (out : List (List Int)), 0 ≤ i → i + d = p.length → Few p.length q → out.length + d ≤ 24 →
    Ev (fun k => spec_CyclesOf.l0 k p out (flagsOf p.length q) (p.length : Int) i) (cycGo p d i q out)
  | 0, i, q, out, h0, hi, hq, ho => by
    refine ev_up ?_
    simp only [spec_CyclesOf.l0, if_neg (show ¬ i < (p.length : Int) by omega)]
    exact Ev.now _
  | d + 1, i, q, out, h0, hi, hq, ho => by
    refine ev_up ?_
    have h1 : i < (p.length : Int) := by omega
    simp only [spec_CyclesOf.l0, if_pos h1]
    have hql := few_len hq
    refine spec_cyc_l1 hp out (by omega) i ⟨h0, h1⟩ _ (p.length + 1 - q.length) q [] i hq (by simp) (by omega) h0 h1 ?_
    have e : walkC p (p.length + 1 - q.length) q [] i = walkOf p q i := rfl
    rw [e, cycGo]
    have hw := walkOf_bd hp hq h0 h1
    by_cases hm : i ∈ q
    · rw [if_pos hm, walkOf_in hq hm, if_neg (by simp)]
      exact spec_cyc_l0 hp d (i + 1) q out (by omega) (by omega) hq (by omega)
    · rw [if_neg hm, if_pos (walkOf_ne hp hq h0 h1 hm)]
      exact spec_cyc_l0 hp d (i + 1) _ _ (by omega) (by omega) hw.1 (by simp; omega)
theorem spec_cycles (p : List Int) : Ev (fun k => spec_CyclesOf.f k p) (cyclesOf p) := by
  unfold spec_CyclesOf.f cyclesOf
  simp only [spec_PermOk.f, ← perm_same, Option.bind_some]
  by_cases h : permB p = true
  · have hp := (permB_iff p).1 h
    have hn := hp.1
    simp only [if_pos h, if_pos (Int.natCast_nonneg p.length), Int.toNat_natCast, if_pos (show p.length ≤ 281474976710656 by omega), ← flagsOf_nil]
    exact spec_cyc_l0 hp p.length 0 [] [] (by omega) (by omega) ⟨by simp, by simp⟩ (by simp; omega)
  · simp only [if_neg h]
    exact Ev.now _
theorem impl_cyc_l1 {p : List Int} (hp : isPerm p) (out : List (List Int)) (ho : out.length ≤ 24) (i : Int) (hi : 0 ≤ i ∧ i < p.length) (r : List (List Int)) : ∀ (f : Nat) (q c : List Int) (x : Int), Few p.length q → c.length ≤ q.length → f + q.length = p.length + 1 → 0 ≤ x → x < p.length →
    Ev (fun k => impl_CyclesOf.l0 k p (flagsOf p.length (walkC p f q c x).1) (out ++ [(walkC p f q c x).2]) (p.length : Int) (i + 1)) r →
    Ev (fun k => impl_CyclesOf.l1 k p (flagsOf p.length q) out c x (p.length : Int) i) r
  | 0, q, c, x, hq, _, hf, _, _, _ => by
    have := few_len hq
    omega
  | f + 1, q, c, x, hq, hc, hf, h0, h1, hr => by
    have hn := hp.1
    have hql := few_len hq
    refine ev_up ?_
    have hw : wrap64 (i + 1) = i + 1 := pw_wrap (by omega) (by omega)
    simp only [impl_CyclesOf.l1, if_pos h0, flagsOf_len, if_pos h1, flagsOf_rd p.length q h0 h1, hw]
    rw [walkC] at hr
    by_cases hm : x ∈ q
    · rw [if_pos hm] at hr
      simp only [decide_eq_true hm, if_true, if_pos (show out.length < 5864062014805 by omega)]
      exact hr
    · rw [if_neg hm] at hr
      simp only [decide_eq_false hm, Bool.false_eq_true, if_false, if_pos (show c.length < 17592186044416 by omega), flagsOf_set p.length q h0 h1]
      have hx := perm_rd hp h0 h1
      exact impl_cyc_l1 hp out ho i hi r f (q ++ [x]) (c ++ [x]) (rd p x) (few_snoc hq h0 h1 hm) (by simp; omega) (by simp; omega) hx.1 hx.2 hr
theorem impl_cyc_l0 {p : List Int} (hp : isPerm p) : ∀ (d : Nat) (i : Int) (q : List Int) (out : List (List Int)), 0 ≤ i → i + d = p.length → Few p.length q → out.length + d ≤ 24 →
    Ev (fun k => impl_CyclesOf.l0 k p (flagsOf p.length q) out (p.length : Int) i) (cycGo p d i q out)
  | 0, i, q, out, h0, hi, hq, ho => by
    refine ev_up ?_
    simp only [impl_CyclesOf.l0, if_neg (show ¬ i < (p.length : Int) by omega)]
    exact Ev.now _
  | d + 1, i, q, out, h0, hi, hq, ho => by
    refine ev_up ?_
    have h1 : i < (p.length : Int) := by omega
    have hn := hp.1
    have hw64 : wrap64 (i + 1) = i + 1 := pw_wrap (by omega) (by omega)
    simp only [impl_CyclesOf.l0, if_pos h1, if_pos h0, flagsOf_len, flagsOf_rd p.length q h0 h1, hw64]
    have hql := few_len hq
    rw [cycGo]
    by_cases hm : i ∈ q
    · simp only [decide_eq_true hm, if_true]
      rw [walkOf_in hq hm, if_pos hm]
      exact impl_cyc_l0 hp d (i + 1) q out (by omega) (by omega) hq (by omega)
    · simp only [decide_eq_false hm, Bool.false_eq_true, if_false, if_neg hm]
      refine impl_cyc_l1 hp out (by omega) i ⟨h0, h1⟩ _ (p.length + 1 - q.length) q [] i hq (by simp) (by omega) h0 h1 ?_
      have e : walkC p (p.length + 1 - q.length) q [] i = walkOf p q i := rfl
      rw [e]
      have hw := walkOf_bd hp hq h0 h1
      exact impl_cyc_l0 hp d (i + 1) _ _ (by omega) (by omega) hw.1 (by simp; omega)
theorem impl_cycles (p : List Int) : Ev (fun k => impl_CyclesOf.f k p) (cyclesOf p) := by
  unfold impl_CyclesOf.f cyclesOf
  simp only [impl_PermOk.f, Option.bind_some]
  by_cases h : permB p = true
  · have hp := (permB_iff p).1 h
    have hn := hp.1
    simp only [if_pos h, if_pos (Int.natCast_nonneg p.length), Int.toNat_natCast, if_pos (show p.length ≤ 281474976710656 by omega), ← flagsOf_nil]
    exact impl_cyc_l0 hp p.length 0 [] [] (by omega) (by omega) ⟨by simp, by simp⟩ (by simp; omega)
  · simp only [if_neg h]
    exact Ev.now _

/-! Inverses of permutations; one after the other. -/
theorem rd_ext {a b : List Int} (hl : a.length = b.length) (h : ∀ x : Int, 0 ≤ x → x < a.length → rd a x = rd b x) : a = b := by
  apply List.ext_getElem hl
  intro i h1 h2
  have := h (i : Int) (by omega) (by omega)
  rwa [rd_get a i h1, rd_get b i h2] at this
theorem rdS_same {a : List Int} {k v : Int} (k0 : 0 ≤ k) (k1 : k < a.length) : rd (a.set k.toNat v) k = v := by
  have : k.toNat < a.length := by omega
  simp [rd, List.getD, this]
theorem rdS_ne {a : List Int} {k l v : Int} (k0 : 0 ≤ k) (l0 : 0 ≤ l) (h : l ≠ k) : rd (a.set k.toNat v) l = rd a l := by
  have : k.toNat ≠ l.toNat := by omega
  simp [rd, List.getD, List.getElem?_set_ne this]
theorem pm_in {p : List Int} (hp : isPerm p) {x : Int} (x0 : 0 ≤ x) (x1 : x < p.length) : 0 ≤ rd p x ∧ rd p x < p.length := perm_rd hp x0 x1
theorem pm_inj {p : List Int} (hp : isPerm p) {x y : Int} (x0 : 0 ≤ x) (x1 : x < p.length) (y0 : 0 ≤ y) (y1 : y < p.length) (e : rd p x = rd p y) : x = y := by
  obtain ⟨i, rfl⟩ := Int.eq_ofNat_of_zero_le x0
  obtain ⟨j, rfl⟩ := Int.eq_ofNat_of_zero_le y0
  have hi : i < p.length := by omega
  have hj : j < p.length := by omega
  rw [rd_get p i hi, rd_get p j hj] at e
  have := List.pairwise_iff_getElem.1 hp.2.2
  rcases Nat.lt_trichotomy i j with h | h | h
  · exact absurd e (this i j hi hj h)
  · rw [h]
  · exact absurd e.symm (this j i hj hi h)
theorem pm_sur {p : List Int} (hp : isPerm p) {y : Int} (y0 : 0 ≤ y) (y1 : y < p.length) : ∃ x : Int, 0 ≤ x ∧ x < p.length ∧ rd p x = y := by
  have hm : y ∈ p := few_full (n := p.length) ⟨hp.2.2, hp.2.1⟩ rfl y0 y1
  obtain ⟨i, hi, e⟩ := List.getElem_of_mem hm
  exact ⟨(i : Int), by omega, by omega, by rw [rd_get p i hi, e]⟩
theorem pm_of {a : List Int} (hl : a.length ≤ 24) (hb : ∀ x : Int, 0 ≤ x → x < a.length → 0 ≤ rd a x ∧ rd a x < a.length) (hi : ∀ x y : Int, 0 ≤ x → x < a.length → 0 ≤ y → y < a.length → rd a x = rd a y → x = y) : isPerm a := by
  refine ⟨hl, fun x hx => ?_, ?_⟩
  · obtain ⟨i, h, rfl⟩ := List.getElem_of_mem hx
    have := hb (i : Int) (by omega) (by omega)
    rwa [rd_get a i h] at this
  · refine List.pairwise_iff_getElem.2 fun i j h1 h2 hij e => ?_
    have := hi (i : Int) (j : Int) (by omega) (by omega) (by omega) (by omega) (by rw [rd_get a i h1, rd_get a j h2, e])
    omega
def invGo (p : List Int) : Nat → Int → List Int → List Int
  | 0, _, out => out
  | d + 1, i, out => invGo p d (i + 1) (out.set (rd p i).toNat i)
def invL (p : List Int) : List Int := invGo p p.length 0 (List.replicate p.length 0)
theorem invGo_spec {p : List Int} (hp : isPerm p) : ∀ (d : Nat) (i : Int) (out : List Int), 0 ≤ i → i + d = p.length → out.length = p.length → (∀ j : Int, 0 ≤ j → j < i → rd out (rd p j) = j) →
    (invGo p d i out).length = p.length ∧ ∀ j : Int, 0 ≤ j → j < p.length → rd (invGo p d i out) (rd p j) = j
  | 0, i, out, h0, hi, hl, h => ⟨hl, fun j j0 j1 => h j j0 (by omega)⟩
  | d + 1, i, out, h0, hi, hl, h => by
    have hb := pm_in hp h0 (by omega)
    refine invGo_spec hp d (i + 1) _ (by omega) (by omega) (by simpa using hl) ?_
    intro j j0 j1
    by_cases e : j = i
    · subst e
      exact rdS_same hb.1 (by omega)
    · have hj := pm_in hp j0 (by omega)
      rw [rdS_ne hb.1 hj.1 (fun e2 => e (pm_inj hp j0 (by omega) h0 (by omega) e2))]
      exact h j j0 (by omega)
theorem invL_len {p : List Int} (hp : isPerm p) : (invL p).length = p.length := (invGo_spec hp p.length 0 _ (by omega) (by omega) (by simp) (fun j j0 j1 => by omega)).1
theorem inv_left {p : List Int} (hp : isPerm p) {x : Int} (h0 : 0 ≤ x) (h1 : x < p.length) : rd (invL p) (rd p x) = x := (invGo_spec hp p.length 0 _ (by omega) (by omega) (by simp) (fun j j0 j1 => by omega)).2 x h0 h1
theorem inv_right {p : List Int} (hp : isPerm p) {y : Int} (h0 : 0 ≤ y) (h1 : y < p.length) : rd p (rd (invL p) y) = y ∧ 0 ≤ rd (invL p) y ∧ rd (invL p) y < p.length := by
  obtain ⟨x, x0, x1, e⟩ := pm_sur hp h0 h1
  rw [← e, inv_left hp x0 x1]
  exact ⟨rfl, x0, x1⟩
theorem inv_perm {p : List Int} (hp : isPerm p) : isPerm (invL p) := by
  have hl := invL_len hp
  refine pm_of (by have := hp.1; omega) (fun x h0 h1 => ?_) (fun x y x0 x1 y0 y1 e => ?_)
  · have := inv_right hp h0 (by omega)
    omega
  · rw [← (inv_right hp x0 (by omega)).1, e, (inv_right hp y0 (by omega)).1]
def thenL (p q : List Int) : List Int := p.map (rd q)
theorem then_len (p q : List Int) : (thenL p q).length = p.length := by simp [thenL]
theorem then_rd (p q : List Int) {x : Int} (h0 : 0 ≤ x) (h1 : x < p.length) : rd (thenL p q) x = rd q (rd p x) := by
  obtain ⟨i, rfl⟩ := Int.eq_ofNat_of_zero_le h0
  have hi : i < p.length := by omega
  rw [rd_get _ i (by rw [then_len]; exact hi), rd_get p i hi]
  simp [thenL]
theorem then_perm {p q : List Int} (hp : isPerm p) (hq : isPerm q) (he : p.length = q.length) : isPerm (thenL p q) := by
  have hl := then_len p q
  refine pm_of (by have := hp.1; omega) (fun x h0 h1 => ?_) (fun x y x0 x1 y0 y1 e => ?_)
  · have a := pm_in hp h0 (by omega)
    have := pm_in hq a.1 (by omega)
    rw [then_rd p q h0 (by omega)]
    omega
  · rw [then_rd p q x0 (by omega), then_rd p q y0 (by omega)] at e
    have a := pm_in hp x0 (by omega)
    have b := pm_in hp y0 (by omega)
    exact pm_inj hp x0 (by omega) y0 (by omega) (pm_inj hq a.1 (by omega) b.1 (by omega) e)
/-! What the functions compute. -/
theorem spec_inv_l0 {p : List Int} (hp : isPerm p) : ∀ (d : Nat) (i : Int) (out : List Int), 0 ≤ i → i + d = p.length → out.length = p.length → Ev (fun k => spec_l02Inverse.l0 k out p (p.length : Int) i) (invGo p d i out)
  | 0, i, out, h0, hi, hl => by
    refine ev_up ?_
    simp only [spec_l02Inverse.l0, if_neg (show ¬ i < (p.length : Int) by omega)]
    exact Ev.now _
  | d + 1, i, out, h0, hi, hl => by
    have hb := pm_in hp h0 (by omega)
    have hn := hp.1
    refine ev_up ?_
    simp only [spec_l02Inverse.l0, if_pos (show i < (p.length : Int) by omega), if_pos h0, if_pos hb.1, if_pos (show rd p i < (out.length : Int) by omega), pw_wrap (a := i + 1) (by omega) (by omega)]
    exact spec_inv_l0 hp d (i + 1) _ (by omega) (by omega) (by simpa using hl)
theorem spec_inv {p : List Int} (hp : isPerm p) : Ev (fun k => spec_l02Inverse.f k p) (invL p) := by
  have hn := hp.1
  unfold spec_l02Inverse.f
  simp only [if_pos (Int.natCast_nonneg p.length), Int.toNat_natCast, if_pos (show p.length ≤ 35184372088832 by omega)]
  exact spec_inv_l0 hp p.length 0 _ (by omega) (by omega) (by simp)
theorem impl_inv_l0 {p : List Int} (hp : isPerm p) : ∀ (d : Nat) (i : Int) (out : List Int), 0 ≤ i → i + d = p.length → out.length = p.length → Ev (fun k => impl_InversePerm.l0 k out p (p.length : Int) i) (invGo p d i out)
  | 0, i, out, h0, hi, hl => by
    refine ev_up ?_
    simp only [impl_InversePerm.l0, if_neg (show ¬ i < (p.length : Int) by omega)]
    exact Ev.now _
  | d + 1, i, out, h0, hi, hl => by
    have hb := pm_in hp h0 (by omega)
    have hn := hp.1
    refine ev_up ?_
    simp only [impl_InversePerm.l0, if_pos (show i < (p.length : Int) by omega), if_pos h0, if_pos hb.1, if_pos (show rd p i < (out.length : Int) by omega), pw_wrap (a := i + 1) (by omega) (by omega)]
    exact impl_inv_l0 hp d (i + 1) _ (by omega) (by omega) (by simpa using hl)
theorem impl_inv {p : List Int} (hp : isPerm p) : Ev (fun k => impl_InversePerm.f k p) (invL p) := by
  have hn := hp.1
  unfold impl_InversePerm.f
  simp only [impl_PermOk.f, Option.bind_some, if_pos ((permB_iff p).2 hp), if_pos (Int.natCast_nonneg p.length), Int.toNat_natCast, if_pos (show p.length ≤ 35184372088832 by omega)]
  exact impl_inv_l0 hp p.length 0 _ (by omega) (by omega) (by simp)
theorem spec_thn_l0 (q p : List Int) (hp : p.length ≤ 1000) (hb : ∀ x ∈ p, 0 ≤ x ∧ x < (q.length : Int)) : ∀ (suf pre : List Int), p = pre ++ suf → Ev (fun k => spec_l02Then.l0 k q (pre.map (rd q)) p (p.length : Int) (pre.length : Int)) (p.map (rd q))
  | [], pre, e => by
    have e2 : p = pre := by simpa using e
    subst e2
    refine ev_up ?_
    simp only [spec_l02Then.l0, if_neg (show ¬ ((p.length : Int) < p.length) by omega)]
    exact Ev.now _
  | x :: suf, pre, e => by
    have hlen : p.length = pre.length + suf.length + 1 := by rw [e]; simp; omega
    have hx : rd p (pre.length : Int) = x := by rw [e]; simp [rd, List.getD]
    have hw : wrap64 ((pre.length : Int) + 1) = ((pre ++ [x]).length : Int) := by rw [pw_wrap (by omega) (by omega)]; simp
    have hxb := hb x (by rw [e]; simp)
    have ih := spec_thn_l0 q p hp hb suf (pre ++ [x]) (by simp [e])
    refine ev_up ?_
    simp only [spec_l02Then.l0, if_pos (show ((pre.length : Int) < p.length) by omega), if_pos (Int.natCast_nonneg pre.length), hx, hw, if_pos hxb.1, if_pos hxb.2, List.length_map, if_pos (show pre.length < 17592186044416 by omega)]
    rw [List.map_append] at ih
    exact ih
theorem spec_thn {p q : List Int} (hp : isPerm p) (he : p.length = q.length) : Ev (fun k => spec_l02Then.f k p q) (thenL p q) :=
  spec_thn_l0 q p (by have := hp.1; omega) (fun x hx => by have := hp.2.1 x hx; omega) p [] rfl
theorem impl_thn_l0 {p q : List Int} (hp : isPerm p) (he : p.length = q.length) : ∀ (d : Nat) (i : Int) (out : List Int), 0 ≤ i → i + d = p.length → out.length = p.length → (∀ j : Int, 0 ≤ j → j < i → rd out j = rd q (rd p j)) → Ev (fun k => impl_ThenPerm.l0 k q out p (p.length : Int) i) (thenL p q)
  | 0, i, out, h0, hi, hl, h => by
    refine ev_up ?_
    simp only [impl_ThenPerm.l0, if_neg (show ¬ i < (p.length : Int) by omega)]
    have e : out = thenL p q := rd_ext (by rw [hl, then_len]) (fun x x0 x1 => by rw [then_rd p q x0 (by omega)]; exact h x x0 (by omega))
    rw [e]
    exact Ev.now _
  | d + 1, i, out, h0, hi, hl, h => by
    have hb := pm_in hp h0 (by omega)
    have hn := hp.1
    refine ev_up ?_
    simp only [impl_ThenPerm.l0, if_pos (show i < (p.length : Int) by omega), if_pos h0, if_pos hb.1, if_pos (show rd p i < (q.length : Int) by omega), if_pos (show i < (out.length : Int) by omega), pw_wrap (a := i + 1) (by omega) (by omega)]
    refine impl_thn_l0 hp he d (i + 1) _ (by omega) (by omega) (by simpa using hl) (fun j j0 j1 => ?_)
    by_cases e : j = i
    · subst e
      exact rdS_same h0 (by omega)
    · rw [rdS_ne h0 j0 e]
      exact h j j0 (by omega)
theorem impl_thn {p q : List Int} (hp : isPerm p) (hq : isPerm q) (he : p.length = q.length) : Ev (fun k => impl_ThenPerm.f k p q) (thenL p q) := by
  have hn := hp.1
  unfold impl_ThenPerm.f
  simp only [impl_PermOk.f, Option.bind_some, if_pos ((permB_iff p).2 hp), if_pos ((permB_iff q).2 hq), show ((p.length : Int) != (q.length : Int)) = false by rw [bne_eq_false_iff_eq]; omega]
  refine ev_up ?_
  simp only [impl_ThenPerm.j0, Bool.false_eq_true, if_false, if_pos (Int.natCast_nonneg p.length), Int.toNat_natCast, if_pos (show p.length ≤ 35184372088832 by omega)]
  exact impl_thn_l0 hp he p.length 0 _ (by omega) (by omega) (by simp) (fun j j0 j1 => by omega)

theorem spec_has_l0 (l : List Int) (hl : l.length ≤ 4611686018427387904) (x : Int) : ∀ (suf pre : List Int), l = pre ++ suf →
    Ev (fun k => spec_l02Has.l0 k x l (l.length : Int) (pre.length : Int)) (decide (x ∈ suf)) := by
  intro suf
  induction suf with
  | nil =>
    intro pre h
    subst h
    refine ev_up ?_
    simp only [spec_l02Has.l0, if_neg (nlt_end pre)]
    simpa using Ev.now false
  | cons c suf ih =>
    intro pre h
    have := ih (pre ++ [c]) (by simp [h])
    subst h
    refine ev_up ?_
    by_cases hc : c = x
    · simp only [spec_l02Has.l0, if_pos (lt_mid pre suf c), if_pos (Int.natCast_nonneg pre.length), rd_mid, if_pos hc]
      simpa [hc] using Ev.now true
    · simp only [spec_l02Has.l0, if_pos (lt_mid pre suf c), if_pos (Int.natCast_nonneg pre.length), rd_mid, if_neg hc, wrap_snoc hl]
      rw [show decide (x ∈ c :: suf) = decide (x ∈ suf) by simp [Ne.symm hc]]
      exact this
theorem spec_has (l : List Int) (hl : l.length ≤ 4611686018427387904) (x : Int) : Ev (fun k => spec_l02Has.f k l x) (decide (x ∈ l)) := spec_has_l0 l hl x l [] rfl

def nbT (r u : List Int) (x : Int) : List Int := [rd r x, rd u x]
theorem spec_reach_l1 (rr u : List Int) (n : Nat) (hn : n ≤ 24) (x8 : Int) (hx : 0 ≤ x8 ∧ x8 ≤ 1000) (ys : List Int) (hy : ys.length ≤ 1000) (r : List Int) : ∀ (suf pre q : List Int), ys = pre ++ suf → Few n q → (∀ k ∈ suf, 0 ≤ k ∧ k < (n : Int)) →
    Ev (fun k => spec_l02Reach.l0 k rr u (pushAll q suf) (x8 + 1)) r → Ev (fun k => spec_l02Reach.l1 k rr u q x8 ys (ys.length : Int) (pre.length : Int)) r := by
  intro suf
  induction suf with
  | nil =>
    intro pre q h hq hk hr
    subst h
    refine ev_up ?_
    simp only [spec_l02Reach.l1, if_neg (nlt_end pre), pw_wrap (a := x8 + 1) (by omega) (by omega)]
    exact hr
  | cons c suf ih =>
    intro pre q h hq hk hr
    have hc := hk c (by simp)
    have hf := few_push hq hc.2
    have hi := ih (pre ++ [c]) (push q c) (by simp [h]) hf (fun k h' => hk k (by simp [h'])) hr
    subst h
    have hql := few_len hq
    refine ev_up ?_
    simp only [spec_l02Reach.l1, if_pos (lt_mid pre suf c), if_pos (Int.natCast_nonneg pre.length), rd_mid, wrap_snoc (x := c) (s := suf) (p := pre) (by simp at hy ⊢; omega)]
    refine Ev.bind (spec_has q (by omega) c) ?_
    by_cases hm : c ∈ q
    · simp only [decide_eq_true hm, if_true]
      unfold push at hi
      rw [if_neg (fun h => h.2 hm)] at hi
      exact hi
    · simp only [decide_eq_false hm, Bool.false_eq_true, if_false, if_pos (show q.length < 17592186044416 by omega)]
      unfold push at hi
      rw [if_pos ⟨hc.1, hm⟩] at hi
      exact hi
theorem nbT_lt {rr u : List Int} (hr : isPerm rr) (hu : isPerm u) (he : rr.length = u.length) {x : Int} (h0 : 0 ≤ x) (h1 : x < rr.length) : ∀ k ∈ nbT rr u x, 0 ≤ k ∧ k < (rr.length : Int) := by
  intro k hk
  have a := perm_rd hr h0 h1
  have b := perm_rd hu h0 (by omega)
  simp only [nbT, List.mem_cons, List.not_mem_nil, or_false] at hk
  rcases hk with rfl | rfl <;> omega
theorem spec_reach_l0 {rr u : List Int} (hr : isPerm rr) (hu : isPerm u) (he : rr.length = u.length) : ∀ (f : Nat) (q : List Int) (i : Nat), Few rr.length q → i ≤ q.length → f + i = rr.length + 1 →
    Ev (fun k => spec_l02Reach.l0 k rr u q (i : Int)) (bfs (nbT rr u) f q i) := by
  intro f
  have hn := hr.1
  induction f with
  | zero =>
    intro q i hq hi hf
    have := few_len hq
    omega
  | succ f ih =>
    intro q i hq hi hf
    have hql := few_len hq
    refine ev_up ?_
    by_cases h : i < q.length
    · have hx := hq.2 _ (List.getElem_mem h)
      simp only [spec_l02Reach.l0, if_pos (show ((i : Nat) : Int) < (q.length : Int) by omega), if_pos (Int.natCast_nonneg i), rd_get q i h, if_pos hx.1, if_pos hx.2, if_pos (show q[i] < (u.length : Int) by omega), Option.bind_some]
      have hlt := nbT_lt hr hu he hx.1 hx.2
      have hp := few_pushAll _ q hq (fun k hk => (hlt k hk).2)
      have := ih _ (i + 1) hp.1 (by have := hp.2; omega) (by omega)
      rw [bfs, dif_pos h]
      exact spec_reach_l1 rr u rr.length hn i (by omega) (nbT rr u q[i]) (by simp [nbT]) _ _ [] q rfl hq hlt this
    · simp only [spec_l02Reach.l0, if_neg (show ¬ ((i : Nat) : Int) < (q.length : Int) by omega)]
      rw [bfs_done _ _ _ _ h]
      exact Ev.now _
def reachOf (r u : List Int) : List Int := bfs (nbT r u) (r.length + 1) [0] 0
def transB (r u : List Int) : Bool := permB r && permB u && decide (r.length = u.length) && decide (0 < r.length) && ((reachOf r u).length : Int) == (r.length : Int)
theorem few_z {n : Nat} (h : 1 ≤ n) : Few n [0] := ⟨by simp, fun x hx => by simp at hx; subst hx; omega⟩
theorem spec_trans (r u : List Int) : Ev (fun k => spec_IsTransitive.f k r u) (transB r u) := by
  unfold spec_IsTransitive.f transB
  simp only [spec_PermOk.f, ← perm_same, Option.bind_some]
  by_cases h1 : permB r = true
  · simp only [h1, if_true, Bool.true_and]
    by_cases h2 : permB u = true
    · simp only [h2, if_true, Bool.true_and]
      by_cases h3 : r.length = u.length
      · simp only [if_pos (show (r.length : Int) = u.length by omega), decide_eq_true h3, Bool.true_and]
        by_cases h4 : 0 < r.length
        · simp only [if_pos (show (r.length : Int) > 0 by omega), decide_eq_true h4, Bool.true_and]
          refine Ev.bind (a := reachOf r u) ?_ (Ev.now _)
          unfold spec_l02Reach.f
          exact spec_reach_l0 ((permB_iff r).1 h1) ((permB_iff u).1 h2) h3 _ [0] 0 (few_z h4) (by simp) (by omega)
        · simp only [if_neg (show ¬ (r.length : Int) > 0 by omega), decide_eq_false h4, Bool.false_and]
          exact Ev.now _
      · simp only [if_neg (show ¬ (r.length : Int) = u.length by omega), decide_eq_false h3, Bool.false_and]
        exact Ev.now _
    · simp only [Bool.eq_false_iff.2 h2, Bool.false_eq_true, if_false, Bool.false_and]
      exact Ev.now _
  · simp only [Bool.eq_false_iff.2 h1, Bool.false_eq_true, if_false, Bool.false_and]
    exact Ev.now _
theorem impl_trans_l1 (rr u : List Int) (n : Nat) (hn : n ≤ 24) (x8 : Int) (hx : 0 ≤ x8 ∧ x8 ≤ 1000) (ys : List Int) (hy : ys.length ≤ 1000) (r : Bool) : ∀ (suf pre q : List Int), ys = pre ++ suf → Few n q → (∀ k ∈ suf, 0 ≤ k ∧ k < (n : Int)) →
    Ev (fun k => impl_IsTransitive.l0 k rr u (flagsOf n (pushAll q suf)) (pushAll q suf) (x8 + 1)) r → Ev (fun k => impl_IsTransitive.l1 k rr u (flagsOf n q) q x8 ys (ys.length : Int) (pre.length : Int)) r := by
  intro suf
  induction suf with
  | nil =>
    intro pre q h hq hk hr
    subst h
    refine ev_up ?_
    simp only [impl_IsTransitive.l1, if_neg (nlt_end pre), pw_wrap (a := x8 + 1) (by omega) (by omega)]
    exact hr
  | cons c suf ih =>
    intro pre q h hq hk hr
    have hc := hk c (by simp)
    have hf := few_push hq hc.2
    have hi := ih (pre ++ [c]) (push q c) (by simp [h]) hf (fun k h' => hk k (by simp [h'])) hr
    subst h
    have hql := few_len hq
    refine ev_up ?_
    simp only [impl_IsTransitive.l1, if_pos (lt_mid pre suf c), if_pos (Int.natCast_nonneg pre.length), rd_mid, wrap_snoc (x := c) (s := suf) (p := pre) (by simp at hy ⊢; omega), if_pos hc.1, flagsOf_len, if_pos hc.2, flagsOf_rd n q hc.1 hc.2]
    by_cases hm : c ∈ q
    · simp only [decide_eq_true hm, if_true]
      unfold push at hi
      rw [if_neg (fun h => h.2 hm)] at hi
      exact hi
    · simp only [decide_eq_false hm, Bool.false_eq_true, if_false, if_pos (show q.length < 17592186044416 by omega), flagsOf_set n q hc.1 hc.2]
      unfold push at hi
      rw [if_pos ⟨hc.1, hm⟩] at hi
      exact hi
theorem impl_trans_l0 {rr u : List Int} (hr : isPerm rr) (hu : isPerm u) (he : rr.length = u.length) : ∀ (f : Nat) (q : List Int) (i : Nat), Few rr.length q → i ≤ q.length → f + i = rr.length + 1 →
    Ev (fun k => impl_IsTransitive.l0 k rr u (flagsOf rr.length q) q (i : Int)) (((bfs (nbT rr u) f q i).length : Int) == (rr.length : Int)) := by
  intro f
  have hn := hr.1
  induction f with
  | zero =>
    intro q i hq hi hf
    have := few_len hq
    omega
  | succ f ih =>
    intro q i hq hi hf
    have hql := few_len hq
    refine ev_up ?_
    by_cases h : i < q.length
    · have hx := hq.2 _ (List.getElem_mem h)
      simp only [impl_IsTransitive.l0, if_pos (show ((i : Nat) : Int) < (q.length : Int) by omega), if_pos (Int.natCast_nonneg i), rd_get q i h, if_pos hx.1, if_pos hx.2, if_pos (show q[i] < (u.length : Int) by omega), Option.bind_some]
      have hlt := nbT_lt hr hu he hx.1 hx.2
      have hp := few_pushAll _ q hq (fun k hk => (hlt k hk).2)
      have := ih _ (i + 1) hp.1 (by have := hp.2; omega) (by omega)
      rw [bfs, dif_pos h]
      exact impl_trans_l1 rr u rr.length hn i (by omega) (nbT rr u q[i]) (by simp [nbT]) _ _ [] q rfl hq hlt this
    · simp only [impl_IsTransitive.l0, if_neg (show ¬ ((i : Nat) : Int) < (q.length : Int) by omega)]
      rw [bfs_done _ _ _ _ h]
      exact Ev.now _
theorem impl_trans (r u : List Int) : Ev (fun k => impl_IsTransitive.f k r u) (transB r u) := by
  unfold impl_IsTransitive.f transB
  have hbad : ∀ b : Bool, b = false → Ev (fun k => impl_IsTransitive.j0 k r u true) b := by
    rintro b rfl
    refine ev_up ?_
    simp only [impl_IsTransitive.j0, if_true]
    exact Ev.now _
  simp only [impl_PermOk.f, Option.bind_some]
  by_cases h1 : permB r = true
  · simp only [h1, if_true, Bool.true_and]
    by_cases h2 : permB u = true
    · simp only [h2, if_true, Bool.true_and]
      by_cases h3 : r.length = u.length
      · simp only [if_pos (show (r.length : Int) = u.length by omega), decide_eq_true h3, Bool.true_and]
        by_cases h4 : 0 < r.length
        · have hn := ((permB_iff r).1 h1).1
          have e : ((r.length : Int) == 0) = false := by simp; intro e; rw [e] at h4; exact absurd h4 (by simp)
          rw [e]
          simp only [decide_eq_true h4, Bool.true_and]
          refine ev_up ?_
          have hset : (List.replicate r.length false).set (0 : Int).toNat true = flagsOf r.length [0] := by
            rw [← flagsOf_nil, flagsOf_set r.length [] (by omega) (by omega)]
            rfl
          simp only [impl_IsTransitive.j0, Bool.false_eq_true, if_false, if_pos (Int.natCast_nonneg r.length), Int.toNat_natCast, if_pos (show r.length ≤ 281474976710656 by omega), Option.bind_some, List.length_replicate, if_pos (show (0 : Int) < (r.length : Int) by omega), hset]
          exact impl_trans_l0 ((permB_iff r).1 h1) ((permB_iff u).1 h2) h3 _ [0] 0 (few_z h4) (by simp) (by omega)
        · have e : ((r.length : Int) == 0) = true := by
            have : r.length = 0 := by omega
            rw [this]; rfl
          rw [e]
          simp only [decide_eq_false h4, Bool.false_and]
          exact hbad _ rfl
      · simp only [if_neg (show ¬ (r.length : Int) = u.length by omega), decide_eq_false h3, Bool.false_and]
        exact hbad _ rfl
    · simp only [Bool.eq_false_iff.2 h2, Bool.false_eq_true, if_false, Bool.false_and]
      exact hbad _ rfl
  · simp only [Bool.eq_false_iff.2 h1, Bool.false_eq_true, if_false, Bool.false_and]
    exact hbad _ rfl
theorem transB_side {r u : List Int} (h : transB r u = true) : isPerm r ∧ isPerm u ∧ r.length = u.length ∧ 0 < r.length ∧ (reachOf r u).length = r.length := by
  unfold transB at h
  simp only [Bool.and_eq_true, decide_eq_true_eq, beq_iff_eq] at h
  obtain ⟨⟨⟨⟨h1, h2⟩, h3⟩, h4⟩, h5⟩ := h
  exact ⟨(permB_iff r).1 h1, (permB_iff u).1 h2, h3, h4, by omega⟩
theorem spec_surfOk (r u : List Int) : Ev (fun k => spec_SurfaceOk.f k r u) (transB r u) := Ev.bind (spec_trans r u) (Ev.now _)
theorem impl_surfOk (r u : List Int) : Ev (fun k => impl_SurfaceOk.f k r u) (transB r u) := Ev.bind (impl_trans r u) (Ev.now _)

theorem mem_push {q : List Int} {x : Int} (k : Int) (h : x ∈ q) : x ∈ push q k := by
  unfold push
  split
  · exact List.mem_append_left _ h
  · exact h
/-- What is met lies in every closed set with the beginning. -/
theorem bfs_sub (nb : Int → List Int) (P : Int → Prop) (hP : ∀ x, P x → ∀ k ∈ nb x, 0 ≤ k → P k) : ∀ (f : Nat) (q : List Int) (i : Nat), (∀ x ∈ q, P x) → ∀ x ∈ bfs nb f q i, P x
  | 0, q, i, h => h
  | f + 1, q, i, h => by
    rw [bfs]
    split
    · rename_i hi
      refine bfs_sub nb P hP f _ (i + 1) ?_
      have hx := h _ (List.getElem_mem hi)
      have all : ∀ (ks q : List Int), (∀ k ∈ ks, 0 ≤ k → P k) → (∀ x ∈ q, P x) → ∀ x ∈ pushAll q ks, P x := by
        intro ks
        induction ks with
        | nil => exact fun q _ h => h
        | cons k ks ih =>
          intro q hk hq
          refine ih (push q k) (fun z hz => hk z (List.mem_cons_of_mem _ hz)) ?_
          intro z hz
          unfold push at hz
          split at hz
          · rename_i hc
            rcases List.mem_append.1 hz with hz | hz
            · exact hq z hz
            · simp at hz
              subst hz
              exact hk z List.mem_cons_self hc.1
          · exact hq z hz
      exact all _ q (fun k hk h0 => hP _ hx k hk h0) h
    · exact h

/-! Half turns. -/
def turnGo (r u a : List Int) : Nat → Int → Bool
  | 0, _ => true
  | d + 1, i => if rd a (rd r i) = rd (invL r) (rd a i) then (if rd a (rd u i) = rd (invL u) (rd a i) then turnGo r u a d (i + 1) else false) else false
def turnB (r u a : List Int) : Bool := permB a && decide (a.length = r.length) && turnGo r u a a.length 0
def IsT (r u a : List Int) : Prop := isPerm a ∧ a.length = r.length ∧ ∀ x : Int, 0 ≤ x → x < r.length → rd a (rd r x) = rd (invL r) (rd a x) ∧ rd a (rd u x) = rd (invL u) (rd a x)
theorem turnGo_iff (r u a : List Int) : ∀ (d : Nat) (i : Int), turnGo r u a d i = true ↔ ∀ x : Int, i ≤ x → x < i + d → rd a (rd r x) = rd (invL r) (rd a x) ∧ rd a (rd u x) = rd (invL u) (rd a x)
  | 0, i => ⟨fun _ x h0 h1 => by omega, fun _ => rfl⟩
  | d + 1, i => by
    rw [turnGo]
    constructor
    · intro h x h0 h1
      by_cases c1 : rd a (rd r i) = rd (invL r) (rd a i)
      · rw [if_pos c1] at h
        by_cases c2 : rd a (rd u i) = rd (invL u) (rd a i)
        · rw [if_pos c2] at h
          by_cases e : x = i
          · subst e
            exact ⟨c1, c2⟩
          · exact (turnGo_iff r u a d (i + 1)).1 h x (by omega) (by omega)
        · rw [if_neg c2] at h
          exact absurd h (by simp)
      · rw [if_neg c1] at h
        exact absurd h (by simp)
    · intro h
      have := h i (by omega) (by omega)
      rw [if_pos this.1, if_pos this.2]
      exact (turnGo_iff r u a d (i + 1)).2 fun x h0 h1 => h x (by omega) (by omega)
theorem turnB_iff (r u a : List Int) : turnB r u a = true ↔ IsT r u a := by
  unfold turnB IsT
  simp only [Bool.and_eq_true, decide_eq_true_eq, permB_iff]
  constructor
  · rintro ⟨⟨h1, h2⟩, h3⟩
    exact ⟨h1, h2, fun x x0 x1 => (turnGo_iff r u a _ 0).1 h3 x x0 (by omega)⟩
  · rintro ⟨h1, h2, h3⟩
    exact ⟨⟨h1, h2⟩, (turnGo_iff r u a _ 0).2 fun x x0 x1 => h3 x x0 (by omega)⟩
theorem spec_turn_l0 {r u a : List Int} (hr : isPerm r) (hu : isPerm u) (he : r.length = u.length) (ha : isPerm a) (hl : a.length = r.length) : ∀ (d : Nat) (i : Int), 0 ≤ i → i + d = a.length → Ev (fun k => spec_l11Turn.l0 k a (invL r) (invL u) a (a.length : Int) i r u) (turnGo r u a d i)
  | 0, i, h0, hi => by
    refine ev_up ?_
    simp only [spec_l11Turn.l0, if_neg (show ¬ i < (a.length : Int) by omega)]
    exact Ev.now _
  | d + 1, i, h0, hi => by
    have hn := ha.1
    have b1 := pm_in hr h0 (by omega)
    have b2 := pm_in hu h0 (by omega)
    have b3 := pm_in ha h0 (by omega)
    have l1 := invL_len hr
    have l2 := invL_len hu
    refine ev_up ?_
    simp only [spec_l11Turn.l0, if_pos (show i < (a.length : Int) by omega), if_pos h0, if_pos (show i < (r.length : Int) by omega), if_pos b1.1, if_pos (show rd r i < (a.length : Int) by omega), if_pos b3.1, if_pos (show rd a i < ((invL r).length : Int) by omega), if_pos (show i < (u.length : Int) by omega), if_pos b2.1, if_pos (show rd u i < (a.length : Int) by omega), if_pos (show rd a i < ((invL u).length : Int) by omega), pw_wrap (a := i + 1) (by omega) (by omega)]
    rw [turnGo]
    by_cases c1 : rd a (rd r i) = rd (invL r) (rd a i)
    · by_cases c2 : rd a (rd u i) = rd (invL u) (rd a i)
      · simp only [if_pos c1, if_pos c2]
        exact spec_turn_l0 hr hu he ha hl d (i + 1) (by omega) (by omega)
      · simp only [if_pos c1, if_neg c2]
        exact Ev.now _
    · simp only [if_neg c1]
      exact Ev.now _
theorem impl_turn_l0 {r u a : List Int} (hr : isPerm r) (hu : isPerm u) (he : r.length = u.length) (ha : isPerm a) (hl : a.length = r.length) : ∀ (d : Nat) (i : Int), 0 ≤ i → i + d = a.length → Ev (fun k => impl_IsTurn.l0 k a (invL r) (invL u) (a.length : Int) i r u) (turnGo r u a d i)
  | 0, i, h0, hi => by
    refine ev_up ?_
    simp only [impl_IsTurn.l0, if_neg (show ¬ i < (a.length : Int) by omega)]
    exact Ev.now _
  | d + 1, i, h0, hi => by
    have hn := ha.1
    have b1 := pm_in hr h0 (by omega)
    have b2 := pm_in hu h0 (by omega)
    have b3 := pm_in ha h0 (by omega)
    have l1 := invL_len hr
    have l2 := invL_len hu
    refine ev_up ?_
    simp only [impl_IsTurn.l0, if_pos (show i < (a.length : Int) by omega), if_pos h0, if_pos (show i < (r.length : Int) by omega), if_pos b1.1, if_pos (show rd r i < (a.length : Int) by omega), if_pos b3.1, if_pos (show rd a i < ((invL r).length : Int) by omega), if_pos (show i < (u.length : Int) by omega), if_pos b2.1, if_pos (show rd u i < (a.length : Int) by omega), if_pos (show rd a i < ((invL u).length : Int) by omega), pw_wrap (a := i + 1) (by omega) (by omega)]
    rw [turnGo]
    by_cases c1 : rd a (rd r i) = rd (invL r) (rd a i)
    · by_cases c2 : rd a (rd u i) = rd (invL u) (rd a i)
      · simp only [if_pos c1, if_pos c2]
        exact impl_turn_l0 hr hu he ha hl d (i + 1) (by omega) (by omega)
      · simp only [if_pos c1, if_neg c2]
        exact Ev.now _
    · simp only [if_neg c1]
      exact Ev.now _
theorem spec_isTurn {r u : List Int} (h : transB r u = true) (a : List Int) : Ev (fun k => spec_IsTurn.f k r u a) (turnB r u a) := by
  obtain ⟨hr, hu, he, h0, _⟩ := transB_side h
  unfold spec_IsTurn.f turnB
  refine Ev.bind (spec_surfOk r u) ?_
  simp only [if_pos h, spec_PermOk.f, ← perm_same, Option.bind_some]
  by_cases h1 : permB a = true
  · have ha := (permB_iff a).1 h1
    simp only [h1, if_true, Bool.true_and]
    by_cases h2 : a.length = r.length
    · simp only [if_pos (show (a.length : Int) = r.length by omega), decide_eq_true h2, Bool.true_and]
      refine Ev.bind (a := turnGo r u a a.length 0) ?_ (Ev.now _)
      unfold spec_l11Turn.f
      refine Ev.bind (spec_inv hr) ?_
      refine Ev.bind (spec_inv hu) ?_
      exact spec_turn_l0 hr hu he ha h2 a.length 0 (by omega) (by omega)
    · simp only [if_neg (show ¬ (a.length : Int) = r.length by omega), decide_eq_false h2, Bool.false_and]
      exact Ev.now _
  · simp only [if_neg h1, Bool.eq_false_iff.mpr h1, Bool.false_and]
    exact Ev.now _
theorem impl_isTurn {r u : List Int} (h : transB r u = true) (a : List Int) : Ev (fun k => impl_IsTurn.f k r u a) (turnB r u a) := by
  obtain ⟨hr, hu, he, h0, _⟩ := transB_side h
  unfold impl_IsTurn.f turnB
  refine Ev.bind (impl_surfOk r u) ?_
  simp only [if_pos h, impl_PermOk.f, Option.bind_some]
  by_cases h1 : permB a = true
  · have ha := (permB_iff a).1 h1
    simp only [h1, if_true, Bool.true_and]
    by_cases h2 : a.length = r.length
    · simp only [show ((a.length : Int) != (r.length : Int)) = false by rw [bne_eq_false_iff_eq]; omega, decide_eq_true h2, Bool.true_and]
      refine ev_up ?_
      simp only [impl_IsTurn.j0, Bool.false_eq_true, if_false]
      refine Ev.bind (impl_inv hr) ?_
      refine Ev.bind (impl_inv hu) ?_
      exact impl_turn_l0 hr hu he ha h2 a.length 0 (by omega) (by omega)
    · simp only [show ((a.length : Int) != (r.length : Int)) = true by rw [bne_iff_ne]; omega, decide_eq_false h2, Bool.false_and]
      refine ev_up ?_
      simp only [impl_IsTurn.j0, if_true]
      exact Ev.now _
  · simp only [if_neg h1, Bool.eq_false_iff.mpr h1, Bool.false_and]
    refine ev_up ?_
    simp only [impl_IsTurn.j0, if_true]
    exact Ev.now _
/-! The reference's: along the squares as they are met. -/
def stepR (r : List Int) (out : List Int) (i : Int) : List Int := out.set (rd r i).toNat (rd (invL r) (rd out i))
def stepS (r u out : List Int) (i : Int) : List Int := stepR u (stepR r out i) i
def fromS (r u : List Int) (k : Int) : List Int := (reachOf r u).foldl (stepS r u) ((List.replicate r.length 0).set 0 k)
def InR (n : Nat) (out : List Int) : Prop := out.length = n ∧ ∀ x : Int, 0 ≤ x → x < n → 0 ≤ rd out x ∧ rd out x < n
theorem stepR_in {r out : List Int} {n : Nat} (hr : isPerm r) (hn : r.length = n) (ho : InR n out) {i : Int} (h0 : 0 ≤ i) (h1 : i < n) : InR n (stepR r out i) := by
  have b := pm_in hr h0 (by omega)
  have c := ho.2 i h0 h1
  have d := inv_right hr c.1 (by omega)
  have hl := ho.1
  refine ⟨by simpa [stepR] using ho.1, fun x x0 x1 => ?_⟩
  unfold stepR
  by_cases e : x = rd r i
  · rw [e, rdS_same b.1 (by omega)]
    omega
  · rw [rdS_ne b.1 x0 e]
    exact ho.2 x x0 x1
theorem stepR_P {r out : List Int} {n : Nat} (hr : isPerm r) (hn : r.length = n) (ho : InR n out) (P : Int → Int → Prop) (hP : ∀ v x : Int, 0 ≤ v → v < n → 0 ≤ x → x < n → P v x → P (rd (invL r) v) (rd r x)) {i : Int} (h0 : 0 ≤ i) (h1 : i < n) (hi : P (rd out i) i) :
    (∀ z : Int, 0 ≤ z → z < n → P (rd out z) z → P (rd (stepR r out i) z) z) ∧ P (rd (stepR r out i) (rd r i)) (rd r i) := by
  have b := pm_in hr h0 (by omega)
  have c := ho.2 i h0 h1
  have hl := ho.1
  have hv := hP _ _ c.1 c.2 h0 h1 hi
  refine ⟨fun z z0 z1 hz => ?_, ?_⟩
  · unfold stepR
    by_cases e : z = rd r i
    · rw [e, rdS_same b.1 (by omega)]
      exact hv
    · rw [rdS_ne b.1 z0 e]
      exact hz
  · unfold stepR
    rw [rdS_same b.1 (by omega)]
    exact hv
def Ord (nb : Int → List Int) (q : List Int) : Prop := ∀ (j : Nat) (h : j < q.length), q[j] = 0 ∨ ∃ (i : Nat) (h' : i < j), q[j] ∈ nb (q[i]'(by omega))
theorem ord_push {nb : Int → List Int} {q : List Int} (ho : Ord nb q) {y k : Int} (hy : y ∈ q) (hk : k ∈ nb y) : Ord nb (push q k) := by
  unfold push
  split
  · obtain ⟨i, hi, rfl⟩ := List.getElem_of_mem hy
    intro j h
    by_cases hj : j < q.length
    · rw [List.getElem_append_left hj]
      rcases ho j hj with h2 | ⟨m, hm, h2⟩
      · exact .inl h2
      · exact .inr ⟨m, hm, by rw [List.getElem_append_left (by omega)]; exact h2⟩
    · have hj2 : j = q.length := by simp at h; omega
      subst hj2
      refine .inr ⟨i, hi, ?_⟩
      rw [List.getElem_append_left hi]
      simpa using hk
  · exact ho
theorem ord_pushAll {nb : Int → List Int} {y : Int} : ∀ (ks q : List Int), Ord nb q → y ∈ q → (∀ k ∈ ks, k ∈ nb y) → Ord nb (pushAll q ks)
  | [], q, ho, _, _ => ho
  | k :: ks, q, ho, hy, hk => by
    have e : pushAll q (k :: ks) = pushAll (push q k) ks := rfl
    rw [e]
    exact ord_pushAll ks (push q k) (ord_push ho hy (hk k (by simp))) (mem_push k hy) (fun z hz => hk z (List.mem_cons_of_mem _ hz))
theorem ord_bfs (nb : Int → List Int) : ∀ (f : Nat) (q : List Int) (i : Nat), Ord nb q → Ord nb (bfs nb f q i)
  | 0, q, i, h => h
  | f + 1, q, i, h => by
    rw [bfs]
    split
    · rename_i hi
      exact ord_bfs nb f _ _ (ord_pushAll (nb q[i]) q h (List.getElem_mem hi) (fun k hk => hk))
    · exact h
theorem reach_facts {r u : List Int} (h : transB r u = true) : Few r.length (reachOf r u) ∧ (∀ z : Int, 0 ≤ z → z < r.length → z ∈ reachOf r u) ∧ Ord (nbT r u) (reachOf r u) := by
  obtain ⟨hr, hu, he, h0, hq⟩ := transB_side h
  have hf : Few r.length (reachOf r u) := bfs_few (nbT r u) (fun x x0 x1 k hk => (nbT_lt hr hu he x0 x1 k hk).2) _ [0] 0 (few_z h0)
  refine ⟨hf, fun z z0 z1 => few_full hf hq z0 z1, ord_bfs _ _ _ _ ?_⟩
  intro j hj
  have : j = 0 := by simp at hj; omega
  subst this
  exact .inl rfl
theorem fold_P {r u : List Int} {n : Nat} (hr : isPerm r) (hu : isPerm u) (hn : r.length = n) (hm : u.length = n) (P : Int → Int → Prop)
    (hR : ∀ v x : Int, 0 ≤ v → v < n → 0 ≤ x → x < n → P v x → P (rd (invL r) v) (rd r x)) (hU : ∀ v x : Int, 0 ≤ v → v < n → 0 ≤ x → x < n → P v x → P (rd (invL u) v) (rd u x))
    (q : List Int) (hq : Few n q) (ho : Ord (nbT r u) q) : ∀ (suf pre out : List Int), q = pre ++ suf → InR n out → 0 < n → P (rd out 0) 0 → (∀ y ∈ pre, P (rd out (rd r y)) (rd r y) ∧ P (rd out (rd u y)) (rd u y)) →
    InR n (suf.foldl (stepS r u) out) ∧ ∀ y ∈ q, P (rd (suf.foldl (stepS r u) out) (rd r y)) (rd r y)
  | [], pre, out, e, hi, h0, hz, hp => by
    have e2 : q = pre := by simpa using e
    subst e2
    exact ⟨hi, fun y hy => (hp y hy).1⟩
  | x :: suf, pre, out, e, hi, h0, hz, hp => by
    have hx := hq.2 x (by rw [e]; simp)
    have hPx : P (rd out x) x := by
      have hj : pre.length < q.length := by rw [e]; simp
      have hqj : q[pre.length] = x := by subst e; simp
      rcases ho pre.length hj with h2 | ⟨i, hi2, h2⟩
      · rw [hqj] at h2
        rw [h2]
        exact hz
      · have hqi : q[i] ∈ pre := by subst e; rw [List.getElem_append_left hi2]; exact List.getElem_mem hi2
        rw [hqj] at h2
        simp only [nbT, List.mem_cons, List.not_mem_nil, or_false] at h2
        rcases h2 with h2 | h2
        · have := (hp _ hqi).1
          rwa [← h2] at this
        · have := (hp _ hqi).2
          rwa [← h2] at this
    have i1 := stepR_in hr hn hi hx.1 hx.2
    have i2 := stepR_in hu hm i1 hx.1 hx.2
    obtain ⟨a1, a2⟩ := stepR_P hr hn hi P hR hx.1 hx.2 hPx
    obtain ⟨b1, b2⟩ := stepR_P hu hm i1 P hU hx.1 hx.2 (a1 x hx.1 hx.2 hPx)
    have rb : ∀ y : Int, 0 ≤ y → y < n → (0 ≤ rd r y ∧ rd r y < n) ∧ (0 ≤ rd u y ∧ rd u y < n) := fun y y0 y1 => ⟨by have := pm_in hr y0 (by omega); omega, by have := pm_in hu y0 (by omega); omega⟩
    refine fold_P hr hu hn hm P hR hU q hq ho suf (pre ++ [x]) _ (by simp [e]) i2 h0 (b1 0 (by omega) (by omega) (a1 0 (by omega) (by omega) hz)) ?_
    intro y hy
    have hyq : y ∈ q := by
      rw [e]
      rcases List.mem_append.1 hy with hy | hy
      · exact List.mem_append_left _ hy
      · simp at hy
        subst hy
        simp
    have yb := hq.2 y hyq
    obtain ⟨⟨y1, y2⟩, y3, y4⟩ := rb y yb.1 yb.2
    rcases List.mem_append.1 hy with hy | hy
    · exact ⟨b1 _ y1 y2 (a1 _ y1 y2 (hp y hy).1), b1 _ y3 y4 (a1 _ y3 y4 (hp y hy).2)⟩
    · simp at hy
      subst hy
      exact ⟨b1 _ y1 y2 a2, b2⟩
theorem start_in {n : Nat} (h0 : 0 < n) {k : Int} (k0 : 0 ≤ k) (k1 : k < n) : InR n ((List.replicate n (0 : Int)).set 0 k) ∧ rd ((List.replicate n (0 : Int)).set 0 k) 0 = k := by
  have e : ((List.replicate n (0 : Int)).set 0 k) = ((List.replicate n (0 : Int)).set (0 : Int).toNat k) := rfl
  refine ⟨⟨by simp, fun x x0 x1 => ?_⟩, ?_⟩
  · by_cases hx : x = 0
    · subst hx
      rw [e, rdS_same (by omega) (by simpa using h0)]
      omega
    · rw [e, rdS_ne (by omega) x0 hx]
      have : x.toNat < n := by omega
      simp [rd, List.getD, List.getElem?_replicate, this]
      omega
  · rw [e, rdS_same (by omega) (by simpa using h0)]
theorem fromS_P {r u : List Int} (h : transB r u = true) (P : Int → Int → Prop) (hR : ∀ v x : Int, 0 ≤ v → v < r.length → 0 ≤ x → x < r.length → P v x → P (rd (invL r) v) (rd r x)) (hU : ∀ v x : Int, 0 ≤ v → v < r.length → 0 ≤ x → x < r.length → P v x → P (rd (invL u) v) (rd u x))
    {k : Int} (k0 : 0 ≤ k) (k1 : k < r.length) (hk : P k 0) : InR r.length (fromS r u k) ∧ ∀ z : Int, 0 ≤ z → z < r.length → P (rd (fromS r u k) z) z := by
  obtain ⟨hr, hu, he, h0, _⟩ := transB_side h
  obtain ⟨f1, f2, f3⟩ := reach_facts h
  obtain ⟨s1, s2⟩ := start_in h0 k0 k1
  have := fold_P hr hu rfl he.symm P hR hU (reachOf r u) f1 f3 (reachOf r u) [] _ rfl s1 h0 (by rw [s2]; exact hk) (fun y hy => by simp at hy)
  refine ⟨this.1, fun z z0 z1 => ?_⟩
  have hz := inv_right hr z0 z1
  have h2 := this.2 _ (f2 _ hz.2.1 hz.2.2)
  rw [hz.1] at h2
  exact h2
/-- A turn is what its image of 0 makes of it. -/
theorem fromS_turn {r u t : List Int} (h : transB r u = true) (ht : IsT r u t) : fromS r u (rd t 0) = t := by
  obtain ⟨hr, hu, he, h0, _⟩ := transB_side h
  obtain ⟨t1, t2, t3⟩ := ht
  have b := pm_in t1 (x := 0) (by omega) (by omega)
  obtain ⟨i1, i2⟩ := fromS_P h (fun v x => v = rd t x) (fun v x _ _ x0 x1 e => by rw [e, (t3 x x0 x1).1]) (fun v x _ _ x0 x1 e => by rw [e, (t3 x x0 x1).2]) b.1 (by omega) rfl
  exact rd_ext (by rw [i1.1, t2]) (fun x x0 x1 => i2 x x0 (by have := i1.1; omega))
theorem fromS_zero {r u : List Int} (h : transB r u = true) {k : Int} (k0 : 0 ≤ k) (k1 : k < r.length) (ht : IsT r u (fromS r u k)) : rd (fromS r u k) 0 = k := by
  obtain ⟨hr, hu, he, h0, _⟩ := transB_side h
  obtain ⟨t1, t2, t3⟩ := ht
  refine Classical.byContradiction fun hne => ?_
  have tb : ∀ x : Int, 0 ≤ x → x < r.length → 0 ≤ rd (fromS r u k) x ∧ rd (fromS r u k) x < r.length := fun x x0 x1 => by have := pm_in t1 x0 (by omega); omega
  obtain ⟨i1, i2⟩ := fromS_P h (fun v x => v ≠ rd (fromS r u k) x) (fun v x v0 v1 x0 x1 e e2 => by
      rw [(t3 x x0 x1).1] at e2
      have := tb x x0 x1
      have hl := invL_len hr
      exact e (pm_inj (inv_perm hr) v0 (by omega) this.1 (by omega) e2)) (fun v x v0 v1 x0 x1 e e2 => by
      rw [(t3 x x0 x1).2] at e2
      have := tb x x0 x1
      have hl := invL_len hu
      exact e (pm_inj (inv_perm hu) v0 (by omega) this.1 (by omega) e2)) k0 k1 (fun e => hne e.symm)
  exact i2 0 (by omega) (by omega) rfl
theorem spec_from_l0 {r u : List Int} {n : Nat} (hr : isPerm r) (hu : isPerm u) (hn : r.length = n) (hm : u.length = n) (q : List Int) (hq : Few n q) : ∀ (suf pre out : List Int), q = pre ++ suf → InR n out →
    Ev (fun k => spec_l11From.l0 k (invL r) (invL u) out q (q.length : Int) (pre.length : Int) r u) (suf.foldl (stepS r u) out)
  | [], pre, out, e, hi => by
    have e2 : q = pre := by simpa using e
    subst e2
    refine ev_up ?_
    simp only [spec_l11From.l0, if_neg (show ¬ ((q.length : Int) < q.length) by omega)]
    exact Ev.now _
  | x :: suf, pre, out, e, hi => by
    have hql := few_len hq
    have hrn := hr.1
    have hlen : q.length = pre.length + suf.length + 1 := by rw [e]; simp; omega
    have hx : rd q (pre.length : Int) = x := by rw [e]; simp [rd, List.getD]
    have hw : wrap64 ((pre.length : Int) + 1) = ((pre ++ [x]).length : Int) := by rw [pw_wrap (by omega) (by omega)]; simp
    have hxb := hq.2 x (by rw [e]; simp)
    have b1 := pm_in hr hxb.1 (by omega)
    have b2 := pm_in hu hxb.1 (by omega)
    have i1 := stepR_in hr hn hi hxb.1 hxb.2
    have i2 := stepR_in hu hm i1 hxb.1 hxb.2
    have c1 := hi.2 x hxb.1 hxb.2
    have c2 := i1.2 x hxb.1 hxb.2
    have l0 := hi.1
    have l3 := i1.1
    have l1 := invL_len hr
    have l2 := invL_len hu
    have ih := spec_from_l0 hr hu hn hm q hq suf (pre ++ [x]) _ (by simp [e]) i2
    refine ev_up ?_
    simp only [spec_l11From.l0, if_pos (show ((pre.length : Int) < q.length) by omega), if_pos (Int.natCast_nonneg pre.length), hx, hw, if_pos hxb.1, if_pos (show x < (r.length : Int) by omega), if_pos (show x < (out.length : Int) by omega), if_pos c1.1, if_pos (show rd out x < ((invL r).length : Int) by omega), if_pos b1.1, if_pos (show rd r x < (out.length : Int) by omega), Option.bind_some, if_pos (show x < (u.length : Int) by omega)]
    have e1 : out.set (rd r x).toNat (rd (invL r) (rd out x)) = stepR r out x := rfl
    simp only [e1, if_pos c2.1, if_pos (show rd (stepR r out x) x < ((invL u).length : Int) by omega), if_pos b2.1, if_pos (show rd u x < (out.length : Int) by omega)]
    exact ih
theorem spec_from {r u : List Int} (h : transB r u = true) {k : Int} (k0 : 0 ≤ k) (k1 : k < r.length) : Ev (fun j => spec_l11From.f j r u k) (fromS r u k) := by
  obtain ⟨hr, hu, he, h0, _⟩ := transB_side h
  obtain ⟨f1, f2, f3⟩ := reach_facts h
  obtain ⟨s1, s2⟩ := start_in h0 k0 k1
  have hn := hr.1
  unfold spec_l11From.f
  refine Ev.bind (spec_inv hr) ?_
  refine Ev.bind (spec_inv hu) ?_
  have hreach : Ev (fun j => spec_l02Reach.f j r u 0) (reachOf r u) := by
    unfold spec_l02Reach.f
    exact spec_reach_l0 hr hu he _ [0] 0 (few_z h0) (by simp) (by omega)
  simp only [if_pos (Int.natCast_nonneg r.length), Int.toNat_natCast, if_pos (show r.length ≤ 35184372088832 by omega), Option.bind_some, List.length_replicate, if_pos (show 0 < (r.length : Int) by omega)]
  refine Ev.bind hreach ?_
  exact spec_from_l0 hr hu rfl he.symm (reachOf r u) f1 (reachOf r u) [] _ rfl s1
/-! The program's: a list of the squares met. -/
def stepI (q a : List Int) (k v : Int) : List Int × List Int := if rd a k < 0 then (q ++ [k], a.set k.toNat v) else (q, a)
def turnI (r u : List Int) : Nat → List Int → List Int → Nat → List Int
  | 0, _, a, _ => a
  | f + 1, q, a, i => if h : i < q.length then
      turnI r u f (stepI (stepI q a (rd r q[i]) (rd (invL r) (rd a q[i]))).1 (stepI q a (rd r q[i]) (rd (invL r) (rd a q[i]))).2 (rd u q[i]) (rd (invL u) (rd a q[i]))).1
        (stepI (stepI q a (rd r q[i]) (rd (invL r) (rd a q[i]))).1 (stepI q a (rd r q[i]) (rd (invL r) (rd a q[i]))).2 (rd u q[i]) (rd (invL u) (rd a q[i]))).2 (i + 1)
    else a
structure JI (n : Nat) (P : Int → Int → Prop) (m : Int) (q a : List Int) : Prop where
  len : a.length = n
  few : Few n q
  met : ∀ z : Int, 0 ≤ z → z < n → (0 ≤ rd a z ↔ z ∈ q)
  val : ∀ z ∈ q, (0 ≤ rd a z ∧ rd a z < n) ∧ P (rd a z) z
  zer : rd a 0 = m
  mem : (0 : Int) ∈ q
theorem stepI_J {n : Nat} {P : Int → Int → Prop} {m : Int} {q a : List Int} (h : JI n P m q a) {k v : Int} (k0 : 0 ≤ k) (k1 : k < n) (v0 : 0 ≤ v) (v1 : v < n) (hv : P v k) :
    JI n P m (stepI q a k v).1 (stepI q a k v).2 ∧ k ∈ (stepI q a k v).1 ∧ (∃ s, (stepI q a k v).1 = q ++ s) := by
  unfold stepI
  by_cases hk : rd a k < 0
  · rw [if_pos hk]
    have hkq : k ∉ q := fun hm => by have := (h.val k hm).1; omega
    have hl := h.len
    refine ⟨⟨by simpa using h.len, few_snoc h.few k0 k1 hkq, fun z z0 z1 => ?_, fun z hz => ?_, ?_, List.mem_append_left _ h.mem⟩, by simp, ⟨[k], rfl⟩⟩
    · by_cases e : z = k
      · subst e
        simp only [rdS_same z0 (show z < (a.length : Int) by omega)]
        simp [v0]
      · simp only [rdS_ne k0 z0 e]
        rw [h.met z z0 z1]
        simp [e]
    · have hzb : 0 ≤ z ∧ z < (n : Int) := (few_snoc h.few k0 k1 hkq).2 z hz
      by_cases e : z = k
      · subst e
        simp only [rdS_same hzb.1 (show z < (a.length : Int) by omega)]
        exact ⟨⟨v0, v1⟩, hv⟩
      · simp only [rdS_ne k0 hzb.1 e]
        refine h.val z ?_
        rcases List.mem_append.1 hz with hz | hz
        · exact hz
        · simp at hz
          exact absurd hz e
    · have : (0 : Int) ≠ k := fun e => hkq (e ▸ h.mem)
      simp only [rdS_ne k0 (Int.le_refl 0) this]
      exact h.zer
  · rw [if_neg hk]
    exact ⟨h, (h.met k k0 k1).1 (by omega), ⟨[], by simp⟩⟩
theorem turnI_spec {r u : List Int} (h : transB r u = true) (P : Int → Int → Prop) (hR : ∀ v x : Int, 0 ≤ v → v < r.length → 0 ≤ x → x < r.length → P v x → P (rd (invL r) v) (rd r x)) (hU : ∀ v x : Int, 0 ≤ v → v < r.length → 0 ≤ x → x < r.length → P v x → P (rd (invL u) v) (rd u x)) (m : Int) :
    ∀ (f : Nat) (q a : List Int) (i : Nat), JI r.length P m q a → f + i = r.length + 1 → (∀ (j : Nat) (hj : j < q.length), j < i → rd r q[j] ∈ q ∧ rd u q[j] ∈ q) →
      (turnI r u f q a i).length = r.length ∧ (∀ z : Int, 0 ≤ z → z < r.length → (0 ≤ rd (turnI r u f q a i) z ∧ rd (turnI r u f q a i) z < r.length) ∧ P (rd (turnI r u f q a i) z) z) ∧ rd (turnI r u f q a i) 0 = m := by
  obtain ⟨hr, hu, he, h0, _⟩ := transB_side h
  obtain ⟨f1, f2, f3⟩ := reach_facts h
  have stop : ∀ (q a : List Int) (i : Nat), JI r.length P m q a → q.length ≤ i → (∀ (j : Nat) (hj : j < q.length), j < i → rd r q[j] ∈ q ∧ rd u q[j] ∈ q) →
      a.length = r.length ∧ (∀ z : Int, 0 ≤ z → z < r.length → (0 ≤ rd a z ∧ rd a z < r.length) ∧ P (rd a z) z) ∧ rd a 0 = m := fun q a i hJ hi hc => by
    refine ⟨hJ.len, fun z z0 z1 => hJ.val z ?_, hJ.zer⟩
    refine bfs_sub (nbT r u) (fun x => x ∈ q) (fun x hx k hk _ => ?_) _ [0] 0 (fun x hx => by simp at hx; subst hx; exact hJ.mem) z (f2 z z0 z1)
    obtain ⟨j, hj, rfl⟩ := List.getElem_of_mem hx
    have := hc j hj (by omega)
    simp only [nbT, List.mem_cons, List.not_mem_nil, or_false] at hk
    rcases hk with rfl | rfl
    · exact this.1
    · exact this.2
  intro f
  induction f with
  | zero =>
    intro q a i hJ hf hc
    exact stop q a i hJ (by have := few_len hJ.few; omega) hc
  | succ f ih =>
    intro q a i hJ hf hc
    rw [turnI]
    by_cases hi : i < q.length
    · rw [dif_pos hi]
      have hxq := List.getElem_mem hi
      have xb := hJ.few.2 _ hxq
      have xv := hJ.val _ hxq
      have b1 := pm_in hr xb.1 xb.2
      have b2 := pm_in hu xb.1 (by omega)
      have i1 := inv_right hr xv.1.1 xv.1.2
      have i2 := inv_right hu xv.1.1 (by omega)
      obtain ⟨J1, m1, s1, e1⟩ := stepI_J hJ b1.1 b1.2 i1.2.1 i1.2.2 (hR _ _ xv.1.1 xv.1.2 xb.1 xb.2 xv.2)
      have key : ∀ z ∈ q, rd (stepI q a (rd r q[i]) (rd (invL r) (rd a q[i]))).2 z = rd a z := fun z hz => by
        unfold stepI
        split
        · rename_i hneg
          have zb := hJ.few.2 z hz
          refine rdS_ne b1.1 zb.1 (fun e => ?_)
          have := (hJ.val z hz).1.1
          rw [e] at this
          omega
        · rfl
      obtain ⟨J2, m2, s2, e2⟩ := stepI_J J1 b2.1 (show rd u q[i] < (r.length : Int) by omega) i2.2.1 (show rd (invL u) (rd a q[i]) < (r.length : Int) by omega) (hU _ _ xv.1.1 xv.1.2 xb.1 xb.2 xv.2)
      refine ih _ _ (i + 1) J2 (by omega) (fun j hj hji => ?_)
      have hjq : j < q.length := by
        by_cases e : j = i
        · omega
        · omega
      have eq : (stepI (stepI q a (rd r q[i]) (rd (invL r) (rd a q[i]))).1 (stepI q a (rd r q[i]) (rd (invL r) (rd a q[i]))).2 (rd u q[i]) (rd (invL u) (rd a q[i]))).1 = q ++ (s1 ++ s2) := by rw [e2, e1, List.append_assoc]
      have ej : (stepI (stepI q a (rd r q[i]) (rd (invL r) (rd a q[i]))).1 (stepI q a (rd r q[i]) (rd (invL r) (rd a q[i]))).2 (rd u q[i]) (rd (invL u) (rd a q[i]))).1[j] = q[j] := by
        simp only [eq]
        exact List.getElem_append_left hjq
      rw [ej]
      by_cases e : j = i
      · subst e
        refine ⟨?_, m2⟩
        rw [e2]
        exact List.mem_append_left _ m1
      · have := hc j hjq (by omega)
        rw [eq]
        exact ⟨List.mem_append_left _ this.1, List.mem_append_left _ this.2⟩
    · rw [dif_neg hi]
      exact stop q a i hJ (by omega) hc
def turnP (r u : List Int) (k : Int) : List Int := turnI r u (r.length + 1) [0] ((List.replicate r.length (-1)).set 0 k) 0
theorem start_J {n : Nat} (h0 : 0 < n) {P : Int → Int → Prop} {k : Int} (k0 : 0 ≤ k) (k1 : k < n) (hk : P k 0) : JI n P k [0] ((List.replicate n (-1 : Int)).set 0 k) := by
  have e : ((List.replicate n (-1 : Int)).set 0 k) = ((List.replicate n (-1 : Int)).set (0 : Int).toNat k) := rfl
  have hz : rd ((List.replicate n (-1 : Int)).set 0 k) 0 = k := by rw [e, rdS_same (by omega) (by simpa using h0)]
  refine ⟨by simp, few_z h0, fun z z0 z1 => ?_, fun z hz2 => ?_, hz, by simp⟩
  · by_cases ez : z = 0
    · subst ez
      rw [hz]
      simp [k0]
    · rw [e, rdS_ne (by omega) z0 ez]
      have : z.toNat < n := by omega
      simp [rd, List.getD, List.getElem?_replicate, this, ez]
  · simp at hz2
    subst hz2
    rw [hz]
    exact ⟨⟨k0, k1⟩, hk⟩
theorem turnP_P {r u : List Int} (h : transB r u = true) (P : Int → Int → Prop) (hR : ∀ v x : Int, 0 ≤ v → v < r.length → 0 ≤ x → x < r.length → P v x → P (rd (invL r) v) (rd r x)) (hU : ∀ v x : Int, 0 ≤ v → v < r.length → 0 ≤ x → x < r.length → P v x → P (rd (invL u) v) (rd u x))
    {k : Int} (k0 : 0 ≤ k) (k1 : k < r.length) (hk : P k 0) : (turnP r u k).length = r.length ∧ (∀ z : Int, 0 ≤ z → z < r.length → (0 ≤ rd (turnP r u k) z ∧ rd (turnP r u k) z < r.length) ∧ P (rd (turnP r u k) z) z) ∧ rd (turnP r u k) 0 = k := by
  obtain ⟨hr, hu, he, h0, _⟩ := transB_side h
  exact turnI_spec h P hR hU k (r.length + 1) [0] _ 0 (start_J h0 k0 k1 hk) (by omega) (fun j hj hji => absurd hji (Nat.not_lt_zero _))
theorem turnP_turn {r u t : List Int} (h : transB r u = true) (ht : IsT r u t) : turnP r u (rd t 0) = t := by
  obtain ⟨hr, hu, he, h0, _⟩ := transB_side h
  obtain ⟨t1, t2, t3⟩ := ht
  have b := pm_in t1 (x := 0) (by omega) (by omega)
  obtain ⟨i1, i2, _⟩ := turnP_P h (fun v x => v = rd t x) (fun v x _ _ x0 x1 e => by rw [e, (t3 x x0 x1).1]) (fun v x _ _ x0 x1 e => by rw [e, (t3 x x0 x1).2]) b.1 (by omega) rfl
  exact rd_ext (by rw [i1, t2]) (fun x x0 x1 => (i2 x x0 (by omega)).2)
theorem turnP_zero {r u : List Int} (h : transB r u = true) {k : Int} (k0 : 0 ≤ k) (k1 : k < r.length) : rd (turnP r u k) 0 = k := (turnP_P h (fun _ _ => True) (fun _ _ _ _ _ _ _ => trivial) (fun _ _ _ _ _ _ _ => trivial) k0 k1 trivial).2.2
/-- Both find the same turns. -/
theorem turn_same {r u : List Int} (h : transB r u = true) {k : Int} (k0 : 0 ≤ k) (k1 : k < r.length) : turnB r u (turnP r u k) = turnB r u (fromS r u k) ∧ (turnB r u (fromS r u k) = true → turnP r u k = fromS r u k) := by
  have key : turnB r u (fromS r u k) = true → turnP r u k = fromS r u k := fun hs => by
    have ht := (turnB_iff r u _).1 hs
    have e := turnP_turn h ht
    rwa [fromS_zero h k0 k1 ht] at e
  refine ⟨?_, key⟩
  by_cases hs : turnB r u (fromS r u k) = true
  · rw [key hs]
  · by_cases hp : turnB r u (turnP r u k) = true
    · have ht := (turnB_iff r u _).1 hp
      have e := fromS_turn h ht
      rw [turnP_zero h k0 k1] at e
      rw [e]
    · rw [Bool.eq_false_iff.mpr hs, Bool.eq_false_iff.mpr hp]
theorem impl_to_l0 (r u p q : List Int) (n : Nat) (hn : n ≤ 24) (k : Int) (res : List Int) : ∀ (d : Nat) (i : Int) (a : List Int), 0 ≤ i → i + d = n → a.length = n → (∀ z : Int, 0 ≤ z → z < i → rd a z = -1) → 0 < n →
    Ev (fun j => impl_turnTo.l1 j p q ((List.replicate n (-1 : Int)).set 0 k) [0] 0 r u) res → Ev (fun j => impl_turnTo.l0 j k p q a (n : Int) i r u) res
  | 0, i, a, i0, hi, ha, hz, h0, hr => by
    have e : a = List.replicate n (-1) := rd_ext (by simp [ha]) (fun x x0 x1 => by
      rw [hz x x0 (by omega)]
      have : x.toNat < n := by omega
      simp [rd, List.getD, List.getElem?_replicate, this])
    subst e
    refine ev_up ?_
    simp only [impl_turnTo.l0, if_neg (show ¬ i < (n : Int) by omega), List.length_replicate, if_pos (show 0 < (n : Int) by omega)]
    exact hr
  | d + 1, i, a, i0, hi, ha, hz, h0, hr => by
    refine ev_up ?_
    simp only [impl_turnTo.l0, if_pos (show i < (n : Int) by omega), if_pos i0, if_pos (show i < (a.length : Int) by omega), pw_wrap (a := i + 1) (by omega) (by omega)]
    refine impl_to_l0 r u p q n hn k res d (i + 1) _ (by omega) (by omega) (by simpa using ha) (fun z z0 z1 => ?_) h0 hr
    by_cases e : z = i
    · subst e
      exact rdS_same z0 (by omega)
    · rw [rdS_ne i0 z0 e]
      exact hz z z0 (by omega)
theorem impl_to_l1 {r u : List Int} (h : transB r u = true) (m : Int) : ∀ (f : Nat) (q a : List Int) (i : Nat), JI r.length (fun _ _ => True) m q a → f + i = r.length + 1 →
    Ev (fun j => impl_turnTo.l1 j (invL r) (invL u) a q (i : Int) r u) (turnI r u f q a i) := by
  obtain ⟨hr, hu, he, h0, _⟩ := transB_side h
  have hn := hr.1
  intro f
  induction f with
  | zero =>
    intro q a i hJ hf
    have := few_len hJ.few
    refine ev_up ?_
    simp only [impl_turnTo.l1, if_neg (show ¬ (i : Int) < (q.length : Int) by omega)]
    exact Ev.now _
  | succ f ih =>
    intro q a i hJ hf
    have hql := few_len hJ.few
    rw [turnI]
    refine ev_up ?_
    by_cases hi : i < q.length
    · rw [dif_pos hi]
      have hxq := List.getElem_mem hi
      have xb := hJ.few.2 _ hxq
      have xv := hJ.val _ hxq
      have b1 := pm_in hr xb.1 xb.2
      have b2 := pm_in hu xb.1 (by omega)
      have i1 := inv_right hr xv.1.1 xv.1.2
      have i2 := inv_right hu xv.1.1 (by omega)
      obtain ⟨J1, m1, s1, e1⟩ := stepI_J hJ b1.1 b1.2 i1.2.1 i1.2.2 trivial
      obtain ⟨J2, m2, s2, e2⟩ := stepI_J J1 b2.1 (show rd u q[i] < (r.length : Int) by omega) i2.2.1 (show rd (invL u) (rd a q[i]) < (r.length : Int) by omega) trivial
      have l1 := invL_len hr
      have l2 := invL_len hu
      have la := hJ.len
      have la1 := J1.len
      have q1 := few_len J1.few
      simp only [impl_turnTo.l1, if_pos (show (i : Int) < (q.length : Int) by omega), if_pos (Int.natCast_nonneg i), rd_get q i hi]
      generalize q[i] = x at *
      have ih2 := ih _ _ (i + 1) J2 (by omega)
      have hw : wrap64 ((i : Int) + 1) = ((i + 1 : Nat) : Int) := by rw [pw_wrap (by omega) (by omega)]; simp
      simp only [if_pos xb.1, if_pos (show x < (r.length : Int) by omega), if_pos (show x < (a.length : Int) by omega), if_pos xv.1.1, if_pos (show rd a x < ((invL r).length : Int) by omega), if_pos (show x < (u.length : Int) by omega), if_pos (show rd a x < ((invL u).length : Int) by omega), Option.bind_some, List.length_cons, List.length_nil]
      generalize rd (invL r) (rd a x) = v1 at *
      generalize rd (invL u) (rd a x) = v2 at *
      refine ev_up ?_
      simp only [impl_turnTo.l2, List.length_cons, List.length_nil, if_pos (show (0 : Int) < ((0 + 1 + 1 : Nat) : Int) by decide), if_pos (show (0 : Int) ≤ 0 by decide), show rd_T54 [(⟨rd r x, v1⟩ : S54), ⟨rd u x, v2⟩] 0 = ⟨rd r x, v1⟩ from rfl, if_pos b1.1, if_pos (show rd r x < (a.length : Int) by omega), if_pos (show q.length < 17592186044416 by omega), show wrap64 ((0 : Int) + 1) = 1 from (pw_wrap (a := 0 + 1) (by decide) (by decide)).trans (by decide)]
      have two : Ev (fun j => impl_turnTo.l2 j (invL r) (invL u) (stepI q a (rd r x) v1).2 (stepI q a (rd r x) v1).1 (i : Int) [(⟨rd r x, v1⟩ : S54), ⟨rd u x, v2⟩] ((0 + 1 + 1 : Nat) : Int) 1 r u) (turnI r u f (stepI (stepI q a (rd r x) v1).1 (stepI q a (rd r x) v1).2 (rd u x) v2).1 (stepI (stepI q a (rd r x) v1).1 (stepI q a (rd r x) v1).2 (rd u x) v2).2 (i + 1)) := by
        generalize hS : stepI q a (rd r x) v1 = S at *
        obtain ⟨qq, aa⟩ := S
        simp only at *
        refine ev_up ?_
        simp only [impl_turnTo.l2, List.length_cons, List.length_nil, if_pos (show (1 : Int) < ((0 + 1 + 1 : Nat) : Int) by decide), if_pos (show (0 : Int) ≤ 1 by decide), show rd_T54 [(⟨rd r x, v1⟩ : S54), ⟨rd u x, v2⟩] 1 = ⟨rd u x, v2⟩ from rfl, if_pos b2.1, if_pos (show rd u x < (aa.length : Int) by omega), if_pos (show qq.length < 17592186044416 by omega), show wrap64 ((1 : Int) + 1) = 2 from (pw_wrap (a := 1 + 1) (by decide) (by decide)).trans (by decide)]
        have three : Ev (fun j => impl_turnTo.l2 j (invL r) (invL u) (stepI qq aa (rd u x) v2).2 (stepI qq aa (rd u x) v2).1 (i : Int) [(⟨rd r x, v1⟩ : S54), ⟨rd u x, v2⟩] ((0 + 1 + 1 : Nat) : Int) 2 r u) (turnI r u f (stepI qq aa (rd u x) v2).1 (stepI qq aa (rd u x) v2).2 (i + 1)) := by
          refine ev_up ?_
          simp only [impl_turnTo.l2, if_neg (show ¬ (2 : Int) < ((0 + 1 + 1 : Nat) : Int) by decide), hw]
          exact ih2
        unfold stepI at three ⊢
        by_cases c : rd aa (rd u x) < 0
        · simp only [if_pos c] at three ⊢
          exact three
        · simp only [if_neg c] at three ⊢
          exact three
      unfold stepI at two ⊢
      by_cases c : rd a (rd r x) < 0
      · simp only [if_pos c] at two ⊢
        exact two
      · simp only [if_neg c] at two ⊢
        exact two
    · rw [dif_neg hi]
      simp only [impl_turnTo.l1, if_neg (show ¬ (i : Int) < (q.length : Int) by omega)]
      exact Ev.now _
theorem impl_to {r u : List Int} (h : transB r u = true) {k : Int} (k0 : 0 ≤ k) (k1 : k < r.length) : Ev (fun j => impl_turnTo.f j r u k) (turnP r u k) := by
  obtain ⟨hr, hu, he, h0, _⟩ := transB_side h
  have hn := hr.1
  unfold impl_turnTo.f
  refine Ev.bind (impl_inv hr) ?_
  refine Ev.bind (impl_inv hu) ?_
  simp only [if_pos (Int.natCast_nonneg r.length), Int.toNat_natCast, if_pos (show r.length ≤ 35184372088832 by omega), Option.bind_some, List.length_replicate]
  exact impl_to_l0 r u _ _ r.length hn k _ r.length 0 _ (by omega) (by omega) (by simp) (fun z z0 z1 => by omega) h0 (impl_to_l1 h k (r.length + 1) [0] _ 0 (start_J h0 k0 k1 trivial) (by omega))
/-- All turns, by the image of 0. -/
def turnsGo (r u : List Int) : Nat → Int → List (List Int) → List (List Int)
  | 0, _, out => out
  | d + 1, i, out => turnsGo r u d (i + 1) (if turnB r u (fromS r u i) = true then out ++ [fromS r u i] else out)
def turnsOf (r u : List Int) : List (List Int) := if transB r u = true then turnsGo r u r.length 0 [] else []
theorem spec_turns_l0 {r u : List Int} (h : transB r u = true) : ∀ (d : Nat) (i : Int) (out : List (List Int)), 0 ≤ i → i + d = r.length → out.length + d ≤ 24 → Ev (fun k => spec_TurnsOf.l0 k out (r.length : Int) i r u) (turnsGo r u d i out)
  | 0, i, out, i0, hi, ho => by
    refine ev_up ?_
    simp only [spec_TurnsOf.l0, if_neg (show ¬ i < (r.length : Int) by omega)]
    exact Ev.now _
  | d + 1, i, out, i0, hi, ho => by
    have hn := (transB_side h).1.1
    have i1 : i < r.length := by omega
    refine ev_up ?_
    simp only [spec_TurnsOf.l0, if_pos i1, pw_wrap (a := i + 1) (by omega) (by omega)]
    refine Ev.bind (spec_from h i0 i1) ?_
    refine Ev.bind (spec_isTurn h _) ?_
    rw [turnsGo]
    by_cases c : turnB r u (fromS r u i) = true
    · simp only [if_pos c, if_pos (show out.length < 5864062014805 by omega)]
      exact spec_turns_l0 h d (i + 1) _ (by omega) (by omega) (by simp; omega)
    · simp only [if_neg c]
      exact spec_turns_l0 h d (i + 1) _ (by omega) (by omega) (by omega)
theorem impl_turns_l0 {r u : List Int} (h : transB r u = true) : ∀ (d : Nat) (i : Int) (out : List (List Int)), 0 ≤ i → i + d = r.length → out.length + d ≤ 24 → Ev (fun k => impl_TurnsOf.l0 k out (r.length : Int) i r u) (turnsGo r u d i out)
  | 0, i, out, i0, hi, ho => by
    refine ev_up ?_
    simp only [impl_TurnsOf.l0, if_neg (show ¬ i < (r.length : Int) by omega)]
    exact Ev.now _
  | d + 1, i, out, i0, hi, ho => by
    have hn := (transB_side h).1.1
    have i1 : i < r.length := by omega
    have hs := turn_same h i0 i1
    refine ev_up ?_
    simp only [impl_TurnsOf.l0, if_pos i1, pw_wrap (a := i + 1) (by omega) (by omega)]
    refine Ev.bind (impl_to h i0 i1) ?_
    refine Ev.bind (impl_isTurn h _) ?_
    rw [turnsGo, hs.1]
    by_cases c : turnB r u (fromS r u i) = true
    · simp only [if_pos c, if_pos (show out.length < 5864062014805 by omega), hs.2 c]
      exact impl_turns_l0 h d (i + 1) _ (by omega) (by omega) (by simp; omega)
    · simp only [if_neg c]
      exact impl_turns_l0 h d (i + 1) _ (by omega) (by omega) (by omega)
theorem spec_turns (r u : List Int) : Ev (fun k => spec_TurnsOf.f k r u) (turnsOf r u) := by
  unfold spec_TurnsOf.f turnsOf
  refine Ev.bind (spec_surfOk r u) ?_
  by_cases h : transB r u = true
  · simp only [if_pos h]
    exact spec_turns_l0 h r.length 0 [] (by omega) (by omega) (by have := (transB_side h).1.1; simp; omega)
  · simp only [if_neg h]
    exact Ev.now _
theorem impl_turns (r u : List Int) : Ev (fun k => impl_TurnsOf.f k r u) (turnsOf r u) := by
  unfold impl_TurnsOf.f turnsOf
  refine Ev.bind (impl_surfOk r u) ?_
  by_cases h : transB r u = true
  · simp only [if_pos h]
    exact impl_turns_l0 h r.length 0 [] (by omega) (by omega) (by have := (transB_side h).1.1; simp; omega)
  · simp only [if_neg h]
    exact Ev.now _
/-- A step again and again. -/
def iter (f : Int → Int) : Nat → Int → Int
  | 0, x => x
  | m + 1, x => iter f m (f x)
theorem iter_succ (f : Int → Int) : ∀ (m : Nat) (x : Int), iter f (m + 1) x = f (iter f m x)
  | 0, _ => rfl
  | m + 1, x => by rw [iter, iter_succ f m (f x), ← iter]
/-! The cycles of a permutation: every number once; each is closed, and is what comes out of its first. -/
structure Cyc (p : List Int) (c : List Int) : Prop where
  ne : 0 < c.length
  gen : ∀ y ∈ c, ∃ m, y = iter (rd p) m (rd c 0)
  fwd : ∀ y ∈ c, rd p y ∈ c
theorem iter_in {p : List Int} (hp : isPerm p) {i : Int} (i0 : 0 ≤ i) (i1 : i < p.length) : ∀ m, 0 ≤ iter (rd p) m i ∧ iter (rd p) m i < p.length
  | 0 => ⟨i0, i1⟩
  | m + 1 => by
    have h := iter_in hp i0 i1 m
    rw [iter_succ]
    exact pm_in hp h.1 h.2
theorem iter_backq {p q0 : List Int} (hp : isPerm p) (hb : ∀ y : Int, 0 ≤ y → y < p.length → rd p y ∈ q0 → y ∈ q0) {i : Int} (i0 : 0 ≤ i) (i1 : i < p.length) : ∀ m, iter (rd p) m i ∈ q0 → i ∈ q0
  | 0, h => h
  | m + 1, h => by
    rw [iter_succ] at h
    have b := iter_in hp i0 i1 m
    exact iter_backq hp hb i0 i1 m (hb _ b.1 b.2 h)
/-- The numbers met from i on, m of them. -/
def its (p : List Int) (i : Int) (m : Nat) : List Int := (List.range m).map fun k => iter (rd p) k i
theorem its_len (p : List Int) (i : Int) (m : Nat) : (its p i m).length = m := by simp [its]
theorem its_succ (p : List Int) (i : Int) (m : Nat) : its p i (m + 1) = its p i m ++ [iter (rd p) m i] := by simp [its, List.range_succ]
theorem its_get (p : List Int) (i : Int) (m : Nat) (k : Nat) (h : k < (its p i m).length) : (its p i m)[k] = iter (rd p) k i := by simp [its]
theorem its_mem {p : List Int} {i y : Int} {m : Nat} : y ∈ its p i m ↔ ∃ k, k < m ∧ iter (rd p) k i = y := by simp [its]
theorem walkC_cyc {p q0 : List Int} (hp : isPerm p) (hb : ∀ y : Int, 0 ≤ y → y < p.length → rd p y ∈ q0 → y ∈ q0) {i : Int} (i0 : 0 ≤ i) (i1 : i < p.length) (hi : i ∉ q0) :
    ∀ (f m : Nat), Few p.length (q0 ++ its p i m) → f + (q0 ++ its p i m).length = p.length + 1 →
      ∃ M, (m ≤ M ∧ 0 < M) ∧ walkC p f (q0 ++ its p i m) (its p i m) (iter (rd p) m i) = (q0 ++ its p i M, its p i M) ∧ Few p.length (q0 ++ its p i M) ∧ iter (rd p) M i = i
  | 0, m, hq, hf => by
    have := few_len hq
    omega
  | f + 1, m, hq, hf => by
    have bm := iter_in hp i0 i1 m
    rw [walkC]
    by_cases hx : iter (rd p) m i ∈ q0 ++ its p i m
    · rw [if_pos hx]
      rcases List.mem_append.1 hx with hx | hx
      · exact absurd (iter_backq hp hb i0 i1 m hx) hi
      · obtain ⟨j, hj, hji⟩ := its_mem.1 hx
        cases j with
        | zero => exact ⟨m, ⟨Nat.le_refl _, by omega⟩, rfl, hq, hji.symm⟩
        | succ j =>
          exfalso
          obtain ⟨m', rfl⟩ : ∃ m', m = m' + 1 := ⟨m - 1, by omega⟩
          rw [iter_succ, iter_succ] at hji
          have bj := iter_in hp i0 i1 j
          have bm' := iter_in hp i0 i1 m'
          have e := pm_inj hp bj.1 bj.2 bm'.1 bm'.2 hji
          have hn := (List.nodup_append.1 hq.1).2.1
          have e2 : (its p i (m' + 1))[j]'(by rw [its_len]; omega) = (its p i (m' + 1))[m']'(by rw [its_len]; omega) := by rw [its_get, its_get]; exact e
          have := (List.getElem_inj hn).1 e2
          omega
    · rw [if_neg hx]
      have hs : q0 ++ its p i m ++ [iter (rd p) m i] = q0 ++ its p i (m + 1) := by rw [its_succ, List.append_assoc]
      have hq' := few_snoc hq bm.1 bm.2 hx
      rw [hs] at hq'
      obtain ⟨M, hM, h1, h2, h3⟩ := walkC_cyc hp hb i0 i1 hi f (m + 1) hq' (by
        have h1 := congrArg List.length hs
        simp only [List.length_append, List.length_singleton] at h1
        simp only [List.length_append] at hf ⊢
        omega)
      refine ⟨M, ⟨by omega, hM.2⟩, ?_, h2, h3⟩
      rw [hs, ← its_succ, ← iter_succ (rd p)]
      exact h1
theorem its_cyc {p : List Int} {i : Int} {M : Nat} (h0 : 0 < M) (hM : iter (rd p) M i = i) : Cyc p (its p i M) := by
  have hz : rd (its p i M) 0 = i := by
    have := rd_get (its p i M) 0 (by rw [its_len]; exact h0)
    rw [its_get] at this
    exact this
  refine ⟨by rw [its_len]; exact h0, fun y hy => ?_, fun y hy => ?_⟩
  · obtain ⟨k, _, rfl⟩ := its_mem.1 hy
    exact ⟨k, by rw [hz]⟩
  · obtain ⟨k, hk, rfl⟩ := its_mem.1 hy
    rw [← iter_succ (rd p)]
    by_cases e : k + 1 = M
    · rw [e, hM]
      exact its_mem.2 ⟨0, h0, rfl⟩
    · exact its_mem.2 ⟨k + 1, by omega, rfl⟩
theorem its_back {p : List Int} (hp : isPerm p) {i : Int} (i0 : 0 ≤ i) (i1 : i < p.length) {M : Nat} (h0 : 0 < M) (hM : iter (rd p) M i = i) {y : Int} (y0 : 0 ≤ y) (y1 : y < p.length) (h : rd p y ∈ its p i M) : y ∈ its p i M := by
  obtain ⟨k, hk, e⟩ := its_mem.1 h
  have key : ∀ j, rd p (iter (rd p) j i) = rd p y → j < M → y ∈ its p i M := fun j hj hjM => by
    have b := iter_in hp i0 i1 j
    have := pm_inj hp b.1 b.2 y0 y1 hj
    exact its_mem.2 ⟨j, hjM, this⟩
  cases k with
  | zero =>
    refine key (M - 1) ?_ (by omega)
    rw [← iter_succ (rd p), show M - 1 + 1 = M by omega, hM]
    exact e
  | succ k =>
    rw [iter_succ] at e
    exact key k e (by omega)
theorem cycGo_facts {p : List Int} (hp : isPerm p) : ∀ (d : Nat) (i : Int) (q : List Int) (out : List (List Int)), 0 ≤ i → i + d = p.length → Few p.length q → q = out.flatten → (∀ y : Int, 0 ≤ y → y < p.length → rd p y ∈ q → y ∈ q) → (∀ c ∈ out, Cyc p c) → (∀ x : Int, 0 ≤ x → x < i → x ∈ q) →
    Few p.length (cycGo p d i q out).flatten ∧ (∀ x : Int, 0 ≤ x → x < p.length → x ∈ (cycGo p d i q out).flatten) ∧ ∀ c ∈ cycGo p d i q out, Cyc p c
  | 0, i, q, out, i0, hi, hq, e, hb, hc, hx => by
    subst e
    exact ⟨hq, fun x x0 x1 => hx x x0 (by omega), hc⟩
  | d + 1, i, q, out, i0, hi, hq, e, hb, hc, hx => by
    have i1 : i < p.length := by omega
    rw [cycGo]
    by_cases hm : i ∈ q
    · rw [if_pos hm, walkOf_in hq hm]
      exact cycGo_facts hp d (i + 1) q out (by omega) (by omega) hq e hb hc (fun x x0 x1 => by
        by_cases ex : x = i
        · exact ex ▸ hm
        · exact hx x x0 (by omega))
    · rw [if_neg hm]
      have hql := few_len hq
      obtain ⟨M, hM, h1, h2, h3⟩ := walkC_cyc hp hb i0 i1 hm (p.length + 1 - q.length) 0 (by simpa [its] using hq) (by simp [its]; omega)
      have hw : walkOf p q i = (q ++ its p i M, its p i M) := by
        unfold walkOf
        have : walkC p (p.length + 1 - q.length) (q ++ its p i 0) (its p i 0) (iter (rd p) 0 i) = walkC p (p.length + 1 - q.length) q [] i := by simp [its, iter]
        rw [← this]
        exact h1
      rw [hw]
      refine cycGo_facts hp d (i + 1) _ _ (by omega) (by omega) h2 (by simp [e]) (fun y y0 y1 hy => ?_) (fun c hcm => ?_) (fun x x0 x1 => ?_)
      · rcases List.mem_append.1 hy with hy | hy
        · exact List.mem_append_left _ (hb y y0 y1 hy)
        · exact List.mem_append_right _ (its_back hp i0 i1 hM.2 h3 y0 y1 hy)
      · rcases List.mem_append.1 hcm with hcm | hcm
        · exact hc c hcm
        · simp at hcm
          subst hcm
          exact its_cyc hM.2 h3
      · by_cases ex : x = i
        · subst ex
          exact List.mem_append_right _ (its_mem.2 ⟨0, hM.2, rfl⟩)
        · exact List.mem_append_left _ (hx x x0 (by omega))
theorem cycles_facts {p : List Int} (hp : isPerm p) : Few p.length (cyclesOf p).flatten ∧ (∀ x : Int, 0 ≤ x → x < p.length → x ∈ (cyclesOf p).flatten) ∧ ∀ c ∈ cyclesOf p, Cyc p c := by
  unfold cyclesOf
  rw [if_pos ((permB_iff p).2 hp)]
  exact cycGo_facts hp p.length 0 [] [] (by omega) (by omega) ⟨by simp, by simp⟩ rfl (by simp) (by simp) (fun x x0 x1 => by omega)

/-! The permutation around the corners. -/
def aroundL (r u : List Int) : List Int := thenL (thenL r u) (thenL (invL r) (invL u))
def cornersL (r u : List Int) : List (List Int) := if transB r u = true then cyclesOf (aroundL r u) else []
theorem around_perm {r u : List Int} (h : transB r u = true) : isPerm (aroundL r u) ∧ (aroundL r u).length = r.length := by
  obtain ⟨hr, hu, he, h0, _⟩ := transB_side h
  have l1 := invL_len hr
  have l2 := invL_len hu
  unfold aroundL
  refine ⟨then_perm (then_perm hr hu he) (then_perm (inv_perm hr) (inv_perm hu) (by omega)) (by rw [then_len, then_len]; omega), by rw [then_len, then_len]⟩
theorem around_rd {r u : List Int} (h : transB r u = true) {x : Int} (x0 : 0 ≤ x) (x1 : x < r.length) : rd (aroundL r u) x = rd (invL u) (rd (invL r) (rd u (rd r x))) := by
  obtain ⟨hr, hu, he, h0, _⟩ := transB_side h
  have l1 := invL_len hr
  have b1 := pm_in hr x0 x1
  have b2 := pm_in hu b1.1 (by omega)
  unfold aroundL
  rw [then_rd _ _ x0 (by rw [then_len]; exact x1), then_rd _ _ x0 x1, then_rd _ _ b2.1 (by omega)]
theorem spec_around {r u : List Int} (h : transB r u = true) : Ev (fun k => spec_l04Around.f k r u) (aroundL r u) := by
  obtain ⟨hr, hu, he, h0, _⟩ := transB_side h
  have l1 := invL_len hr
  have l2 := invL_len hu
  unfold spec_l04Around.f aroundL
  refine Ev.bind (spec_thn hr he) ?_
  refine Ev.bind (spec_inv hr) ?_
  refine Ev.bind (spec_inv hu) ?_
  refine Ev.bind (spec_thn (inv_perm hr) (by omega)) ?_
  refine Ev.bind (spec_thn (then_perm hr hu he) (by rw [then_len, then_len]; omega)) ?_
  exact Ev.now _
theorem impl_around {r u : List Int} (h : transB r u = true) : Ev (fun k => impl_AroundOf.f k r u) (aroundL r u) := by
  obtain ⟨hr, hu, he, h0, _⟩ := transB_side h
  have l1 := invL_len hr
  have l2 := invL_len hu
  unfold impl_AroundOf.f aroundL
  refine Ev.bind (impl_surfOk r u) ?_
  simp only [if_pos h]
  refine Ev.bind (impl_thn hr hu he) ?_
  refine Ev.bind (impl_inv hr) ?_
  refine Ev.bind (impl_inv hu) ?_
  refine Ev.bind (impl_thn (inv_perm hr) (inv_perm hu) (by omega)) ?_
  refine Ev.bind (impl_thn (then_perm hr hu he) (then_perm (inv_perm hr) (inv_perm hu) (by omega)) (by rw [then_len, then_len]; omega)) ?_
  exact Ev.now _
theorem spec_corners (r u : List Int) : Ev (fun k => spec_CornersOf.f k r u) (cornersL r u) := by
  unfold spec_CornersOf.f cornersL
  refine Ev.bind (spec_surfOk r u) ?_
  by_cases h : transB r u = true
  · simp only [if_pos h]
    refine Ev.bind (spec_around h) ?_
    refine Ev.bind (spec_cycles _) ?_
    exact Ev.now _
  · simp only [if_neg h]
    exact Ev.now _
theorem impl_corners (r u : List Int) : Ev (fun k => impl_CornersOf.f k r u) (cornersL r u) := by
  unfold impl_CornersOf.f cornersL
  refine Ev.bind (impl_surfOk r u) ?_
  by_cases h : transB r u = true
  · simp only [if_pos h]
    refine Ev.bind (impl_around h) ?_
    refine Ev.bind (impl_cycles _) ?_
    exact Ev.now _
  · simp only [if_neg h]
    exact Ev.now _

/-- A number in decimals. -/
def decB (u : Nat) : ByteArray := ⟨(Go.Lib.decDigits u).toArray⟩
def itoaB (n : Int) : ByteArray := ⟨(Go.Lib.itoa n).toArray⟩
theorem nDig_le : ∀ (d u : Nat), u < 10 ^ (d + 1) → Go.Lib.nDigits u ≤ d + 1
  | 0, u, h => by rw [Go.Lib.nDigits_small (by simpa using h)]; omega
  | d + 1, u, h => by
    by_cases hu : u < 10
    · rw [Go.Lib.nDigits_small hu]; omega
    · rw [Go.Lib.nDigits_big hu]
      have := nDig_le d (u / 10) (by rw [Nat.pow_succ] at h; omega)
      omega
theorem decB_size (u : Nat) : (decB u).size = Go.Lib.nDigits u := by
  show (Go.Lib.decDigits u).toArray.size = _
  rw [List.size_toArray, Go.Lib.decDigits_length]
theorem bytes_app (a b : List UInt8) : (⟨a.toArray⟩ : ByteArray) ++ ⟨b.toArray⟩ = ⟨(a ++ b).toArray⟩ := by
  apply ByteArray.ext
  rw [ByteArray.data_append]
  simp
theorem app_assocB (a b c : ByteArray) : a ++ b ++ c = a ++ (b ++ c) := by
  apply ByteArray.ext
  simp [ByteArray.data_append, Array.append_assoc]
theorem one_strB (n : Int) (u : Nat) (h : n = ((u : Nat) : Int)) : strOfNums [n] = ⟨[UInt8.ofNat u].toArray⟩ := by
  subst h
  simp [strOfNums]
theorem strOne_size (n : Int) : (strOfNums [n]).size = 1 := id rfl
theorem decB_small {u : Nat} (h : u < 10) : decB u = strOfNums [(48 + (u : Int))] := by
  rw [one_strB _ (48 + u) (by omega)]
  unfold decB
  rw [Go.Lib.decDigits, dif_pos h]
theorem decB_big {u : Nat} (h : ¬ u < 10) : decB u = decB (u / 10) ++ strOfNums [(48 + (u : Int) % 10)] := by
  rw [one_strB _ (48 + u % 10) (by omega)]
  unfold decB
  rw [bytes_app, Go.Lib.decDigits, dif_neg h]
theorem itoaB_pos {n : Int} (h : 0 ≤ n) : itoaB n = decB n.toNat := by
  unfold itoaB Go.Lib.itoa decB
  rw [if_neg (by omega)]
theorem itoaB_neg {n : Int} (h : n < 0) : itoaB n = (⟨#[45]⟩ : ByteArray) ++ decB n.natAbs := by
  unfold itoaB Go.Lib.itoa decB
  rw [if_pos h, show (⟨#[45]⟩ : ByteArray) = ⟨[45].toArray⟩ from rfl, bytes_app]
  rfl
theorem itoaB_size {n : Int} (h0 : -9223372036854775808 ≤ n) (h1 : n ≤ 9223372036854775807) : (itoaB n).size ≤ 20 := by
  by_cases h : 0 ≤ n
  · rw [itoaB_pos h, decB_size]
    have := nDig_le 18 n.toNat (by omega)
    omega
  · rw [itoaB_neg (by omega), ByteArray.size_append, decB_size]
    have := nDig_le 18 n.natAbs (by omega)
    show 1 + _ ≤ 20
    omega
theorem spec_fmt_l0 : ∀ (u : Nat) (x : Int) (acc : ByteArray), x = u → u < 10 ^ 19 → acc.size + Go.Lib.nDigits u ≤ 40 → Ev (fun k => spec_FormatInt.l0 k x acc) (decB u ++ acc) := by
  intro u
  induction u using Nat.strongRecOn with
  | _ u ih =>
    intro x acc hx hu hs
    subst hx
    refine ev_up ?_
    have h9 : (10 : Int) ^ 19 = 10000000000000000000 := by decide
    by_cases h : u < 10
    · have hw : (wrap64 (48 + (u : Int))) % 256 = 48 + (u : Int) := by rw [pw_wrap (by omega) (by omega)]; omega
      have hn := Go.Lib.nDigits_small h
      simp only [spec_FormatInt.l0, if_neg (show ¬ ((u : Int) > 9) by omega), hw, Option.bind_some, strOne_size, if_pos (show 1 + acc.size ≤ 9223372036854775807 by omega)]
      rw [decB_small h]
      exact Ev.now _
    · have ht : Int.tmod (u : Int) 10 = (u : Int) % 10 := Int.tmod_eq_emod_of_nonneg (by omega)
      have hq : Int.tdiv (u : Int) 10 = (u : Int) / 10 := Int.tdiv_eq_ediv_of_nonneg (by omega)
      have hw : (wrap64 (48 + (u : Int) % 10)) % 256 = 48 + (u : Int) % 10 := by rw [pw_wrap (by omega) (by omega)]; omega
      have hw2 : wrap64 ((u : Int) / 10) = ((u / 10 : Nat) : Int) := by rw [pw_wrap (by omega) (by omega)]; omega
      have hn := Go.Lib.nDigits_big h
      simp only [spec_FormatInt.l0, if_pos (show ((u : Int) > 9) by omega), ht, hq, hw, hw2, Option.bind_some, strOne_size, if_pos (show 1 + acc.size ≤ 9223372036854775807 by omega)]
      rw [decB_big h, app_assocB]
      exact ih (u / 10) (by omega) _ _ rfl (by omega) (by rw [ByteArray.size_append, strOne_size]; omega)
theorem spec_fmtint {n : Int} (h0 : -9223372036854775808 ≤ n) (h1 : n ≤ 9223372036854775807) : Ev (fun k => spec_FormatInt.f k n) (itoaB n) := by
  by_cases hn : 0 ≤ n
  · refine ev_up ?_
    simp only [spec_FormatInt.f, if_neg (show ¬ n < 0 by omega)]
    rw [itoaB_pos hn]
    have := spec_fmt_l0 n.toNat n ⟨#[]⟩ (by omega) (by omega) (by
      have := nDig_le 18 n.toNat (by omega)
      show 0 + _ ≤ 40
      omega)
    rw [show decB n.toNat ++ (⟨#[]⟩ : ByteArray) = decB n.toNat from by apply ByteArray.ext; simp [ByteArray.data_append]] at this
    exact this
  · have key : ∀ (u : Nat) (n : Int), n = -(u : Int) → 1 ≤ u → u ≤ 9223372036854775808 → Ev (fun k => spec_FormatInt.f k n) ((⟨#[45]⟩ : ByteArray) ++ decB u) := by
      intro u
      induction u using Nat.strongRecOn with
      | _ u ih =>
        intro n hx h1 h2
        subst hx
        refine ev_up ?_
        have hq : Int.tdiv (-(u : Int)) 10 = -((u / 10 : Nat) : Int) := by rw [Int.neg_tdiv, Int.tdiv_eq_ediv_of_nonneg (by omega)]; omega
        have ht : Int.tmod (-(u : Int)) 10 = -((u : Int) % 10) := by rw [Int.neg_tmod, Int.tmod_eq_emod_of_nonneg (by omega)]
        have hw2 : wrap64 (-((u / 10 : Nat) : Int)) = -((u / 10 : Nat) : Int) := pw_wrap (by omega) (by omega)
        by_cases h : u < 10
        · have hw : (wrap64 (48 - -(u : Int))) % 256 = 48 + (u : Int) := by rw [pw_wrap (by omega) (by omega)]; omega
          simp only [spec_FormatInt.f, if_pos (show -(u : Int) < 0 by omega), hq, hw2, hw, if_pos (show -((u / 10 : Nat) : Int) = 0 by omega), Option.bind_some, strOne_size, if_pos (show 1 + 1 ≤ 9223372036854775807 by omega)]
          rw [decB_small h]
          exact Ev.now _
        · have hw : (wrap64 (48 - -((u : Int) % 10))) % 256 = 48 + (u : Int) % 10 := by rw [pw_wrap (by omega) (by omega)]; omega
          simp only [spec_FormatInt.f, if_pos (show -(u : Int) < 0 by omega), hq, ht, hw2, hw, if_neg (show ¬ -((u / 10 : Nat) : Int) = 0 by omega)]
          refine Ev.bind (ih (u / 10) (by omega) _ rfl (by omega) (by omega)) ?_
          have hz : ((⟨#[45]⟩ : ByteArray) ++ decB (u / 10)).size ≤ 20 := by
            rw [ByteArray.size_append, decB_size]
            have := nDig_le 18 (u / 10) (by omega)
            show 1 + _ ≤ 20
            omega
          simp only [Option.bind_some, strOne_size, if_pos (show ((⟨#[45]⟩ : ByteArray) ++ decB (u / 10)).size + 1 ≤ 9223372036854775807 by omega)]
          rw [decB_big h, ← app_assocB]
          exact Ev.now _
    rw [itoaB_neg (by omega)]
    exact key n.natAbs n (by omega) (by omega) (by omega)
theorem impl_fmtint {n : Int} (h0 : -9223372036854775808 ≤ n) (h1 : n ≤ 9223372036854775807) : impl_FormatInt.f n = some (itoaB n) := by
  unfold impl_FormatInt.f strconv_Itoa.f
  rw [if_pos ⟨h0, h1⟩]
  rfl
def joinOf (l : List ByteArray) (sep : ByteArray) : ByteArray := ⟨(joinB l sep).toArray⟩
def tot (l : List ByteArray) (sep : ByteArray) : Nat := match l with
  | [] => 0
  | x :: xs => x.size + sep.size + tot xs sep
theorem tot_append (sep : ByteArray) : ∀ (a b : List ByteArray), tot (a ++ b) sep = tot a sep + tot b sep
  | [], b => by simp [tot]
  | x :: a, b => by simp only [List.cons_append, tot, tot_append sep a b]; omega
theorem join_two (sep a : List UInt8) (xs : List (List UInt8)) (h : xs ≠ []) : Go.Lib.join (a :: xs) sep = a ++ sep ++ Go.Lib.join xs sep := by
  cases xs with
  | nil => exact absurd rfl h
  | cons b t => simp [Go.Lib.join, List.intercalate]
theorem join_snoc (sep x : List UInt8) : ∀ (xs : List (List UInt8)), xs ≠ [] → Go.Lib.join (xs ++ [x]) sep = Go.Lib.join xs sep ++ sep ++ x
  | [], h => absurd rfl h
  | [a], _ => by simp [Go.Lib.join, List.intercalate]
  | a :: b :: t, _ => by
    rw [List.cons_append, join_two sep a _ (by simp), join_snoc sep x (b :: t) (by simp), join_two sep a (b :: t) (by simp)]
    simp [List.append_assoc]
theorem bytes_self (x : ByteArray) : (⟨x.data.toList.toArray⟩ : ByteArray) = x := by
  apply ByteArray.ext
  simp
theorem joinOf_nil (sep : ByteArray) : joinOf [] sep = ⟨#[]⟩ := by simp [joinOf, joinB, Go.Lib.join, List.intercalate]
theorem joinOf_one (x sep : ByteArray) : joinOf [x] sep = x := by
  simp [joinOf, joinB, Go.Lib.join, List.intercalate]
theorem joinOf_snoc (l : List ByteArray) (x sep : ByteArray) (h : l ≠ []) : joinOf (l ++ [x]) sep = joinOf l sep ++ sep ++ x := by
  unfold joinOf joinB
  rw [List.map_append, List.map_cons, List.map_nil, join_snoc _ _ _ (by simpa using h), ← bytes_app, ← bytes_app, bytes_self, bytes_self]
theorem joinOf_size (sep : ByteArray) : ∀ (l : List ByteArray), (joinOf l sep).size ≤ tot l sep
  | [] => by rw [joinOf_nil]; exact Nat.zero_le _
  | [x] => by rw [joinOf_one]; simp only [tot]; omega
  | x :: y :: l => by
    have h : joinOf (x :: y :: l) sep = x ++ sep ++ joinOf (y :: l) sep := by
      unfold joinOf joinB
      rw [List.map_cons, join_two _ _ _ (by simp), ← bytes_app, ← bytes_app, bytes_self, bytes_self]
    rw [h, ByteArray.size_append, ByteArray.size_append]
    have := joinOf_size sep (y :: l)
    rw [tot]
    omega
theorem rdOf_mid (d : ByteArray) (pre suf : List ByteArray) (x : ByteArray) : rdOf d (pre ++ x :: suf) (pre.length : Int) = x := by
  simp [rdOf, List.getD]
theorem spec_join_l0 (sep : ByteArray) (l : List ByteArray) (hl : l.length ≤ 1000000000000) (ht : tot l sep ≤ 1000000000000) : ∀ (suf pre : List ByteArray), l = pre ++ suf → Ev (fun k => spec_Join.l0 k sep (joinOf pre sep) l (l.length : Int) (pre.length : Int)) (joinOf l sep)
  | [], pre, e => by
    refine ev_up ?_
    have e2 : l = pre := by simpa using e
    subst e2
    simp only [spec_Join.l0, if_neg (show ¬ ((l.length : Int) < l.length) by omega)]
    exact Ev.now _
  | x :: suf, pre, e => by
    refine ev_up ?_
    have hlen : l.length = pre.length + suf.length + 1 := by rw [e]; simp; omega
    have htt : tot l sep = tot pre sep + (x.size + sep.size + tot suf sep) := by rw [e, tot_append]; simp only [tot]
    have hs := joinOf_size sep pre
    have hx : rdOf ByteArray.empty l (pre.length : Int) = x := by rw [e]; exact rdOf_mid _ _ _ _
    have hw : wrap64 ((pre.length : Int) + 1) = ((pre ++ [x]).length : Int) := by rw [pw_wrap (by omega) (by omega)]; simp
    have ih := spec_join_l0 sep l hl ht suf (pre ++ [x]) (by simp [e])
    simp only [spec_Join.l0, if_pos (show ((pre.length : Int) < l.length) by omega), if_pos (show (0 ≤ (pre.length : Int)) by omega), hx, hw]
    by_cases hp : pre = []
    · subst hp
      rw [List.nil_append, joinOf_one] at ih
      have hz : (joinOf [] sep).size = 0 := by rw [joinOf_nil]; rfl
      refine Ev.congr (f := fun k => _) (fun k => (if_neg (show ¬ (((([] : List ByteArray).length : Nat) : Int) > 0) by simp)).trans (if_pos (by omega))) ?_
      rw [joinOf_nil, show (⟨#[]⟩ : ByteArray) ++ x = x from by apply ByteArray.ext; simp [ByteArray.data_append]]
      exact ih
    · have hpl : 0 < pre.length := List.length_pos_iff.2 hp
      rw [joinOf_snoc _ _ _ hp] at ih
      refine Ev.congr (f := fun k => _) (fun k => ((if_pos (show (pre.length : Int) > 0 by omega)).trans (if_pos (by omega))).trans (if_pos (by rw [ByteArray.size_append]; omega))) ?_
      exact ih
theorem spec_join (sep : ByteArray) (l : List ByteArray) (hl : l.length ≤ 1000000000000) (ht : tot l sep ≤ 1000000000000) : Ev (fun k => spec_Join.f k l sep) (joinOf l sep) := by
  unfold spec_Join.f
  have := spec_join_l0 sep l hl ht l [] rfl
  rw [joinOf_nil] at this
  exact this
theorem impl_join (sep : ByteArray) (l : List ByteArray) (hl : l.length ≤ 1000000000000) (ht : tot l sep ≤ 1000000000000) : impl_Join.f l sep = some (joinOf l sep) := by
  unfold impl_Join.f strings_Join.f
  have hs : (joinB l sep).length ≤ tot l sep := by
    have := joinOf_size sep l
    exact this
  rw [if_pos ⟨by omega, by omega⟩]
  rfl

def Ints64 (l : List Int) : Prop := ∀ x ∈ l, -9223372036854775808 ≤ x ∧ x ≤ 9223372036854775807
theorem tot_ints (sep : ByteArray) (hs : sep.size = 1) : ∀ (l : List Int), Ints64 l → tot (l.map itoaB) sep ≤ 21 * l.length
  | [], _ => by simp [tot]
  | x :: l, h => by
    have h1 := tot_ints sep hs l (fun y hy => h y (List.mem_cons_of_mem _ hy))
    have h2 := h x List.mem_cons_self
    have h3 := itoaB_size h2.1 h2.2
    simp only [List.map_cons, tot, List.length_cons]
    omega
theorem spec_ints_l0 (sep : ByteArray) (hs : sep.size = 1) (l : List Int) (hl : l.length ≤ 1048576) (h : Ints64 l) : ∀ (suf pre : List Int), l = pre ++ suf → Ev (fun k => spec_l17Ints.l0 k sep (pre.map itoaB) l (l.length : Int) (pre.length : Int)) (joinOf (l.map itoaB) sep)
  | [], pre, e => by
    refine ev_up ?_
    have e2 : l = pre := by simpa using e
    subst e2
    simp only [spec_l17Ints.l0, if_neg (show ¬ ((l.length : Int) < l.length) by omega)]
    have := tot_ints sep hs l h
    refine Ev.bind (spec_join sep (l.map itoaB) (by rw [List.length_map]; omega) (by omega)) ?_
    exact Ev.now _
  | x :: suf, pre, e => by
    refine ev_up ?_
    have hlen : l.length = pre.length + suf.length + 1 := by rw [e]; simp; omega
    have hx : rd l (pre.length : Int) = x := by rw [e]; exact rd_mid _ _ _
    have hxm := h x (by rw [e]; simp)
    have hw : wrap64 ((pre.length : Int) + 1) = ((pre ++ [x]).length : Int) := by rw [pw_wrap (by omega) (by omega)]; simp
    have ih := spec_ints_l0 sep hs l hl h suf (pre ++ [x]) (by simp [e])
    simp only [spec_l17Ints.l0, if_pos (show ((pre.length : Int) < l.length) by omega), if_pos (show (0 ≤ (pre.length : Int)) by omega), hx, hw]
    refine Ev.bind (spec_fmtint hxm.1 hxm.2) ?_
    refine Ev.congr (f := fun k => _) (fun k => if_pos (by rw [List.length_map]; omega)) ?_
    rw [List.map_append] at ih
    exact ih
theorem spec_ints (sep : ByteArray) (hs : sep.size = 1) (l : List Int) (hl : l.length ≤ 1048576) (h : Ints64 l) : Ev (fun k => spec_l17Ints.f k l sep) (joinOf (l.map itoaB) sep) := by
  unfold spec_l17Ints.f
  exact spec_ints_l0 sep hs l hl h l [] rfl
theorem impl_ints_l0 (sep : ByteArray) (hs : sep.size = 1) (l : List Int) (hl : l.length ≤ 1048576) (h : Ints64 l) : ∀ (suf pre : List Int), l = pre ++ suf → Ev (fun k => impl_joinInts.l0 k sep (pre.map itoaB) l (l.length : Int) (pre.length : Int)) (joinOf (l.map itoaB) sep)
  | [], pre, e => by
    refine ev_up ?_
    have e2 : l = pre := by simpa using e
    subst e2
    have := tot_ints sep hs l h
    simp only [impl_joinInts.l0, if_neg (show ¬ ((l.length : Int) < l.length) by omega), impl_join sep (l.map itoaB) (by rw [List.length_map]; omega) (by omega), Option.bind_some]
    exact Ev.now _
  | x :: suf, pre, e => by
    refine ev_up ?_
    have hlen : l.length = pre.length + suf.length + 1 := by rw [e]; simp; omega
    have hx : rd l (pre.length : Int) = x := by rw [e]; exact rd_mid _ _ _
    have hxm := h x (by rw [e]; simp)
    have hw : wrap64 ((pre.length : Int) + 1) = ((pre ++ [x]).length : Int) := by rw [pw_wrap (by omega) (by omega)]; simp
    have ih := impl_ints_l0 sep hs l hl h suf (pre ++ [x]) (by simp [e])
    simp only [impl_joinInts.l0, if_pos (show ((pre.length : Int) < l.length) by omega), if_pos (show (0 ≤ (pre.length : Int)) by omega), hx, hw, impl_fmtint hxm.1 hxm.2, Option.bind_some]
    refine Ev.congr (f := fun k => _) (fun k => if_pos (by rw [List.length_map]; omega)) ?_
    rw [List.map_append] at ih
    exact ih
theorem impl_ints (sep : ByteArray) (hs : sep.size = 1) (l : List Int) (hl : l.length ≤ 1048576) (h : Ints64 l) : Ev (fun k => impl_joinInts.f k l sep) (joinOf (l.map itoaB) sep) := by
  unfold impl_joinInts.f
  exact impl_ints_l0 sep hs l hl h l [] rfl
/-! Fixed points of a half turn. -/
def fx (out : List Int) (j : Nat) (c : Prop) [Decidable c] : List Int := if c then out.set j (wrap64 (rd out (j : Int) + 1)) else out
theorem fx_len (out : List Int) (j : Nat) (c : Prop) [Decidable c] : (fx out j c).length = out.length := by
  unfold fx
  split <;> simp
def fixGo (r u a : List Int) : Nat → Int → List Int → List Int
  | 0, _, out => out
  | d + 1, i, out => fixGo r u a d (i + 1) (fx (fx (fx out 0 (rd a i = i)) 1 (rd a i = rd r i)) 2 (rd a i = rd u i))
theorem fixGo_len (r u a : List Int) : ∀ (d : Nat) (i : Int) (out : List Int), (fixGo r u a d i out).length = out.length
  | 0, _, _ => rfl
  | d + 1, i, out => by rw [fixGo, fixGo_len r u a d, fx_len, fx_len, fx_len]
theorem wrap64_in (x : Int) : -9223372036854775808 ≤ wrap64 x ∧ wrap64 x ≤ 9223372036854775807 := by
  unfold wrap64
  omega
theorem fx_ints {out : List Int} (h : Ints64 out) (j : Nat) (c : Prop) [Decidable c] : Ints64 (fx out j c) := by
  unfold fx
  split
  · intro x hx
    rcases List.mem_or_eq_of_mem_set hx with hx | rfl
    · exact h x hx
    · exact wrap64_in _
  · exact h
theorem fixGo_ints (r u a : List Int) : ∀ (d : Nat) (i : Int) (out : List Int), Ints64 out → Ints64 (fixGo r u a d i out)
  | 0, _, _, h => h
  | d + 1, i, out, h => fixGo_ints r u a d (i + 1) _ (fx_ints (fx_ints (fx_ints h _ _) _ _) _ _)
theorem spec_fix_l0 {r u a : List Int} {n : Nat} (hn : n ≤ 24) (hr : r.length = n) (hu : u.length = n) (ha : a.length = n) (hR : isPerm r) (hU : isPerm u) {cyc : List (List Int)} (hc : Ev (fun k => spec_CornersOf.f k r u) cyc) (fin : List Int → List Int × Bool)
    (hf : ∀ out : List Int, out.length = 4 → Ev (fun k => spec_FixedPoints.l1 k a out (invL r) (invL u) cyc (cyc.length : Int) 0) (fin out)) : ∀ (d : Nat) (i : Int) (out : List Int), 0 ≤ i → i + d = n → out.length = 4 →
    Ev (fun k => spec_FixedPoints.l0 k a out a (n : Int) i r u) (fin (fixGo r u a d i out))
  | 0, i, out, i0, hi, ho => by
    refine ev_up ?_
    simp only [spec_FixedPoints.l0, if_neg (show ¬ i < (n : Int) by omega)]
    refine Ev.bind (spec_inv hR) ?_
    refine Ev.bind (spec_inv hU) ?_
    refine Ev.bind hc ?_
    exact hf out ho
  | d + 1, i, out, i0, hi, ho => by
    have i1 : i < n := by omega
    have hw : wrap64 (i + 1) = i + 1 := pw_wrap (by omega) (by omega)
    rw [fixGo]
    have ih := spec_fix_l0 hn hr hu ha hR hU hc fin hf d (i + 1) (fx (fx (fx out 0 (rd a i = i)) 1 (rd a i = rd r i)) 2 (rd a i = rd u i)) (by omega) (by omega) (by rw [fx_len, fx_len, fx_len]; exact ho)
    have l1 : (fx out 0 (rd a i = i)).length = 4 := by rw [fx_len]; exact ho
    have st : Ev (fun k => spec_FixedPoints.j1 k a (fx out 0 (rd a i = i)) i (rd a i) a (n : Int) i r u) (fin (fixGo r u a d (i + 1) (fx (fx (fx out 0 (rd a i = i)) 1 (rd a i = rd r i)) 2 (rd a i = rd u i)))) := by
      generalize fx out 0 (rd a i = i) = o1 at *
      refine ev_up ?_
      simp only [spec_FixedPoints.j1, if_pos i0, if_pos (show i < (r.length : Int) by omega), if_pos (show i < (u.length : Int) by omega), hw, l1, if_pos (show (1 : Int) < ((4 : Nat) : Int) by decide), if_pos (show (2 : Int) < ((4 : Nat) : Int) by decide), Option.bind_some]
      unfold fx at ih ⊢
      by_cases c1 : rd a i = rd r i
      · by_cases c2 : rd a i = rd u i
        · simp only [if_pos c1, if_pos c2] at ih ⊢
          exact ih
        · simp only [if_pos c1, if_neg c2] at ih ⊢
          exact ih
      · by_cases c2 : rd a i = rd u i
        · simp only [if_neg c1, if_pos c2] at ih ⊢
          exact ih
        · simp only [if_neg c1, if_neg c2] at ih ⊢
          exact ih
    refine ev_up ?_
    simp only [spec_FixedPoints.l0, if_pos i1, if_pos i0, if_pos (show i < (a.length : Int) by omega), ho, if_pos (show (0 : Int) < ((4 : Nat) : Int) by decide)]
    by_cases c0 : rd a i = i
    · rw [show fx out 0 (rd a i = i) = out.set 0 (wrap64 (rd out 0 + 1)) from if_pos c0] at st ⊢
      simp only [if_pos c0]
      exact st
    · rw [show fx out 0 (rd a i = i) = out from if_neg c0] at st ⊢
      simp only [if_neg c0]
      exact st
theorem impl_fix_l0 {r u a : List Int} {n : Nat} (hn : n ≤ 24) (hr : r.length = n) (hu : u.length = n) (ha : a.length = n) (hR : isPerm r) (hU : isPerm u) {cyc : List (List Int)} (hc : Ev (fun k => impl_CornersOf.f k r u) cyc) (fin : List Int → List Int × Bool)
    (hf : ∀ out : List Int, out.length = 4 → Ev (fun k => impl_FixedPoints.l1 k a out (invL r) (invL u) (List.replicate n 0) cyc cyc (cyc.length : Int) 0) (fin out)) : ∀ (d : Nat) (i : Int) (out : List Int), 0 ≤ i → i + d = n → out.length = 4 →
    Ev (fun k => impl_FixedPoints.l0 k a out a (n : Int) i r u) (fin (fixGo r u a d i out))
  | 0, i, out, i0, hi, ho => by
    refine ev_up ?_
    simp only [impl_FixedPoints.l0, if_neg (show ¬ i < (n : Int) by omega)]
    refine Ev.bind (impl_inv hR) ?_
    refine Ev.bind (impl_inv hU) ?_
    simp only [ha, if_pos (Int.natCast_nonneg n), Int.toNat_natCast, if_pos (show n ≤ 35184372088832 by omega)]
    refine Ev.bind hc ?_
    exact hf out ho
  | d + 1, i, out, i0, hi, ho => by
    have i1 : i < n := by omega
    have hw : wrap64 (i + 1) = i + 1 := pw_wrap (by omega) (by omega)
    rw [fixGo]
    have ih := impl_fix_l0 hn hr hu ha hR hU hc fin hf d (i + 1) (fx (fx (fx out 0 (rd a i = i)) 1 (rd a i = rd r i)) 2 (rd a i = rd u i)) (by omega) (by omega) (by rw [fx_len, fx_len, fx_len]; exact ho)
    have l1 : (fx out 0 (rd a i = i)).length = 4 := by rw [fx_len]; exact ho
    have st : Ev (fun k => impl_FixedPoints.j1 k a (fx out 0 (rd a i = i)) i (rd a i) a (n : Int) i r u) (fin (fixGo r u a d (i + 1) (fx (fx (fx out 0 (rd a i = i)) 1 (rd a i = rd r i)) 2 (rd a i = rd u i)))) := by
      generalize fx out 0 (rd a i = i) = o1 at *
      refine ev_up ?_
      simp only [impl_FixedPoints.j1, if_pos i0, if_pos (show i < (r.length : Int) by omega), if_pos (show i < (u.length : Int) by omega), hw, l1, if_pos (show (1 : Int) < ((4 : Nat) : Int) by decide), if_pos (show (2 : Int) < ((4 : Nat) : Int) by decide), Option.bind_some]
      unfold fx at ih ⊢
      by_cases c1 : rd a i = rd r i
      · by_cases c2 : rd a i = rd u i
        · simp only [if_pos c1, if_pos c2] at ih ⊢
          exact ih
        · simp only [if_pos c1, if_neg c2] at ih ⊢
          exact ih
      · by_cases c2 : rd a i = rd u i
        · simp only [if_neg c1, if_pos c2] at ih ⊢
          exact ih
        · simp only [if_neg c1, if_neg c2] at ih ⊢
          exact ih
    refine ev_up ?_
    simp only [impl_FixedPoints.l0, if_pos i1, if_pos i0, if_pos (show i < (a.length : Int) by omega), ho, if_pos (show (0 : Int) < ((4 : Nat) : Int) by decide)]
    by_cases c0 : rd a i = i
    · rw [show fx out 0 (rd a i = i) = out.set 0 (wrap64 (rd out 0 + 1)) from if_pos c0] at st ⊢
      simp only [if_pos c0]
      exact st
    · rw [show fx out 0 (rd a i = i) = out from if_neg c0] at st ⊢
      simp only [if_neg c0]
      exact st
/-- Where a corner goes. -/
def phi (r u a : List Int) (y : Int) : Int := rd (invL u) (rd (invL r) (rd a y))
theorem phi_in {r u a : List Int} (h : transB r u = true) (ht : IsT r u a) {y : Int} (y0 : 0 ≤ y) (y1 : y < r.length) : (0 ≤ rd a y ∧ rd a y < r.length) ∧ (0 ≤ rd (invL r) (rd a y) ∧ rd (invL r) (rd a y) < r.length) ∧ (0 ≤ phi r u a y ∧ phi r u a y < r.length) := by
  obtain ⟨hr, hu, he, h0, _⟩ := transB_side h
  have b1 := pm_in ht.1 y0 (by have := ht.2.1; omega)
  have l := ht.2.1
  have b2 := inv_right hr b1.1 (by omega)
  have b3 := inv_right hu b2.2.1 (by omega)
  exact ⟨⟨b1.1, by omega⟩, b2.2, b3.2.1, by have := b3.2.2; show rd (invL u) (rd (invL r) (rd a y)) < _; omega⟩
theorem phi_around {r u a : List Int} (h : transB r u = true) (ht : IsT r u a) {x : Int} (x0 : 0 ≤ x) (x1 : x < r.length) : phi r u a (rd (aroundL r u) x) = rd (aroundL r u) (phi r u a x) := by
  obtain ⟨hr, hu, he, h0, _⟩ := transB_side h
  obtain ⟨t1, t2, t3⟩ := ht
  have ht : IsT r u a := ⟨t1, t2, t3⟩
  have lr := invL_len hr
  have lu := invL_len hu
  have aL : ∀ z : Int, 0 ≤ z → z < r.length → rd a (rd (invL r) z) = rd r (rd a z) := fun z z0 z1 => by
    have b := inv_right hr z0 z1
    have e := (t3 _ b.2.1 b.2.2).1
    rw [b.1] at e
    have c := pm_in t1 b.2.1 (by omega)
    rw [e, (inv_right hr c.1 (by omega)).1]
  have aD : ∀ z : Int, 0 ≤ z → z < r.length → rd a (rd (invL u) z) = rd u (rd a z) := fun z z0 z1 => by
    have b := inv_right hu z0 (by omega)
    have e := (t3 _ b.2.1 (by omega)).2
    rw [b.1] at e
    have c := pm_in t1 b.2.1 (by omega)
    rw [e, (inv_right hu c.1 (by omega)).1]
  have b1 := pm_in hr x0 x1
  have b2 := pm_in hu b1.1 (by omega)
  have b3 := pm_in (inv_perm hr) b2.1 (by omega)
  have p := phi_in h ht x0 x1
  rw [around_rd h x0 x1, around_rd h p.2.2.1 p.2.2.2]
  unfold phi
  rw [aD _ b3.1 (by omega), aL _ b2.1 (by omega), (t3 _ b1.1 b1.2).2, (t3 x x0 x1).1]
def cornStep (r u a : List Int) (out c : List Int) : List Int := fx out 3 (phi r u a (rd c 0) ∈ c)
theorem corn_len (r u a : List Int) : ∀ (cyc : List (List Int)) (out : List Int), (cyc.foldl (cornStep r u a) out).length = out.length
  | [], _ => rfl
  | c :: cyc, out => by
    rw [List.foldl_cons, corn_len r u a cyc]
    exact fx_len _ _ _
theorem corn_ints (r u a : List Int) : ∀ (cyc : List (List Int)) (out : List Int), Ints64 out → Ints64 (cyc.foldl (cornStep r u a) out)
  | [], _, h => h
  | c :: cyc, out, h => by
    rw [List.foldl_cons]
    exact corn_ints r u a cyc _ (fx_ints h _ _)
/-- What is asked of the corners. -/
structure CC (r u : List Int) (cyc : List (List Int)) : Prop where
  few : Few r.length cyc.flatten
  all : ∀ x : Int, 0 ≤ x → x < r.length → x ∈ cyc.flatten
  each : ∀ c ∈ cyc, Cyc (aroundL r u) c
  len : cyc.length ≤ 24
  good : ∀ c ∈ cyc, GoodC c
theorem corners_CC {r u : List Int} (h : transB r u = true) : CC r u (cornersL r u) := by
  have hp := around_perm h
  have hf := cycles_facts hp.1
  have hb := cyclesOf_bd (aroundL r u)
  rw [hp.2] at hf
  unfold cornersL
  rw [if_pos h]
  exact ⟨hf.1, hf.2.1, hf.2.2, hb.2, hb.1⟩
theorem CC.bd {r u : List Int} {cyc : List (List Int)} (h : CC r u cyc) {c : List Int} (hc : c ∈ cyc) {y : Int} (hy : y ∈ c) : 0 ≤ y ∧ y < r.length := h.few.2 y (List.mem_flatten.2 ⟨c, hc, hy⟩)
theorem rd_zero_mem {c : List Int} (h : 0 < c.length) : rd c 0 ∈ c := by
  cases c with
  | nil => exact absurd h (by simp)
  | cons x c => simp [rd]
theorem rdL_midF (pre suf : List (List Int)) (x : List Int) : rd_L1 (pre ++ x :: suf) (pre.length : Int) = x := by simp [rd_L1, List.getD]
theorem spec_fix_l1 {r u a : List Int} (h : transB r u = true) (ht : IsT r u a) {cyc : List (List Int)} (hC : CC r u cyc) : ∀ (suf pre : List (List Int)) (out : List Int), cyc = pre ++ suf → out.length = 4 →
    Ev (fun k => spec_FixedPoints.l1 k a out (invL r) (invL u) cyc (cyc.length : Int) (pre.length : Int)) (suf.foldl (cornStep r u a) out, true)
  | [], pre, out, e, ho => by
    have e2 : cyc = pre := by simpa using e
    subst e2
    refine ev_up ?_
    simp only [spec_FixedPoints.l1, if_neg (show ¬ ((cyc.length : Int) < cyc.length) by omega)]
    exact Ev.now _
  | c :: suf, pre, out, e, ho => by
    obtain ⟨hr, hu, he, h0, _⟩ := transB_side h
    have hcm : c ∈ cyc := by rw [e]; simp
    have hlen : cyc.length = pre.length + suf.length + 1 := by rw [e]; simp; omega
    have hl24 := hC.len
    have hx : rd_L1 cyc (pre.length : Int) = c := by rw [e]; exact rdL_midF _ _ _
    have hw : wrap64 ((pre.length : Int) + 1) = ((pre ++ [c]).length : Int) := by rw [pw_wrap (by omega) (by omega)]; simp
    have hc := hC.each c hcm
    have hz := rd_zero_mem hc.ne
    have zb := hC.bd hcm hz
    have pb := phi_in h ht zb.1 zb.2
    have hg := hC.good c hcm
    have l1 := invL_len hr
    have l2 := invL_len hu
    have la := ht.2.1
    have ih := spec_fix_l1 h ht hC suf (pre ++ [c]) (cornStep r u a out c) (by simp [e]) (by rw [cornStep, fx_len]; exact ho)
    refine ev_up ?_
    simp only [spec_FixedPoints.l1, if_pos (show ((pre.length : Int) < cyc.length) by omega), if_pos (Int.natCast_nonneg pre.length), hx, hw, if_pos (show 0 < (c.length : Int) by have := hc.ne; omega), if_pos zb.1, if_pos (show rd c 0 < (a.length : Int) by omega), if_pos pb.1.1, if_pos (show rd a (rd c 0) < ((invL r).length : Int) by omega), if_pos pb.2.1.1, if_pos (show rd (invL r) (rd a (rd c 0)) < ((invL u).length : Int) by omega), ho, if_pos (show (3 : Int) < ((4 : Nat) : Int) by decide)]
    rw [List.foldl_cons]
    refine Ev.bind (spec_has c (by have := hg.2; omega) (phi r u a (rd c 0))) ?_
    unfold cornStep fx at ih
    by_cases m : phi r u a (rd c 0) ∈ c
    · simp only [if_pos m] at ih
      simp only [decide_eq_true m, if_true, cornStep, fx, if_pos m]
      exact ih
    · simp only [if_neg m] at ih
      simp only [decide_eq_false m, Bool.false_eq_true, if_false, cornStep, fx, if_neg m]
      exact ih
/-! The program's: the number of each square's corner. -/
def fillC (k : Int) (c cor : List Int) : List Int := c.foldl (fun cor y => cor.set y.toNat k) cor
theorem fill_len (k : Int) : ∀ (c cor : List Int), (fillC k c cor).length = cor.length
  | [], _ => rfl
  | y :: c, cor => by
    show (fillC k c (cor.set y.toNat k)).length = _
    rw [fill_len k c, List.length_set]
theorem fill_rd (k : Int) : ∀ (c cor : List Int), (∀ y ∈ c, 0 ≤ y ∧ y < (cor.length : Int)) → ∀ z : Int, 0 ≤ z → (z ∈ c → rd (fillC k c cor) z = k) ∧ (z ∉ c → rd (fillC k c cor) z = rd cor z)
  | [], cor, _, z, _ => ⟨fun h => absurd h (by simp), fun _ => rfl⟩
  | y :: c, cor, hb, z, z0 => by
    have yb := hb y List.mem_cons_self
    have ih := fill_rd k c (cor.set y.toNat k) (fun x hx => by rw [List.length_set]; exact hb x (List.mem_cons_of_mem _ hx)) z z0
    have e : fillC k (y :: c) cor = fillC k c (cor.set y.toNat k) := rfl
    rw [e]
    refine ⟨fun hz => ?_, fun hz => ?_⟩
    · by_cases hc : z ∈ c
      · exact ih.1 hc
      · rcases List.mem_cons.1 hz with rfl | hz
        · rw [ih.2 hc]
          exact rdS_same yb.1 yb.2
        · exact absurd hz hc
    · rw [ih.2 (fun hc => hz (List.mem_cons_of_mem _ hc))]
      exact rdS_ne yb.1 z0 (fun ez => hz (ez ▸ List.mem_cons_self))
def Filled (pre : List (List Int)) (cor : List Int) : Prop := ∀ p1 c p2, pre = p1 ++ c :: p2 → ∀ y ∈ c, rd cor y = p1.length
theorem impl_fix_l2 {a out p q : List Int} {cyc : List (List Int)} (k0 i : Int) (hi : 0 ≤ i ∧ i ≤ 1000) (res : List Int × Bool) (c : List Int) (hl : c.length ≤ 1000) : ∀ (suf pre cor : List Int), c = pre ++ suf → (∀ y ∈ c, 0 ≤ y ∧ y < (cor.length : Int)) →
    Ev (fun k => impl_FixedPoints.l1 k a out p q (fillC k0 suf cor) cyc cyc (cyc.length : Int) (i + 1)) res →
    Ev (fun k => impl_FixedPoints.l2 k a out p q cor cyc k0 cyc (cyc.length : Int) i c (c.length : Int) (pre.length : Int)) res
  | [], pre, cor, e, hb, hr => by
    have e2 : c = pre := by simpa using e
    subst e2
    refine ev_up ?_
    simp only [impl_FixedPoints.l2, if_neg (show ¬ ((c.length : Int) < c.length) by omega), pw_wrap (a := i + 1) (by omega) (by omega)]
    exact hr
  | y :: suf, pre, cor, e, hb, hr => by
    have hlen : c.length = pre.length + suf.length + 1 := by rw [e]; simp; omega
    have hx : rd c (pre.length : Int) = y := by rw [e]; exact rd_mid _ _ _
    have hw : wrap64 ((pre.length : Int) + 1) = ((pre ++ [y]).length : Int) := by rw [pw_wrap (by omega) (by omega)]; simp
    have yb := hb y (by rw [e]; simp)
    refine ev_up ?_
    simp only [impl_FixedPoints.l2, if_pos (show ((pre.length : Int) < c.length) by omega), if_pos (Int.natCast_nonneg pre.length), hx, hw, if_pos yb.1, if_pos yb.2]
    exact impl_fix_l2 k0 i hi res c hl suf (pre ++ [y]) (cor.set y.toNat k0) (by simp [e]) (fun z hz => by rw [List.length_set]; exact hb z hz) hr
theorem impl_fix_l1 {r u a out : List Int} {cyc : List (List Int)} (hC : CC r u cyc) (res : List Int × Bool) (hf : ∀ cor : List Int, cor.length = r.length → Filled cyc cor → Ev (fun k => impl_FixedPoints.l3 k a out (invL r) (invL u) cor cyc (cyc.length : Int) 0) res) :
    ∀ (suf pre : List (List Int)) (cor : List Int), cyc = pre ++ suf → cor.length = r.length → Filled pre cor → Ev (fun k => impl_FixedPoints.l1 k a out (invL r) (invL u) cor cyc cyc (cyc.length : Int) (pre.length : Int)) res
  | [], pre, cor, e, hl, hF => by
    have e2 : cyc = pre := by simpa using e
    subst e2
    refine ev_up ?_
    simp only [impl_FixedPoints.l1, if_neg (show ¬ ((cyc.length : Int) < cyc.length) by omega)]
    exact hf cor hl hF
  | c :: suf, pre, cor, e, hl, hF => by
    have hcm : c ∈ cyc := by rw [e]; simp
    have hlen : cyc.length = pre.length + suf.length + 1 := by rw [e]; simp; omega
    have hl24 := hC.len
    have hx : rd_L1 cyc (pre.length : Int) = c := by rw [e]; exact rdL_midF _ _ _
    have hg := hC.good c hcm
    have cb : ∀ y ∈ c, 0 ≤ y ∧ y < (cor.length : Int) := fun y hy => by have := hC.bd hcm hy; omega
    refine ev_up ?_
    simp only [impl_FixedPoints.l1, if_pos (show ((pre.length : Int) < cyc.length) by omega), if_pos (Int.natCast_nonneg pre.length), hx]
    refine impl_fix_l2 (pre.length : Int) (pre.length : Int) ⟨by omega, by omega⟩ res c (by have := hg.2; omega) c [] cor rfl cb ?_
    have ih := impl_fix_l1 hC res hf suf (pre ++ [c]) (fillC (pre.length : Int) c cor) (by simp [e]) (by rw [fill_len]; exact hl) (fun p1 x p2 ep y hy => by
      have dis : ∀ p1' x' p2', pre = p1' ++ x' :: p2' → y ∈ x' → y ∉ c := fun p1' x' p2' ep' hy' hyc => by
        have hn := hC.few.1
        rw [e, ep'] at hn
        simp only [List.flatten_append, List.flatten_cons] at hn
        have h2 := (List.nodup_append.1 hn).2.2
        exact h2 y (List.mem_append_right _ (List.mem_append_left _ hy')) y (List.mem_append_left _ hyc) rfl
      rcases List.append_eq_append_iff.1 ep with ⟨s, e1, e2⟩ | ⟨s, e1, e2⟩
      · cases s with
        | nil =>
          simp only [List.nil_append] at e2
          simp only [List.append_nil] at e1
          obtain ⟨rfl, rfl⟩ := List.cons.inj e2
          subst e1
          have yb := cb y hy
          exact (fill_rd _ _ _ cb y yb.1).1 hy
        | cons z s => exact absurd (congrArg List.length e2) (by simp)
      · cases s with
        | nil =>
          simp only [List.nil_append] at e2
          simp only [List.append_nil] at e1
          obtain ⟨rfl, rfl⟩ := List.cons.inj e2.symm
          subst e1
          have yb := cb y hy
          exact (fill_rd _ _ _ cb y yb.1).1 hy
        | cons z s =>
          obtain ⟨rfl, e3⟩ := List.cons.inj e2
          have hym := dis p1 x s e1 hy
          have yb : 0 ≤ y := (hC.bd (show x ∈ cyc by rw [e, e1]; simp) hy).1
          rw [(fill_rd _ _ _ cb y yb).2 hym]
          exact hF p1 x s e1 y hy)
    rw [List.length_append] at ih
    simpa using ih
theorem filled_iff {r u : List Int} {cyc : List (List Int)} (hC : CC r u cyc) {cor : List Int} (hF : Filled cyc cor) {pre suf : List (List Int)} {c : List Int} (e : cyc = pre ++ c :: suf) {z : Int} (z0 : 0 ≤ z) (z1 : z < r.length) : rd cor z = pre.length ↔ z ∈ c := by
  constructor
  · intro hz
    obtain ⟨x, hx, hzx⟩ := List.mem_flatten.1 (hC.all z z0 z1)
    obtain ⟨p1, p2, e1⟩ := List.append_of_mem hx
    have h1 := hF p1 x p2 e1 z hzx
    have hl : p1.length = pre.length := by omega
    have e2 : p1 ++ x :: p2 = pre ++ c :: suf := e1.symm.trans e
    obtain ⟨_, e3⟩ := List.append_inj e2 hl
    obtain ⟨rfl, _⟩ := List.cons.inj e3
    exact hzx
  · exact hF pre c suf e z
theorem stays_iff {r u a : List Int} (h : transB r u = true) (ht : IsT r u a) {c : List Int} (hc : Cyc (aroundL r u) c) (cb : ∀ y ∈ c, 0 ≤ y ∧ y < (r.length : Int)) : (∀ y ∈ c, phi r u a y ∈ c) ↔ phi r u a (rd c 0) ∈ c := by
  have hz := rd_zero_mem hc.ne
  have zb := cb _ hz
  have hp := around_perm h
  refine ⟨fun hy => hy _ hz, fun h0 y hy => ?_⟩
  have all : ∀ m, phi r u a (iter (rd (aroundL r u)) m (rd c 0)) ∈ c := by
    intro m
    induction m with
    | zero => exact h0
    | succ m ih =>
      have b := iter_in hp.1 zb.1 (by rw [hp.2]; exact zb.2) m
      rw [hp.2] at b
      rw [iter_succ, phi_around h ht b.1 b.2]
      exact hc.fwd _ ih
  obtain ⟨m, rfl⟩ := hc.gen y hy
  exact all m
theorem impl_fix_l4 {r u a out cor : List Int} (h : transB r u = true) (ht : IsT r u a) {cyc : List (List Int)} (hl : cor.length = r.length) (k0 : Int) (c : List Int) (hcl : c.length ≤ 1000) (cb : ∀ y ∈ c, 0 ≤ y ∧ y < (r.length : Int)) (res : List Int × Bool) : ∀ (suf pre : List Int) (b : Bool), c = pre ++ suf → 0 ≤ k0 →
    (∀ b', b' = (b && decide (∀ y ∈ suf, rd cor (phi r u a y) = k0)) → Ev (fun k => impl_FixedPoints.l4 k a out (invL r) (invL u) cor k0 b' cyc (cyc.length : Int) k0 c (c.length : Int) (c.length : Int)) res) →
    Ev (fun k => impl_FixedPoints.l4 k a out (invL r) (invL u) cor k0 b cyc (cyc.length : Int) k0 c (c.length : Int) (pre.length : Int)) res
  | [], pre, b, e, hk, hr => by
    have e2 : c = pre := by simpa using e
    subst e2
    exact hr b (by simp)
  | y :: suf, pre, b, e, hk, hr => by
    obtain ⟨hR, hU, he, h0, _⟩ := transB_side h
    have hlen : c.length = pre.length + suf.length + 1 := by rw [e]; simp; omega
    have hx : rd c (pre.length : Int) = y := by rw [e]; exact rd_mid _ _ _
    have hw : wrap64 ((pre.length : Int) + 1) = ((pre ++ [y]).length : Int) := by rw [pw_wrap (by omega) (by omega)]; simp
    have yb := cb y (by rw [e]; simp)
    have pb := phi_in h ht yb.1 yb.2
    have l1 := invL_len hR
    have l2 := invL_len hU
    have la := ht.2.1
    refine ev_up ?_
    simp only [impl_FixedPoints.l4, if_pos (show ((pre.length : Int) < c.length) by omega), if_pos (Int.natCast_nonneg pre.length), hx, hw, if_pos yb.1, if_pos (show y < (a.length : Int) by omega), if_pos pb.1.1, if_pos (show rd a y < ((invL r).length : Int) by omega), if_pos pb.2.1.1, if_pos (show rd (invL r) (rd a y) < ((invL u).length : Int) by omega), if_pos (show 0 ≤ rd (invL u) (rd (invL r) (rd a y)) from pb.2.2.1), if_pos (show rd (invL u) (rd (invL r) (rd a y)) < (cor.length : Int) by have := pb.2.2.2; unfold phi at this; omega)]
    cases b with
    | true =>
      simp only [if_true]
      refine impl_fix_l4 h ht hl k0 c hcl cb res suf (pre ++ [y]) _ (by simp [e]) hk (fun b' hb' => hr b' ?_)
      rw [hb']
      have e3 : rd (invL u) (rd (invL r) (rd a y)) = phi r u a y := rfl
      rw [e3]
      by_cases q : rd cor (phi r u a y) = k0 <;> simp [q]
    | false =>
      simp only [Bool.false_eq_true, if_false]
      exact impl_fix_l4 h ht hl k0 c hcl cb res suf (pre ++ [y]) false (by simp [e]) hk (fun b' hb' => hr b' (by rw [hb']; simp))
theorem impl_fix_l3 {r u a cor : List Int} (h : transB r u = true) (ht : IsT r u a) {cyc : List (List Int)} (hC : CC r u cyc) (hl : cor.length = r.length) (hF : Filled cyc cor) : ∀ (suf pre : List (List Int)) (out : List Int), cyc = pre ++ suf → out.length = 4 →
    Ev (fun k => impl_FixedPoints.l3 k a out (invL r) (invL u) cor cyc (cyc.length : Int) (pre.length : Int)) (suf.foldl (cornStep r u a) out, true)
  | [], pre, out, e, ho => by
    have e2 : cyc = pre := by simpa using e
    subst e2
    refine ev_up ?_
    simp only [impl_FixedPoints.l3, if_neg (show ¬ ((cyc.length : Int) < cyc.length) by omega)]
    exact Ev.now _
  | c :: suf, pre, out, e, ho => by
    have hcm : c ∈ cyc := by rw [e]; simp
    have hlen : cyc.length = pre.length + suf.length + 1 := by rw [e]; simp; omega
    have hl24 := hC.len
    have hx : rd_L1 cyc (pre.length : Int) = c := by rw [e]; exact rdL_midF _ _ _
    have hw : wrap64 ((pre.length : Int) + 1) = ((pre ++ [c]).length : Int) := by rw [pw_wrap (by omega) (by omega)]; simp
    have hg := hC.good c hcm
    have cb : ∀ y ∈ c, 0 ≤ y ∧ y < (r.length : Int) := fun y hy => hC.bd hcm hy
    have ih := impl_fix_l3 h ht hC hl hF suf (pre ++ [c]) (cornStep r u a out c) (by simp [e]) (by rw [cornStep, fx_len]; exact ho)
    refine ev_up ?_
    simp only [impl_FixedPoints.l3, if_pos (show ((pre.length : Int) < cyc.length) by omega), if_pos (Int.natCast_nonneg pre.length), hx]
    rw [List.foldl_cons]
    refine impl_fix_l4 h ht hl (pre.length : Int) c (by have := hg.2; omega) cb _ c [] true rfl (by omega) (fun b' hb' => ?_)
    have eb : b' = decide (phi r u a (rd c 0) ∈ c) := by
      rw [hb', Bool.true_and]
      apply decide_eq_decide.2
      rw [← stays_iff h ht (hC.each c hcm) cb]
      constructor
      · intro hy y hyc
        have pb := phi_in h ht (cb y hyc).1 (cb y hyc).2
        exact (filled_iff hC hF e pb.2.2.1 pb.2.2.2).1 (hy y hyc)
      · intro hy y hyc
        have pb := phi_in h ht (cb y hyc).1 (cb y hyc).2
        exact (filled_iff hC hF e pb.2.2.1 pb.2.2.2).2 (hy y hyc)
    refine ev_up ?_
    simp only [impl_FixedPoints.l4, if_neg (show ¬ ((c.length : Int) < c.length) by omega), ho, if_pos (show (3 : Int) < ((4 : Nat) : Int) by decide), hw, eb]
    unfold cornStep fx at ih
    by_cases m : phi r u a (rd c 0) ∈ c
    · simp only [if_pos m] at ih
      simp only [decide_eq_true m, if_true, cornStep, fx, if_pos m]
      exact ih
    · simp only [if_neg m] at ih
      simp only [decide_eq_false m, Bool.false_eq_true, if_false, cornStep, fx, if_neg m]
      exact ih
def fixedOf (r u a : List Int) : List Int × Bool := if turnB r u a = true then ((cornersL r u).foldl (cornStep r u a) (fixGo r u a a.length 0 [0, 0, 0, 0]), true) else ([], false)
theorem spec_fixed {r u : List Int} (h : transB r u = true) (a : List Int) : Ev (fun k => spec_FixedPoints.f k r u a) (fixedOf r u a) := by
  obtain ⟨hr, hu, he, h0, _⟩ := transB_side h
  unfold spec_FixedPoints.f fixedOf
  refine Ev.bind (spec_isTurn h a) ?_
  by_cases c : turnB r u a = true
  · simp only [if_pos c]
    have ht := (turnB_iff r u a).1 c
    have l := ht.2.1
    have hC := corners_CC h
    exact spec_fix_l0 ht.1.1 l.symm (by omega) rfl hr hu (spec_corners r u) (fun out => ((cornersL r u).foldl (cornStep r u a) out, true)) (fun out ho => spec_fix_l1 h ht hC (cornersL r u) [] out rfl ho) a.length 0 [0, 0, 0, 0] (by omega) (by omega) rfl
  · simp only [if_neg c]
    exact Ev.now _
theorem impl_fixed {r u : List Int} (h : transB r u = true) (a : List Int) : Ev (fun k => impl_FixedPoints.f k r u a) (fixedOf r u a) := by
  obtain ⟨hr, hu, he, h0, _⟩ := transB_side h
  unfold impl_FixedPoints.f fixedOf
  refine Ev.bind (impl_isTurn h a) ?_
  by_cases c : turnB r u a = true
  · simp only [if_pos c, if_pos (show 4 ≤ 35184372088832 by decide)]
    have ht := (turnB_iff r u a).1 c
    have l := ht.2.1
    have hC := corners_CC h
    exact impl_fix_l0 ht.1.1 l.symm (by omega) rfl hr hu (impl_corners r u) (fun out => ((cornersL r u).foldl (cornStep r u a) out, true)) (fun out ho => impl_fix_l1 hC _ (fun cor hcl hF => impl_fix_l3 h ht hC hcl hF (cornersL r u) [] out rfl ho) (cornersL r u) [] _ rfl (by simp [l]) (fun p1 x p2 ep => absurd ep (by simp))) a.length 0 (List.replicate 4 0) (by omega) (by omega) rfl
  · simp only [if_neg c]
    exact Ev.now _
theorem fixed_side {r u a : List Int} (h : transB r u = true) : Ints64 (fixedOf r u a).1 ∧ (fixedOf r u a).1.length ≤ 4 := by
  unfold fixedOf
  split
  · refine ⟨corn_ints _ _ _ _ _ (fixGo_ints _ _ _ _ _ _ (fun x hx => by simp at hx; subst hx; omega)), ?_⟩
    simp only [corn_len, fixGo_len]
    simp
  · exact ⟨fun x hx => absurd hx (by simp), by simp⟩

def cycT (c : List Int) : ByteArray := (⟨#[40]⟩ : ByteArray) ++ joinOf (c.map itoaB) ⟨#[32]⟩ ++ (⟨#[41]⟩ : ByteArray)
def cycsT : List (List Int) → ByteArray → ByteArray
  | [], acc => acc
  | c :: cs, acc => cycsT cs (if c.length > 1 then acc ++ cycT c else acc)
def endT (t : ByteArray) : ByteArray := if t.toList = ([] : List UInt8) then ⟨#[40, 41]⟩ else t
theorem good_ints {c : List Int} (h : GoodC c) : Ints64 c := fun x hx => by have := h.1 x hx; omega
theorem cyc_sz {c : List Int} (h : GoodC c) : (joinOf (c.map itoaB) ⟨#[32]⟩).size ≤ 504 := by
  have := joinOf_size ⟨#[32]⟩ (c.map itoaB)
  have := tot_ints ⟨#[32]⟩ rfl c (good_ints h)
  have := h.2
  omega
theorem one_sz (b : UInt8) : (⟨#[b]⟩ : ByteArray).size = 1 := id rfl
theorem rdL_mid' (pre suf : List (List Int)) (x : List Int) : rd_L1 (pre ++ x :: suf) (pre.length : Int) = x := by simp [rd_L1, List.getD]
theorem spec_fmtperm_l0 (l : List (List Int)) (hl : l.length ≤ 24) (h : ∀ c ∈ l, GoodC c) : ∀ (suf pre : List (List Int)) (acc : ByteArray), l = pre ++ suf → acc.size ≤ 600 * pre.length → Ev (fun k => spec_FormatPerm.l0 k acc l (l.length : Int) (pre.length : Int)) (endT (cycsT suf acc))
  | [], pre, acc, e, ha => by
    refine ev_up ?_
    have e2 : l = pre := by simpa using e
    subst e2
    simp only [spec_FormatPerm.l0, if_neg (show ¬ ((l.length : Int) < l.length) by omega), cycsT]
    by_cases hz : acc.toList = ([] : List UInt8)
    · simp only [if_pos hz]
      rw [show endT acc = _ from if_pos hz]
      exact Ev.now _
    · simp only [if_neg hz]
      rw [show endT acc = _ from if_neg hz]
      exact Ev.now _
  | x :: suf, pre, acc, e, ha => by
    refine ev_up ?_
    have hlen : l.length = pre.length + suf.length + 1 := by rw [e]; simp; omega
    have hx : rd_L1 l (pre.length : Int) = x := by rw [e]; exact rdL_mid' _ _ _
    have hg := h x (by rw [e]; simp)
    have hs := cyc_sz hg
    have hw : wrap64 ((pre.length : Int) + 1) = ((pre ++ [x]).length : Int) := by rw [pw_wrap (by omega) (by omega)]; simp
    simp only [spec_FormatPerm.l0, if_pos (show ((pre.length : Int) < l.length) by omega), if_pos (show (0 ≤ (pre.length : Int)) by omega), hx, hw, cycsT]
    by_cases h1 : x.length > 1
    · simp only [if_pos (show (x.length : Int) > 1 by omega), if_pos h1, if_pos (show acc.size + 1 ≤ 9223372036854775807 by omega)]
      have ih := spec_fmtperm_l0 l hl h suf (pre ++ [x]) (acc ++ cycT x) (by simp [e]) (by
        unfold cycT
        simp only [ByteArray.size_append, one_sz, List.length_append, List.length_cons, List.length_nil]
        omega)
      refine Ev.bind (spec_ints _ rfl x (by have := hg.2; omega) (good_ints hg)) ?_
      refine Ev.congr (f := fun k => _) (fun k => (if_pos (by simp only [ByteArray.size_append, one_sz]; omega)).trans (if_pos (by simp only [ByteArray.size_append, one_sz]; omega))) ?_
      have e3 : acc ++ (⟨#[40]⟩ : ByteArray) ++ joinOf (x.map itoaB) ⟨#[32]⟩ ++ (⟨#[41]⟩ : ByteArray) = acc ++ cycT x := by
        unfold cycT
        simp only [app_assocB]
      rw [e3]
      exact ih
    · simp only [if_neg (show ¬ (x.length : Int) > 1 by omega), if_neg h1]
      exact spec_fmtperm_l0 l hl h suf (pre ++ [x]) acc (by simp [e]) (by simp only [List.length_append, List.length_cons, List.length_nil]; omega)
theorem impl_fmtperm_l0 (l : List (List Int)) (hl : l.length ≤ 24) (h : ∀ c ∈ l, GoodC c) : ∀ (suf pre : List (List Int)) (acc : ByteArray), l = pre ++ suf → acc.size ≤ 600 * pre.length → Ev (fun k => impl_FormatPerm.l0 k acc l (l.length : Int) (pre.length : Int)) (endT (cycsT suf acc))
  | [], pre, acc, e, ha => by
    refine ev_up ?_
    have e2 : l = pre := by simpa using e
    subst e2
    simp only [impl_FormatPerm.l0, if_neg (show ¬ ((l.length : Int) < l.length) by omega), cycsT]
    by_cases hz : acc.toList = ([] : List UInt8)
    · simp only [if_pos hz]
      rw [show endT acc = _ from if_pos hz]
      exact Ev.now _
    · simp only [if_neg hz]
      rw [show endT acc = _ from if_neg hz]
      exact Ev.now _
  | x :: suf, pre, acc, e, ha => by
    refine ev_up ?_
    have hlen : l.length = pre.length + suf.length + 1 := by rw [e]; simp; omega
    have hx : rd_L1 l (pre.length : Int) = x := by rw [e]; exact rdL_mid' _ _ _
    have hg := h x (by rw [e]; simp)
    have hs := cyc_sz hg
    have hw : wrap64 ((pre.length : Int) + 1) = ((pre ++ [x]).length : Int) := by rw [pw_wrap (by omega) (by omega)]; simp
    simp only [impl_FormatPerm.l0, if_pos (show ((pre.length : Int) < l.length) by omega), if_pos (show (0 ≤ (pre.length : Int)) by omega), hx, hw, cycsT]
    by_cases h1 : x.length > 1
    · simp only [if_pos (show (x.length : Int) > 1 by omega), if_pos h1]
      have ih := impl_fmtperm_l0 l hl h suf (pre ++ [x]) (acc ++ cycT x) (by simp [e]) (by
        unfold cycT
        simp only [ByteArray.size_append, one_sz, List.length_append, List.length_cons, List.length_nil]
        omega)
      refine Ev.bind (impl_ints _ rfl x (by have := hg.2; omega) (good_ints hg)) ?_
      refine Ev.congr (f := fun k => _) (fun k => ((if_pos (by omega)).trans (if_pos (by simp only [ByteArray.size_append, one_sz]; omega))).trans (if_pos (by simp only [ByteArray.size_append, one_sz]; omega))) ?_
      exact ih
    · simp only [if_neg (show ¬ (x.length : Int) > 1 by omega), if_neg h1]
      exact impl_fmtperm_l0 l hl h suf (pre ++ [x]) acc (by simp [e]) (by simp only [List.length_append, List.length_cons, List.length_nil]; omega)
def permT (p : List Int) : ByteArray := if permB p = true then endT (cycsT (cyclesOf p) ⟨#[]⟩) else ⟨#[]⟩
theorem spec_fmtperm (p : List Int) : Ev (fun k => spec_FormatPerm.f k p) (permT p) := by
  unfold spec_FormatPerm.f permT
  simp only [spec_PermOk.f, ← perm_same, Option.bind_some]
  by_cases h : permB p = true
  · simp only [if_pos h]
    refine Ev.bind (spec_cycles p) ?_
    have hb := cyclesOf_bd p
    exact spec_fmtperm_l0 _ hb.2 hb.1 _ [] ⟨#[]⟩ rfl (Nat.zero_le _)
  · simp only [if_neg h]
    exact Ev.now _
theorem impl_fmtperm (p : List Int) : Ev (fun k => impl_FormatPerm.f k p) (permT p) := by
  unfold impl_FormatPerm.f permT
  simp only [impl_PermOk.f, Option.bind_some]
  by_cases h : permB p = true
  · simp only [if_pos h]
    refine Ev.bind (impl_cycles p) ?_
    have hb := cyclesOf_bd p
    exact impl_fmtperm_l0 _ hb.2 hb.1 _ [] ⟨#[]⟩ rfl (Nat.zero_le _)
  · simp only [if_neg h]
    exact Ev.now _

theorem eqIntS_l0 (l : List Int) (hl : l.length ≤ 2147483648) : ∀ (suf pre : List Int), l = pre ++ suf → Ev (fun k => laws_eqIntS.l0 k l l (pre.length : Int)) true := by
  intro suf
  induction suf with
  | nil =>
    intro pre h
    subst h
    refine ev_up ?_
    simp only [laws_eqIntS.l0, if_neg (nlt_end pre)]
    exact Ev.now _
  | cons c suf ih =>
    intro pre h
    have := ih (pre ++ [c]) (by simp [h])
    subst h
    refine ev_up ?_
    simp only [laws_eqIntS.l0, if_pos (lt_mid pre suf c), if_pos (Int.natCast_nonneg pre.length), if_true, wrap_snoc (x := c) (s := suf) (p := pre) (by simp at hl ⊢; omega)]
    exact this
theorem eqIntS_ev (l : List Int) (hl : l.length ≤ 2147483648) : Ev (fun k => laws_eqIntS.f k l l) true := by
  unfold laws_eqIntS.f
  simp only [if_true]
  exact eqIntS_l0 l hl l [] rfl

theorem toIntS_l0 (l : List Int) (hl : l.length ≤ 1048576) : ∀ (suf pre : List Int), l = pre ++ suf → Ev (fun k => laws_toIntS.l0 k l (pre ++ List.replicate suf.length 0) (pre.length : Int)) l := by
  intro suf
  induction suf with
  | nil =>
    intro pre h
    subst h
    refine ev_up ?_
    simp only [laws_toIntS.l0, if_neg (nlt_end pre)]
    simpa using Ev.now pre
  | cons c suf ih =>
    intro pre h
    have := ih (pre ++ [c]) (by simp [h])
    subst h
    refine ev_up ?_
    simp only [laws_toIntS.l0, if_pos (lt_mid pre suf c), if_pos (Int.natCast_nonneg pre.length), rd_mid, if_pos (show ((pre.length : Nat) : Int) < ((pre ++ List.replicate (c :: suf).length (0 : Int)).length : Int) by simp; omega), wrap_snoc (x := c) (s := suf) (p := pre) (by simp at hl ⊢; omega)]
    rw [show (pre ++ List.replicate (c :: suf).length (0 : Int)).set ((pre.length : Nat) : Int).toNat c = pre ++ [c] ++ List.replicate suf.length 0 by simp [List.replicate_succ]]
    exact this
theorem toIntS_ev (l : List Int) (hl : l.length ≤ 1048576) : Ev (fun k => laws_toIntS.f k l) l := by
  have := toIntS_l0 l hl l [] rfl
  unfold laws_toIntS.f
  simp only [if_pos (Int.natCast_nonneg l.length), if_pos (show ((l.length : Nat) : Int).toNat ≤ 35184372088832 by omega)]
  simpa using this

theorem szIntS_eq (l : List Int) (m : Int) (hl : l.length ≤ 9223372036854775807) (h0 : 0 ≤ m) (h1 : m ≤ 1048576) : laws_szIntS.f l m = some (if (l.length : Int) ≤ m then m - (l.length : Int) else -1) := by
  unfold laws_szIntS.f
  have e : wrap64 (m - (l.length : Int)) = m - (l.length : Int) := by unfold wrap64; omega
  rw [e]
  by_cases h : (l.length : Int) ≤ m
  · rw [if_neg (by omega), if_pos h]
  · rw [if_pos (by omega), if_neg h]

theorem szSurface_eq (a b : List Int) (ha : a.length ≤ 9223372036854775807) (hb : b.length ≤ 9223372036854775807) : laws_szSurface.f a b 1048576 = some (if a.length + b.length ≤ 1048576 then 1048576 - ((a.length + b.length : Nat) : Int) else -1) := by
  unfold laws_szSurface.f
  simp only [szIntS_eq a 1048576 ha (by omega) (by omega), Option.bind_some]
  by_cases h : (a.length : Int) ≤ 1048576
  · simp only [if_pos h, if_neg (show ¬ (1048576 - (a.length : Int) < 0) by omega), szIntS_eq b _ hb (show 0 ≤ 1048576 - (a.length : Int) by omega) (by omega), Option.bind_some]
    by_cases h2 : (b.length : Int) ≤ 1048576 - (a.length : Int)
    · simp only [if_pos h2, if_neg (show ¬ (1048576 - (a.length : Int) - (b.length : Int) < 0) by omega), if_pos (show a.length + b.length ≤ 1048576 by omega)]
      congr 1
      omega
    · simp only [if_neg h2, if_neg (show ¬ a.length + b.length ≤ 1048576 by omega)]
      rfl
  · simp only [if_neg h, if_neg (show ¬ a.length + b.length ≤ 1048576 by omega)]
    rfl
theorem toSurface_ev (a b : List Int) (h : a.length + b.length ≤ 1048576) : Ev (fun k => laws_toSurface.f k a b) (a, b) := by
  unfold laws_toSurface.f
  refine Ev.bind (toIntS_ev a (by omega)) ?_
  refine Ev.bind (toIntS_ev b (by omega)) ?_
  exact Ev.now _
theorem eqSurf_ev (a b : List Int) (h : a.length + b.length ≤ 1048576) : Ev (fun k => laws_eqSurface.f k a b a b) true := by
  unfold laws_eqSurface.f
  refine Ev.bind (eqIntS_ev a (by omega)) ?_
  simp only [if_true]
  refine Ev.bind (eqIntS_ev b (by omega)) ?_
  simp only [if_true]
  exact Ev.now _

theorem permT_size (p : List Int) : (permT p).size ≤ 600 * 24 + 2 := by
  unfold permT
  split
  · have hb := cyclesOf_bd p
    have key : ∀ (l : List (List Int)) (acc : ByteArray), (∀ c ∈ l, GoodC c) → (cycsT l acc).size ≤ acc.size + 600 * l.length := by
      intro l
      induction l with
      | nil => intro acc _; simp [cycsT]
      | cons c l ih =>
        intro acc hg
        rw [cycsT]
        have hs := cyc_sz (hg c List.mem_cons_self)
        have h1 := ih (if c.length > 1 then acc ++ cycT c else acc) (fun d hd => hg d (List.mem_cons_of_mem _ hd))
        have h2 : (if c.length > 1 then acc ++ cycT c else acc).size ≤ acc.size + 600 := by
          split
          · unfold cycT
            simp only [ByteArray.size_append, one_sz]
            omega
          · omega
        simp only [List.length_cons]
        omega
    have hk := key (cyclesOf p) ⟨#[]⟩ hb.1
    have hz : (⟨#[]⟩ : ByteArray).size = 0 := id rfl
    have hl := hb.2
    unfold endT
    split
    · have : (⟨#[40, 41]⟩ : ByteArray).size = 2 := id rfl
      omega
    · omega
  · have hz : (⟨#[]⟩ : ByteArray).size = 0 := id rfl
    omega
def turnT (r u : List Int) : ByteArray := if ((turnsOf r u).length : Int) = 0 then ⟨#[110, 111, 110, 101]⟩ else permT (rd_L1 (turnsOf r u) 0) ++ (⟨#[32, 102, 105, 120, 101, 100, 32]⟩ : ByteArray) ++ joinOf ((fixedOf r u (rd_L1 (turnsOf r u) 0)).1.map itoaB) ⟨#[32]⟩
theorem turn_trans {r u : List Int} (h : ¬ ((turnsOf r u).length : Int) = 0) : transB r u = true := by
  refine Classical.byContradiction fun hc => h ?_
  unfold turnsOf
  rw [if_neg hc]
  rfl
theorem spec_turnline (r u : List Int) : Ev (fun k => spec_TurnLine.f k r u) (turnT r u) := by
  unfold spec_TurnLine.f turnT
  refine Ev.bind (spec_turns r u) ?_
  by_cases h : ((turnsOf r u).length : Int) = 0
  · simp only [if_pos h]
    exact Ev.now _
  · have ht := turn_trans h
    have fs := fixed_side (a := rd_L1 (turnsOf r u) 0) ht
    have s1 := permT_size (rd_L1 (turnsOf r u) 0)
    have s2 := tot_ints ⟨#[32]⟩ rfl _ fs.1
    have s3 := joinOf_size ⟨#[32]⟩ ((fixedOf r u (rd_L1 (turnsOf r u) 0)).1.map itoaB)
    have e7 : (⟨#[32, 102, 105, 120, 101, 100, 32]⟩ : ByteArray).size = 7 := id rfl
    simp only [if_neg h, if_pos (show 0 < ((turnsOf r u).length : Int) by omega)]
    refine Ev.bind (spec_fixed ht _) ?_
    refine Ev.bind (spec_fmtperm _) ?_
    refine Ev.congr (f := fun k => _) (fun k => if_pos (by omega)) ?_
    refine Ev.bind (spec_ints _ rfl _ (by have := fs.2; omega) fs.1) ?_
    refine Ev.congr (fun k => if_pos (by simp only [ByteArray.size_append, e7]; have := fs.2; omega)) ?_
    exact Ev.now _
theorem impl_turnline (r u : List Int) : Ev (fun k => impl_TurnLine.f k r u) (turnT r u) := by
  unfold impl_TurnLine.f turnT
  refine Ev.bind (impl_turns r u) ?_
  by_cases h : ((turnsOf r u).length : Int) = 0
  · simp only [if_pos h]
    exact Ev.now _
  · have ht := turn_trans h
    have fs := fixed_side (a := rd_L1 (turnsOf r u) 0) ht
    have s1 := permT_size (rd_L1 (turnsOf r u) 0)
    have s2 := tot_ints ⟨#[32]⟩ rfl _ fs.1
    have s3 := joinOf_size ⟨#[32]⟩ ((fixedOf r u (rd_L1 (turnsOf r u) 0)).1.map itoaB)
    have e7 : (⟨#[32, 102, 105, 120, 101, 100, 32]⟩ : ByteArray).size = 7 := id rfl
    simp only [if_neg h, if_pos (show 0 < ((turnsOf r u).length : Int) by omega)]
    refine Ev.bind (impl_fixed ht _) ?_
    refine Ev.bind (impl_fmtperm _) ?_
    refine Ev.congr (f := fun k => _) (fun k => if_pos (by omega)) ?_
    refine Ev.bind (impl_ints _ rfl _ (by have := fs.2; omega) fs.1) ?_
    refine Ev.congr (fun k => if_pos (by simp only [ByteArray.size_append, e7]; have := fs.2; omega)) ?_
    exact Ev.now _
theorem FnExactTurnLine : laws_FnExactTurnLine.Pure := by
  intro a b ha _ hb _
  apply Ev.rounds
  unfold laws_FnExactTurnLine.f
  simp only [szSurface_eq a b ha hb, Option.bind_some]
  by_cases h : a.length + b.length ≤ 1048576
  · simp only [if_pos h]
    refine Ev.congr (f := fun k => _) (fun k => if_neg (by omega)) ?_
    refine Ev.bind (toSurface_ev a b h) ?_
    refine Ev.bind (spec_turnline a b) ?_
    refine Ev.bind (toSurface_ev a b h) ?_
    refine Ev.bind (impl_turnline a b) ?_
    simp only [if_true]
    refine Ev.bind (toSurface_ev a b h) ?_
    refine Ev.bind (eqSurf_ev a b h) ?_
    simp only [if_true]
    exact Ev.now _
  · simp only [if_neg h]
    exact Ev.congr (fun k => if_pos (by omega)) (Ev.now _)

end Go.Proofs.YtfomhkfgdggngaaDoor.Pure
