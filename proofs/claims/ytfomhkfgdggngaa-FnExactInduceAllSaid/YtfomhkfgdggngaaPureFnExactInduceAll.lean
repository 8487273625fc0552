/- The program's InduceAll returns what the reference's returns, for all arguments: no condition. -/
import Derived.Test.YtfomhkfgdggngaaSayFnExactInduceAll
namespace Go.Proofs.Ytfomhkfgdggngaa.Pure
open Go.RowKit Go.Proofs.Ytfomhkfgdggngaa.S Go.Proofs.YtfomhkfgdggngaaW.PrintWords Go.Proofs.YtfomhkfgdggngaaW.PrintLast
set_option linter.unusedVariables false
set_option linter.unusedSimpArgs false

theorem l01In_eq (a b c : Int) : spec_l01In.f a b c = some (decide (b ≤ a ∧ a ≤ c)) := by
  unfold spec_l01In.f
  split
  · rename_i h
    by_cases h2 : a ≤ c
    · rw [decide_eq_true h2, decide_eq_true ⟨h, h2⟩]
    · rw [decide_eq_false h2, decide_eq_false (fun h => h2 h.2)]
  · rename_i h
    rw [decide_eq_false (fun h2 => h h2.1)]

theorem ev_up {α : Type} {g : Nat → Option α} {r : α} (h : Ev (fun k => g (k + 1)) r) : Ev g r := Ev.step (fun _ => rfl) h
theorem pw_wrap {a : Int} (h0 : -9223372036854775808 ≤ a) (h1 : a ≤ 9223372036854775807) : wrap64 a = a := by
  unfold wrap64
  omega

/-- A permutation of at most 24 elements. -/
def isPerm (p : List Int) : Prop := p.length ≤ 24 ∧ (∀ x ∈ p, 0 ≤ x ∧ x < (p.length : Int)) ∧ p.Nodup
theorem perm_go (n : Nat) (hn : n ≤ 24) : ∀ (p pre : List Int) (seen : List Bool), seen.length = 24 → (∀ x : Int, 0 ≤ x → x < n → (seen.getD x.toNat false = true ↔ x ∈ pre)) →
    permGo n p seen = permSGo n pre p := by
  intro p
  induction p with
  | nil => intro pre seen _ _; rfl
  | cons x p ih =>
    intro pre seen hl hs
    simp only [permGo, permSGo]
    by_cases h0 : x < 0
    · rw [if_pos h0, if_neg (by omega)]
    · rw [if_neg h0]
      by_cases h1 : (n : Int) ≤ x
      · rw [if_pos h1, if_neg (by omega)]
      · rw [if_neg h1, if_pos (show 0 ≤ x ∧ x ≤ (n : Int) - 1 by omega)]
        have hx := hs x (by omega) (by omega)
        by_cases h2 : x ∈ pre
        · rw [if_pos (hx.2 h2), if_pos h2]
        · rw [if_neg (fun h => h2 (hx.1 h)), if_neg h2]
          refine ih _ _ (by simpa using hl) (fun y hy0 hy1 => ?_)
          by_cases hxy : x = y
          · subst hxy
            have : x.toNat < seen.length := by omega
            simp [List.getD, this]
          · have hne : x.toNat ≠ y.toNat := by omega
            have := hs y hy0 hy1
            simp only [List.getD, List.getElem?_set_ne hne]
            rw [List.getD] at this
            rw [this]
            simp [Ne.symm hxy]
theorem perm_same (p : List Int) : permB p = permSB p := by
  unfold permB permSB
  by_cases h : p.length ≤ 24
  · rw [if_pos h, if_pos h]
    refine perm_go p.length h p [] no24 rfl (fun x h0 h1 => ?_)
    have : no24.getD x.toNat false = false := by
      unfold no24
      simp only [List.getD, List.getElem?_replicate]
      split <;> rfl
    rw [this]
    simp
  · rw [if_neg h, if_neg h]
theorem permS_iff (n : Nat) : ∀ (p pre : List Int), permSGo n pre p = true ↔ ((∀ x ∈ p, 0 ≤ x ∧ x < (n : Int)) ∧ (∀ x ∈ p, x ∉ pre) ∧ p.Nodup)
  | [], pre => by simp [permSGo]
  | x :: p, pre => by
    simp only [permSGo]
    by_cases h : 0 ≤ x ∧ x ≤ (n : Int) - 1
    · rw [if_pos h]
      by_cases h2 : x ∈ pre
      · rw [if_pos h2]
        simp [h2]
      · rw [if_neg h2, permS_iff n p (pre ++ [x])]
        simp only [List.mem_cons, forall_eq_or_imp, List.nodup_cons]
        constructor
        · rintro ⟨h3, h4, h5⟩
          exact ⟨⟨by omega, h3⟩, ⟨h2, fun y hy hp => h4 y hy (List.mem_append.2 (.inl hp))⟩, fun hx => h4 x hx (List.mem_append.2 (.inr (List.mem_singleton.2 rfl))), h5⟩
        · rintro ⟨h3, h4, h5, h6⟩
          refine ⟨h3.2, fun y hy hp => ?_, h6⟩
          rcases List.mem_append.1 hp with hp | hp
          · exact h4.2 y hy hp
          · rw [List.mem_singleton.1 hp] at hy
            exact h5 hy
    · rw [if_neg h]
      simp only [Bool.false_eq_true, List.mem_cons, forall_eq_or_imp, false_iff]
      intro h2
      omega
theorem permB_iff (p : List Int) : permB p = true ↔ isPerm p := by
  rw [perm_same]
  unfold permSB isPerm
  by_cases h : p.length ≤ 24
  · rw [if_pos h, permS_iff]
    simp [h]
  · rw [if_neg h]
    simp [h]

/-! Small words on lists, read at a place. -/
theorem wrap_snoc {α : Type} {p s : List α} {x : α} (h : (p ++ x :: s).length ≤ 4611686018427387904) : wrap64 ((p.length : Int) + 1) = ((p ++ [x]).length : Int) := by
  simp at h ⊢
  unfold wrap64
  omega
theorem lt_mid {α : Type} (p s : List α) (x : α) : ((p.length : Nat) : Int) < ((p ++ x :: s).length : Int) := by simp; omega
theorem nlt_end {α : Type} (p : List α) : ¬ ((p.length : Nat) : Int) < ((p ++ []).length : Int) := by simp
theorem rd_mid (p s : List Int) (x : Int) : rd (p ++ x :: s) (p.length : Int) = x := by simp [rd, List.getD]
theorem nil_or_snoc {α : Type} (l : List α) : l = [] ∨ ∃ p x, l = p ++ [x] := by
  rcases List.eq_nil_or_concat l with h | ⟨p, x, h⟩
  · exact .inl h
  · exact .inr ⟨p, x, by rw [h]; simp⟩

def sumL : List Int → Int
  | [] => 0
  | x :: xs => x + sumL xs
/-- Lengths are from 1 to 60. -/
def lensB : List Int → Bool
  | [] => true
  | x :: xs => decide (1 ≤ x ∧ x ≤ 60) && lensB xs
theorem lensB_iff : ∀ l : List Int, lensB l = true ↔ ∀ x ∈ l, 1 ≤ x ∧ x ≤ 60
  | [] => by simp [lensB]
  | x :: xs => by simp [lensB, lensB_iff xs]
theorem sumL_bd : ∀ l : List Int, (∀ x ∈ l, 1 ≤ x ∧ x ≤ 60) → (l.length : Int) ≤ sumL l ∧ sumL l ≤ 60 * l.length
  | [], _ => by simp [sumL]
  | x :: xs, h => by
    have h1 := h x (by simp)
    have h2 := sumL_bd xs (fun y hy => h y (by simp [hy]))
    simp only [sumL, List.length_cons]
    omega
def exB (a b c : List Int) : Bool := decide (1 ≤ a.length ∧ a.length ≤ 6) && decide (b.length = a.length) && decide (c.length = a.length) && lensB a && decide (sumL a ≤ 60) && permB b && permB c
theorem spec_ex_l0 (a b c : List Int) (ha : a.length ≤ 6) : ∀ (suf pre : List Int) (s : Int), a = pre ++ suf → 0 ≤ s → s + 60 * suf.length ≤ 360 →
    Ev (fun k => spec_ExchangeOk.l0 k s a (a.length : Int) (pre.length : Int) a b c) (lensB suf && decide (s + sumL suf ≤ 60) && permB b && permB c) := by
  intro suf
  induction suf with
  | nil =>
    intro pre s h h0 h1
    have hlen : ¬ ((pre.length : Nat) : Int) < (a.length : Int) := by rw [h]; simp
    refine ev_up ?_
    simp only [spec_ExchangeOk.l0, if_neg hlen, lensB, sumL, Int.add_zero, Bool.true_and, spec_PermOk.f, Option.bind_some, ← perm_same]
    by_cases h2 : s ≤ 60
    · simp only [if_pos h2, decide_eq_true h2, Bool.true_and]
      cases permB b <;> simp <;> exact Ev.now _
    · simp only [if_neg h2, decide_eq_false h2, Bool.false_and]
      exact Ev.now _
  | cons x suf ih =>
    intro pre s h h0 h1
    have hlt : ((pre.length : Nat) : Int) < (a.length : Int) := by rw [h]; exact lt_mid pre suf x
    have hrd : rd a (pre.length : Int) = x := by rw [h]; exact rd_mid pre suf x
    have hw : wrap64 ((pre.length : Int) + 1) = ((pre ++ [x]).length : Int) := wrap_snoc (s := suf) (by rw [← h]; omega)
    simp at h1
    refine ev_up ?_
    simp only [spec_ExchangeOk.l0, if_pos hlt, if_pos (Int.natCast_nonneg pre.length), hrd, hw, l01In_eq, Option.bind_some]
    by_cases h2 : 1 ≤ x ∧ x ≤ 60
    · simp only [decide_eq_true h2, if_true, pw_wrap (a := s + x) (by omega) (by omega), lensB, sumL, Bool.true_and]
      simp only [← Int.add_assoc]
      exact ih (pre ++ [x]) (s + x) (by simp [h]) (by omega) (by omega)
    · simp only [decide_eq_false h2, Bool.false_eq_true, if_false, lensB, Bool.false_and]
      exact Ev.now _
theorem spec_exOk (a b c : List Int) : Ev (fun k => spec_ExchangeOk.f k a b c) (exB a b c) := by
  have hbad : ∀ r : Bool, r = false → Ev (fun k => spec_ExchangeOk.j0 k true a b c) r := by
    rintro r rfl
    refine ev_up ?_
    simp only [spec_ExchangeOk.j0, if_true]
    exact Ev.now _
  unfold spec_ExchangeOk.f exB
  simp only [l01In_eq, Option.bind_some]
  by_cases h1 : 1 ≤ a.length ∧ a.length ≤ 6
  · simp only [decide_eq_true h1, decide_eq_true (show 1 ≤ (a.length : Int) ∧ (a.length : Int) ≤ 6 by omega), if_true, Bool.true_and]
    by_cases h2 : b.length = a.length
    · simp only [decide_eq_true h2, if_pos (show (b.length : Int) = (a.length : Int) by omega), Bool.true_and]
      by_cases h3 : c.length = a.length
      · simp only [decide_eq_true h3, show ((c.length : Int) != (a.length : Int)) = false from by simp; omega, Bool.true_and]
        refine ev_up ?_
        simp only [spec_ExchangeOk.j0, Bool.false_eq_true, if_false]
        have := spec_ex_l0 a b c h1.2 a [] 0 rfl (by omega) (by omega)
        simpa using this
      · simp only [decide_eq_false h3, show ((c.length : Int) != (a.length : Int)) = true from by simp; omega, Bool.false_and]
        exact hbad _ rfl
    · simp only [decide_eq_false h2, if_neg (show ¬ (b.length : Int) = (a.length : Int) by omega), Bool.false_and]
      exact hbad _ rfl
  · simp only [decide_eq_false h1, decide_eq_false (show ¬ (1 ≤ (a.length : Int) ∧ (a.length : Int) ≤ 6) by omega), Bool.false_eq_true, if_false, Bool.false_and]
    exact hbad _ rfl
theorem impl_ex_l0 (a b c : List Int) (ha : a.length ≤ 6) : ∀ (suf pre : List Int) (s : Int), a = pre ++ suf → 0 ≤ s → s + 60 * suf.length ≤ 360 →
    Ev (fun k => impl_ExchangeOk.l0 k (a.length : Int) s a (a.length : Int) (pre.length : Int) a b c) (lensB suf && decide (s + sumL suf ≤ 60) && permB b && permB c && decide (b.length = a.length) && decide (c.length = a.length)) := by
  intro suf
  induction suf with
  | nil =>
    intro pre s h h0 h1
    have hlen : ¬ ((pre.length : Nat) : Int) < (a.length : Int) := by rw [h]; simp
    have hcl : ((c.length : Int) == (a.length : Int)) = decide (c.length = a.length) := by
      by_cases hc : c.length = a.length
      · simp [hc]
      · simp [hc]; omega
    refine ev_up ?_
    simp only [impl_ExchangeOk.l0, if_neg hlen, lensB, sumL, Int.add_zero, Bool.true_and, impl_PermOk.f, Option.bind_some, hcl]
    by_cases h2 : s ≤ 60
    · simp only [if_pos h2, decide_eq_true h2, Bool.true_and]
      cases permB b
      · simpa using Ev.now false
      · cases permB c
        · simpa using Ev.now false
        · by_cases hb : b.length = a.length
          · simpa [hb] using Ev.now (decide (c.length = a.length))
          · simpa [hb, show ¬ (b.length : Int) = (a.length : Int) by omega] using Ev.now false
    · simp only [if_neg h2, decide_eq_false h2, Bool.false_and]
      exact Ev.now _
  | cons x suf ih =>
    intro pre s h h0 h1
    have hlt : ((pre.length : Nat) : Int) < (a.length : Int) := by rw [h]; exact lt_mid pre suf x
    have hrd : rd a (pre.length : Int) = x := by rw [h]; exact rd_mid pre suf x
    have hw : wrap64 ((pre.length : Int) + 1) = ((pre ++ [x]).length : Int) := wrap_snoc (s := suf) (by rw [← h]; omega)
    simp at h1
    refine ev_up ?_
    simp only [impl_ExchangeOk.l0, if_pos hlt, if_pos (Int.natCast_nonneg pre.length), hrd, hw]
    by_cases h2 : x < 1
    · simp only [if_pos h2, lensB, decide_eq_false (show ¬ (1 ≤ x ∧ x ≤ 60) by omega), Bool.false_and]
      exact Ev.now _
    · by_cases h3 : x > 60
      · simp only [if_neg h2, if_pos h3, lensB, decide_eq_false (show ¬ (1 ≤ x ∧ x ≤ 60) by omega), Bool.false_and]
        exact Ev.now _
      · simp only [if_neg h2, if_neg h3, lensB, decide_eq_true (show 1 ≤ x ∧ x ≤ 60 by omega), pw_wrap (a := s + x) (by omega) (by omega), sumL, Bool.true_and]
        simp only [← Int.add_assoc]
        exact ih (pre ++ [x]) (s + x) (by simp [h]) (by omega) (by omega)
theorem and_swap6 (p a b c d e f : Bool) : (p && a && b && c && d && e && f) = (p && (c && d && e && f && a && b)) := by
  cases p <;> cases a <;> cases b <;> cases c <;> cases d <;> cases e <;> cases f <;> rfl
theorem impl_exOk (a b c : List Int) : Ev (fun k => impl_ExchangeOk.f k a b c) (exB a b c) := by
  unfold impl_ExchangeOk.f exB
  rw [and_swap6]
  by_cases h1 : (a.length : Int) < 1
  · simp only [if_pos h1, decide_eq_false (show ¬ (1 ≤ a.length ∧ a.length ≤ 6) by omega), Bool.false_and]
    refine ev_up ?_
    simp only [impl_ExchangeOk.j0, if_true]
    exact Ev.now _
  · simp only [if_neg h1]
    refine ev_up ?_
    by_cases h2 : a.length ≤ 6
    · simp only [impl_ExchangeOk.j0, decide_eq_false (show ¬ (a.length : Int) > 6 by omega), Bool.false_eq_true, if_false, decide_eq_true (show 1 ≤ a.length ∧ a.length ≤ 6 by omega), Bool.true_and]
      have := impl_ex_l0 a b c h2 a [] 0 rfl (by omega) (by omega)
      simpa using this
    · simp only [impl_ExchangeOk.j0, decide_eq_true (show (a.length : Int) > 6 by omega), if_true, decide_eq_false (show ¬ (1 ≤ a.length ∧ a.length ≤ 6) by omega), Bool.false_and]
      exact Ev.now _
/-- What a valid exchange is. -/
theorem exB_side {a b c : List Int} (h : exB a b c = true) : (1 ≤ a.length ∧ a.length ≤ 6) ∧ b.length = a.length ∧ c.length = a.length ∧ (∀ x ∈ a, 1 ≤ x ∧ x ≤ 60) ∧ sumL a ≤ 60 ∧ isPerm b ∧ isPerm c := by
  simp only [exB, Bool.and_eq_true, decide_eq_true_eq, lensB_iff, permB_iff] at h
  obtain ⟨⟨⟨⟨⟨⟨h1, h2⟩, h3⟩, h4⟩, h5⟩, h6⟩, h7⟩ := h
  exact ⟨h1, h2, h3, h4, h5, h6, h7⟩

/-- The lengths and the numbers of parts are as those of a valid exchange. -/
structure ExOk (a b c : List Int) : Prop where
  n1 : 1 ≤ a.length ∧ a.length ≤ 6
  lb : b.length = a.length
  lc : c.length = a.length
  la : ∀ x ∈ a, 1 ≤ x ∧ x ≤ 60
  su : sumL a ≤ 60
  pb : isPerm b
  pc : isPerm c
theorem exOk_of {a b c : List Int} (h : exB a b c = true) : ExOk a b c := by
  obtain ⟨h1, h2, h3, h4, h5, h6, h7⟩ := exB_side h
  exact ⟨h1, h2, h3, h4, h5, h6, h7⟩
theorem rd_len {a : List Int} (h : ∀ x ∈ a, 1 ≤ x ∧ x ≤ 60) {k : Int} (h0 : 0 ≤ k) (h1 : k < a.length) : 1 ≤ rd a k ∧ rd a k ≤ 60 := by
  have hk : k.toNat < a.length := by omega
  have e : rd a k = a[k.toNat] := by simp [rd, List.getD, hk]
  rw [e]
  exact h _ (List.getElem_mem hk)

/-! Lists without a number twice; what is met from a place. -/
theorem nodup_len (n : Nat) : ∀ l : List Int, l.Nodup → (∀ x ∈ l, 0 ≤ x ∧ x < n) → l.length ≤ n := by
  induction n with
  | zero =>
    intro l _ h
    cases l with
    | nil => simp
    | cons x l => have := h x (by simp); omega
  | succ n ih =>
    intro l hn h
    have h2 := ih (l.filter (fun x => x != (n : Int))) (hn.filter _) (fun x hx => by
      have h3 := List.mem_filter.1 hx
      have h4 := h x h3.1
      have h5 : x ≠ (n : Int) := by simpa using h3.2
      omega)
    have h3 : l.length ≤ (l.filter (fun x => x != (n : Int))).length + 1 := by
      clear h h2 ih
      induction l with
      | nil => simp
      | cons y l ihl =>
        have hn2 := List.nodup_cons.1 hn
        by_cases hy : y = (n : Int)
        · have : l.filter (fun x => x != (n : Int)) = l := List.filter_eq_self.2 (fun x hx => by
            have : x ≠ (n : Int) := fun e => hn2.1 (by rw [hy, ← e]; exact hx)
            simpa using this)
          simp [hy, this]
        · have := ihl hn2.2
          simp [hy]
          omega
    omega
/-- Distinct numbers below n. -/
def Few (n : Nat) (q : List Int) : Prop := q.Nodup ∧ ∀ x ∈ q, 0 ≤ x ∧ x < (n : Int)
/-- n - 1, .., 0. -/
def ups : Nat → List Int
  | 0 => []
  | n + 1 => (n : Int) :: ups n
theorem mem_ups (x : Int) : ∀ n, x ∈ ups n ↔ 0 ≤ x ∧ x < (n : Int)
  | 0 => by simp [ups]
  | n + 1 => by
    simp only [ups, List.mem_cons, mem_ups x n]
    omega
theorem few_perm : ∀ (n : Nat) (q : List Int), Few n q → q.length = n → q.Perm (ups n)
  | 0, q, _, hl => by
    have : q = [] := List.eq_nil_of_length_eq_zero hl
    subst this
    exact List.Perm.refl _
  | n + 1, q, h, hl => by
    have hm : (n : Int) ∈ q := by
      refine Classical.byContradiction fun hn => ?_
      have := nodup_len n q h.1 (fun x hx => by
        have h2 := h.2 x hx
        have h3 : x ≠ (n : Int) := fun e => hn (e ▸ hx)
        omega)
      omega
    have hp := List.perm_cons_erase hm
    have hf : Few n (q.erase (n : Int)) := by
      refine ⟨h.1.erase _, fun x hx => ?_⟩
      have h2 := h.2 x (List.mem_of_mem_erase hx)
      have h3 : x ≠ (n : Int) := fun e => by
        subst e
        exact (List.Nodup.not_mem_erase h.1) hx
      omega
    have hl2 : (q.erase (n : Int)).length = n := by
      rw [List.length_erase_of_mem hm]
      omega
    exact hp.trans (List.Perm.cons _ (few_perm n _ hf hl2))
theorem perm_few {p : List Int} (h : isPerm p) : Few p.length p := ⟨h.2.2, h.2.1⟩
/-- The sum of the lengths at the places of a list. -/
def sumAt (a : List Int) : List Int → Int
  | [] => 0
  | k :: ks => rd a k + sumAt a ks
theorem sumAt_append (a : List Int) : ∀ p q : List Int, sumAt a (p ++ q) = sumAt a p + sumAt a q
  | [], q => by simp [sumAt]
  | k :: p, q => by simp only [List.cons_append, sumAt, sumAt_append a p q]; omega
theorem sumAt_perm (a : List Int) {p q : List Int} (h : p.Perm q) : sumAt a p = sumAt a q := by
  induction h with
  | nil => rfl
  | cons x _ ih => simp only [sumAt, ih]
  | swap x y l => simp only [sumAt]; omega
  | trans _ _ ih1 ih2 => exact ih1.trans ih2
theorem sumL_append : ∀ p q : List Int, sumL (p ++ q) = sumL p + sumL q
  | [], q => by simp [sumL]
  | k :: p, q => by simp only [List.cons_append, sumL, sumL_append p q]; omega
theorem sumAt_ups (a : List Int) : ∀ n, n ≤ a.length → sumAt a (ups n) = sumL (a.take n)
  | 0, _ => by simp [ups, sumAt, sumL]
  | n + 1, h => by
    have hn : n < a.length := by omega
    rw [ups, sumAt, sumAt_ups a n (by omega), List.take_succ_eq_append_getElem hn, sumL_append]
    simp only [sumL, rd, List.getD, Int.toNat_natCast, List.getElem?_eq_getElem hn, Option.getD_some]
    omega
theorem sumAt_all {a b : List Int} (hb : isPerm b) (hl : b.length = a.length) : sumAt a b = sumL a := by
  rw [sumAt_perm a (few_perm b.length b (perm_few hb) rfl), sumAt_ups a b.length (by omega), hl, List.take_of_length_le (Nat.le_refl _)]

/-- The first place of a part in an order. -/
def startGo (a : List Int) (part : Int) : List Int → Int → Int
  | [], s => s
  | k :: ks, s => if k = part then s else startGo a part ks (s + rd a k)
def startAt (a row : List Int) (part : Int) : Int := startGo a part row 0
theorem startGo_pre (a : List Int) (part : Int) : ∀ (pre suf : List Int) (s : Int), part ∉ pre → startGo a part (pre ++ part :: suf) s = s + sumAt a pre
  | [], suf, s, _ => by simp [startGo, sumAt]
  | k :: pre, suf, s, h => by
    have h1 : k ≠ part := fun e => h (by simp [e])
    have h2 : part ∉ pre := fun e => h (by simp [e])
    simp only [List.cons_append, startGo, if_neg h1, startGo_pre a part pre suf _ h2, sumAt]
    omega
theorem sumAt_nonneg {a : List Int} (h : ∀ x ∈ a, 1 ≤ x ∧ x ≤ 60) : ∀ (p : List Int), (∀ k ∈ p, 0 ≤ k ∧ k < (a.length : Int)) → 0 ≤ sumAt a p ∧ sumAt a p ≤ 60 * p.length
  | [], _ => by simp [sumAt]
  | k :: p, hp => by
    have h1 := rd_len h (hp k (by simp)).1 (hp k (by simp)).2
    have h2 := sumAt_nonneg h p (fun x hx => hp x (by simp [hx]))
    simp only [sumAt, List.length_cons]
    omega
/-- The place to which x is moved, from a part on that begins at s. -/
def moveGo (a c : List Int) (x : Int) : List Int → Int → Int
  | [], _ => -1
  | k :: ks, s => if x < s + rd a k then startAt a c k + x - s else moveGo a c x ks (s + rd a k)
def moveOf (a b c : List Int) (x : Int) : Int := moveGo a c x b 0
theorem startAt_bd {a c : List Int} (ha : ∀ x ∈ a, 1 ≤ x ∧ x ≤ 60) (hc : isPerm c) (hl : c.length = a.length) {k : Int} (h0 : 0 ≤ k) (h1 : k < (a.length : Int)) : 0 ≤ startAt a c k ∧ startAt a c k + rd a k ≤ sumL a := by
  have hk : k ∈ c := ((few_perm c.length c (perm_few hc) rfl).mem_iff).2 ((mem_ups k _).2 (by omega))
  obtain ⟨pre, suf, hps⟩ := List.append_of_mem hk
  have hn : k ∉ pre := by
    have := hc.2.2
    rw [hps, List.nodup_append] at this
    exact fun h => this.2.2 k h k (by simp) rfl
  have hr : ∀ x ∈ c, 0 ≤ x ∧ x < (a.length : Int) := fun x hx => by have := hc.2.1 x hx; omega
  have e : startAt a c k = sumAt a pre := by unfold startAt; rw [hps, startGo_pre a k pre suf 0 hn]; omega
  have e2 := sumAt_all hc hl
  rw [hps, sumAt_append, sumAt] at e2
  have h2 := sumAt_nonneg ha pre (fun x hx => hr x (by rw [hps]; simp [hx]))
  have h3 := sumAt_nonneg ha suf (fun x hx => hr x (by rw [hps]; simp [hx]))
  omega
theorem ex_rows {a b c : List Int} (h : ExOk a b c) : (∀ k ∈ b, 0 ≤ k ∧ k < (a.length : Int)) ∧ (∀ k ∈ c, 0 ≤ k ∧ k < (a.length : Int)) :=
  ⟨fun x hx => by have := h.pb.2.1 x hx; have := h.lb; omega, fun x hx => by have := h.pc.2.1 x hx; have := h.lc; omega⟩
theorem moveGo_bd {a b c : List Int} (h : ExOk a b c) (x : Int) : ∀ (suf : List Int) (s : Int), (∀ k ∈ suf, 0 ≤ k ∧ k < (a.length : Int)) → s ≤ x → x < s + sumAt a suf → 0 ≤ moveGo a c x suf s ∧ moveGo a c x suf s < sumL a
  | [], s, _, h0, h1 => by simp [sumAt] at h1; omega
  | k :: suf, s, hr, h0, h1 => by
    have hk := hr k (by simp)
    have hb := startAt_bd h.la h.pc h.lc hk.1 hk.2
    simp only [moveGo]
    split
    · omega
    · exact moveGo_bd h x suf _ (fun y hy => hr y (by simp [hy])) (by omega) (by simp only [sumAt] at h1; omega)
theorem moveOf_bd {a b c : List Int} (h : ExOk a b c) {x : Int} (h0 : 0 ≤ x) (h1 : x < sumL a) : 0 ≤ moveOf a b c x ∧ moveOf a b c x < sumL a :=
  moveGo_bd h x b 0 (ex_rows h).1 h0 (by rw [sumAt_all h.pb h.lb]; omega)
/-- A step again and again. -/
def iter (f : Int → Int) : Nat → Int → Int
  | 0, x => x
  | m + 1, x => iter f m (f x)
theorem row_split {p : List Int} (hp : isPerm p) {k : Int} (h0 : 0 ≤ k) (h1 : k < p.length) : ∃ pre suf, p = pre ++ k :: suf ∧ k ∉ pre ∧ k ∉ suf := by
  have hk : k ∈ p := ((few_perm p.length p (perm_few hp) rfl).mem_iff).2 ((mem_ups k _).2 ⟨h0, h1⟩)
  obtain ⟨pre, suf, e⟩ := List.append_of_mem hk
  have hn := hp.2.2
  rw [e, List.nodup_append] at hn
  exact ⟨pre, suf, e, fun h => hn.2.2 k h k (by simp) rfl, (List.nodup_cons.1 hn.2.1).1⟩
theorem startAt_split (a : List Int) {row pre suf : List Int} {k : Int} (e : row = pre ++ k :: suf) (hn : k ∉ pre) : startAt a row k = sumAt a pre := by
  unfold startAt
  rw [e, startGo_pre a k pre suf 0 hn]
  omega
theorem sumAt_nn {a : List Int} : ∀ p : List Int, (∀ k ∈ p, 0 ≤ rd a k) → 0 ≤ sumAt a p
  | [], _ => Int.le_refl 0
  | k :: p, h => by
    have h1 := h k (by simp)
    have h2 := sumAt_nn p (fun x hx => h x (by simp [hx]))
    simp only [sumAt]
    omega
theorem moveGo_skip {a c : List Int} (x : Int) : ∀ (pre suf : List Int) (s : Int), (∀ k ∈ pre, 0 ≤ rd a k) → s + sumAt a pre ≤ x → moveGo a c x (pre ++ suf) s = moveGo a c x suf (s + sumAt a pre)
  | [], suf, s, _, _ => by simp [sumAt]
  | k :: pre, suf, s, h, hx => by
    have h2 := sumAt_nn pre (fun y hy => h y (by simp [hy]))
    simp only [sumAt] at hx ⊢
    rw [List.cons_append, moveGo, if_neg (by omega), moveGo_skip x pre suf (s + rd a k) (fun y hy => h y (by simp [hy])) (by omega)]
    congr 1
    omega
theorem ex_nn {a b c : List Int} (h : ExOk a b c) {k : Int} (h0 : 0 ≤ k) (h1 : k < a.length) : 1 ≤ rd a k := (rd_len h.la h0 h1).1
theorem rows_nn {a b c : List Int} (h : ExOk a b c) {row pre suf : List Int} (hr : ∀ k ∈ row, 0 ≤ k ∧ k < (a.length : Int)) (e : row = pre ++ suf) : ∀ k ∈ pre, 0 ≤ rd a k := fun k hk => by
  have := hr k (by rw [e]; simp [hk])
  have := ex_nn h this.1 this.2
  omega
/-- What a part's places are moved to. -/
theorem move_at {a b c : List Int} (h : ExOk a b c) {k t : Int} (k0 : 0 ≤ k) (k1 : k < a.length) (t0 : 0 ≤ t) (t1 : t < rd a k) : moveOf a b c (startAt a b k + t) = startAt a c k + t := by
  obtain ⟨pre, suf, e, hn, _⟩ := row_split h.pb k0 (by have := h.lb; omega)
  rw [startAt_split a e hn]
  unfold moveOf
  rw [e, moveGo_skip _ pre (k :: suf) 0 (rows_nn h (ex_rows h).1 e) (by omega), moveGo, if_pos (by omega)]
  omega
theorem place_go (a : List Int) (x : Int) : ∀ (suf : List Int) (s : Int), s ≤ x → x < s + sumAt a suf → ∃ p1 k p2, suf = p1 ++ k :: p2 ∧ s + sumAt a p1 ≤ x ∧ x < s + sumAt a p1 + rd a k
  | [], s, h0, h1 => by simp only [sumAt] at h1; omega
  | k :: suf, s, h0, h1 => by
    by_cases hk : x < s + rd a k
    · exact ⟨[], k, suf, rfl, by simp only [sumAt]; omega, by simp only [sumAt]; omega⟩
    · obtain ⟨p1, l, p2, e, h2, h3⟩ := place_go a x suf (s + rd a k) (by omega) (by simp only [sumAt] at h1; omega)
      exact ⟨k :: p1, l, p2, by rw [e]; rfl, by simp only [sumAt]; omega, by simp only [sumAt]; omega⟩
theorem place_of {a b c : List Int} (h : ExOk a b c) {x : Int} (h0 : 0 ≤ x) (h1 : x < sumL a) : ∃ k t : Int, 0 ≤ k ∧ k < a.length ∧ 0 ≤ t ∧ t < rd a k ∧ x = startAt a b k + t := by
  obtain ⟨p1, k, p2, e, h2, h3⟩ := place_go a x b 0 h0 (by rw [sumAt_all h.pb h.lb]; omega)
  have hk := (ex_rows h).1 k (by rw [e]; simp)
  have hn : k ∉ p1 := by
    have := h.pb.2.2
    rw [e, List.nodup_append] at this
    exact fun hm => this.2.2 k hm k (by simp) rfl
  exact ⟨k, x - sumAt a p1, hk.1, hk.2, by omega, by omega, by rw [startAt_split a e hn]; omega⟩
/-- Two parts lie one behind the other. -/
theorem row_apart {a b c row : List Int} (h : ExOk a b c) (hp : isPerm row) (hl : row.length = a.length) {k l : Int} (k0 : 0 ≤ k) (k1 : k < a.length) (l0 : 0 ≤ l) (l1 : l < a.length) (hkl : k ≠ l) :
    startAt a row k + rd a k ≤ startAt a row l ∨ startAt a row l + rd a l ≤ startAt a row k := by
  obtain ⟨pre, suf, e, hn, hs⟩ := row_split hp k0 (by omega)
  have hr : ∀ x ∈ row, 0 ≤ x ∧ x < (a.length : Int) := fun x hx => by have := hp.2.1 x hx; omega
  have hnn : ∀ {pre suf : List Int}, row = pre ++ suf → 0 ≤ sumAt a pre := fun e => sumAt_nn _ (rows_nn h hr e)
  have hk := startAt_split a e hn
  obtain ⟨p2, s2, e2, hn2, hs2⟩ := row_split hp l0 (by omega)
  have hl2 := startAt_split a e2 hn2
  have hlm : l ∈ row := by rw [e2]; simp
  rw [e] at hlm
  rcases List.mem_append.1 hlm with hm | hm
  · right
    obtain ⟨q1, q2, e3⟩ := List.append_of_mem hm
    have e4 : row = q1 ++ l :: (q2 ++ k :: suf) := by rw [e, e3]; simp
    have hq : l ∉ q1 := by
      have := hp.2.2
      rw [e4, List.nodup_append] at this
      exact fun hm => this.2.2 l hm l (by simp) rfl
    have hl3 := startAt_split a e4 hq
    have hq2 : 0 ≤ sumAt a q2 := sumAt_nn _ (fun x hx => by
      have := hr x (by rw [e4]; simp [hx])
      have := ex_nn h this.1 this.2
      omega)
    rw [hk, hl3, e3, sumAt_append, sumAt]
    omega
  · left
    have hm2 : l ∈ suf := (List.mem_cons.1 hm).resolve_left (fun e => hkl e.symm)
    obtain ⟨q1, q2, e3⟩ := List.append_of_mem hm2
    have e4 : row = (pre ++ k :: q1) ++ l :: q2 := by rw [e, e3]; simp
    have hq : l ∉ (pre ++ k :: q1) := by
      have := hp.2.2
      rw [e4, List.nodup_append] at this
      exact fun hm => this.2.2 l hm l (by simp) rfl
    have hl3 := startAt_split a e4 hq
    have hq2 : 0 ≤ sumAt a q1 := sumAt_nn _ (fun x hx => by
      have := hr x (by rw [e4]; simp [hx])
      have := ex_nn h this.1 this.2
      omega)
    rw [hk, hl3, sumAt_append, sumAt]
    omega
theorem move_inj {a b c : List Int} (h : ExOk a b c) {x y : Int} (x0 : 0 ≤ x) (x1 : x < sumL a) (y0 : 0 ≤ y) (y1 : y < sumL a) (e : moveOf a b c x = moveOf a b c y) : x = y := by
  obtain ⟨k, t, k0, k1, t0, t1, rfl⟩ := place_of h x0 x1
  obtain ⟨l, u, l0, l1, u0, u1, rfl⟩ := place_of h y0 y1
  rw [move_at h k0 k1 t0 t1, move_at h l0 l1 u0 u1] at e
  by_cases hkl : k = l
  · subst hkl
    omega
  · rcases row_apart h h.pc h.lc k0 k1 l0 l1 hkl with hd | hd <;> omega
/-! The map of the shorter exchange is the first return. -/
structure Step (f g : Int → Int) (T S : Int) : Prop where
  s0 : 0 ≤ S
  le : S ≤ T
  bd : ∀ x, 0 ≤ x → x < T → 0 ≤ f x ∧ f x < T
  inj : ∀ x y, 0 ≤ x → x < T → 0 ≤ y → y < T → f x = f y → x = y
  one : ∀ x, 0 ≤ x → x < S → g x = if f x < S then f x else f (f x)
  two : ∀ x, S ≤ x → x < T → f x < S
theorem iter_add (f : Int → Int) : ∀ (m n : Nat) (x : Int), iter f (m + n) x = iter f n (iter f m x)
  | 0, n, x => by rw [Nat.zero_add]; rfl
  | m + 1, n, x => by rw [Nat.add_right_comm, iter, iter, iter_add f m n (f x)]
/-! What the loops of CountLoops mark. -/
/-- What is marked when the first i places have been looked at. -/
def Seen (f : Int → Int) (T : Nat) (i : Int) (s : List Bool) : Prop := s.length = T ∧ ∀ y : Int, 0 ≤ y → y < T → (rdOf false s y = true ↔ ∃ j m, 0 ≤ j ∧ j < i ∧ y = iter f m j)
theorem Seen.same {f : Int → Int} {T : Nat} {i : Int} {s : List Bool} (h : Seen f T i s) (i0 : 0 ≤ i) (i1 : i < T) (hi : rdOf false s i = true) : Seen f T (i + 1) s := by
  refine ⟨h.1, fun y y0 y1 => ⟨fun hy => ?_, fun ⟨j, m, j0, j1, e⟩ => ?_⟩⟩
  · obtain ⟨j, m, j0, j1, e⟩ := (h.2 y y0 y1).1 hy
    exact ⟨j, m, j0, by omega, e⟩
  · by_cases hj : j = i
    · subst hj
      obtain ⟨l, q, l0, l1, e2⟩ := (h.2 j i0 i1).1 hi
      exact (h.2 y y0 y1).2 ⟨l, q + m, l0, l1, by rw [iter_add, ← e2, e]⟩
    · exact (h.2 y y0 y1).2 ⟨j, m, j0, by omega, e⟩
theorem rd_set_same {a : List Int} {k v : Int} (k0 : 0 ≤ k) (k1 : k < a.length) : rd (a.set k.toNat v) k = v := by
  have : k.toNat < a.length := by omega
  simp [rd, List.getD, this]
theorem rd_set_ne {a : List Int} {k l v : Int} (k0 : 0 ≤ k) (l0 : 0 ≤ l) (h : l ≠ k) : rd (a.set k.toNat v) l = rd a l := by
  have : k.toNat ≠ l.toNat := by omega
  simp [rd, List.getD, List.getElem?_set_ne this]
theorem sumAt_set {a : List Int} {k v : Int} (k0 : 0 ≤ k) : ∀ p : List Int, (∀ x ∈ p, 0 ≤ x) → k ∉ p → sumAt (a.set k.toNat v) p = sumAt a p
  | [], _, _ => rfl
  | x :: p, h, hn => by
    rw [sumAt, sumAt, rd_set_ne k0 (h x (by simp)) (fun e => hn (by simp [e])), sumAt_set k0 p (fun y hy => h y (by simp [hy])) (fun hm => hn (by simp [hm]))]
theorem sumL_set : ∀ (a : List Int) (i : Nat) (v : Int), i < a.length → sumL (a.set i v) = sumL a - a.getD i 0 + v
  | [], _, _, h => absurd h (by simp)
  | x :: a, 0, v, _ => by simp [sumL]; omega
  | x :: a, i + 1, v, h => by
    have := sumL_set a i v (by simpa using h)
    simp [sumL] at this ⊢
    omega
/-- Two rows with the same parts. -/
theorem perm_move {p q : List Int} (hp : isPerm p) (h : p.Perm q) : isPerm q := by
  refine ⟨by rw [← h.length_eq]; exact hp.1, fun x hx => ?_, h.nodup_iff.1 hp.2.2⟩
  rw [← h.length_eq]
  exact hp.2.1 x (h.mem_iff.2 hx)
theorem perm_behind (p1 p2 : List Int) (A B : Int) : (p1 ++ A :: (p2 ++ [B])).Perm (p1 ++ A :: B :: p2) := by
  refine List.Perm.append_left p1 (List.Perm.cons A ?_)
  exact List.perm_append_singleton B p2
theorem set_len {a : List Int} (h : ∀ x ∈ a, 1 ≤ x ∧ x ≤ 60) (i : Nat) {v : Int} (v0 : 1 ≤ v) (v1 : v ≤ 60) : ∀ x ∈ a.set i v, 1 ≤ x ∧ x ≤ 60 := fun x hx => by
  rcases List.mem_or_eq_of_mem_set hx with hx | rfl
  · exact h x hx
  · exact ⟨v0, v1⟩
/-- The exchange behind a step that makes part k shorter. -/
theorem short_ok {a b c b' c' : List Int} (h : ExOk a b c) (hb : b.Perm b') (hc : c.Perm c') {k v : Int} (k0 : 0 ≤ k) (k1 : k < a.length) (v0 : 1 ≤ v) (v1 : v < rd a k) : ExOk (a.set k.toNat v) b' c' ∧ sumL (a.set k.toNat v) = sumL a - rd a k + v := by
  have hk : k.toNat < a.length := by omega
  have hr := rd_len h.la k0 k1
  have e : sumL (a.set k.toNat v) = sumL a - rd a k + v := sumL_set a k.toNat v hk
  refine ⟨⟨by simpa using h.n1, by rw [← hb.length_eq]; simpa using h.lb, by rw [← hc.length_eq]; simpa using h.lc, set_len h.la _ v0 (by omega), by have := h.su; omega, perm_move h.pb hb, perm_move h.pc hc⟩, e⟩
theorem exB_of {a b c : List Int} (h : ExOk a b c) : exB a b c = true := by
  unfold exB
  rw [decide_eq_true h.n1, decide_eq_true h.lb, decide_eq_true h.lc, (lensB_iff a).2 h.la, decide_eq_true h.su, (permB_iff b).2 h.pb, (permB_iff c).2 h.pc]
  rfl
/-- The last part of a row ends the row. -/
theorem last_start {a b c row pre : List Int} (h : ExOk a b c) (hp : isPerm row) (hl : row.length = a.length) {A : Int} (e : row = pre ++ [A]) : startAt a row A = sumL a - rd a A ∧ A ∉ pre := by
  have hn : A ∉ pre := by
    have := hp.2.2
    rw [e, List.nodup_append] at this
    exact fun hm => this.2.2 A hm A (by simp) rfl
  have hs := startAt_split a e hn
  have ht := sumAt_all hp hl
  rw [e, sumAt_append] at ht
  simp only [sumAt] at ht
  exact ⟨by omega, hn⟩
theorem nodup_mid {row p1 p2 : List Int} {A : Int} (hn : row.Nodup) (e : row = p1 ++ A :: p2) : A ∉ p1 ∧ A ∉ p2 := by
  rw [e, List.nodup_append] at hn
  exact ⟨fun hm => hn.2.2 A hm A (by simp) rfl, (List.nodup_cons.1 hn.2.1).1⟩
/-- The top's last part is the longer one: it loses the other's length, and the bottom's last part goes right behind it. -/
theorem rauzy_top {a b c pb p1 p2 : List Int} {A B : Int} (h : ExOk a b c) (eb : b = pb ++ [A]) (ec : c = p1 ++ A :: (p2 ++ [B])) (hAB : A ≠ B) (hlt : rd a B < rd a A) :
    ExOk (a.set A.toNat (rd a A - rd a B)) b (p1 ++ A :: B :: p2) ∧ sumL (a.set A.toNat (rd a A - rd a B)) = sumL a - rd a B ∧ Step (moveOf a b c) (moveOf (a.set A.toNat (rd a A - rd a B)) b (p1 ++ A :: B :: p2)) (sumL a) (sumL a - rd a B) := by
  have hrow := ex_rows h
  have hA := hrow.1 A (by rw [eb]; simp)
  have hB := hrow.2 B (by rw [ec]; simp)
  have rB := ex_nn h hB.1 hB.2
  have rA := ex_nn h hA.1 hA.2
  obtain ⟨h', hs⟩ := short_ok (b' := b) (c' := p1 ++ A :: B :: p2) h (List.Perm.refl b) (by rw [ec]; exact perm_behind p1 p2 A B) hA.1 hA.2 (v := rd a A - rd a B) (by omega) (by omega)
  obtain ⟨sA, nA⟩ := last_start h h.pb h.lb eb
  have ec2 : c = (p1 ++ A :: p2) ++ [B] := by rw [ec]; simp
  obtain ⟨sB, nB⟩ := last_start h h.pc h.lc ec2
  obtain ⟨nA1, nA2⟩ := nodup_mid h.pc.2.2 ec
  have hnn : ∀ {row pre suf : List Int}, (∀ k ∈ row, 0 ≤ k ∧ k < (a.length : Int)) → row = pre ++ suf → ∀ x ∈ pre, 0 ≤ x := fun hr e x hx => (hr x (by rw [e]; simp [hx])).1
  have cA : startAt a c A = sumAt a p1 := startAt_split a ec nA1
  have hT : 0 ≤ sumL a - rd a B := by have := (startAt_bd h.la h.pc h.lc hB.1 hB.2).1; omega
  -- the starts at the top
  have tops : ∀ k : Int, 0 ≤ k → k < a.length → startAt (a.set A.toNat (rd a A - rd a B)) b k = startAt a b k := by
    intro k k0 k1
    obtain ⟨pre, suf, e, n1, n2⟩ := row_split h.pb k0 (by have := h.lb; omega)
    rw [startAt_split _ e n1, startAt_split _ e n1]
    refine sumAt_set hA.1 pre (hnn hrow.1 e) ?_
    intro hm
    rcases nil_or_snoc suf with hs0 | ⟨q, z, hs0⟩
    · rw [hs0] at e
      have := e.symm.trans eb
      have e3 := List.append_inj' this rfl
      simp only [List.cons.injEq, and_true] at e3
      rw [e3.2] at n1
      exact n1 hm
    · rw [hs0] at e
      have e4 : pre ++ k :: (q ++ [z]) = (pre ++ k :: q) ++ [z] := by simp
      have := (e.trans e4).symm.trans eb
      have e3 := List.append_inj' this rfl
      exact nA (by rw [← e3.1]; simp [hm])
  -- the starts at the bottom
  have hc' := h'.pc
  have botA : startAt (a.set A.toNat (rd a A - rd a B)) (p1 ++ A :: B :: p2) A = startAt a c A := by
    rw [cA, startAt_split _ rfl nA1]
    exact sumAt_set hA.1 p1 (hnn hrow.2 ec) nA1
  have nB1 : B ∉ p1 ++ [A] := fun hm => nB (by
    rcases List.mem_append.1 hm with hm | hm
    · simp [hm]
    · simp at hm; simp [hm])
  have botB : startAt (a.set A.toNat (rd a A - rd a B)) (p1 ++ A :: B :: p2) B = startAt a c A + (rd a A - rd a B) := by
    have e5 : p1 ++ A :: B :: p2 = (p1 ++ [A]) ++ B :: p2 := by simp
    rw [startAt_split _ e5 nB1, sumAt_append, sumAt_set hA.1 p1 (hnn hrow.2 ec) nA1, cA]
    simp only [sumAt, rd_set_same hA.1 hA.2]
    omega
  have bots : ∀ k : Int, 0 ≤ k → k < a.length → k ≠ A → k ≠ B → startAt (a.set A.toNat (rd a A - rd a B)) (p1 ++ A :: B :: p2) k = startAt a c k := by
    intro k k0 k1 hkA hkB
    have hk : k ∈ c := ((few_perm c.length c (perm_few h.pc) rfl).mem_iff).2 ((mem_ups k _).2 ⟨k0, by have := h.lc; omega⟩)
    rw [ec] at hk
    rcases List.mem_append.1 hk with hm | hm
    · obtain ⟨q1, q2, e6⟩ := List.append_of_mem hm
      have e7 : c = q1 ++ k :: (q2 ++ A :: (p2 ++ [B])) := by rw [ec, e6]; simp
      have e8 : p1 ++ A :: B :: p2 = q1 ++ k :: (q2 ++ A :: B :: p2) := by rw [e6]; simp
      have n1 := (nodup_mid h.pc.2.2 e7).1
      rw [startAt_split _ e8 n1, startAt_split _ e7 n1]
      exact sumAt_set hA.1 q1 (hnn hrow.2 e7) (fun hm => nA1 (by rw [e6]; simp [hm]))
    · have hm2 : k ∈ p2 := by
        rcases List.mem_cons.1 hm with rfl | hm
        · exact absurd rfl hkA
        · rcases List.mem_append.1 hm with hm | hm
          · exact hm
          · simp at hm; exact absurd hm hkB
      obtain ⟨q1, q2, e6⟩ := List.append_of_mem hm2
      have e7 : c = (p1 ++ A :: q1) ++ k :: (q2 ++ [B]) := by rw [ec, e6]; simp
      have e8 : p1 ++ A :: B :: p2 = (p1 ++ A :: B :: q1) ++ k :: q2 := by rw [e6]; simp
      have n1 := (nodup_mid h.pc.2.2 e7).1
      have n2 : k ∉ p1 ++ A :: B :: q1 := fun hm => by
        simp only [List.mem_append, List.mem_cons] at hm n1
        rcases hm with hm | rfl | rfl | hm
        · exact n1 (.inl hm)
        · exact hkA rfl
        · exact hkB rfl
        · exact n1 (.inr (.inr hm))
      rw [startAt_split _ e8 n2, startAt_split _ e7 n1, sumAt_append, sumAt_append, sumAt_set hA.1 p1 (hnn hrow.2 ec) nA1]
      simp only [sumAt, rd_set_same hA.1 hA.2, rd_set_ne hA.1 hB.1 hAB.symm]
      rw [sumAt_set hA.1 q1 (fun x hx => (hrow.2 x (by rw [e7]; simp [hx])).1) (fun hm => nA2 (by rw [e6]; simp [hm]))]
      omega
  refine ⟨h', by omega, ?_⟩
  have below : ∀ k t : Int, 0 ≤ k → k < a.length → k ≠ B → t < rd a k → startAt a c k + t < sumL a - rd a B := fun k t k0 k1 hk ht => by
    rcases row_apart h h.pc h.lc k0 k1 hB.1 hB.2 hk with hd | hd
    · omega
    · have := startAt_bd h.la h.pc h.lc k0 k1
      have := ex_nn h k0 k1
      omega
  refine ⟨hT, by omega, fun x a0 a1 => moveOf_bd h a0 a1, fun x y a0 a1 b0 b1 e => move_inj h a0 a1 b0 b1 e, fun x x0 x1 => ?_, fun x x0 x1 => ?_⟩
  · obtain ⟨k, t, k0, k1, t0, t1, rfl⟩ := place_of h' x0 (by rw [hs]; omega)
    have k1' : k < a.length := by simpa using k1
    rw [move_at h' k0 k1 t0 t1, tops k k0 k1']
    by_cases hkA : k = A
    · subst hkA
      rw [rd_set_same hA.1 hA.2] at t1
      have hb := below k t k0 k1' hAB (by omega)
      rw [botA, move_at h k0 k1' t0 (by omega), if_pos hb]
    · rw [rd_set_ne hA.1 k0 hkA] at t1
      rw [move_at h k0 k1' t0 t1]
      by_cases hkB : k = B
      · subst hkB
        rw [botB, sB, if_neg (by omega), show sumL a - rd a k + t = startAt a b A + (rd a A - rd a k + t) from by rw [sA]; omega, move_at h hA.1 hA.2 (by omega) (by omega)]
        omega
      · rw [bots k k0 k1' hkA hkB, if_pos (below k t k0 k1' hkB t1)]
  · rw [show x = startAt a b A + (x - startAt a b A) from by omega, move_at h hA.1 hA.2 (by rw [sA]; omega) (by rw [sA]; omega)]
    exact below A _ hA.1 hA.2 hAB (by rw [sA]; omega)
/-- The bottom's last part is the longer one. -/
theorem rauzy_bottom {a b c pc q1 q2 : List Int} {A B : Int} (h : ExOk a b c) (eb : b = q1 ++ B :: (q2 ++ [A])) (ec : c = pc ++ [B]) (hAB : A ≠ B) (hlt : rd a A < rd a B) :
    ExOk (a.set B.toNat (rd a B - rd a A)) (q1 ++ B :: A :: q2) c ∧ sumL (a.set B.toNat (rd a B - rd a A)) = sumL a - rd a A ∧ Step (moveOf a b c) (moveOf (a.set B.toNat (rd a B - rd a A)) (q1 ++ B :: A :: q2) c) (sumL a) (sumL a - rd a A) := by
  have hrow := ex_rows h
  have hB := hrow.2 B (by rw [ec]; simp)
  have hA := hrow.1 A (by rw [eb]; simp)
  have rB := ex_nn h hB.1 hB.2
  have rA := ex_nn h hA.1 hA.2
  obtain ⟨h', hs⟩ := short_ok (b' := q1 ++ B :: A :: q2) (c' := c) h (by rw [eb]; exact perm_behind q1 q2 B A) (List.Perm.refl c) hB.1 hB.2 (v := rd a B - rd a A) (by omega) (by omega)
  obtain ⟨sB, nB⟩ := last_start h h.pc h.lc ec
  have eb2 : b = (q1 ++ B :: q2) ++ [A] := by rw [eb]; simp
  obtain ⟨sA, nA⟩ := last_start h h.pb h.lb eb2
  obtain ⟨nB1, nB2⟩ := nodup_mid h.pb.2.2 eb
  have hnn : ∀ {row pre suf : List Int}, (∀ k ∈ row, 0 ≤ k ∧ k < (a.length : Int)) → row = pre ++ suf → ∀ x ∈ pre, 0 ≤ x := fun hr e x hx => (hr x (by rw [e]; simp [hx])).1
  have tB : startAt a b B = sumAt a q1 := startAt_split a eb nB1
  have hT : 0 ≤ sumL a - rd a A := by have := (startAt_bd h.la h.pb h.lb hA.1 hA.2).1; omega
  have bots : ∀ k : Int, 0 ≤ k → k < a.length → startAt (a.set B.toNat (rd a B - rd a A)) c k = startAt a c k := by
    intro k k0 k1
    obtain ⟨pre, suf, e, n1, n2⟩ := row_split h.pc k0 (by have := h.lc; omega)
    rw [startAt_split _ e n1, startAt_split _ e n1]
    refine sumAt_set hB.1 pre (hnn hrow.2 e) ?_
    intro hm
    rcases nil_or_snoc suf with hs0 | ⟨q, z, hs0⟩
    · rw [hs0] at e
      have := e.symm.trans ec
      have e3 := List.append_inj' this rfl
      simp only [List.cons.injEq, and_true] at e3
      rw [e3.2] at n1
      exact n1 hm
    · rw [hs0] at e
      have e4 : pre ++ k :: (q ++ [z]) = (pre ++ k :: q) ++ [z] := by simp
      have := (e.trans e4).symm.trans ec
      have e3 := List.append_inj' this rfl
      exact nB (by rw [← e3.1]; simp [hm])
  have topB : startAt (a.set B.toNat (rd a B - rd a A)) (q1 ++ B :: A :: q2) B = startAt a b B := by
    rw [tB, startAt_split _ rfl nB1]
    exact sumAt_set hB.1 q1 (hnn hrow.1 eb) nB1
  have nA1 : A ∉ q1 ++ [B] := fun hm => nA (by
    rcases List.mem_append.1 hm with hm | hm
    · simp [hm]
    · simp at hm; simp [hm])
  have topA : startAt (a.set B.toNat (rd a B - rd a A)) (q1 ++ B :: A :: q2) A = startAt a b B + (rd a B - rd a A) := by
    have e5 : q1 ++ B :: A :: q2 = (q1 ++ [B]) ++ A :: q2 := by simp
    rw [startAt_split _ e5 nA1, sumAt_append, sumAt_set hB.1 q1 (hnn hrow.1 eb) nB1, tB]
    simp only [sumAt, rd_set_same hB.1 hB.2]
    omega
  have tops : ∀ k : Int, 0 ≤ k → k < a.length → k ≠ A → k ≠ B → startAt (a.set B.toNat (rd a B - rd a A)) (q1 ++ B :: A :: q2) k = startAt a b k := by
    intro k k0 k1 hkA hkB
    have hk : k ∈ b := ((few_perm b.length b (perm_few h.pb) rfl).mem_iff).2 ((mem_ups k _).2 ⟨k0, by have := h.lb; omega⟩)
    rw [eb] at hk
    rcases List.mem_append.1 hk with hm | hm
    · obtain ⟨r1, r2, e6⟩ := List.append_of_mem hm
      have e7 : b = r1 ++ k :: (r2 ++ B :: (q2 ++ [A])) := by rw [eb, e6]; simp
      have e8 : q1 ++ B :: A :: q2 = r1 ++ k :: (r2 ++ B :: A :: q2) := by rw [e6]; simp
      have n1 := (nodup_mid h.pb.2.2 e7).1
      rw [startAt_split _ e8 n1, startAt_split _ e7 n1]
      exact sumAt_set hB.1 r1 (hnn hrow.1 e7) (fun hm => nB1 (by rw [e6]; simp [hm]))
    · have hm2 : k ∈ q2 := by
        rcases List.mem_cons.1 hm with rfl | hm
        · exact absurd rfl hkB
        · rcases List.mem_append.1 hm with hm | hm
          · exact hm
          · simp at hm; exact absurd hm hkA
      obtain ⟨r1, r2, e6⟩ := List.append_of_mem hm2
      have e7 : b = (q1 ++ B :: r1) ++ k :: (r2 ++ [A]) := by rw [eb, e6]; simp
      have e8 : q1 ++ B :: A :: q2 = (q1 ++ B :: A :: r1) ++ k :: r2 := by rw [e6]; simp
      have n1 := (nodup_mid h.pb.2.2 e7).1
      have n2 : k ∉ q1 ++ B :: A :: r1 := fun hm => by
        simp only [List.mem_append, List.mem_cons] at hm n1
        rcases hm with hm | rfl | rfl | hm
        · exact n1 (.inl hm)
        · exact hkB rfl
        · exact hkA rfl
        · exact n1 (.inr (.inr hm))
      rw [startAt_split _ e8 n2, startAt_split _ e7 n1, sumAt_append, sumAt_append, sumAt_set hB.1 q1 (hnn hrow.1 eb) nB1]
      simp only [sumAt, rd_set_same hB.1 hB.2, rd_set_ne hB.1 hA.1 hAB]
      rw [sumAt_set hB.1 r1 (fun x hx => (hrow.1 x (by rw [e7]; simp [hx])).1) (fun hm => nB2 (by rw [e6]; simp [hm]))]
      omega
  refine ⟨h', by omega, ?_⟩
  have below : ∀ k t : Int, 0 ≤ k → k < a.length → k ≠ B → t < rd a k → startAt a c k + t < sumL a - rd a B := fun k t k0 k1 hk ht => by
    rcases row_apart h h.pc h.lc k0 k1 hB.1 hB.2 hk with hd | hd
    · omega
    · have := startAt_bd h.la h.pc h.lc k0 k1
      have := ex_nn h k0 k1
      omega
  refine ⟨hT, by omega, fun x a0 a1 => moveOf_bd h a0 a1, fun x y a0 a1 b0 b1 e => move_inj h a0 a1 b0 b1 e, fun x x0 x1 => ?_, fun x x0 x1 => ?_⟩
  · obtain ⟨k, t, k0, k1, t0, t1, rfl⟩ := place_of h' x0 (by rw [hs]; omega)
    have k1' : k < a.length := by simpa using k1
    rw [move_at h' k0 k1 t0 t1, bots k k0 k1']
    by_cases hkB : k = B
    · subst hkB
      rw [rd_set_same hB.1 hB.2] at t1
      rw [topB, move_at h k0 k1' t0 (by omega), if_pos (by omega)]
    · rw [rd_set_ne hB.1 k0 hkB] at t1
      by_cases hkA : k = A
      · subst hkA
        rw [topA, Int.add_assoc, move_at h hB.1 hB.2 (by omega) (by omega), sB, if_neg (by omega), show sumL a - rd a B + (rd a B - rd a k + t) = startAt a b k + t from by rw [sA]; omega, move_at h k0 k1' t0 t1]
      · have hb := below k t k0 k1' hkB t1
        rw [tops k k0 k1' hkA hkB, move_at h k0 k1' t0 t1, if_pos (by omega)]
  · rw [show x = startAt a b A + (x - startAt a b A) from by omega, move_at h hA.1 hA.2 (by rw [sA]; omega) (by rw [sA]; omega)]
    have := below A (x - startAt a b A) hA.1 hA.2 hAB (by rw [sA]; omega)
    omega

theorem copyInts_some (l : List Int) (h : l.length ≤ 100) : impl_copyInts.f l = some l := by
  unfold impl_copyInts.f
  simp only [Option.bind_some, List.length_nil, List.nil_append]
  rw [if_pos (by omega)]
theorem copyEx_some (a b c : List Int) (ha : a.length ≤ 100) (hb : b.length ≤ 100) (hc : c.length ≤ 100) : impl_copyExchange.f a b c = some (a, b, c) := by
  unfold impl_copyExchange.f
  simp only [copyInts_some a ha, copyInts_some b hb, copyInts_some c hc, Option.bind_some]
theorem index_l0 (row : List Int) (hl : row.length ≤ 100) (part : Int) (suf : List Int) : ∀ (mid pre : List Int), row = pre ++ (mid ++ part :: suf) → part ∉ mid → Ev (fun k => slices_Index_int_int.l0 k row part (row.length : Int) (pre.length : Int)) ((pre.length : Int) + mid.length)
  | [], pre, e, _ => by
    have hlt : pre.length < row.length := by rw [e]; simp
    have hr : rd row (pre.length : Int) = part := by rw [e]; exact rd_mid _ _ _
    refine ev_up ?_
    simp only [slices_Index_int_int.l0, if_pos (show (pre.length : Int) < row.length by omega), if_pos (Int.natCast_nonneg pre.length), hr, if_true, List.length_nil, Int.natCast_zero, Int.add_zero]
    exact Ev.now _
  | x :: mid, pre, e, hn => by
    have hlt : pre.length < row.length := by rw [e]; simp
    have hr : rd row (pre.length : Int) = x := by rw [e]; exact rd_mid _ _ _
    have hx : ¬ part = x := fun e => hn (by simp [e])
    have hi := index_l0 row hl part suf mid (pre ++ [x]) (by simp [e]) (fun hm => hn (by simp [hm]))
    have hw : wrap64 ((pre.length : Int) + 1) = ((pre ++ [x]).length : Int) := by rw [pw_wrap (by omega) (by omega)]; simp
    refine ev_up ?_
    simp only [slices_Index_int_int.l0, if_pos (show (pre.length : Int) < row.length by omega), if_pos (Int.natCast_nonneg pre.length), hr, if_neg hx, hw]
    have e2 : ((pre ++ [x]).length : Int) + mid.length = (pre.length : Int) + ((x :: mid).length : Int) := by simp; omega
    rw [← e2]
    exact hi
theorem rd_last (p : List Int) (x : Int) : rd (p ++ [x]) (p.length : Int) = x := rd_mid p [] x
theorem putBehind_ev {p1 p2 : List Int} {part last : Int} (hn : part ∉ p1) (hl : p1.length + p2.length ≤ 50) : Ev (fun k => impl_putBehind.f k (p1 ++ part :: (p2 ++ [last])) part) (p1 ++ part :: last :: p2) := by
  have e : p1 ++ part :: (p2 ++ [last]) = (p1 ++ part :: p2) ++ [last] := by simp
  rw [e]
  have hlen : (((p1 ++ part :: p2) ++ [last]).length : Int) = ((p1 ++ part :: p2).length : Int) + 1 := by rw [List.length_append]; rfl
  have hpl : (p1 ++ part :: p2).length = p1.length + p2.length + 1 := by simp; omega
  unfold impl_putBehind.f
  have hw : wrap64 ((((p1 ++ part :: p2) ++ [last]).length : Int) - 1) = ((p1 ++ part :: p2).length : Int) := by rw [hlen, pw_wrap (by omega) (by omega)]; omega
  have ht : ((p1 ++ part :: p2) ++ [last]).take (((p1 ++ part :: p2).length : Int)).toNat = p1 ++ part :: p2 := by rw [Int.toNat_natCast]; exact List.take_left' rfl
  simp only [hw, if_pos (Int.natCast_nonneg (p1 ++ part :: p2).length), if_pos (show ((p1 ++ part :: p2).length : Int) < (((p1 ++ part :: p2) ++ [last]).length : Int) by omega), if_pos (show ((p1 ++ part :: p2).length : Int) ≤ (((p1 ++ part :: p2) ++ [last]).length : Int) by omega), ht, rd_last, copyInts_some (p1 ++ part :: p2) (by omega), Option.bind_some]
  have hi := index_l0 (p1 ++ part :: p2) (by omega) part p2 p1 [] rfl hn
  simp only [List.length_nil, Int.natCast_zero, Int.zero_add] at hi
  unfold slices_Index_int_int.f
  refine Ev.bind hi ?_
  have hf : slices_Insert_int_int.f (p1 ++ part :: p2) (wrap64 ((p1.length : Int) + 1)) [last] = some (p1 ++ part :: last :: p2) := by
    rw [pw_wrap (by omega) (by omega)]
    unfold slices_Insert_int_int.f
    rw [if_pos ⟨by omega, by omega, by simp, by simp; omega⟩, show (((p1.length : Int) + 1)).toNat = p1.length + 1 from by omega]
    have e3 : p1 ++ part :: p2 = (p1 ++ [part]) ++ p2 := by simp
    rw [e3, List.take_left' (by simp), List.drop_left' (by simp)]
    simp
  simp only [hf, Option.bind_some]
  exact Ev.now _
theorem once_stop (A B : Int) (a b c : List Int) : Ev (fun k => impl_InduceOnce.j0 k A B true a b c) ([], [], [], false) := by
  refine ev_up ?_
  simp only [impl_InduceOnce.j0, if_true]
  exact Ev.now _
/-- The head of a step: the last parts, and whether there is a step. -/
theorem once_head {a b c pb pc : List Int} {A B : Int} (he : exB a b c = true) (eb : b = pb ++ [A]) (ec : c = pc ++ [B]) {r : List Int × List Int × List Int × Bool} (h : Ev (fun k => impl_InduceOnce.j0 k A B (decide (A = B ∨ rd a A = rd a B)) a b c) r) : Ev (fun k => impl_InduceOnce.f k a b c) r := by
  have hx := exOk_of he
  have hrow := ex_rows hx
  have hA := hrow.1 A (by rw [eb]; simp)
  have hB := hrow.2 B (by rw [ec]; simp)
  have hlb := hx.lb
  have hlc := hx.lc
  have hn := hx.n1
  have lb : b.length = pb.length + 1 := by rw [eb]; simp
  have lc : c.length = pc.length + 1 := by rw [ec]; simp
  have rb : rd b (pb.length : Int) = A := by rw [eb]; exact rd_last _ _
  have rc : rd c (pb.length : Int) = B := by rw [show pb.length = pc.length from by omega, ec]; exact rd_last _ _
  have hw : wrap64 ((b.length : Int) - 1) = (pb.length : Int) := by rw [pw_wrap (by omega) (by omega)]; omega
  unfold impl_InduceOnce.f
  refine Ev.bind (impl_exOk a b c) ?_
  simp only [he, if_true, hw, if_pos (Int.natCast_nonneg pb.length), if_pos (show (pb.length : Int) < b.length by omega), if_pos (show (pb.length : Int) < c.length by omega), rb, rc, if_pos hA.1, if_pos hA.2, if_pos hB.1, if_pos hB.2]
  by_cases hAB : A = B
  · simp only [if_pos hAB]
    rw [decide_eq_true (.inl hAB)] at h
    exact h
  · simp only [if_neg hAB]
    have e : (rd a A == rd a B) = decide (A = B ∨ rd a A = rd a B) := by
      rw [Bool.eq_iff_iff]
      simp [hAB]
    rw [e]
    exact h
theorem once_top {a b c pb p1 p2 : List Int} {A B : Int} (he : exB a b c = true) (eb : b = pb ++ [A]) (ec : c = p1 ++ A :: (p2 ++ [B])) (hn : A ∉ p1) (hAB : A ≠ B) (hlt : rd a B < rd a A) : Ev (fun k => impl_InduceOnce.f k a b c) (a.set A.toNat (rd a A - rd a B), b, p1 ++ A :: B :: p2, true) := by
  have hx := exOk_of he
  have hrow := ex_rows hx
  have hA := hrow.1 A (by rw [eb]; simp)
  have hB := hrow.2 B (by rw [ec]; simp)
  have hn1 := hx.n1
  have hlb := hx.lb
  have hlc := hx.lc
  have rA := rd_len hx.la hA.1 hA.2
  have rB := rd_len hx.la hB.1 hB.2
  have hl : c.length = p1.length + p2.length + 2 := by rw [ec]; simp; omega
  refine once_head (pb := pb) (A := A) (pc := p1 ++ A :: p2) (B := B) he eb (by rw [ec]; simp) ?_
  rw [decide_eq_false (show ¬ (A = B ∨ rd a A = rd a B) from fun e => e.elim hAB (by omega))]
  refine ev_up ?_
  simp only [impl_InduceOnce.j0, Bool.false_eq_true, if_false, copyEx_some a b c (by omega) (by omega) (by omega), Option.bind_some, if_pos hA.1, if_pos hA.2, if_pos hB.1, if_pos hB.2, if_pos (show rd a A > rd a B from hlt), pw_wrap (a := rd a A - rd a B) (by omega) (by omega)]
  have hp := putBehind_ev (p1 := p1) (p2 := p2) (part := A) (last := B) hn (by omega)
  rw [← ec] at hp
  exact Ev.bind hp (Ev.now _)
theorem once_bottom {a b c pc q1 q2 : List Int} {A B : Int} (he : exB a b c = true) (eb : b = q1 ++ B :: (q2 ++ [A])) (ec : c = pc ++ [B]) (hn : B ∉ q1) (hAB : A ≠ B) (hlt : rd a A < rd a B) : Ev (fun k => impl_InduceOnce.f k a b c) (a.set B.toNat (rd a B - rd a A), q1 ++ B :: A :: q2, c, true) := by
  have hx := exOk_of he
  have hrow := ex_rows hx
  have hA := hrow.1 A (by rw [eb]; simp)
  have hB := hrow.2 B (by rw [ec]; simp)
  have hn1 := hx.n1
  have hlb := hx.lb
  have hlc := hx.lc
  have rA := rd_len hx.la hA.1 hA.2
  have rB := rd_len hx.la hB.1 hB.2
  have hl : b.length = q1.length + q2.length + 2 := by rw [eb]; simp; omega
  refine once_head (pb := q1 ++ B :: q2) (A := A) (pc := pc) (B := B) he (by rw [eb]; simp) ec ?_
  rw [decide_eq_false (show ¬ (A = B ∨ rd a A = rd a B) from fun e => e.elim hAB (by omega))]
  refine ev_up ?_
  simp only [impl_InduceOnce.j0, Bool.false_eq_true, if_false, copyEx_some a b c (by omega) (by omega) (by omega), Option.bind_some, if_pos hA.1, if_pos hA.2, if_pos hB.1, if_pos hB.2, if_neg (show ¬ rd a A > rd a B by omega), pw_wrap (a := rd a B - rd a A) (by omega) (by omega)]
  have hp := putBehind_ev (p1 := q1) (p2 := q2) (part := B) (last := A) hn (by omega)
  rw [← eb] at hp
  exact Ev.bind hp (Ev.now _)
theorem snoc_of {p : List Int} (h : 1 ≤ p.length) : ∃ q x, p = q ++ [x] := by
  rcases nil_or_snoc p with rfl | h2
  · simp at h
  · exact h2
theorem mid_split {c pc : List Int} {A B : Int} (hc : isPerm c) (ec : c = pc ++ [B]) (hA : A ∈ c) (hAB : A ≠ B) : ∃ p1 p2, c = p1 ++ A :: (p2 ++ [B]) ∧ A ∉ p1 := by
  rw [ec] at hA
  have hm : A ∈ pc := by
    rcases List.mem_append.1 hA with hm | hm
    · exact hm
    · simp at hm; exact absurd hm hAB
  obtain ⟨p1, p2, e⟩ := List.append_of_mem hm
  have e2 : c = p1 ++ A :: (p2 ++ [B]) := by rw [ec, e]; simp
  exact ⟨p1, p2, e2, (nodup_mid hc.2.2 e2).1⟩
theorem mem_perm {p : List Int} (hp : isPerm p) {k : Int} (h0 : 0 ≤ k) (h1 : k < p.length) : k ∈ p := ((few_perm p.length p (perm_few hp) rfl).mem_iff).2 ((mem_ups k _).2 ⟨h0, h1⟩)
theorem sumL_pos {a b c : List Int} (he : exB a b c = true) : 1 ≤ sumL a ∧ sumL a ≤ 60 := by
  have hx := exOk_of he
  have h1 := sumL_bd a hx.la
  have h2 := hx.su
  have h3 := hx.n1
  omega
theorem impl_induceAll {a b c : List Int} (he : exB a b c = true) {r : List Int × List Int × List Int × Int × Bool} (h : Ev (fun k => impl_InduceAll.l0 k 0 a b c) r) : Ev (fun k => impl_InduceAll.f k a b c) r := by
  have hx := exOk_of he
  have hn1 := hx.n1
  have hlb := hx.lb
  have hlc := hx.lc
  unfold impl_InduceAll.f
  refine Ev.bind (impl_exOk a b c) ?_
  simp only [he, if_true, copyEx_some a b c (by omega) (by omega) (by omega), Option.bind_some]
  exact h

/-! The reference's step is the program's. -/
def aftG (part last : Int) (l : List Int) : List Int := l.flatMap fun k => if k = part then [k, last] else [k]
theorem aftG_len (part last : Int) : ∀ l : List Int, (aftG part last l).length ≤ 2 * l.length
  | [] => by simp [aftG]
  | x :: l => by
    have := aftG_len part last l
    unfold aftG at *
    rw [List.flatMap_cons, List.length_append]
    have : (if x = part then [x, last] else [x]).length ≤ 2 := by split <;> simp
    simp only [List.length_cons]
    omega
theorem aftG_no (part last : Int) : ∀ l : List Int, part ∉ l → aftG part last l = l
  | [], _ => rfl
  | x :: l, h => by
    have hx : x ≠ part := fun e => h (e ▸ List.mem_cons_self)
    have := aftG_no part last l (fun m => h (List.mem_cons_of_mem _ m))
    unfold aftG at *
    rw [List.flatMap_cons, this, if_neg hx]
    rfl
theorem aftG_mid {part last : Int} {p1 p2 : List Int} (h1 : part ∉ p1) (h2 : part ∉ p2) : aftG part last (p1 ++ part :: p2) = p1 ++ part :: last :: p2 := by
  have e1 := aftG_no part last p1 h1
  have e2 := aftG_no part last p2 h2
  unfold aftG at *
  rw [List.flatMap_append, List.flatMap_cons, e1, e2, if_pos rfl]
  simp
theorem spec_after_l0 (part last : Int) (l : List Int) (hl : l.length ≤ 100) : ∀ (suf pre : List Int), l = pre ++ suf → Ev (fun k => spec_l16After.l0 k part last (aftG part last pre) l (l.length : Int) (pre.length : Int)) (aftG part last l)
  | [], pre, e => by
    have e2 : l = pre := by simpa using e
    subst e2
    refine ev_up ?_
    simp only [spec_l16After.l0, if_neg (show ¬ ((l.length : Int) < l.length) by omega)]
    exact Ev.now _
  | x :: suf, pre, e => by
    have hlen : l.length = pre.length + suf.length + 1 := by rw [e]; simp; omega
    have hx : rd l (pre.length : Int) = x := by rw [e]; exact rd_mid _ _ _
    have hw : wrap64 ((pre.length : Int) + 1) = ((pre ++ [x]).length : Int) := by rw [pw_wrap (by omega) (by omega)]; simp
    have hb := aftG_len part last pre
    have ih := spec_after_l0 part last l hl suf (pre ++ [x]) (by simp [e])
    have ea : aftG part last (pre ++ [x]) = aftG part last pre ++ (if x = part then [x, last] else [x]) := by simp [aftG]
    rw [ea] at ih
    refine ev_up ?_
    simp only [spec_l16After.l0, if_pos (show ((pre.length : Int) < l.length) by omega), if_pos (Int.natCast_nonneg pre.length), hx, hw, if_pos (show (aftG part last pre).length < 17592186044416 by omega), Option.bind_some]
    by_cases c : x = part
    · rw [if_pos c] at ih
      have hb2 : (aftG part last pre ++ [x]).length < 17592186044416 := by simp; omega
      simp only [if_pos c, if_pos hb2]
      rw [List.append_assoc]
      exact ih
    · rw [if_neg c] at ih
      simp only [if_neg c]
      exact ih
theorem spec_after {p1 p2 : List Int} {part last : Int} (h1 : part ∉ p1) (h2 : part ∉ p2) (hl : p1.length + p2.length ≤ 50) : Ev (fun k => spec_l16After.f k (p1 ++ part :: (p2 ++ [last])) part) (p1 ++ part :: last :: p2) := by
  have e : p1 ++ part :: (p2 ++ [last]) = (p1 ++ part :: p2) ++ [last] := by simp
  rw [e]
  have hlen : (((p1 ++ part :: p2) ++ [last]).length : Int) = ((p1 ++ part :: p2).length : Int) + 1 := by rw [List.length_append]; rfl
  have hpl : (p1 ++ part :: p2).length = p1.length + p2.length + 1 := by simp; omega
  unfold spec_l16After.f
  have hw : wrap64 ((((p1 ++ part :: p2) ++ [last]).length : Int) - 1) = ((p1 ++ part :: p2).length : Int) := by rw [hlen, pw_wrap (by omega) (by omega)]; omega
  have ht : ((p1 ++ part :: p2) ++ [last]).take (((p1 ++ part :: p2).length : Int)).toNat = p1 ++ part :: p2 := by rw [Int.toNat_natCast]; exact List.take_left' rfl
  simp only [hw, if_pos (Int.natCast_nonneg (p1 ++ part :: p2).length), if_pos (show ((p1 ++ part :: p2).length : Int) < (((p1 ++ part :: p2) ++ [last]).length : Int) by omega), if_pos (show ((p1 ++ part :: p2).length : Int) ≤ (((p1 ++ part :: p2) ++ [last]).length : Int) by omega), ht, rd_last]
  have := spec_after_l0 part last (p1 ++ part :: p2) (by omega) (p1 ++ part :: p2) [] rfl
  rw [aftG_mid h1 h2] at this
  exact this
theorem spec_once_head {a b c pb pc : List Int} {A B : Int} (he : exB a b c = true) (eb : b = pb ++ [A]) (ec : c = pc ++ [B]) {r : List Int × List Int × List Int × Bool} (h : Ev (fun k => spec_l16Once.j0 k A B (decide (A = B ∨ rd a A = rd a B)) a b c a b c) r) : Ev (fun k => spec_l16Once.f k a b c) r := by
  have hx := exOk_of he
  have hrow := ex_rows hx
  have hA := hrow.1 A (by rw [eb]; simp)
  have hB := hrow.2 B (by rw [ec]; simp)
  have hlb := hx.lb
  have hlc := hx.lc
  have hn := hx.n1
  have lb : b.length = pb.length + 1 := by rw [eb]; simp
  have lc : c.length = pc.length + 1 := by rw [ec]; simp
  have rb : rd b (pb.length : Int) = A := by rw [eb]; exact rd_last _ _
  have rc : rd c (pc.length : Int) = B := by rw [ec]; exact rd_last _ _
  have hw : wrap64 ((b.length : Int) - 1) = (pb.length : Int) := by rw [pw_wrap (by omega) (by omega)]; omega
  have hw2 : wrap64 ((c.length : Int) - 1) = (pc.length : Int) := by rw [pw_wrap (by omega) (by omega)]; omega
  unfold spec_l16Once.f
  simp only [hw, hw2, if_pos (Int.natCast_nonneg pb.length), if_pos (Int.natCast_nonneg pc.length), if_pos (show (pb.length : Int) < b.length by omega), if_pos (show (pc.length : Int) < c.length by omega), rb, rc, Option.bind_some, List.length_nil, List.nil_append, if_pos (show 0 + a.length < 17592186044416 by omega), if_pos (show 0 + b.length < 17592186044416 by omega), if_pos (show 0 + c.length < 17592186044416 by omega), if_pos hA.1, if_pos hA.2, if_pos hB.1, if_pos hB.2]
  by_cases hAB : A = B
  · simp only [if_pos hAB]
    rw [decide_eq_true (.inl hAB)] at h
    exact h
  · simp only [if_neg hAB]
    have e : (rd a A == rd a B) = decide (A = B ∨ rd a A = rd a B) := by
      rw [Bool.eq_iff_iff]
      simp [hAB]
    rw [e]
    exact h
theorem spec_once_top {a b c pb p1 p2 : List Int} {A B : Int} (he : exB a b c = true) (eb : b = pb ++ [A]) (ec : c = p1 ++ A :: (p2 ++ [B])) (hn : A ∉ p1) (hn2 : A ∉ p2) (hAB : A ≠ B) (hlt : rd a B < rd a A) : Ev (fun k => spec_l16Once.f k a b c) (a.set A.toNat (rd a A - rd a B), b, p1 ++ A :: B :: p2, true) := by
  have hx := exOk_of he
  have hrow := ex_rows hx
  have hA := hrow.1 A (by rw [eb]; simp)
  have hB := hrow.2 B (by rw [ec]; simp)
  have hn1 := hx.n1
  have hlb := hx.lb
  have hlc := hx.lc
  have rA := rd_len hx.la hA.1 hA.2
  have rB := rd_len hx.la hB.1 hB.2
  have hl : c.length = p1.length + p2.length + 2 := by rw [ec]; simp; omega
  refine spec_once_head (pb := pb) (A := A) (pc := p1 ++ A :: p2) (B := B) he eb (by rw [ec]; simp) ?_
  rw [decide_eq_false (show ¬ (A = B ∨ rd a A = rd a B) from fun e => e.elim hAB (by omega))]
  refine ev_up ?_
  simp only [spec_l16Once.j0, Bool.false_eq_true, if_false, if_pos hA.1, if_pos hA.2, if_pos hB.1, if_pos hB.2, if_pos (show rd a A > rd a B from hlt), pw_wrap (a := rd a A - rd a B) (by omega) (by omega)]
  have hp := spec_after (p1 := p1) (p2 := p2) (part := A) (last := B) hn hn2 (by omega)
  rw [← ec] at hp
  exact Ev.bind hp (Ev.now _)
theorem spec_once_bottom {a b c pc q1 q2 : List Int} {A B : Int} (he : exB a b c = true) (eb : b = q1 ++ B :: (q2 ++ [A])) (ec : c = pc ++ [B]) (hn : B ∉ q1) (hn2 : B ∉ q2) (hAB : A ≠ B) (hlt : rd a A < rd a B) : Ev (fun k => spec_l16Once.f k a b c) (a.set B.toNat (rd a B - rd a A), q1 ++ B :: A :: q2, c, true) := by
  have hx := exOk_of he
  have hrow := ex_rows hx
  have hA := hrow.1 A (by rw [eb]; simp)
  have hB := hrow.2 B (by rw [ec]; simp)
  have hn1 := hx.n1
  have hlb := hx.lb
  have hlc := hx.lc
  have rA := rd_len hx.la hA.1 hA.2
  have rB := rd_len hx.la hB.1 hB.2
  have hl : b.length = q1.length + q2.length + 2 := by rw [eb]; simp; omega
  refine spec_once_head (pb := q1 ++ B :: q2) (A := A) (pc := pc) (B := B) he (by rw [eb]; simp) ec ?_
  rw [decide_eq_false (show ¬ (A = B ∨ rd a A = rd a B) from fun e => e.elim hAB (by omega))]
  refine ev_up ?_
  simp only [spec_l16Once.j0, Bool.false_eq_true, if_false, if_pos hA.1, if_pos hA.2, if_pos hB.1, if_pos hB.2, if_neg (show ¬ rd a A > rd a B by omega), pw_wrap (a := rd a B - rd a A) (by omega) (by omega)]
  have hp := spec_after (p1 := q1) (p2 := q2) (part := B) (last := A) hn hn2 (by omega)
  rw [← eb] at hp
  exact Ev.bind hp (Ev.now _)
theorem both_once {a b c : List Int} (he : exB a b c = true) : (Ev (fun k => impl_InduceOnce.f k a b c) ([], [], [], false) ∧ Ev (fun k => spec_l16Once.f k a b c) ([], [], [], false)) ∨
    ∃ x y z, Ev (fun k => impl_InduceOnce.f k a b c) (x, y, z, true) ∧ Ev (fun k => spec_l16Once.f k a b c) (x, y, z, true) ∧ exB x y z = true ∧ sumL x < sumL a := by
  have hx := exOk_of he
  have hrow := ex_rows hx
  have hn1 := hx.n1
  have hlb := hx.lb
  have hlc := hx.lc
  obtain ⟨pb, A, eb⟩ := snoc_of (p := b) (by omega)
  obtain ⟨pc, B, ec⟩ := snoc_of (p := c) (by omega)
  have hA := hrow.1 A (by rw [eb]; simp)
  have hB := hrow.2 B (by rw [ec]; simp)
  have rA := ex_nn hx hA.1 hA.2
  have rB := ex_nn hx hB.1 hB.2
  by_cases hs : A = B ∨ rd a A = rd a B
  · refine .inl ⟨once_head he eb ec ?_, spec_once_head he eb ec ?_⟩
    · rw [decide_eq_true hs]
      exact once_stop _ _ _ _ _
    · rw [decide_eq_true hs]
      refine ev_up ?_
      simp only [spec_l16Once.j0, if_true]
      exact Ev.now _
  · right
    have hAB : A ≠ B := fun e => hs (.inl e)
    by_cases hlt : rd a B < rd a A
    · obtain ⟨p1, p2, e2, hn⟩ := mid_split hx.pc ec (mem_perm hx.pc hA.1 (by omega)) hAB
      obtain ⟨h1, h2, h3⟩ := rauzy_top hx eb e2 hAB hlt
      have hn2 : A ∉ p2 := fun hm => (nodup_mid hx.pc.2.2 e2).2 (List.mem_append_left _ hm)
      exact ⟨_, _, _, once_top he eb e2 hn hAB hlt, spec_once_top he eb e2 hn hn2 hAB hlt, exB_of h1, by omega⟩
    · obtain ⟨q1, q2, e2, hn⟩ := mid_split hx.pb eb (mem_perm hx.pb hB.1 (by omega)) hAB.symm
      obtain ⟨h1, h2, h3⟩ := rauzy_bottom hx e2 ec hAB (by omega)
      have hn2 : B ∉ q2 := fun hm => (nodup_mid hx.pb.2.2 e2).2 (List.mem_append_left _ hm)
      exact ⟨_, _, _, once_bottom he e2 ec hn hAB (by omega), spec_once_bottom he e2 ec hn hn2 hAB (by omega), exB_of h1, by omega⟩

theorem szIntS_eq (l : List Int) (m : Int) (hl : l.length ≤ 9223372036854775807) (h0 : 0 ≤ m) (h1 : m ≤ 1048576) : laws_szIntS.f l m = some (if (l.length : Int) ≤ m then m - (l.length : Int) else -1) := by
  unfold laws_szIntS.f
  have e : wrap64 (m - (l.length : Int)) = m - (l.length : Int) := by unfold wrap64; omega
  rw [e]
  by_cases h : (l.length : Int) ≤ m
  · rw [if_neg (by omega), if_pos h]
  · rw [if_pos (by omega), if_neg h]

theorem eqIntS_l0 (l : List Int) (hl : l.length ≤ 2147483648) : ∀ (suf pre : List Int), l = pre ++ suf → Ev (fun k => laws_eqIntS.l0 k l l (pre.length : Int)) true := by
  intro suf
  induction suf with
  | nil =>
    intro pre h
    subst h
    refine ev_up ?_
    simp only [laws_eqIntS.l0, if_neg (nlt_end pre)]
    exact Ev.now _
  | cons c suf ih =>
    intro pre h
    have := ih (pre ++ [c]) (by simp [h])
    subst h
    refine ev_up ?_
    simp only [laws_eqIntS.l0, if_pos (lt_mid pre suf c), if_pos (Int.natCast_nonneg pre.length), if_true, wrap_snoc (x := c) (s := suf) (p := pre) (by simp at hl ⊢; omega)]
    exact this
theorem eqIntS_ev (l : List Int) (hl : l.length ≤ 2147483648) : Ev (fun k => laws_eqIntS.f k l l) true := by
  unfold laws_eqIntS.f
  simp only [if_true]
  exact eqIntS_l0 l hl l [] rfl

theorem toIntS_l0 (l : List Int) (hl : l.length ≤ 1048576) : ∀ (suf pre : List Int), l = pre ++ suf → Ev (fun k => laws_toIntS.l0 k l (pre ++ List.replicate suf.length 0) (pre.length : Int)) l := by
  intro suf
  induction suf with
  | nil =>
    intro pre h
    subst h
    refine ev_up ?_
    simp only [laws_toIntS.l0, if_neg (nlt_end pre)]
    simpa using Ev.now pre
  | cons c suf ih =>
    intro pre h
    have := ih (pre ++ [c]) (by simp [h])
    subst h
    refine ev_up ?_
    simp only [laws_toIntS.l0, if_pos (lt_mid pre suf c), if_pos (Int.natCast_nonneg pre.length), rd_mid, if_pos (show ((pre.length : Nat) : Int) < ((pre ++ List.replicate (c :: suf).length (0 : Int)).length : Int) by simp; omega), wrap_snoc (x := c) (s := suf) (p := pre) (by simp at hl ⊢; omega)]
    rw [show (pre ++ List.replicate (c :: suf).length (0 : Int)).set ((pre.length : Nat) : Int).toNat c = pre ++ [c] ++ List.replicate suf.length 0 by simp [List.replicate_succ]]
    exact this
theorem toIntS_ev (l : List Int) (hl : l.length ≤ 1048576) : Ev (fun k => laws_toIntS.f k l) l := by
  have := toIntS_l0 l hl l [] rfl
  unfold laws_toIntS.f
  simp only [if_pos (Int.natCast_nonneg l.length), if_pos (show ((l.length : Nat) : Int).toNat ≤ 35184372088832 by omega)]
  simpa using this

theorem szEx_eq (a b c : List Int) (ha : a.length ≤ 9223372036854775807) (hb : b.length ≤ 9223372036854775807) (hc : c.length ≤ 9223372036854775807) :
    laws_szExchange.f a b c 1048576 = some (if a.length + b.length + c.length ≤ 1048576 then 1048576 - (a.length : Int) - (b.length : Int) - (c.length : Int) else -1) := by
  unfold laws_szExchange.f
  rw [szIntS_eq a _ ha (by omega) (by omega)]
  simp only [Option.bind_some]
  by_cases h1 : (a.length : Int) ≤ 1048576
  · rw [if_pos h1, if_neg (by omega), szIntS_eq b _ hb (by omega) (by omega)]
    simp only [Option.bind_some]
    by_cases h2 : (b.length : Int) ≤ 1048576 - (a.length : Int)
    · rw [if_pos h2, if_neg (by omega), szIntS_eq c _ hc (by omega) (by omega)]
      simp only [Option.bind_some]
      by_cases h3 : (c.length : Int) ≤ 1048576 - (a.length : Int) - (b.length : Int)
      · rw [if_pos h3, if_neg (by omega), if_pos (by omega)]
      · rw [if_neg h3, if_pos (by omega), if_neg (by omega)]
    · rw [if_neg h2, if_pos (by omega), if_neg (by omega)]
  · rw [if_neg h1, if_pos (by omega), if_neg (by omega)]
theorem toEx_ev (a b c : List Int) (h : a.length + b.length + c.length ≤ 1048576) : Ev (fun k => laws_toExchange.f k a b c) (a, b, c) := by
  unfold laws_toExchange.f
  refine Ev.bind (toIntS_ev a (by omega)) ?_
  refine Ev.bind (toIntS_ev b (by omega)) ?_
  refine Ev.bind (toIntS_ev c (by omega)) ?_
  exact Ev.now _
theorem eqEx_ev (a b c : List Int) (h : a.length + b.length + c.length ≤ 1048576) : Ev (fun k => laws_eqExchange.f k a b c a b c) true := by
  unfold laws_eqExchange.f
  refine Ev.bind (eqIntS_ev a (by omega)) ?_
  simp only [if_true]
  refine Ev.bind (eqIntS_ev b (by omega)) ?_
  simp only [if_true]
  refine Ev.bind (eqIntS_ev c (by omega)) ?_
  exact Ev.now _

/-- The numbers m, m + 1, .. -/
def marked : Nat → Int → List Int
  | 0, _ => []
  | n + 1, m => m :: marked n (m + 1)
theorem wrap_bd {a : Int} (h0 : -4611686018427387904 ≤ a) (h1 : a ≤ 4611686018427387904) : wrap64 a = a := by unfold wrap64; omega
theorem markIntS_l0 : ∀ (suf pre : List Int) (m : Int), (pre ++ suf).length ≤ 2147483648 → 0 ≤ m → m + suf.length ≤ 4000000000000000000 →
    Ev (fun k => laws_markIntS.l0 k (pre ++ suf) m (pre.length : Int)) (m + suf.length, pre ++ marked suf.length m) := by
  intro suf
  induction suf with
  | nil =>
    intro pre m _ _ _
    refine ev_up ?_
    simp only [laws_markIntS.l0, if_neg (nlt_end pre)]
    simpa [marked] using Ev.now (m, pre)
  | cons c suf ih =>
    intro pre m hl h0 h1
    have hs : (pre ++ c :: suf).set ((pre.length : Nat) : Int).toNat m = (pre ++ [m]) ++ suf := by simp
    have := ih (pre ++ [m]) (m + 1) (by simp at hl ⊢; omega) (by omega) (by simp at h1; omega)
    refine ev_up ?_
    simp only [laws_markIntS.l0, if_pos (lt_mid pre suf c), if_pos (Int.natCast_nonneg pre.length), hs, wrap_bd (a := m + 1) (by omega) (by simp at h1; omega), wrap_bd (a := (pre.length : Int) + 1) (by omega) (by simp at hl; omega)]
    rw [show (pre.length : Int) + 1 = ((pre ++ [m]).length : Int) by simp]
    rw [show m + ((c :: suf).length : Int) = m + 1 + (suf.length : Int) by simp; omega]
    simpa [marked] using this
theorem markIntS_ev (l : List Int) (m : Int) (hl : l.length ≤ 2147483648) (h0 : 0 ≤ m) (h1 : m ≤ 1000000000000000000) : Ev (fun k => laws_markIntS.f k l m) (m + l.length, marked l.length m) :=
  markIntS_l0 l [] m hl h0 (by omega)
theorem heldIntS_l0 : ∀ (n : Nat) (pre : List Int) (m : Int), pre.length + n ≤ 2147483648 → 0 ≤ m → m + n ≤ 4000000000000000000 →
    Ev (fun k => laws_heldIntS.l0 k (pre ++ marked n m) m (pre.length : Int)) (m + n) := by
  intro n
  induction n with
  | zero =>
    intro pre m _ _ _
    refine ev_up ?_
    simp only [laws_heldIntS.l0, marked, if_neg (nlt_end pre)]
    simpa using Ev.now m
  | succ n ih =>
    intro pre m hl h0 h1
    have := ih (pre ++ [m]) (m + 1) (by simp; omega) (by omega) (by omega)
    refine ev_up ?_
    simp only [laws_heldIntS.l0, marked, if_pos (lt_mid pre (marked n (m + 1)) m), if_pos (Int.natCast_nonneg pre.length), rd_mid, if_true, wrap_bd (a := m + 1) (by omega) (by omega), wrap_bd (a := (pre.length : Int) + 1) (by omega) (by omega)]
    rw [show (pre.length : Int) + 1 = ((pre ++ [m]).length : Int) by simp]
    rw [show m + ((n + 1 : Nat) : Int) = m + 1 + (n : Int) by push_cast; omega]
    simpa using this
theorem heldIntS_ev (n : Nat) (m : Int) (hl : n ≤ 2147483648) (h0 : 0 ≤ m) (h1 : m ≤ 1000000000000000000) : Ev (fun k => laws_heldIntS.f k (marked n m) m) (m + n) :=
  heldIntS_l0 n [] m (by simpa using hl) h0 (by omega)

theorem eqEx3_ev (a b c : List Int) (ha : a.length ≤ 1048576) (hb : b.length ≤ 1048576) (hc : c.length ≤ 1048576) : Ev (fun k => laws_eqExchange.f k a b c a b c) true := by
  unfold laws_eqExchange.f
  refine Ev.bind (eqIntS_ev a (by omega)) ?_
  simp only [if_true]
  refine Ev.bind (eqIntS_ev b (by omega)) ?_
  simp only [if_true]
  refine Ev.bind (eqIntS_ev c (by omega)) ?_
  exact Ev.now _
theorem markEx_ev (a b c : List Int) (m : Int) (ha : a.length ≤ 1048576) (hb : b.length ≤ 1048576) (hc : c.length ≤ 1048576) (h0 : 0 ≤ m) (h1 : m ≤ 100000000000) :
    Ev (fun k => laws_markExchange.f k a b c m) (m + a.length + b.length + c.length, marked a.length m, marked b.length (m + a.length), marked c.length (m + a.length + b.length)) := by
  unfold laws_markExchange.f
  refine Ev.bind (markIntS_ev a m (by omega) h0 (by omega)) ?_
  refine Ev.bind (markIntS_ev b (m + a.length) (by omega) (by omega) (by omega)) ?_
  refine Ev.bind (markIntS_ev c (m + a.length + b.length) (by omega) (by omega) (by omega)) ?_
  exact Ev.now _
theorem heldEx_ev (a b c : Nat) (m : Int) (ha : a ≤ 1048576) (hb : b ≤ 1048576) (hc : c ≤ 1048576) (h0 : 0 ≤ m) (h1 : m ≤ 100000000000) :
    Ev (fun k => laws_heldExchange.f k (marked a m) (marked b (m + a)) (marked c (m + a + b)) m) (m + a + b + c) := by
  unfold laws_heldExchange.f
  refine Ev.bind (heldIntS_ev a m (by omega) h0 (by omega)) ?_
  simp only [if_neg (show ¬ m + (a : Int) < 0 by omega)]
  refine Ev.bind (heldIntS_ev b (m + a) (by omega) (by omega) (by omega)) ?_
  simp only [if_neg (show ¬ m + (a : Int) + (b : Int) < 0 by omega)]
  refine Ev.bind (heldIntS_ev c (m + a + b) (by omega) (by omega) (by omega)) ?_
  simp only [if_neg (show ¬ m + (a : Int) + (b : Int) + (c : Int) < 0 by omega)]
  exact Ev.now _

theorem both_all : ∀ (N : Nat) (a b c : List Int) (n : Int), exB a b c = true → sumL a ≤ N → 0 ≤ n → n + N ≤ 10000 →
    ∃ x y z m, Ev (fun k => impl_InduceAll.l0 k n a b c) (x, y, z, m, true) ∧ Ev (fun k => spec_InduceAll.l0 k n a b c) (x, y, z, m, true) ∧ exB x y z = true
  | 0, a, b, c, n, he, hN, _, _ => by have := sumL_pos he; omega
  | N + 1, a, b, c, n, he, hN, n0, n1 => by
    have hp := sumL_pos he
    rcases both_once he with ⟨h1, h2⟩ | ⟨x, y, z, h1, h2, hex, hlt⟩
    · refine ⟨a, b, c, n, ev_up ?_, ev_up ?_, he⟩
      · simp only [impl_InduceAll.l0]
        refine Ev.bind h1 ?_
        simp only [Bool.false_eq_true, if_false]
        exact Ev.now _
      · simp only [spec_InduceAll.l0]
        refine Ev.bind h2 ?_
        simp only [Bool.false_eq_true, if_false]
        exact Ev.now _
    · obtain ⟨a', b', c', m, g1, g2, g3⟩ := both_all N x y z (n + 1) hex (by omega) (by omega) (by omega)
      refine ⟨a', b', c', m, ev_up ?_, ev_up ?_, g3⟩
      · simp only [impl_InduceAll.l0, pw_wrap (a := n + 1) (by omega) (by omega)]
        refine Ev.bind h1 ?_
        simp only [if_true]
        exact g1
      · simp only [spec_InduceAll.l0, pw_wrap (a := n + 1) (by omega) (by omega)]
        refine Ev.bind h2 ?_
        simp only [if_true]
        exact g2
theorem all_any (a b c : List Int) : ∃ x y z m ok, Ev (fun k => impl_InduceAll.f k a b c) (x, y, z, m, ok) ∧ Ev (fun k => spec_InduceAll.f k a b c) (x, y, z, m, ok) ∧ x.length ≤ 1000 ∧ y.length ≤ 1000 ∧ z.length ≤ 1000 := by
  by_cases he : exB a b c = true
  · have hp := sumL_pos he
    obtain ⟨x, y, z, m, h1, h2, h3⟩ := both_all 60 a b c 0 he (by omega) (by omega) (by omega)
    have hx := exOk_of h3
    have hn := hx.n1
    have hb := hx.lb
    have hc := hx.lc
    refine ⟨x, y, z, m, true, impl_induceAll he h1, ?_, by omega, by omega, by omega⟩
    have ha := exOk_of he
    have an := ha.n1
    have ab := ha.lb
    have ac := ha.lc
    unfold spec_InduceAll.f
    refine Ev.bind (spec_exOk a b c) ?_
    simp only [if_pos he, Option.bind_some, List.length_nil, List.nil_append, if_pos (show 0 + a.length < 17592186044416 by omega), if_pos (show 0 + b.length < 17592186044416 by omega), if_pos (show 0 + c.length < 17592186044416 by omega)]
    exact h2
  · refine ⟨[], [], [], 0, false, ?_, ?_, by simp, by simp, by simp⟩
    · unfold impl_InduceAll.f
      refine Ev.bind (impl_exOk a b c) ?_
      simp only [if_neg he]
      exact Ev.now _
    · unfold spec_InduceAll.f
      refine Ev.bind (spec_exOk a b c) ?_
      simp only [if_neg he]
      exact Ev.now _
theorem FnExactInduceAll : laws_FnExactInduceAll.Pure := by
  intro a b c ha _ hb _ hc _
  apply Ev.rounds
  unfold laws_FnExactInduceAll.f
  simp only [szEx_eq a b c ha hb hc, Option.bind_some]
  by_cases h : a.length + b.length + c.length ≤ 1048576
  · obtain ⟨x, y, z, m, ok, hi, hs, lx, ly, lz⟩ := all_any a b c
    have e1 := eqEx3_ev x y z (by omega) (by omega) (by omega)
    simp only [if_pos h]
    refine Ev.congr (f := fun k => _) (fun k => if_neg (by omega)) ?_
    refine Ev.bind (toEx_ev a b c h) ?_
    refine Ev.bind hs ?_
    refine Ev.bind (toEx_ev a b c h) ?_
    refine Ev.bind hi ?_
    refine Ev.bind e1 ?_
    simp only [if_true, bne_self_eq_false]
    refine ev_up ?_
    simp only [laws_FnExactInduceAll.j0, Bool.false_eq_true, if_false]
    refine Ev.bind (toEx_ev a b c h) ?_
    refine Ev.bind (eqEx_ev a b c h) ?_
    simp only [if_true]
    refine Ev.bind (markEx_ev a b c 1 (by omega) (by omega) (by omega) (by omega) (by omega)) ?_
    simp only [if_neg (show ¬ (1 + (a.length : Int) + (b.length : Int) + (c.length : Int)) < 0 by omega)]
    refine Ev.bind e1 ?_
    simp only [if_true, bne_self_eq_false]
    refine ev_up ?_
    simp only [laws_FnExactInduceAll.j1, Bool.false_eq_true, if_false]
    refine Ev.bind (markEx_ev x y z 1 (by omega) (by omega) (by omega) (by omega) (by omega)) ?_
    refine Ev.bind (heldEx_ev _ _ _ 1 (by omega) (by omega) (by omega) (by omega) (by omega)) ?_
    simp only [if_neg (show ¬ (1 + (x.length : Int) + (y.length : Int) + (z.length : Int)) < 0 by omega), if_true]
    refine Ev.bind (toEx_ev a b c h) ?_
    refine Ev.bind hi ?_
    refine Ev.bind e1 ?_
    simp only [if_true, bne_self_eq_false]
    refine ev_up ?_
    simp only [laws_FnExactInduceAll.j2, Bool.false_eq_true, if_false]
    refine Ev.bind (heldEx_ev _ _ _ 1 (by omega) (by omega) (by omega) (by omega) (by omega)) ?_
    simp only [if_neg (show ¬ (1 + (x.length : Int) + (y.length : Int) + (z.length : Int)) < 0 by omega), if_true]
    exact Ev.now _
  · simp only [if_neg h]
    exact Ev.congr (fun k => if_pos (by omega)) (Ev.now _)

end Go.Proofs.Ytfomhkfgdggngaa.Pure
