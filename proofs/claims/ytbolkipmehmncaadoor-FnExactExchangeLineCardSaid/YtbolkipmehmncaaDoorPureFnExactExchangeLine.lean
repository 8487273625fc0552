/- The program's ExchangeLine returns what the reference's returns, for all arguments: no condition. -/
import Derived.Test.YtbolkipmehmncaaDoorSayFnExactExchangeLine
namespace Go.Proofs.YtbolkipmehmncaaDoor.Pure
open Go.RowKit Go.Proofs.YtbolkipmehmncaaDoor.S Go.Proofs.YtbolkipmehmncaaDoorW.PrintWords Go.Proofs.YtbolkipmehmncaaDoorW.PrintLast
set_option linter.unusedVariables false
set_option linter.unusedSimpArgs false

theorem l01In_eq (a b c : Int) : spec_l01In.f a b c = some (decide (b ≤ a ∧ a ≤ c)) := by
  unfold spec_l01In.f
  split
  · rename_i h
    by_cases h2 : a ≤ c
    · rw [decide_eq_true h2, decide_eq_true ⟨h, h2⟩]
    · rw [decide_eq_false h2, decide_eq_false (fun h => h2 h.2)]
  · rename_i h
    rw [decide_eq_false (fun h2 => h h2.1)]

theorem ev_up {α : Type} {g : Nat → Option α} {r : α} (h : Ev (fun k => g (k + 1)) r) : Ev g r := Ev.step (fun _ => rfl) h
theorem pw_wrap {a : Int} (h0 : -9223372036854775808 ≤ a) (h1 : a ≤ 9223372036854775807) : wrap64 a = a := by
  unfold wrap64
  omega

/-- A permutation of at most 24 elements. -/
def isPerm (p : List Int) : Prop := p.length ≤ 24 ∧ (∀ x ∈ p, 0 ≤ x ∧ x < (p.length : Int)) ∧ p.Nodup
theorem perm_go (n : Nat) (hn : n ≤ 24) : ∀ (p pre : List Int) (seen : List Bool), seen.length = 24 → (∀ x : Int, 0 ≤ x → x < n → (seen.getD x.toNat false = true ↔ x ∈ pre)) →
    permGo n p seen = permSGo n pre p := by
  intro p
  induction p with
  | nil => intro pre seen _ _; rfl
  | cons x p ih =>
    intro pre seen hl hs
    simp only [permGo, permSGo]
    by_cases h0 : x < 0
    · rw [if_pos h0, if_neg (by omega)]
    · rw [if_neg h0]
      by_cases h1 : (n : Int) ≤ x
      · rw [if_pos h1, if_neg (by omega)]
      · rw [if_neg h1, if_pos (show 0 ≤ x ∧ x ≤ (n : Int) - 1 by omega)]
        have hx := hs x (by omega) (by omega)
        by_cases h2 : x ∈ pre
        · rw [if_pos (hx.2 h2), if_pos h2]
        · rw [if_neg (fun h => h2 (hx.1 h)), if_neg h2]
          refine ih _ _ (by simpa using hl) (fun y hy0 hy1 => ?_)
          by_cases hxy : x = y
          · subst hxy
            have : x.toNat < seen.length := by omega
            simp [List.getD, this]
          · have hne : x.toNat ≠ y.toNat := by omega
            have := hs y hy0 hy1
            simp only [List.getD, List.getElem?_set_ne hne]
            rw [List.getD] at this
            rw [this]
            simp [Ne.symm hxy]
theorem perm_same (p : List Int) : permB p = permSB p := by
  unfold permB permSB
  by_cases h : p.length ≤ 24
  · rw [if_pos h, if_pos h]
    refine perm_go p.length h p [] no24 rfl (fun x h0 h1 => ?_)
    have : no24.getD x.toNat false = false := by
      unfold no24
      simp only [List.getD, List.getElem?_replicate]
      split <;> rfl
    rw [this]
    simp
  · rw [if_neg h, if_neg h]
theorem permS_iff (n : Nat) : ∀ (p pre : List Int), permSGo n pre p = true ↔ ((∀ x ∈ p, 0 ≤ x ∧ x < (n : Int)) ∧ (∀ x ∈ p, x ∉ pre) ∧ p.Nodup)
  | [], pre => by simp [permSGo]
  | x :: p, pre => by
    simp only [permSGo]
    by_cases h : 0 ≤ x ∧ x ≤ (n : Int) - 1
    · rw [if_pos h]
      by_cases h2 : x ∈ pre
      · rw [if_pos h2]
        simp [h2]
      · rw [if_neg h2, permS_iff n p (pre ++ [x])]
        simp only [List.mem_cons, forall_eq_or_imp, List.nodup_cons]
        constructor
        · rintro ⟨h3, h4, h5⟩
          exact ⟨⟨by omega, h3⟩, ⟨h2, fun y hy hp => h4 y hy (List.mem_append.2 (.inl hp))⟩, fun hx => h4 x hx (List.mem_append.2 (.inr (List.mem_singleton.2 rfl))), h5⟩
        · rintro ⟨h3, h4, h5, h6⟩
          refine ⟨h3.2, fun y hy hp => ?_, h6⟩
          rcases List.mem_append.1 hp with hp | hp
          · exact h4.2 y hy hp
          · rw [List.mem_singleton.1 hp] at hy
            exact h5 hy
    · rw [if_neg h]
      simp only [Bool.false_eq_true, List.mem_cons, forall_eq_or_imp, false_iff]
      intro h2
      omega
theorem permB_iff (p : List Int) : permB p = true ↔ isPerm p := by
  rw [perm_same]
  unfold permSB isPerm
  by_cases h : p.length ≤ 24
  · rw [if_pos h, permS_iff]
    simp [h]
  · rw [if_neg h]
    simp [h]

/-! Small words on lists, read at a place. -/
theorem wrap_snoc {α : Type} {p s : List α} {x : α} (h : (p ++ x :: s).length ≤ 4611686018427387904) : wrap64 ((p.length : Int) + 1) = ((p ++ [x]).length : Int) := by
  simp at h ⊢
  unfold wrap64
  omega
theorem lt_mid {α : Type} (p s : List α) (x : α) : ((p.length : Nat) : Int) < ((p ++ x :: s).length : Int) := by simp; omega
theorem nlt_end {α : Type} (p : List α) : ¬ ((p.length : Nat) : Int) < ((p ++ []).length : Int) := by simp
theorem rd_mid (p s : List Int) (x : Int) : rd (p ++ x :: s) (p.length : Int) = x := by simp [rd, List.getD]
def sumL : List Int → Int
  | [] => 0
  | x :: xs => x + sumL xs
/-- Lengths are from 1 to 60. -/
def lensB : List Int → Bool
  | [] => true
  | x :: xs => decide (1 ≤ x ∧ x ≤ 60) && lensB xs
theorem lensB_iff : ∀ l : List Int, lensB l = true ↔ ∀ x ∈ l, 1 ≤ x ∧ x ≤ 60
  | [] => by simp [lensB]
  | x :: xs => by simp [lensB, lensB_iff xs]
theorem sumL_bd : ∀ l : List Int, (∀ x ∈ l, 1 ≤ x ∧ x ≤ 60) → (l.length : Int) ≤ sumL l ∧ sumL l ≤ 60 * l.length
  | [], _ => by simp [sumL]
  | x :: xs, h => by
    have h1 := h x (by simp)
    have h2 := sumL_bd xs (fun y hy => h y (by simp [hy]))
    simp only [sumL, List.length_cons]
    omega
def exB (a b c : List Int) : Bool := decide (1 ≤ a.length ∧ a.length ≤ 6) && decide (b.length = a.length) && decide (c.length = a.length) && lensB a && decide (sumL a ≤ 60) && permB b && permB c
theorem spec_ex_l0 (a b c : List Int) (ha : a.length ≤ 6) : ∀ (suf pre : List Int) (s : Int), a = pre ++ suf → 0 ≤ s → s + 60 * suf.length ≤ 360 →
    Ev (fun k => spec_ExchangeOk.l0 k s a (a.length : Int) (pre.length : Int) a b c) (lensB suf && decide (s + sumL suf ≤ 60) && permB b && permB c) := by
  intro suf
  induction suf with
  | nil =>
    intro pre s h h0 h1
    have hlen : ¬ ((pre.length : Nat) : Int) < (a.length : Int) := by rw [h]; simp
    refine ev_up ?_
    simp only [spec_ExchangeOk.l0, if_neg hlen, lensB, sumL, Int.add_zero, Bool.true_and, spec_PermOk.f, Option.bind_some, ← perm_same]
    by_cases h2 : s ≤ 60
    · simp only [if_pos h2, decide_eq_true h2, Bool.true_and]
      cases permB b <;> simp <;> exact Ev.now _
    · simp only [if_neg h2, decide_eq_false h2, Bool.false_and]
      exact Ev.now _
  | cons x suf ih =>
    intro pre s h h0 h1
    have hlt : ((pre.length : Nat) : Int) < (a.length : Int) := by rw [h]; exact lt_mid pre suf x
    have hrd : rd a (pre.length : Int) = x := by rw [h]; exact rd_mid pre suf x
    have hw : wrap64 ((pre.length : Int) + 1) = ((pre ++ [x]).length : Int) := wrap_snoc (s := suf) (by rw [← h]; omega)
    simp at h1
    refine ev_up ?_
    simp only [spec_ExchangeOk.l0, if_pos hlt, if_pos (Int.natCast_nonneg pre.length), hrd, hw, l01In_eq, Option.bind_some]
    by_cases h2 : 1 ≤ x ∧ x ≤ 60
    · simp only [decide_eq_true h2, if_true, pw_wrap (a := s + x) (by omega) (by omega), lensB, sumL, Bool.true_and]
      simp only [← Int.add_assoc]
      exact ih (pre ++ [x]) (s + x) (by simp [h]) (by omega) (by omega)
    · simp only [decide_eq_false h2, Bool.false_eq_true, if_false, lensB, Bool.false_and]
      exact Ev.now _
theorem spec_exOk (a b c : List Int) : Ev (fun k => spec_ExchangeOk.f k a b c) (exB a b c) := by
  have hbad : ∀ r : Bool, r = false → Ev (fun k => spec_ExchangeOk.j0 k true a b c) r := by
    rintro r rfl
    refine ev_up ?_
    simp only [spec_ExchangeOk.j0, if_true]
    exact Ev.now _
  unfold spec_ExchangeOk.f exB
  simp only [l01In_eq, Option.bind_some]
  by_cases h1 : 1 ≤ a.length ∧ a.length ≤ 6
  · simp only [decide_eq_true h1, decide_eq_true (show 1 ≤ (a.length : Int) ∧ (a.length : Int) ≤ 6 by omega), if_true, Bool.true_and]
    by_cases h2 : b.length = a.length
    · simp only [decide_eq_true h2, if_pos (show (b.length : Int) = (a.length : Int) by omega), Bool.true_and]
      by_cases h3 : c.length = a.length
      · simp only [decide_eq_true h3, show ((c.length : Int) != (a.length : Int)) = false from by simp; omega, Bool.true_and]
        refine ev_up ?_
        simp only [spec_ExchangeOk.j0, Bool.false_eq_true, if_false]
        have := spec_ex_l0 a b c h1.2 a [] 0 rfl (by omega) (by omega)
        simpa using this
      · simp only [decide_eq_false h3, show ((c.length : Int) != (a.length : Int)) = true from by simp; omega, Bool.false_and]
        exact hbad _ rfl
    · simp only [decide_eq_false h2, if_neg (show ¬ (b.length : Int) = (a.length : Int) by omega), Bool.false_and]
      exact hbad _ rfl
  · simp only [decide_eq_false h1, decide_eq_false (show ¬ (1 ≤ (a.length : Int) ∧ (a.length : Int) ≤ 6) by omega), Bool.false_eq_true, if_false, Bool.false_and]
    exact hbad _ rfl
theorem impl_ex_l0 (a b c : List Int) (ha : a.length ≤ 6) : ∀ (suf pre : List Int) (s : Int), a = pre ++ suf → 0 ≤ s → s + 60 * suf.length ≤ 360 →
    Ev (fun k => impl_ExchangeOk.l0 k (a.length : Int) s a (a.length : Int) (pre.length : Int) a b c) (lensB suf && decide (s + sumL suf ≤ 60) && permB b && permB c && decide (b.length = a.length) && decide (c.length = a.length)) := by
  intro suf
  induction suf with
  | nil =>
    intro pre s h h0 h1
    have hlen : ¬ ((pre.length : Nat) : Int) < (a.length : Int) := by rw [h]; simp
    have hcl : ((c.length : Int) == (a.length : Int)) = decide (c.length = a.length) := by
      by_cases hc : c.length = a.length
      · simp [hc]
      · simp [hc]; omega
    refine ev_up ?_
    simp only [impl_ExchangeOk.l0, if_neg hlen, lensB, sumL, Int.add_zero, Bool.true_and, impl_PermOk.f, Option.bind_some, hcl]
    by_cases h2 : s ≤ 60
    · simp only [if_pos h2, decide_eq_true h2, Bool.true_and]
      cases permB b
      · simpa using Ev.now false
      · cases permB c
        · simpa using Ev.now false
        · by_cases hb : b.length = a.length
          · simpa [hb] using Ev.now (decide (c.length = a.length))
          · simpa [hb, show ¬ (b.length : Int) = (a.length : Int) by omega] using Ev.now false
    · simp only [if_neg h2, decide_eq_false h2, Bool.false_and]
      exact Ev.now _
  | cons x suf ih =>
    intro pre s h h0 h1
    have hlt : ((pre.length : Nat) : Int) < (a.length : Int) := by rw [h]; exact lt_mid pre suf x
    have hrd : rd a (pre.length : Int) = x := by rw [h]; exact rd_mid pre suf x
    have hw : wrap64 ((pre.length : Int) + 1) = ((pre ++ [x]).length : Int) := wrap_snoc (s := suf) (by rw [← h]; omega)
    simp at h1
    refine ev_up ?_
    simp only [impl_ExchangeOk.l0, if_pos hlt, if_pos (Int.natCast_nonneg pre.length), hrd, hw]
    by_cases h2 : x < 1
    · simp only [if_pos h2, lensB, decide_eq_false (show ¬ (1 ≤ x ∧ x ≤ 60) by omega), Bool.false_and]
      exact Ev.now _
    · by_cases h3 : x > 60
      · simp only [if_neg h2, if_pos h3, lensB, decide_eq_false (show ¬ (1 ≤ x ∧ x ≤ 60) by omega), Bool.false_and]
        exact Ev.now _
      · simp only [if_neg h2, if_neg h3, lensB, decide_eq_true (show 1 ≤ x ∧ x ≤ 60 by omega), pw_wrap (a := s + x) (by omega) (by omega), sumL, Bool.true_and]
        simp only [← Int.add_assoc]
        exact ih (pre ++ [x]) (s + x) (by simp [h]) (by omega) (by omega)
theorem and_swap6 (p a b c d e f : Bool) : (p && a && b && c && d && e && f) = (p && (c && d && e && f && a && b)) := by
  cases p <;> cases a <;> cases b <;> cases c <;> cases d <;> cases e <;> cases f <;> rfl
theorem impl_exOk (a b c : List Int) : Ev (fun k => impl_ExchangeOk.f k a b c) (exB a b c) := by
  unfold impl_ExchangeOk.f exB
  rw [and_swap6]
  by_cases h1 : (a.length : Int) < 1
  · simp only [if_pos h1, decide_eq_false (show ¬ (1 ≤ a.length ∧ a.length ≤ 6) by omega), Bool.false_and]
    refine ev_up ?_
    simp only [impl_ExchangeOk.j0, if_true]
    exact Ev.now _
  · simp only [if_neg h1]
    refine ev_up ?_
    by_cases h2 : a.length ≤ 6
    · simp only [impl_ExchangeOk.j0, decide_eq_false (show ¬ (a.length : Int) > 6 by omega), Bool.false_eq_true, if_false, decide_eq_true (show 1 ≤ a.length ∧ a.length ≤ 6 by omega), Bool.true_and]
      have := impl_ex_l0 a b c h2 a [] 0 rfl (by omega) (by omega)
      simpa using this
    · simp only [impl_ExchangeOk.j0, decide_eq_true (show (a.length : Int) > 6 by omega), if_true, decide_eq_false (show ¬ (1 ≤ a.length ∧ a.length ≤ 6) by omega), Bool.false_and]
      exact Ev.now _
/-- What a valid exchange is. -/
theorem exB_side {a b c : List Int} (h : exB a b c = true) : (1 ≤ a.length ∧ a.length ≤ 6) ∧ b.length = a.length ∧ c.length = a.length ∧ (∀ x ∈ a, 1 ≤ x ∧ x ≤ 60) ∧ sumL a ≤ 60 ∧ isPerm b ∧ isPerm c := by
  simp only [exB, Bool.and_eq_true, decide_eq_true_eq, lensB_iff, permB_iff] at h
  obtain ⟨⟨⟨⟨⟨⟨h1, h2⟩, h3⟩, h4⟩, h5⟩, h6⟩, h7⟩ := h
  exact ⟨h1, h2, h3, h4, h5, h6, h7⟩

/-- The lengths and the numbers of parts are as those of a valid exchange. -/
structure ExOk (a b c : List Int) : Prop where
  n1 : 1 ≤ a.length ∧ a.length ≤ 6
  lb : b.length = a.length
  lc : c.length = a.length
  la : ∀ x ∈ a, 1 ≤ x ∧ x ≤ 60
  su : sumL a ≤ 60
  pb : isPerm b
  pc : isPerm c
theorem exOk_of {a b c : List Int} (h : exB a b c = true) : ExOk a b c := by
  obtain ⟨h1, h2, h3, h4, h5, h6, h7⟩ := exB_side h
  exact ⟨h1, h2, h3, h4, h5, h6, h7⟩
theorem rd_len {a : List Int} (h : ∀ x ∈ a, 1 ≤ x ∧ x ≤ 60) {k : Int} (h0 : 0 ≤ k) (h1 : k < a.length) : 1 ≤ rd a k ∧ rd a k ≤ 60 := by
  have hk : k.toNat < a.length := by omega
  have e : rd a k = a[k.toNat] := by simp [rd, List.getD, hk]
  rw [e]
  exact h _ (List.getElem_mem hk)

def totalOf (a b c : List Int) : Int := if exB a b c = true then sumL a else 0
theorem spec_total_l0 (a : List Int) (ha : a.length ≤ 6) (hx : ∀ x ∈ a, 1 ≤ x ∧ x ≤ 60) : ∀ (suf pre : List Int) (s : Int), a = pre ++ suf → 0 ≤ s → s + 60 * suf.length ≤ 360 →
    Ev (fun k => spec_TotalOf.l0 k s a (a.length : Int) (pre.length : Int)) (s + sumL suf) := by
  intro suf
  induction suf with
  | nil =>
    intro pre s h h0 h1
    have hlen : ¬ ((pre.length : Nat) : Int) < (a.length : Int) := by rw [h]; simp
    refine ev_up ?_
    simp only [spec_TotalOf.l0, if_neg hlen, sumL, Int.add_zero]
    exact Ev.now _
  | cons x suf ih =>
    intro pre s h h0 h1
    have hlt : ((pre.length : Nat) : Int) < (a.length : Int) := by rw [h]; exact lt_mid pre suf x
    have hrd : rd a (pre.length : Int) = x := by rw [h]; exact rd_mid pre suf x
    have hw : wrap64 ((pre.length : Int) + 1) = ((pre ++ [x]).length : Int) := wrap_snoc (s := suf) (by rw [← h]; omega)
    have hx1 := hx x (by rw [h]; simp)
    simp at h1
    refine ev_up ?_
    simp only [spec_TotalOf.l0, if_pos hlt, if_pos (Int.natCast_nonneg pre.length), hrd, hw, pw_wrap (a := s + x) (by omega) (by omega), sumL]
    rw [← Int.add_assoc]
    exact ih (pre ++ [x]) (s + x) (by simp [h]) (by omega) (by omega)
theorem spec_total (a b c : List Int) : Ev (fun k => spec_TotalOf.f k a b c) (totalOf a b c) := by
  unfold spec_TotalOf.f totalOf
  refine Ev.bind (spec_exOk a b c) ?_
  by_cases h : exB a b c = true
  · obtain ⟨h1, _, _, h4, _⟩ := exB_side h
    simp only [if_pos h]
    have := spec_total_l0 a h1.2 h4 a [] 0 rfl (by omega) (by omega)
    rw [Int.zero_add] at this
    exact this
  · simp only [if_neg h]
    exact Ev.now _
theorem impl_total_l0 (a : List Int) (ha : a.length ≤ 6) (hx : ∀ x ∈ a, 1 ≤ x ∧ x ≤ 60) : ∀ (suf pre : List Int) (s : Int), a = pre ++ suf → 0 ≤ s → s + 60 * suf.length ≤ 360 →
    Ev (fun k => impl_TotalOf.l0 k s a (a.length : Int) (pre.length : Int)) (s + sumL suf) := by
  intro suf
  induction suf with
  | nil =>
    intro pre s h h0 h1
    have hlen : ¬ ((pre.length : Nat) : Int) < (a.length : Int) := by rw [h]; simp
    refine ev_up ?_
    simp only [impl_TotalOf.l0, if_neg hlen, sumL, Int.add_zero]
    exact Ev.now _
  | cons x suf ih =>
    intro pre s h h0 h1
    have hlt : ((pre.length : Nat) : Int) < (a.length : Int) := by rw [h]; exact lt_mid pre suf x
    have hrd : rd a (pre.length : Int) = x := by rw [h]; exact rd_mid pre suf x
    have hw : wrap64 ((pre.length : Int) + 1) = ((pre ++ [x]).length : Int) := wrap_snoc (s := suf) (by rw [← h]; omega)
    have hx1 := hx x (by rw [h]; simp)
    simp at h1
    refine ev_up ?_
    simp only [impl_TotalOf.l0, if_pos hlt, if_pos (Int.natCast_nonneg pre.length), hrd, hw, pw_wrap (a := s + x) (by omega) (by omega), sumL]
    rw [← Int.add_assoc]
    exact ih (pre ++ [x]) (s + x) (by simp [h]) (by omega) (by omega)
theorem impl_total (a b c : List Int) : Ev (fun k => impl_TotalOf.f k a b c) (totalOf a b c) := by
  unfold impl_TotalOf.f totalOf
  refine Ev.bind (impl_exOk a b c) ?_
  by_cases h : exB a b c = true
  · obtain ⟨h1, _, _, h4, _⟩ := exB_side h
    simp only [if_pos h]
    have := impl_total_l0 a h1.2 h4 a [] 0 rfl (by omega) (by omega)
    rw [Int.zero_add] at this
    exact this
  · simp only [if_neg h]
    exact Ev.now _

/-! Lists without a number twice; what is met from a place. -/
theorem nodup_len (n : Nat) : ∀ l : List Int, l.Nodup → (∀ x ∈ l, 0 ≤ x ∧ x < n) → l.length ≤ n := by
  induction n with
  | zero =>
    intro l _ h
    cases l with
    | nil => simp
    | cons x l => have := h x (by simp); omega
  | succ n ih =>
    intro l hn h
    have h2 := ih (l.filter (fun x => x != (n : Int))) (hn.filter _) (fun x hx => by
      have h3 := List.mem_filter.1 hx
      have h4 := h x h3.1
      have h5 : x ≠ (n : Int) := by simpa using h3.2
      omega)
    have h3 : l.length ≤ (l.filter (fun x => x != (n : Int))).length + 1 := by
      clear h h2 ih
      induction l with
      | nil => simp
      | cons y l ihl =>
        have hn2 := List.nodup_cons.1 hn
        by_cases hy : y = (n : Int)
        · have : l.filter (fun x => x != (n : Int)) = l := List.filter_eq_self.2 (fun x hx => by
            have : x ≠ (n : Int) := fun e => hn2.1 (by rw [hy, ← e]; exact hx)
            simpa using this)
          simp [hy, this]
        · have := ihl hn2.2
          simp [hy]
          omega
    omega
/-- Distinct numbers below n. -/
def Few (n : Nat) (q : List Int) : Prop := q.Nodup ∧ ∀ x ∈ q, 0 ≤ x ∧ x < (n : Int)
/-- n - 1, .., 0. -/
def ups : Nat → List Int
  | 0 => []
  | n + 1 => (n : Int) :: ups n
theorem mem_ups (x : Int) : ∀ n, x ∈ ups n ↔ 0 ≤ x ∧ x < (n : Int)
  | 0 => by simp [ups]
  | n + 1 => by
    simp only [ups, List.mem_cons, mem_ups x n]
    omega
theorem few_perm : ∀ (n : Nat) (q : List Int), Few n q → q.length = n → q.Perm (ups n)
  | 0, q, _, hl => by
    have : q = [] := List.eq_nil_of_length_eq_zero hl
    subst this
    exact List.Perm.refl _
  | n + 1, q, h, hl => by
    have hm : (n : Int) ∈ q := by
      refine Classical.byContradiction fun hn => ?_
      have := nodup_len n q h.1 (fun x hx => by
        have h2 := h.2 x hx
        have h3 : x ≠ (n : Int) := fun e => hn (e ▸ hx)
        omega)
      omega
    have hp := List.perm_cons_erase hm
    have hf : Few n (q.erase (n : Int)) := by
      refine ⟨h.1.erase _, fun x hx => ?_⟩
      have h2 := h.2 x (List.mem_of_mem_erase hx)
      have h3 : x ≠ (n : Int) := fun e => by
        subst e
        exact (List.Nodup.not_mem_erase h.1) hx
      omega
    have hl2 : (q.erase (n : Int)).length = n := by
      rw [List.length_erase_of_mem hm]
      omega
    exact hp.trans (List.Perm.cons _ (few_perm n _ hf hl2))
theorem perm_few {p : List Int} (h : isPerm p) : Few p.length p := ⟨h.2.2, h.2.1⟩
/-- The sum of the lengths at the places of a list. -/
def sumAt (a : List Int) : List Int → Int
  | [] => 0
  | k :: ks => rd a k + sumAt a ks
theorem sumAt_append (a : List Int) : ∀ p q : List Int, sumAt a (p ++ q) = sumAt a p + sumAt a q
  | [], q => by simp [sumAt]
  | k :: p, q => by simp only [List.cons_append, sumAt, sumAt_append a p q]; omega
theorem sumAt_perm (a : List Int) {p q : List Int} (h : p.Perm q) : sumAt a p = sumAt a q := by
  induction h with
  | nil => rfl
  | cons x _ ih => simp only [sumAt, ih]
  | swap x y l => simp only [sumAt]; omega
  | trans _ _ ih1 ih2 => exact ih1.trans ih2
theorem sumL_append : ∀ p q : List Int, sumL (p ++ q) = sumL p + sumL q
  | [], q => by simp [sumL]
  | k :: p, q => by simp only [List.cons_append, sumL, sumL_append p q]; omega
theorem sumAt_ups (a : List Int) : ∀ n, n ≤ a.length → sumAt a (ups n) = sumL (a.take n)
  | 0, _ => by simp [ups, sumAt, sumL]
  | n + 1, h => by
    have hn : n < a.length := by omega
    rw [ups, sumAt, sumAt_ups a n (by omega), List.take_succ_eq_append_getElem hn, sumL_append]
    simp only [sumL, rd, List.getD, Int.toNat_natCast, List.getElem?_eq_getElem hn, Option.getD_some]
    omega
theorem sumAt_all {a b : List Int} (hb : isPerm b) (hl : b.length = a.length) : sumAt a b = sumL a := by
  rw [sumAt_perm a (few_perm b.length b (perm_few hb) rfl), sumAt_ups a b.length (by omega), hl, List.take_of_length_le (Nat.le_refl _)]

/-- The first place of a part in an order. -/
def startGo (a : List Int) (part : Int) : List Int → Int → Int
  | [], s => s
  | k :: ks, s => if k = part then s else startGo a part ks (s + rd a k)
def startAt (a row : List Int) (part : Int) : Int := startGo a part row 0
theorem startGo_pre (a : List Int) (part : Int) : ∀ (pre suf : List Int) (s : Int), part ∉ pre → startGo a part (pre ++ part :: suf) s = s + sumAt a pre
  | [], suf, s, _ => by simp [startGo, sumAt]
  | k :: pre, suf, s, h => by
    have h1 : k ≠ part := fun e => h (by simp [e])
    have h2 : part ∉ pre := fun e => h (by simp [e])
    simp only [List.cons_append, startGo, if_neg h1, startGo_pre a part pre suf _ h2, sumAt]
    omega
theorem sumAt_nonneg {a : List Int} (h : ∀ x ∈ a, 1 ≤ x ∧ x ≤ 60) : ∀ (p : List Int), (∀ k ∈ p, 0 ≤ k ∧ k < (a.length : Int)) → 0 ≤ sumAt a p ∧ sumAt a p ≤ 60 * p.length
  | [], _ => by simp [sumAt]
  | k :: p, hp => by
    have h1 := rd_len h (hp k (by simp)).1 (hp k (by simp)).2
    have h2 := sumAt_nonneg h p (fun x hx => hp x (by simp [hx]))
    simp only [sumAt, List.length_cons]
    omega
/-- The place to which x is moved, from a part on that begins at s. -/
def moveGo (a c : List Int) (x : Int) : List Int → Int → Int
  | [], _ => -1
  | k :: ks, s => if x < s + rd a k then startAt a c k + x - s else moveGo a c x ks (s + rd a k)
def moveOf (a b c : List Int) (x : Int) : Int := moveGo a c x b 0
def movePlaceOf (a b c : List Int) (x : Int) : Int := if exB a b c = true ∧ 0 ≤ x ∧ x < sumL a then moveOf a b c x else -1
theorem spec_start_l0 (a b c row : List Int) (ha : ∀ x ∈ a, 1 ≤ x ∧ x ≤ 60) (hr : ∀ k ∈ row, 0 ≤ k ∧ k < (a.length : Int)) (hl : row.length ≤ 24) (part : Int) : ∀ (suf pre : List Int) (s : Int), row = pre ++ suf → 0 ≤ s → s + 60 * suf.length ≤ 10000 →
    Ev (fun k => spec_l16Start.l0 k part s row (row.length : Int) (pre.length : Int) a b c) (startGo a part suf s) := by
  intro suf
  induction suf with
  | nil =>
    intro pre s h h0 h1
    have hlen : ¬ ((pre.length : Nat) : Int) < (row.length : Int) := by rw [h]; simp
    refine ev_up ?_
    simp only [spec_l16Start.l0, if_neg hlen, startGo]
    exact Ev.now _
  | cons x suf ih =>
    intro pre s h h0 h1
    have hlt : ((pre.length : Nat) : Int) < (row.length : Int) := by rw [h]; exact lt_mid pre suf x
    have hrd : rd row (pre.length : Int) = x := by rw [h]; exact rd_mid pre suf x
    have hw : wrap64 ((pre.length : Int) + 1) = ((pre ++ [x]).length : Int) := wrap_snoc (s := suf) (by rw [← h]; omega)
    have hx := hr x (by rw [h]; simp)
    have hlx := rd_len ha hx.1 hx.2
    simp at h1
    refine ev_up ?_
    by_cases hp : x = part
    · simp only [spec_l16Start.l0, if_pos hlt, if_pos (Int.natCast_nonneg pre.length), hrd, if_pos hp, startGo]
      exact Ev.now _
    · simp only [spec_l16Start.l0, if_pos hlt, if_pos (Int.natCast_nonneg pre.length), hrd, if_neg hp, if_pos hx.1, if_pos hx.2, hw, pw_wrap (a := s + rd a x) (by omega) (by omega), startGo]
      exact ih (pre ++ [x]) (s + rd a x) (by simp [h]) (by omega) (by omega)
theorem spec_start (a b c row : List Int) (ha : ∀ x ∈ a, 1 ≤ x ∧ x ≤ 60) (hr : ∀ k ∈ row, 0 ≤ k ∧ k < (a.length : Int)) (hl : row.length ≤ 24) (part : Int) :
    Ev (fun k => spec_l16Start.f k a b c row part) (startAt a row part) :=
  spec_start_l0 a b c row ha hr hl part row [] 0 rfl (by omega) (by omega)
theorem impl_start_l0 (a b c row : List Int) (ha : ∀ x ∈ a, 1 ≤ x ∧ x ≤ 60) (hr : ∀ k ∈ row, 0 ≤ k ∧ k < (a.length : Int)) (hl : row.length ≤ 24) (part : Int) : ∀ (suf pre : List Int) (s : Int), row = pre ++ suf → 0 ≤ s → s + 60 * suf.length ≤ 10000 →
    Ev (fun k => impl_startOf.l0 k part s row (row.length : Int) (pre.length : Int) a b c) (startGo a part suf s) := by
  intro suf
  induction suf with
  | nil =>
    intro pre s h h0 h1
    have hlen : ¬ ((pre.length : Nat) : Int) < (row.length : Int) := by rw [h]; simp
    refine ev_up ?_
    simp only [impl_startOf.l0, if_neg hlen, startGo]
    exact Ev.now _
  | cons x suf ih =>
    intro pre s h h0 h1
    have hlt : ((pre.length : Nat) : Int) < (row.length : Int) := by rw [h]; exact lt_mid pre suf x
    have hrd : rd row (pre.length : Int) = x := by rw [h]; exact rd_mid pre suf x
    have hw : wrap64 ((pre.length : Int) + 1) = ((pre ++ [x]).length : Int) := wrap_snoc (s := suf) (by rw [← h]; omega)
    have hx := hr x (by rw [h]; simp)
    have hlx := rd_len ha hx.1 hx.2
    simp at h1
    refine ev_up ?_
    by_cases hp : x = part
    · simp only [impl_startOf.l0, if_pos hlt, if_pos (Int.natCast_nonneg pre.length), hrd, if_pos hp, startGo]
      exact Ev.now _
    · simp only [impl_startOf.l0, if_pos hlt, if_pos (Int.natCast_nonneg pre.length), hrd, if_neg hp, if_pos hx.1, if_pos hx.2, hw, pw_wrap (a := s + rd a x) (by omega) (by omega), startGo]
      exact ih (pre ++ [x]) (s + rd a x) (by simp [h]) (by omega) (by omega)
theorem impl_start (a b c row : List Int) (ha : ∀ x ∈ a, 1 ≤ x ∧ x ≤ 60) (hr : ∀ k ∈ row, 0 ≤ k ∧ k < (a.length : Int)) (hl : row.length ≤ 24) (part : Int) :
    Ev (fun k => impl_startOf.f k a b c row part) (startAt a row part) :=
  impl_start_l0 a b c row ha hr hl part row [] 0 rfl (by omega) (by omega)
theorem startAt_bd {a c : List Int} (ha : ∀ x ∈ a, 1 ≤ x ∧ x ≤ 60) (hc : isPerm c) (hl : c.length = a.length) {k : Int} (h0 : 0 ≤ k) (h1 : k < (a.length : Int)) : 0 ≤ startAt a c k ∧ startAt a c k + rd a k ≤ sumL a := by
  have hk : k ∈ c := ((few_perm c.length c (perm_few hc) rfl).mem_iff).2 ((mem_ups k _).2 (by omega))
  obtain ⟨pre, suf, hps⟩ := List.append_of_mem hk
  have hn : k ∉ pre := by
    have := hc.2.2
    rw [hps, List.nodup_append] at this
    exact fun h => this.2.2 k h k (by simp) rfl
  have hr : ∀ x ∈ c, 0 ≤ x ∧ x < (a.length : Int) := fun x hx => by have := hc.2.1 x hx; omega
  have e : startAt a c k = sumAt a pre := by unfold startAt; rw [hps, startGo_pre a k pre suf 0 hn]; omega
  have e2 := sumAt_all hc hl
  rw [hps, sumAt_append, sumAt] at e2
  have h2 := sumAt_nonneg ha pre (fun x hx => hr x (by rw [hps]; simp [hx]))
  have h3 := sumAt_nonneg ha suf (fun x hx => hr x (by rw [hps]; simp [hx]))
  omega
theorem ex_rows {a b c : List Int} (h : ExOk a b c) : (∀ k ∈ b, 0 ≤ k ∧ k < (a.length : Int)) ∧ (∀ k ∈ c, 0 ≤ k ∧ k < (a.length : Int)) :=
  ⟨fun x hx => by have := h.pb.2.1 x hx; have := h.lb; omega, fun x hx => by have := h.pc.2.1 x hx; have := h.lc; omega⟩
theorem moveGo_bd {a b c : List Int} (h : ExOk a b c) (x : Int) : ∀ (suf : List Int) (s : Int), (∀ k ∈ suf, 0 ≤ k ∧ k < (a.length : Int)) → s ≤ x → x < s + sumAt a suf → 0 ≤ moveGo a c x suf s ∧ moveGo a c x suf s < sumL a
  | [], s, _, h0, h1 => by simp [sumAt] at h1; omega
  | k :: suf, s, hr, h0, h1 => by
    have hk := hr k (by simp)
    have hb := startAt_bd h.la h.pc h.lc hk.1 hk.2
    simp only [moveGo]
    split
    · omega
    · exact moveGo_bd h x suf _ (fun y hy => hr y (by simp [hy])) (by omega) (by simp only [sumAt] at h1; omega)
theorem moveOf_bd {a b c : List Int} (h : ExOk a b c) {x : Int} (h0 : 0 ≤ x) (h1 : x < sumL a) : 0 ≤ moveOf a b c x ∧ moveOf a b c x < sumL a :=
  moveGo_bd h x b 0 (ex_rows h).1 h0 (by rw [sumAt_all h.pb h.lb]; omega)
theorem start_mid {a b c : List Int} (h : ExOk a b c) {pre suf : List Int} {k : Int} (hb : b = pre ++ k :: suf) : startAt a b k = sumAt a pre := by
  have hn : k ∉ pre := by
    have := h.pb.2.2
    rw [hb, List.nodup_append] at this
    exact fun h => this.2.2 k h k (by simp) rfl
  unfold startAt
  rw [hb, startGo_pre a k pre suf 0 hn]
  omega
theorem spec_move_l0 {a b c : List Int} (h : ExOk a b c) (x : Int) : ∀ (suf pre : List Int), b = pre ++ suf → sumAt a pre ≤ x → x ≤ 1000 →
    Ev (fun k => spec_l16Move.l0 k x b (b.length : Int) (pre.length : Int) a b c) (moveGo a c x suf (sumAt a pre)) := by
  have hrb := ex_rows h
  have hn := h.n1
  have hlb := h.lb
  intro suf
  induction suf with
  | nil =>
    intro pre hb h0 h1
    have hlen : ¬ ((pre.length : Nat) : Int) < (b.length : Int) := by rw [hb]; simp
    refine ev_up ?_
    simp only [spec_l16Move.l0, if_neg hlen, moveGo]
    exact Ev.now _
  | cons k suf ih =>
    intro pre hb h0 h1
    have hlt : ((pre.length : Nat) : Int) < (b.length : Int) := by rw [hb]; exact lt_mid pre suf k
    have hrd : rd b (pre.length : Int) = k := by rw [hb]; exact rd_mid pre suf k
    have hw : wrap64 ((pre.length : Int) + 1) = ((pre ++ [k]).length : Int) := wrap_snoc (s := suf) (by rw [← hb]; omega)
    have hk := hrb.1 k (by rw [hb]; simp)
    have hlk := rd_len h.la hk.1 hk.2
    have hbd := startAt_bd h.la h.pc h.lc hk.1 hk.2
    have hsu := h.su
    have hs0 := sumAt_nonneg h.la pre (fun y hy => hrb.1 y (by rw [hb]; simp [hy]))
    have hpl : pre.length ≤ 6 := by omega
    refine ev_up ?_
    simp only [spec_l16Move.l0, if_pos hlt, if_pos (Int.natCast_nonneg pre.length), hrd]
    refine Ev.bind (spec_start a b c b h.la hrb.1 (by omega) k) ?_
    rw [start_mid h hb]
    simp only [if_pos (show x ≥ sumAt a pre by omega), if_pos hk.1, if_pos hk.2, pw_wrap (a := sumAt a pre + rd a k) (by omega) (by omega), moveGo]
    by_cases hx : x < sumAt a pre + rd a k
    · simp only [if_pos hx]
      refine Ev.bind (spec_start a b c c h.la hrb.2 (by have := h.lc; omega) k) ?_
      simp only [pw_wrap (a := x - sumAt a pre) (by omega) (by omega), pw_wrap (a := x - sumAt a pre + startAt a c k) (by omega) (by omega)]
      rw [show x - sumAt a pre + startAt a c k = startAt a c k + x - sumAt a pre by omega]
      exact Ev.now _
    · simp only [if_neg hx, hw]
      have := ih (pre ++ [k]) (by simp [hb]) (by rw [sumAt_append]; simp only [sumAt]; omega) h1
      rw [sumAt_append] at this
      simp only [sumAt, Int.add_zero] at this
      exact this
theorem impl_move_l0 {a b c : List Int} (h : ExOk a b c) (x : Int) : ∀ (suf pre : List Int), b = pre ++ suf → sumAt a pre ≤ x → x ≤ 1000 →
    Ev (fun k => impl_MovePlace.l0 k x b (b.length : Int) (pre.length : Int) a b c) (moveGo a c x suf (sumAt a pre)) := by
  have hrb := ex_rows h
  have hn := h.n1
  have hlb := h.lb
  intro suf
  induction suf with
  | nil =>
    intro pre hb h0 h1
    have hlen : ¬ ((pre.length : Nat) : Int) < (b.length : Int) := by rw [hb]; simp
    refine ev_up ?_
    simp only [impl_MovePlace.l0, if_neg hlen, moveGo]
    exact Ev.now _
  | cons k suf ih =>
    intro pre hb h0 h1
    have hlt : ((pre.length : Nat) : Int) < (b.length : Int) := by rw [hb]; exact lt_mid pre suf k
    have hrd : rd b (pre.length : Int) = k := by rw [hb]; exact rd_mid pre suf k
    have hw : wrap64 ((pre.length : Int) + 1) = ((pre ++ [k]).length : Int) := wrap_snoc (s := suf) (by rw [← hb]; omega)
    have hk := hrb.1 k (by rw [hb]; simp)
    have hlk := rd_len h.la hk.1 hk.2
    have hbd := startAt_bd h.la h.pc h.lc hk.1 hk.2
    have hsu := h.su
    have hs0 := sumAt_nonneg h.la pre (fun y hy => hrb.1 y (by rw [hb]; simp [hy]))
    have hpl : pre.length ≤ 6 := by omega
    refine ev_up ?_
    simp only [impl_MovePlace.l0, if_pos hlt, if_pos (Int.natCast_nonneg pre.length), hrd]
    refine Ev.bind (impl_start a b c b h.la hrb.1 (by omega) k) ?_
    rw [start_mid h hb]
    simp only [if_pos hk.1, if_pos hk.2, pw_wrap (a := sumAt a pre + rd a k) (by omega) (by omega), moveGo]
    by_cases hx : x < sumAt a pre + rd a k
    · simp only [if_pos hx]
      refine Ev.bind (impl_start a b c c h.la hrb.2 (by have := h.lc; omega) k) ?_
      simp only [pw_wrap (a := startAt a c k + x) (by omega) (by omega), pw_wrap (a := startAt a c k + x - sumAt a pre) (by omega) (by omega)]
      exact Ev.now _
    · simp only [if_neg hx, hw]
      have := ih (pre ++ [k]) (by simp [hb]) (by rw [sumAt_append]; simp only [sumAt]; omega) h1
      rw [sumAt_append] at this
      simp only [sumAt, Int.add_zero] at this
      exact this
theorem spec_move1 {a b c : List Int} (h : ExOk a b c) {x : Int} (h0 : 0 ≤ x) (h1 : x ≤ 1000) : Ev (fun k => spec_l16Move.f k a b c x) (moveOf a b c x) :=
  spec_move_l0 h x b [] rfl h0 h1
theorem impl_movePlace (a b c : List Int) (x : Int) : Ev (fun k => impl_MovePlace.f k a b c x) (movePlaceOf a b c x) := by
  have hbad : ∀ r : Int, r = -1 → Ev (fun k => impl_MovePlace.j0 k x true a b c) r := by
    rintro r rfl
    refine ev_up ?_
    simp only [impl_MovePlace.j0, if_true]
    exact Ev.now _
  unfold impl_MovePlace.f movePlaceOf
  refine Ev.bind (impl_exOk a b c) ?_
  by_cases he : exB a b c = true
  · have hs := (exOk_of he).su
    simp only [if_pos he]
    by_cases h0 : x < 0
    · simp only [if_pos h0]
      exact hbad _ (if_neg (by omega))
    · simp only [if_neg h0]
      refine Ev.bind (impl_total a b c) ?_
      unfold totalOf
      simp only [if_pos he]
      by_cases h1 : x < sumL a
      · rw [decide_eq_false (show ¬ x ≥ sumL a by omega), if_pos (show exB a b c = true ∧ 0 ≤ x ∧ x < sumL a from ⟨he, by omega, h1⟩)]
        refine ev_up ?_
        simp only [impl_MovePlace.j0, Bool.false_eq_true, if_false]
        exact impl_move_l0 (exOk_of he) x b [] rfl (by simp [sumAt]; omega) (by omega)
      · rw [decide_eq_true (show x ≥ sumL a by omega)]
        exact hbad _ (if_neg (by omega))
  · simp only [if_neg he]
    exact hbad _ (if_neg (fun h => he h.1))

/-- How many are not marked. -/
def cf : List Bool → Nat
  | [] => 0
  | b :: bs => (if b = true then 0 else 1) + cf bs
theorem cf_le : ∀ s : List Bool, cf s ≤ s.length
  | [] => Nat.le_refl _
  | b :: bs => by have := cf_le bs; simp only [cf, List.length_cons]; split <;> omega
theorem cf_set : ∀ (s : List Bool) (i : Nat), i < s.length → s.getD i false = false → cf (s.set i true) + 1 = cf s
  | [], i, h, _ => by simp at h
  | b :: bs, 0, _, h => by
    simp at h
    subst h
    simp [cf]
    omega
  | b :: bs, i + 1, h, hb => by
    have := cf_set bs i (by simpa using h) (by simpa using hb)
    simp only [List.set_cons_succ, cf]
    omega
/-- What is marked behind a walk from x on. -/
def walkV (f : Int → Int) : Nat → List Bool → Int → List Bool
  | 0, s, _ => s
  | m + 1, s, x => if rdOf false s x = true then s else walkV f m (s.set x.toNat true) (f x)
theorem walkV_len (f : Int → Int) : ∀ (m : Nat) (s : List Bool) (x : Int), (walkV f m s x).length = s.length
  | 0, _, _ => rfl
  | m + 1, s, x => by
    rw [walkV]
    split
    · rfl
    · rw [walkV_len f m]; simp
/-- The loops that are met from i on. -/
def loopGo (f : Int → Int) : Nat → List Bool → Int → Int → Int
  | 0, _, n, _ => n
  | d + 1, s, n, i => if rdOf false s i = true then loopGo f d s n (i + 1) else loopGo f d (walkV f (s.length + 1) s i) (n + 1) (i + 1)
theorem spec_loops_l1 {a b c : List Int} (h : ExOk a b c) (T : Int) (hT : T = sumL a) (n i : Int) (hi : 0 ≤ i ∧ i ≤ 100) (r : Int) : ∀ (m : Nat) (s : List Bool) (x : Int), (s.length : Int) = T → 0 ≤ x → x < T → cf s < m →
    Ev (fun k => spec_CountLoops.l0 k (walkV (moveOf a b c) m s x) n T (i + 1) a b c) r → Ev (fun k => spec_CountLoops.l1 k s n x T i a b c) r := by
  intro m
  induction m with
  | zero => intro s x _ _ _ h0; omega
  | succ m ih =>
    intro s x hl h0 h1 hm hr
    have hsu := h.su
    rw [walkV] at hr
    refine ev_up ?_
    by_cases hb : rdOf false s x = true
    · rw [if_pos hb] at hr
      simp only [spec_CountLoops.l1, if_pos h0, if_pos (show x < (s.length : Int) by omega), if_pos hb, pw_wrap (a := i + 1) (by omega) (by omega)]
      exact hr
    · rw [if_neg hb] at hr
      have hcf := cf_set s x.toNat (by omega) (by simpa [rdOf] using hb)
      have hbd := moveOf_bd h h0 (by omega : x < sumL a)
      simp only [spec_CountLoops.l1, if_pos h0, if_pos (show x < (s.length : Int) by omega), if_neg hb]
      refine Ev.bind (spec_move1 h h0 (by omega)) ?_
      exact ih (s.set x.toNat true) _ (by simpa using hl) hbd.1 (by omega) (by omega) hr
theorem impl_loops_l1 {a b c : List Int} (he : exB a b c = true) (T : Int) (hT : T = sumL a) (n i : Int) (hi : 0 ≤ i ∧ i ≤ 100) (r : Int) : ∀ (m : Nat) (s : List Bool) (x : Int), (s.length : Int) = T → 0 ≤ x → x < T → cf s < m →
    Ev (fun k => impl_CountLoops.l0 k (walkV (moveOf a b c) m s x) n T (i + 1) a b c) r → Ev (fun k => impl_CountLoops.l1 k s n x T i a b c) r := by
  have h := exOk_of he
  intro m
  induction m with
  | zero => intro s x _ _ _ h0; omega
  | succ m ih =>
    intro s x hl h0 h1 hm hr
    have hsu := h.su
    rw [walkV] at hr
    refine ev_up ?_
    by_cases hb : rdOf false s x = true
    · rw [if_pos hb] at hr
      simp only [impl_CountLoops.l1, if_pos h0, if_pos (show x < (s.length : Int) by omega), if_pos hb, pw_wrap (a := i + 1) (by omega) (by omega)]
      exact hr
    · rw [if_neg hb] at hr
      have hcf := cf_set s x.toNat (by omega) (by simpa [rdOf] using hb)
      have hbd := moveOf_bd h h0 (by omega : x < sumL a)
      simp only [impl_CountLoops.l1, if_pos h0, if_pos (show x < (s.length : Int) by omega), if_neg hb]
      refine Ev.bind (impl_movePlace a b c x) ?_
      rw [movePlaceOf, if_pos (show exB a b c = true ∧ 0 ≤ x ∧ x < sumL a from ⟨he, h0, by omega⟩)]
      exact ih (s.set x.toNat true) _ (by simpa using hl) hbd.1 (by omega) (by omega) hr
theorem spec_loops_l0 {a b c : List Int} (h : ExOk a b c) (T : Int) (hT : T = sumL a) : ∀ (d : Nat) (s : List Bool) (n i : Int), (s.length : Int) = T → 0 ≤ i → i + d = T → 0 ≤ n → n + d ≤ 1000 →
    Ev (fun k => spec_CountLoops.l0 k s n T i a b c) (loopGo (moveOf a b c) d s n i) := by
  have hsu := h.su
  intro d
  induction d with
  | zero =>
    intro s n i hl h0 h1 h2 h3
    refine ev_up ?_
    simp only [spec_CountLoops.l0, if_neg (show ¬ i < T by omega), loopGo]
    exact Ev.now _
  | succ d ih =>
    intro s n i hl h0 h1 h2 h3
    refine ev_up ?_
    rw [loopGo]
    by_cases hb : rdOf false s i = true
    · simp only [spec_CountLoops.l0, if_pos (show i < T by omega), if_pos h0, if_pos (show i < (s.length : Int) by omega), if_pos hb, pw_wrap (a := i + 1) (by omega) (by omega)]
      exact ih s n (i + 1) hl (by omega) (by omega) h2 (by omega)
    · simp only [spec_CountLoops.l0, if_pos (show i < T by omega), if_pos h0, if_pos (show i < (s.length : Int) by omega), if_neg hb, pw_wrap (a := n + 1) (by omega) (by omega)]
      refine spec_loops_l1 h T hT (n + 1) i (by omega) _ (s.length + 1) s i hl h0 (by omega) (by have := cf_le s; omega) ?_
      exact ih _ (n + 1) (i + 1) (by rw [walkV_len]; exact hl) (by omega) (by omega) (by omega) (by omega)
theorem impl_loops_l0 {a b c : List Int} (he : exB a b c = true) (T : Int) (hT : T = sumL a) : ∀ (d : Nat) (s : List Bool) (n i : Int), (s.length : Int) = T → 0 ≤ i → i + d = T → 0 ≤ n → n + d ≤ 1000 →
    Ev (fun k => impl_CountLoops.l0 k s n T i a b c) (loopGo (moveOf a b c) d s n i) := by
  have h := exOk_of he
  have hsu := h.su
  intro d
  induction d with
  | zero =>
    intro s n i hl h0 h1 h2 h3
    refine ev_up ?_
    simp only [impl_CountLoops.l0, if_neg (show ¬ i < T by omega), loopGo]
    exact Ev.now _
  | succ d ih =>
    intro s n i hl h0 h1 h2 h3
    refine ev_up ?_
    rw [loopGo]
    by_cases hb : rdOf false s i = true
    · simp only [impl_CountLoops.l0, if_pos (show i < T by omega), if_pos h0, if_pos (show i < (s.length : Int) by omega), if_pos hb]
      refine ev_up ?_
      simp only [impl_CountLoops.j1]
      refine ev_up ?_
      simp only [impl_CountLoops.l1, if_pos h0, if_pos (show i < (s.length : Int) by omega), if_pos hb, pw_wrap (a := i + 1) (by omega) (by omega)]
      exact ih s n (i + 1) hl (by omega) (by omega) h2 (by omega)
    · simp only [impl_CountLoops.l0, if_pos (show i < T by omega), if_pos h0, if_pos (show i < (s.length : Int) by omega), if_neg hb, pw_wrap (a := n + 1) (by omega) (by omega)]
      refine ev_up ?_
      simp only [impl_CountLoops.j1]
      refine impl_loops_l1 he T hT (n + 1) i (by omega) _ (s.length + 1) s i hl h0 (by omega) (by have := cf_le s; omega) ?_
      exact ih _ (n + 1) (i + 1) (by rw [walkV_len]; exact hl) (by omega) (by omega) (by omega) (by omega)
/-- What both answer. -/
def loopsOf (a b c : List Int) : Int := if exB a b c = true then loopGo (moveOf a b c) (sumL a).toNat (List.replicate (sumL a).toNat false) 0 0 else 0
theorem total_bd (a b c : List Int) : 0 ≤ totalOf a b c ∧ totalOf a b c ≤ 60 := by
  unfold totalOf
  split
  · rename_i h
    have h1 := exOk_of h
    have h2 := sumL_bd a h1.la
    have h3 := h1.su
    omega
  · omega
theorem spec_loops (a b c : List Int) : Ev (fun k => spec_CountLoops.f k a b c) (loopsOf a b c) := by
  have ht := total_bd a b c
  unfold spec_CountLoops.f
  refine Ev.bind (spec_total a b c) ?_
  simp only [if_pos ht.1, if_pos (show (totalOf a b c).toNat ≤ 281474976710656 by omega), Option.bind_some, List.length_replicate]
  unfold loopsOf
  unfold totalOf at ht ⊢
  by_cases he : exB a b c = true
  · simp only [if_pos he] at ht ⊢
    rw [show (((sumL a).toNat : Nat) : Int) = sumL a by omega]
    exact spec_loops_l0 (exOk_of he) (sumL a) rfl (sumL a).toNat _ 0 0 (by simp; omega) (by omega) (by omega) (by omega) (by omega)
  · simp only [if_neg he]
    refine ev_up ?_
    simp only [spec_CountLoops.l0]
    exact Ev.now _
theorem impl_loops (a b c : List Int) : Ev (fun k => impl_CountLoops.f k a b c) (loopsOf a b c) := by
  have ht := total_bd a b c
  unfold impl_CountLoops.f
  refine Ev.bind (impl_total a b c) ?_
  simp only [if_pos ht.1, if_pos (show (totalOf a b c).toNat ≤ 281474976710656 by omega), Option.bind_some, List.length_replicate]
  unfold loopsOf
  unfold totalOf at ht ⊢
  by_cases he : exB a b c = true
  · simp only [if_pos he] at ht ⊢
    rw [show (((sumL a).toNat : Nat) : Int) = sumL a by omega]
    exact impl_loops_l0 he (sumL a) rfl (sumL a).toNat _ 0 0 (by simp; omega) (by omega) (by omega) (by omega) (by omega)
  · simp only [if_neg he]
    refine ev_up ?_
    simp only [impl_CountLoops.l0]
    exact Ev.now _

/-- A number in decimals. -/
def decB (u : Nat) : ByteArray := ⟨(Go.Lib.decDigits u).toArray⟩
def itoaB (n : Int) : ByteArray := ⟨(Go.Lib.itoa n).toArray⟩
theorem nDig_le : ∀ (d u : Nat), u < 10 ^ (d + 1) → Go.Lib.nDigits u ≤ d + 1
  | 0, u, h => by rw [Go.Lib.nDigits_small (by simpa using h)]; omega
  | d + 1, u, h => by
    by_cases hu : u < 10
    · rw [Go.Lib.nDigits_small hu]; omega
    · rw [Go.Lib.nDigits_big hu]
      have := nDig_le d (u / 10) (by rw [Nat.pow_succ] at h; omega)
      omega
theorem decB_size (u : Nat) : (decB u).size = Go.Lib.nDigits u := by
  show (Go.Lib.decDigits u).toArray.size = _
  rw [List.size_toArray, Go.Lib.decDigits_length]
theorem bytes_app (a b : List UInt8) : (⟨a.toArray⟩ : ByteArray) ++ ⟨b.toArray⟩ = ⟨(a ++ b).toArray⟩ := by
  apply ByteArray.ext
  rw [ByteArray.data_append]
  simp
theorem app_assocB (a b c : ByteArray) : a ++ b ++ c = a ++ (b ++ c) := by
  apply ByteArray.ext
  simp [ByteArray.data_append, Array.append_assoc]
theorem one_strB (n : Int) (u : Nat) (h : n = ((u : Nat) : Int)) : strOfNums [n] = ⟨[UInt8.ofNat u].toArray⟩ := by
  subst h
  simp [strOfNums]
theorem strOne_size (n : Int) : (strOfNums [n]).size = 1 := id rfl
theorem decB_small {u : Nat} (h : u < 10) : decB u = strOfNums [(48 + (u : Int))] := by
  rw [one_strB _ (48 + u) (by omega)]
  unfold decB
  rw [Go.Lib.decDigits, dif_pos h]
theorem decB_big {u : Nat} (h : ¬ u < 10) : decB u = decB (u / 10) ++ strOfNums [(48 + (u : Int) % 10)] := by
  rw [one_strB _ (48 + u % 10) (by omega)]
  unfold decB
  rw [bytes_app, Go.Lib.decDigits, dif_neg h]
theorem itoaB_pos {n : Int} (h : 0 ≤ n) : itoaB n = decB n.toNat := by
  unfold itoaB Go.Lib.itoa decB
  rw [if_neg (by omega)]
theorem itoaB_neg {n : Int} (h : n < 0) : itoaB n = (⟨#[45]⟩ : ByteArray) ++ decB n.natAbs := by
  unfold itoaB Go.Lib.itoa decB
  rw [if_pos h, show (⟨#[45]⟩ : ByteArray) = ⟨[45].toArray⟩ from rfl, bytes_app]
  rfl
theorem itoaB_size {n : Int} (h0 : -9223372036854775808 ≤ n) (h1 : n ≤ 9223372036854775807) : (itoaB n).size ≤ 20 := by
  by_cases h : 0 ≤ n
  · rw [itoaB_pos h, decB_size]
    have := nDig_le 18 n.toNat (by omega)
    omega
  · rw [itoaB_neg (by omega), ByteArray.size_append, decB_size]
    have := nDig_le 18 n.natAbs (by omega)
    show 1 + _ ≤ 20
    omega
theorem spec_fmt_l0 : ∀ (u : Nat) (x : Int) (acc : ByteArray), x = u → u < 10 ^ 19 → acc.size + Go.Lib.nDigits u ≤ 40 → Ev (fun k => spec_FormatInt.l0 k x acc) (decB u ++ acc) := by
  intro u
  induction u using Nat.strongRecOn with
  | _ u ih =>
    intro x acc hx hu hs
    subst hx
    refine ev_up ?_
    have h9 : (10 : Int) ^ 19 = 10000000000000000000 := by decide
    by_cases h : u < 10
    · have hw : (wrap64 (48 + (u : Int))) % 256 = 48 + (u : Int) := by rw [pw_wrap (by omega) (by omega)]; omega
      have hn := Go.Lib.nDigits_small h
      simp only [spec_FormatInt.l0, if_neg (show ¬ ((u : Int) > 9) by omega), hw, Option.bind_some, strOne_size, if_pos (show 1 + acc.size ≤ 9223372036854775807 by omega)]
      rw [decB_small h]
      exact Ev.now _
    · have ht : Int.tmod (u : Int) 10 = (u : Int) % 10 := Int.tmod_eq_emod_of_nonneg (by omega)
      have hq : Int.tdiv (u : Int) 10 = (u : Int) / 10 := Int.tdiv_eq_ediv_of_nonneg (by omega)
      have hw : (wrap64 (48 + (u : Int) % 10)) % 256 = 48 + (u : Int) % 10 := by rw [pw_wrap (by omega) (by omega)]; omega
      have hw2 : wrap64 ((u : Int) / 10) = ((u / 10 : Nat) : Int) := by rw [pw_wrap (by omega) (by omega)]; omega
      have hn := Go.Lib.nDigits_big h
      simp only [spec_FormatInt.l0, if_pos (show ((u : Int) > 9) by omega), ht, hq, hw, hw2, Option.bind_some, strOne_size, if_pos (show 1 + acc.size ≤ 9223372036854775807 by omega)]
      rw [decB_big h, app_assocB]
      exact ih (u / 10) (by omega) _ _ rfl (by omega) (by rw [ByteArray.size_append, strOne_size]; omega)
theorem spec_fmtint {n : Int} (h0 : -9223372036854775808 ≤ n) (h1 : n ≤ 9223372036854775807) : Ev (fun k => spec_FormatInt.f k n) (itoaB n) := by
  by_cases hn : 0 ≤ n
  · refine ev_up ?_
    simp only [spec_FormatInt.f, if_neg (show ¬ n < 0 by omega)]
    rw [itoaB_pos hn]
    have := spec_fmt_l0 n.toNat n ⟨#[]⟩ (by omega) (by omega) (by
      have := nDig_le 18 n.toNat (by omega)
      show 0 + _ ≤ 40
      omega)
    rw [show decB n.toNat ++ (⟨#[]⟩ : ByteArray) = decB n.toNat from by apply ByteArray.ext; simp [ByteArray.data_append]] at this
    exact this
  · have key : ∀ (u : Nat) (n : Int), n = -(u : Int) → 1 ≤ u → u ≤ 9223372036854775808 → Ev (fun k => spec_FormatInt.f k n) ((⟨#[45]⟩ : ByteArray) ++ decB u) := by
      intro u
      induction u using Nat.strongRecOn with
      | _ u ih =>
        intro n hx h1 h2
        subst hx
        refine ev_up ?_
        have hq : Int.tdiv (-(u : Int)) 10 = -((u / 10 : Nat) : Int) := by rw [Int.neg_tdiv, Int.tdiv_eq_ediv_of_nonneg (by omega)]; omega
        have ht : Int.tmod (-(u : Int)) 10 = -((u : Int) % 10) := by rw [Int.neg_tmod, Int.tmod_eq_emod_of_nonneg (by omega)]
        have hw2 : wrap64 (-((u / 10 : Nat) : Int)) = -((u / 10 : Nat) : Int) := pw_wrap (by omega) (by omega)
        by_cases h : u < 10
        · have hw : (wrap64 (48 - -(u : Int))) % 256 = 48 + (u : Int) := by rw [pw_wrap (by omega) (by omega)]; omega
          simp only [spec_FormatInt.f, if_pos (show -(u : Int) < 0 by omega), hq, hw2, hw, if_pos (show -((u / 10 : Nat) : Int) = 0 by omega), Option.bind_some, strOne_size, if_pos (show 1 + 1 ≤ 9223372036854775807 by omega)]
          rw [decB_small h]
          exact Ev.now _
        · have hw : (wrap64 (48 - -((u : Int) % 10))) % 256 = 48 + (u : Int) % 10 := by rw [pw_wrap (by omega) (by omega)]; omega
          simp only [spec_FormatInt.f, if_pos (show -(u : Int) < 0 by omega), hq, ht, hw2, hw, if_neg (show ¬ -((u / 10 : Nat) : Int) = 0 by omega)]
          refine Ev.bind (ih (u / 10) (by omega) _ rfl (by omega) (by omega)) ?_
          have hz : ((⟨#[45]⟩ : ByteArray) ++ decB (u / 10)).size ≤ 20 := by
            rw [ByteArray.size_append, decB_size]
            have := nDig_le 18 (u / 10) (by omega)
            show 1 + _ ≤ 20
            omega
          simp only [Option.bind_some, strOne_size, if_pos (show ((⟨#[45]⟩ : ByteArray) ++ decB (u / 10)).size + 1 ≤ 9223372036854775807 by omega)]
          rw [decB_big h, ← app_assocB]
          exact Ev.now _
    rw [itoaB_neg (by omega)]
    exact key n.natAbs n (by omega) (by omega) (by omega)
theorem impl_fmtint {n : Int} (h0 : -9223372036854775808 ≤ n) (h1 : n ≤ 9223372036854775807) : impl_FormatInt.f n = some (itoaB n) := by
  unfold impl_FormatInt.f strconv_Itoa.f
  rw [if_pos ⟨h0, h1⟩]
  rfl
def joinOf (l : List ByteArray) (sep : ByteArray) : ByteArray := ⟨(joinB l sep).toArray⟩
def tot (l : List ByteArray) (sep : ByteArray) : Nat := match l with
  | [] => 0
  | x :: xs => x.size + sep.size + tot xs sep
theorem tot_append (sep : ByteArray) : ∀ (a b : List ByteArray), tot (a ++ b) sep = tot a sep + tot b sep
  | [], b => by simp [tot]
  | x :: a, b => by simp only [List.cons_append, tot, tot_append sep a b]; omega
theorem join_two (sep a : List UInt8) (xs : List (List UInt8)) (h : xs ≠ []) : Go.Lib.join (a :: xs) sep = a ++ sep ++ Go.Lib.join xs sep := by
  cases xs with
  | nil => exact absurd rfl h
  | cons b t => simp [Go.Lib.join, List.intercalate]
theorem join_snoc (sep x : List UInt8) : ∀ (xs : List (List UInt8)), xs ≠ [] → Go.Lib.join (xs ++ [x]) sep = Go.Lib.join xs sep ++ sep ++ x
  | [], h => absurd rfl h
  | [a], _ => by simp [Go.Lib.join, List.intercalate]
  | a :: b :: t, _ => by
    rw [List.cons_append, join_two sep a _ (by simp), join_snoc sep x (b :: t) (by simp), join_two sep a (b :: t) (by simp)]
    simp [List.append_assoc]
theorem bytes_self (x : ByteArray) : (⟨x.data.toList.toArray⟩ : ByteArray) = x := by
  apply ByteArray.ext
  simp
theorem joinOf_nil (sep : ByteArray) : joinOf [] sep = ⟨#[]⟩ := by simp [joinOf, joinB, Go.Lib.join, List.intercalate]
theorem joinOf_one (x sep : ByteArray) : joinOf [x] sep = x := by
  simp [joinOf, joinB, Go.Lib.join, List.intercalate]
theorem joinOf_snoc (l : List ByteArray) (x sep : ByteArray) (h : l ≠ []) : joinOf (l ++ [x]) sep = joinOf l sep ++ sep ++ x := by
  unfold joinOf joinB
  rw [List.map_append, List.map_cons, List.map_nil, join_snoc _ _ _ (by simpa using h), ← bytes_app, ← bytes_app, bytes_self, bytes_self]
theorem joinOf_size (sep : ByteArray) : ∀ (l : List ByteArray), (joinOf l sep).size ≤ tot l sep
  | [] => by rw [joinOf_nil]; exact Nat.zero_le _
  | [x] => by rw [joinOf_one]; simp only [tot]; omega
  | x :: y :: l => by
    have h : joinOf (x :: y :: l) sep = x ++ sep ++ joinOf (y :: l) sep := by
      unfold joinOf joinB
      rw [List.map_cons, join_two _ _ _ (by simp), ← bytes_app, ← bytes_app, bytes_self, bytes_self]
    rw [h, ByteArray.size_append, ByteArray.size_append]
    have := joinOf_size sep (y :: l)
    rw [tot]
    omega
theorem rdOf_mid (d : ByteArray) (pre suf : List ByteArray) (x : ByteArray) : rdOf d (pre ++ x :: suf) (pre.length : Int) = x := by
  simp [rdOf, List.getD]
theorem spec_join_l0 (sep : ByteArray) (l : List ByteArray) (hl : l.length ≤ 1000000000000) (ht : tot l sep ≤ 1000000000000) : ∀ (suf pre : List ByteArray), l = pre ++ suf → Ev (fun k => spec_Join.l0 k sep (joinOf pre sep) l (l.length : Int) (pre.length : Int)) (joinOf l sep)
  | [], pre, e => by
    refine ev_up ?_
    have e2 : l = pre := by simpa using e
    subst e2
    simp only [spec_Join.l0, if_neg (show ¬ ((l.length : Int) < l.length) by omega)]
    exact Ev.now _
  | x :: suf, pre, e => by
    refine ev_up ?_
    have hlen : l.length = pre.length + suf.length + 1 := by rw [e]; simp; omega
    have htt : tot l sep = tot pre sep + (x.size + sep.size + tot suf sep) := by rw [e, tot_append]; simp only [tot]
    have hs := joinOf_size sep pre
    have hx : rdOf ByteArray.empty l (pre.length : Int) = x := by rw [e]; exact rdOf_mid _ _ _ _
    have hw : wrap64 ((pre.length : Int) + 1) = ((pre ++ [x]).length : Int) := by rw [pw_wrap (by omega) (by omega)]; simp
    have ih := spec_join_l0 sep l hl ht suf (pre ++ [x]) (by simp [e])
    simp only [spec_Join.l0, if_pos (show ((pre.length : Int) < l.length) by omega), if_pos (show (0 ≤ (pre.length : Int)) by omega), hx, hw]
    by_cases hp : pre = []
    · subst hp
      rw [List.nil_append, joinOf_one] at ih
      have hz : (joinOf [] sep).size = 0 := by rw [joinOf_nil]; rfl
      refine Ev.congr (f := fun k => _) (fun k => (if_neg (show ¬ (((([] : List ByteArray).length : Nat) : Int) > 0) by simp)).trans (if_pos (by omega))) ?_
      rw [joinOf_nil, show (⟨#[]⟩ : ByteArray) ++ x = x from by apply ByteArray.ext; simp [ByteArray.data_append]]
      exact ih
    · have hpl : 0 < pre.length := List.length_pos_iff.2 hp
      rw [joinOf_snoc _ _ _ hp] at ih
      refine Ev.congr (f := fun k => _) (fun k => ((if_pos (show (pre.length : Int) > 0 by omega)).trans (if_pos (by omega))).trans (if_pos (by rw [ByteArray.size_append]; omega))) ?_
      exact ih
theorem spec_join (sep : ByteArray) (l : List ByteArray) (hl : l.length ≤ 1000000000000) (ht : tot l sep ≤ 1000000000000) : Ev (fun k => spec_Join.f k l sep) (joinOf l sep) := by
  unfold spec_Join.f
  have := spec_join_l0 sep l hl ht l [] rfl
  rw [joinOf_nil] at this
  exact this
theorem impl_join (sep : ByteArray) (l : List ByteArray) (hl : l.length ≤ 1000000000000) (ht : tot l sep ≤ 1000000000000) : impl_Join.f l sep = some (joinOf l sep) := by
  unfold impl_Join.f strings_Join.f
  have hs : (joinB l sep).length ≤ tot l sep := by
    have := joinOf_size sep l
    exact this
  rw [if_pos ⟨by omega, by omega⟩]
  rfl

def Ints64 (l : List Int) : Prop := ∀ x ∈ l, -9223372036854775808 ≤ x ∧ x ≤ 9223372036854775807
theorem tot_ints (sep : ByteArray) (hs : sep.size = 1) : ∀ (l : List Int), Ints64 l → tot (l.map itoaB) sep ≤ 21 * l.length
  | [], _ => by simp [tot]
  | x :: l, h => by
    have h1 := tot_ints sep hs l (fun y hy => h y (List.mem_cons_of_mem _ hy))
    have h2 := h x List.mem_cons_self
    have h3 := itoaB_size h2.1 h2.2
    simp only [List.map_cons, tot, List.length_cons]
    omega
theorem spec_ints_l0 (sep : ByteArray) (hs : sep.size = 1) (l : List Int) (hl : l.length ≤ 1048576) (h : Ints64 l) : ∀ (suf pre : List Int), l = pre ++ suf → Ev (fun k => spec_l17Ints.l0 k sep (pre.map itoaB) l (l.length : Int) (pre.length : Int)) (joinOf (l.map itoaB) sep)
  | [], pre, e => by
    refine ev_up ?_
    have e2 : l = pre := by simpa using e
    subst e2
    simp only [spec_l17Ints.l0, if_neg (show ¬ ((l.length : Int) < l.length) by omega)]
    have := tot_ints sep hs l h
    refine Ev.bind (spec_join sep (l.map itoaB) (by rw [List.length_map]; omega) (by omega)) ?_
    exact Ev.now _
  | x :: suf, pre, e => by
    refine ev_up ?_
    have hlen : l.length = pre.length + suf.length + 1 := by rw [e]; simp; omega
    have hx : rd l (pre.length : Int) = x := by rw [e]; exact rd_mid _ _ _
    have hxm := h x (by rw [e]; simp)
    have hw : wrap64 ((pre.length : Int) + 1) = ((pre ++ [x]).length : Int) := by rw [pw_wrap (by omega) (by omega)]; simp
    have ih := spec_ints_l0 sep hs l hl h suf (pre ++ [x]) (by simp [e])
    simp only [spec_l17Ints.l0, if_pos (show ((pre.length : Int) < l.length) by omega), if_pos (show (0 ≤ (pre.length : Int)) by omega), hx, hw]
    refine Ev.bind (spec_fmtint hxm.1 hxm.2) ?_
    refine Ev.congr (f := fun k => _) (fun k => if_pos (by rw [List.length_map]; omega)) ?_
    rw [List.map_append] at ih
    exact ih
theorem spec_ints (sep : ByteArray) (hs : sep.size = 1) (l : List Int) (hl : l.length ≤ 1048576) (h : Ints64 l) : Ev (fun k => spec_l17Ints.f k l sep) (joinOf (l.map itoaB) sep) := by
  unfold spec_l17Ints.f
  exact spec_ints_l0 sep hs l hl h l [] rfl
theorem impl_ints_l0 (sep : ByteArray) (hs : sep.size = 1) (l : List Int) (hl : l.length ≤ 1048576) (h : Ints64 l) : ∀ (suf pre : List Int), l = pre ++ suf → Ev (fun k => impl_joinInts.l0 k sep (pre.map itoaB) l (l.length : Int) (pre.length : Int)) (joinOf (l.map itoaB) sep)
  | [], pre, e => by
    refine ev_up ?_
    have e2 : l = pre := by simpa using e
    subst e2
    have := tot_ints sep hs l h
    simp only [impl_joinInts.l0, if_neg (show ¬ ((l.length : Int) < l.length) by omega), impl_join sep (l.map itoaB) (by rw [List.length_map]; omega) (by omega), Option.bind_some]
    exact Ev.now _
  | x :: suf, pre, e => by
    refine ev_up ?_
    have hlen : l.length = pre.length + suf.length + 1 := by rw [e]; simp; omega
    have hx : rd l (pre.length : Int) = x := by rw [e]; exact rd_mid _ _ _
    have hxm := h x (by rw [e]; simp)
    have hw : wrap64 ((pre.length : Int) + 1) = ((pre ++ [x]).length : Int) := by rw [pw_wrap (by omega) (by omega)]; simp
    have ih := impl_ints_l0 sep hs l hl h suf (pre ++ [x]) (by simp [e])
    simp only [impl_joinInts.l0, if_pos (show ((pre.length : Int) < l.length) by omega), if_pos (show (0 ≤ (pre.length : Int)) by omega), hx, hw, impl_fmtint hxm.1 hxm.2, Option.bind_some]
    refine Ev.congr (f := fun k => _) (fun k => if_pos (by rw [List.length_map]; omega)) ?_
    rw [List.map_append] at ih
    exact ih
theorem impl_ints (sep : ByteArray) (hs : sep.size = 1) (l : List Int) (hl : l.length ≤ 1048576) (h : Ints64 l) : Ev (fun k => impl_joinInts.f k l sep) (joinOf (l.map itoaB) sep) := by
  unfold impl_joinInts.f
  exact impl_ints_l0 sep hs l hl h l [] rfl
def listT (l : List Int) : ByteArray := if (l.length : Int) = 0 then ⟨#[45]⟩ else joinOf (l.map itoaB) ⟨#[44]⟩
theorem spec_list (l : List Int) (hl : l.length ≤ 1048576) (h : Ints64 l) : Ev (fun k => spec_FormatList.f k l) (listT l) := by
  unfold spec_FormatList.f listT
  by_cases h0 : (l.length : Int) = 0
  · simp only [if_pos h0]
    exact Ev.now _
  · simp only [if_neg h0]
    exact Ev.bind (spec_ints _ rfl l hl h) (Ev.now _)
theorem impl_list (l : List Int) (hl : l.length ≤ 1048576) (h : Ints64 l) : Ev (fun k => impl_FormatList.f k l) (listT l) := by
  unfold impl_FormatList.f listT
  by_cases h0 : (l.length : Int) = 0
  · simp only [if_pos h0]
    exact Ev.now _
  · simp only [if_neg h0]
    exact Ev.bind (impl_ints _ rfl l hl h) (Ev.now _)
theorem listT_size (l : List Int) (h : Ints64 l) : (listT l).size ≤ 21 * l.length + 1 := by
  unfold listT
  split
  · rw [show (⟨#[45]⟩ : ByteArray).size = 1 from rfl]
    omega
  · have := joinOf_size ⟨#[44]⟩ (l.map itoaB)
    have := tot_ints ⟨#[44]⟩ rfl l h
    omega

theorem loopGo_bd (f : Int → Int) : ∀ (d : Nat) (s : List Bool) (n i : Int), n ≤ loopGo f d s n i ∧ loopGo f d s n i ≤ n + d
  | 0, _, n, _ => by simp [loopGo]
  | d + 1, s, n, i => by
    rw [loopGo]
    split
    · have := loopGo_bd f d s n (i + 1)
      omega
    · have := loopGo_bd f d (walkV f (s.length + 1) s i) (n + 1) (i + 1)
      omega
theorem loopsOf_bd (a b c : List Int) : 0 ≤ loopsOf a b c ∧ loopsOf a b c ≤ 60 := by
  have ht := total_bd a b c
  unfold loopsOf
  unfold totalOf at ht
  split
  · rename_i he
    simp only [if_pos he] at ht
    have := loopGo_bd (moveOf a b c) (sumL a).toNat (List.replicate (sumL a).toNat false) 0 0
    omega
  · omega
def exT (a b c : List Int) : ByteArray := if exB a b c = true then listT a ++ (⟨#[32]⟩ : ByteArray) ++ listT b ++ (⟨#[32]⟩ : ByteArray) ++ listT c ++ (⟨#[32, 108, 111, 111, 112, 115, 32]⟩ : ByteArray) ++ itoaB (loopsOf a b c) else ⟨#[]⟩
theorem ex_ints {a b c : List Int} (h : exB a b c = true) : Ints64 a ∧ Ints64 b ∧ Ints64 c ∧ a.length ≤ 6 ∧ b.length ≤ 6 ∧ c.length ≤ 6 := by
  obtain ⟨h1, h2, h3, h4, h5, h6, h7⟩ := exB_side h
  refine ⟨fun x hx => by have := h4 x hx; omega, fun x hx => by have := h6.2.1 x hx; omega, fun x hx => by have := h7.2.1 x hx; omega, by omega, by omega, by omega⟩
theorem spec_exline (a b c : List Int) : Ev (fun k => spec_ExchangeLine.f k a b c) (exT a b c) := by
  unfold spec_ExchangeLine.f exT
  refine Ev.bind (spec_exOk a b c) ?_
  by_cases h : exB a b c = true
  · obtain ⟨ia, ib, ic, la, lb, lc⟩ := ex_ints h
    have sa := listT_size a ia
    have sb := listT_size b ib
    have sc := listT_size c ic
    have hb := loopsOf_bd a b c
    have sn := itoaB_size (n := loopsOf a b c) (by omega) (by omega)
    have e1 : (⟨#[32]⟩ : ByteArray).size = 1 := rfl
    have e7 : (⟨#[32, 108, 111, 111, 112, 115, 32]⟩ : ByteArray).size = 7 := rfl
    simp only [if_pos h]
    refine Ev.bind (spec_list a (by omega) ia) ?_
    refine Ev.congr (f := fun k => _) (fun k => if_pos (by omega)) ?_
    refine Ev.bind (spec_list b (by omega) ib) ?_
    refine Ev.congr (f := fun k => _) (fun k => if_pos (by simp only [ByteArray.size_append, e1]; omega)) ?_
    refine Ev.congr (f := fun k => _) (fun k => if_pos (by simp only [ByteArray.size_append, e1]; omega)) ?_
    refine Ev.bind (spec_list c (by omega) ic) ?_
    refine Ev.congr (f := fun k => _) (fun k => if_pos (by simp only [ByteArray.size_append, e1]; omega)) ?_
    refine Ev.congr (f := fun k => _) (fun k => if_pos (by simp only [ByteArray.size_append, e1]; omega)) ?_
    refine Ev.bind (spec_loops a b c) ?_
    refine Ev.bind (spec_fmtint (by omega) (by omega)) ?_
    exact Ev.congr (fun k => if_pos (by simp only [ByteArray.size_append, e1, e7]; omega)) (Ev.now _)
  · simp only [if_neg h]
    exact Ev.now _
theorem impl_exline (a b c : List Int) : Ev (fun k => impl_ExchangeLine.f k a b c) (exT a b c) := by
  unfold impl_ExchangeLine.f exT
  refine Ev.bind (impl_exOk a b c) ?_
  by_cases h : exB a b c = true
  · obtain ⟨ia, ib, ic, la, lb, lc⟩ := ex_ints h
    have sa := listT_size a ia
    have sb := listT_size b ib
    have sc := listT_size c ic
    have hb := loopsOf_bd a b c
    have sn := itoaB_size (n := loopsOf a b c) (by omega) (by omega)
    have e1 : (⟨#[32]⟩ : ByteArray).size = 1 := rfl
    have e7 : (⟨#[32, 108, 111, 111, 112, 115, 32]⟩ : ByteArray).size = 7 := rfl
    simp only [if_pos h]
    refine Ev.bind (impl_list a (by omega) ia) ?_
    refine Ev.congr (f := fun k => _) (fun k => if_pos (by omega)) ?_
    refine Ev.bind (impl_list b (by omega) ib) ?_
    refine Ev.congr (f := fun k => _) (fun k => if_pos (by simp only [ByteArray.size_append, e1]; omega)) ?_
    refine Ev.congr (f := fun k => _) (fun k => if_pos (by simp only [ByteArray.size_append, e1]; omega)) ?_
    refine Ev.bind (impl_list c (by omega) ic) ?_
    refine Ev.congr (f := fun k => _) (fun k => if_pos (by simp only [ByteArray.size_append, e1]; omega)) ?_
    refine Ev.congr (f := fun k => _) (fun k => if_pos (by simp only [ByteArray.size_append, e1]; omega)) ?_
    refine Ev.bind (impl_loops a b c) ?_
    simp only [impl_fmtint (n := loopsOf a b c) (by omega) (by omega), Option.bind_some]
    exact Ev.congr (fun k => if_pos (by simp only [ByteArray.size_append, e1, e7]; omega)) (Ev.now _)
  · simp only [if_neg h]
    exact Ev.now _

theorem szIntS_eq (l : List Int) (m : Int) (hl : l.length ≤ 9223372036854775807) (h0 : 0 ≤ m) (h1 : m ≤ 1048576) : laws_szIntS.f l m = some (if (l.length : Int) ≤ m then m - (l.length : Int) else -1) := by
  unfold laws_szIntS.f
  have e : wrap64 (m - (l.length : Int)) = m - (l.length : Int) := by unfold wrap64; omega
  rw [e]
  by_cases h : (l.length : Int) ≤ m
  · rw [if_neg (by omega), if_pos h]
  · rw [if_pos (by omega), if_neg h]

theorem eqIntS_l0 (l : List Int) (hl : l.length ≤ 2147483648) : ∀ (suf pre : List Int), l = pre ++ suf → Ev (fun k => laws_eqIntS.l0 k l l (pre.length : Int)) true := by
  intro suf
  induction suf with
  | nil =>
    intro pre h
    subst h
    refine ev_up ?_
    simp only [laws_eqIntS.l0, if_neg (nlt_end pre)]
    exact Ev.now _
  | cons c suf ih =>
    intro pre h
    have := ih (pre ++ [c]) (by simp [h])
    subst h
    refine ev_up ?_
    simp only [laws_eqIntS.l0, if_pos (lt_mid pre suf c), if_pos (Int.natCast_nonneg pre.length), if_true, wrap_snoc (x := c) (s := suf) (p := pre) (by simp at hl ⊢; omega)]
    exact this
theorem eqIntS_ev (l : List Int) (hl : l.length ≤ 2147483648) : Ev (fun k => laws_eqIntS.f k l l) true := by
  unfold laws_eqIntS.f
  simp only [if_true]
  exact eqIntS_l0 l hl l [] rfl

theorem toIntS_l0 (l : List Int) (hl : l.length ≤ 1048576) : ∀ (suf pre : List Int), l = pre ++ suf → Ev (fun k => laws_toIntS.l0 k l (pre ++ List.replicate suf.length 0) (pre.length : Int)) l := by
  intro suf
  induction suf with
  | nil =>
    intro pre h
    subst h
    refine ev_up ?_
    simp only [laws_toIntS.l0, if_neg (nlt_end pre)]
    simpa using Ev.now pre
  | cons c suf ih =>
    intro pre h
    have := ih (pre ++ [c]) (by simp [h])
    subst h
    refine ev_up ?_
    simp only [laws_toIntS.l0, if_pos (lt_mid pre suf c), if_pos (Int.natCast_nonneg pre.length), rd_mid, if_pos (show ((pre.length : Nat) : Int) < ((pre ++ List.replicate (c :: suf).length (0 : Int)).length : Int) by simp; omega), wrap_snoc (x := c) (s := suf) (p := pre) (by simp at hl ⊢; omega)]
    rw [show (pre ++ List.replicate (c :: suf).length (0 : Int)).set ((pre.length : Nat) : Int).toNat c = pre ++ [c] ++ List.replicate suf.length 0 by simp [List.replicate_succ]]
    exact this
theorem toIntS_ev (l : List Int) (hl : l.length ≤ 1048576) : Ev (fun k => laws_toIntS.f k l) l := by
  have := toIntS_l0 l hl l [] rfl
  unfold laws_toIntS.f
  simp only [if_pos (Int.natCast_nonneg l.length), if_pos (show ((l.length : Nat) : Int).toNat ≤ 35184372088832 by omega)]
  simpa using this

theorem szEx_eq (a b c : List Int) (ha : a.length ≤ 9223372036854775807) (hb : b.length ≤ 9223372036854775807) (hc : c.length ≤ 9223372036854775807) :
    laws_szExchange.f a b c 1048576 = some (if a.length + b.length + c.length ≤ 1048576 then 1048576 - (a.length : Int) - (b.length : Int) - (c.length : Int) else -1) := by
  unfold laws_szExchange.f
  rw [szIntS_eq a _ ha (by omega) (by omega)]
  simp only [Option.bind_some]
  by_cases h1 : (a.length : Int) ≤ 1048576
  · rw [if_pos h1, if_neg (by omega), szIntS_eq b _ hb (by omega) (by omega)]
    simp only [Option.bind_some]
    by_cases h2 : (b.length : Int) ≤ 1048576 - (a.length : Int)
    · rw [if_pos h2, if_neg (by omega), szIntS_eq c _ hc (by omega) (by omega)]
      simp only [Option.bind_some]
      by_cases h3 : (c.length : Int) ≤ 1048576 - (a.length : Int) - (b.length : Int)
      · rw [if_pos h3, if_neg (by omega), if_pos (by omega)]
      · rw [if_neg h3, if_pos (by omega), if_neg (by omega)]
    · rw [if_neg h2, if_pos (by omega), if_neg (by omega)]
  · rw [if_neg h1, if_pos (by omega), if_neg (by omega)]
theorem toEx_ev (a b c : List Int) (h : a.length + b.length + c.length ≤ 1048576) : Ev (fun k => laws_toExchange.f k a b c) (a, b, c) := by
  unfold laws_toExchange.f
  refine Ev.bind (toIntS_ev a (by omega)) ?_
  refine Ev.bind (toIntS_ev b (by omega)) ?_
  refine Ev.bind (toIntS_ev c (by omega)) ?_
  exact Ev.now _
theorem eqEx_ev (a b c : List Int) (h : a.length + b.length + c.length ≤ 1048576) : Ev (fun k => laws_eqExchange.f k a b c a b c) true := by
  unfold laws_eqExchange.f
  refine Ev.bind (eqIntS_ev a (by omega)) ?_
  simp only [if_true]
  refine Ev.bind (eqIntS_ev b (by omega)) ?_
  simp only [if_true]
  refine Ev.bind (eqIntS_ev c (by omega)) ?_
  exact Ev.now _

theorem FnExactExchangeLine : laws_FnExactExchangeLine.Pure := by
  intro a b c ha _ hb _ hc _
  apply Ev.rounds
  unfold laws_FnExactExchangeLine.f
  simp only [szEx_eq a b c ha hb hc, Option.bind_some]
  by_cases h : a.length + b.length + c.length ≤ 1048576
  · simp only [if_pos h]
    refine Ev.congr (f := fun k => _) (fun k => if_neg (by omega)) ?_
    refine Ev.bind (toEx_ev a b c h) ?_
    refine Ev.bind (spec_exline a b c) ?_
    refine Ev.bind (toEx_ev a b c h) ?_
    refine Ev.bind (impl_exline a b c) ?_
    simp only [if_true]
    refine Ev.bind (toEx_ev a b c h) ?_
    refine Ev.bind (eqEx_ev a b c h) ?_
    simp only [if_true]
    exact Ev.now _
  · simp only [if_neg h]
    exact Ev.now _

end Go.Proofs.YtbolkipmehmncaaDoor.Pure
