/- The program's IsIrreducible returns what the reference's returns, for all arguments: no condition. -/
import Derived.Test.YtjokajioaoiceaaSayFnExactIsIrreducible
namespace Go.Proofs.Ytjokajioaoiceaa.Pure
open Go.RowKit Go.Proofs.Ytjokajioaoiceaa.S Go.Proofs.YtjokajioaoiceaaW.PrintWords Go.Proofs.YtjokajioaoiceaaW.PrintLast
set_option linter.unusedVariables false
set_option linter.unusedSimpArgs false

theorem l01In_eq (a b c : Int) : spec_l01In.f a b c = some (decide (b ≤ a ∧ a ≤ c)) := by
  unfold spec_l01In.f
  split
  · rename_i h
    by_cases h2 : a ≤ c
    · rw [decide_eq_true h2, decide_eq_true ⟨h, h2⟩]
    · rw [decide_eq_false h2, decide_eq_false (fun h => h2 h.2)]
  · rename_i h
    rw [decide_eq_false (fun h2 => h h2.1)]

theorem ev_up {α : Type} {g : Nat → Option α} {r : α} (h : Ev (fun k => g (k + 1)) r) : Ev g r := Ev.step (fun _ => rfl) h
theorem ev_k {α : Type} {g : Nat → Option α} {r : α} {n : Nat} (h : ∀ k, n < k → g k = some r) : Ev g r := ⟨n + 1, fun k hk => h k (by omega)⟩

theorem pw_wf {a : Int} (h : (Lit.int .i64 a).wf = true) : -9223372036854775808 ≤ a ∧ a ≤ 9223372036854775807 := by
  simp [Lit.wf, IntKind.min, IntKind.max, IntKind.signed, IntKind.bits] at h
  omega
theorem pw_wrap {a : Int} (h0 : -9223372036854775808 ≤ a) (h1 : a ≤ 9223372036854775807) : wrap64 a = a := by
  unfold wrap64
  omega

/-- A permutation of at most 24 elements. -/
def isPerm (p : List Int) : Prop := p.length ≤ 24 ∧ (∀ x ∈ p, 0 ≤ x ∧ x < (p.length : Int)) ∧ p.Nodup
theorem perm_go (n : Nat) (hn : n ≤ 24) : ∀ (p pre : List Int) (seen : List Bool), seen.length = 24 → (∀ x : Int, 0 ≤ x → x < n → (seen.getD x.toNat false = true ↔ x ∈ pre)) →
    permGo n p seen = permSGo n pre p := by
  intro p
  induction p with
  | nil => intro pre seen _ _; rfl
  | cons x p ih =>
    intro pre seen hl hs
    simp only [permGo, permSGo]
    by_cases h0 : x < 0
    · rw [if_pos h0, if_neg (by omega)]
    · rw [if_neg h0]
      by_cases h1 : (n : Int) ≤ x
      · rw [if_pos h1, if_neg (by omega)]
      · rw [if_neg h1, if_pos (show 0 ≤ x ∧ x ≤ (n : Int) - 1 by omega)]
        have hx := hs x (by omega) (by omega)
        by_cases h2 : x ∈ pre
        · rw [if_pos (hx.2 h2), if_pos h2]
        · rw [if_neg (fun h => h2 (hx.1 h)), if_neg h2]
          refine ih _ _ (by simpa using hl) (fun y hy0 hy1 => ?_)
          by_cases hxy : x = y
          · subst hxy
            have : x.toNat < seen.length := by omega
            simp [List.getD, this]
          · have hne : x.toNat ≠ y.toNat := by omega
            have := hs y hy0 hy1
            simp only [List.getD, List.getElem?_set_ne hne]
            rw [List.getD] at this
            rw [this]
            simp [Ne.symm hxy]
theorem perm_same (p : List Int) : permB p = permSB p := by
  unfold permB permSB
  by_cases h : p.length ≤ 24
  · rw [if_pos h, if_pos h]
    refine perm_go p.length h p [] no24 rfl (fun x h0 h1 => ?_)
    have : no24.getD x.toNat false = false := by
      unfold no24
      simp only [List.getD, List.getElem?_replicate]
      split <;> rfl
    rw [this]
    simp
  · rw [if_neg h, if_neg h]
theorem permS_iff (n : Nat) : ∀ (p pre : List Int), permSGo n pre p = true ↔ ((∀ x ∈ p, 0 ≤ x ∧ x < (n : Int)) ∧ (∀ x ∈ p, x ∉ pre) ∧ p.Nodup)
  | [], pre => by simp [permSGo]
  | x :: p, pre => by
    simp only [permSGo]
    by_cases h : 0 ≤ x ∧ x ≤ (n : Int) - 1
    · rw [if_pos h]
      by_cases h2 : x ∈ pre
      · rw [if_pos h2]
        simp [h2]
      · rw [if_neg h2, permS_iff n p (pre ++ [x])]
        simp only [List.mem_cons, forall_eq_or_imp, List.nodup_cons]
        constructor
        · rintro ⟨h3, h4, h5⟩
          exact ⟨⟨by omega, h3⟩, ⟨h2, fun y hy hp => h4 y hy (List.mem_append.2 (.inl hp))⟩, fun hx => h4 x hx (List.mem_append.2 (.inr (List.mem_singleton.2 rfl))), h5⟩
        · rintro ⟨h3, h4, h5, h6⟩
          refine ⟨h3.2, fun y hy hp => ?_, h6⟩
          rcases List.mem_append.1 hp with hp | hp
          · exact h4.2 y hy hp
          · rw [List.mem_singleton.1 hp] at hy
            exact h5 hy
    · rw [if_neg h]
      simp only [Bool.false_eq_true, List.mem_cons, forall_eq_or_imp, false_iff]
      intro h2
      omega
theorem permB_iff (p : List Int) : permB p = true ↔ isPerm p := by
  rw [perm_same]
  unfold permSB isPerm
  by_cases h : p.length ≤ 24
  · rw [if_pos h, permS_iff]
    simp [h]
  · rw [if_neg h]
    simp [h]

/-! Small words on lists, read at a place. -/
theorem len_snoc {α : Type} (p : List α) (x : α) : (p ++ [x]).length = p.length + 1 := by simp
theorem wrap_snoc {α : Type} {p s : List α} {x : α} (h : (p ++ x :: s).length ≤ 4611686018427387904) : wrap64 ((p.length : Int) + 1) = ((p ++ [x]).length : Int) := by
  simp at h ⊢
  unfold wrap64
  omega
theorem lt_mid {α : Type} (p s : List α) (x : α) : ((p.length : Nat) : Int) < ((p ++ x :: s).length : Int) := by simp; omega
theorem nlt_end {α : Type} (p : List α) : ¬ ((p.length : Nat) : Int) < ((p ++ []).length : Int) := by simp
theorem rd_mid (p s : List Int) (x : Int) : rd (p ++ x :: s) (p.length : Int) = x := by simp [rd, List.getD]
theorem nil_or_snoc {α : Type} (l : List α) : l = [] ∨ ∃ p x, l = p ++ [x] := by
  rcases List.eq_nil_or_concat l with h | ⟨p, x, h⟩
  · exact .inl h
  · exact .inr ⟨p, x, by rw [h]; simp⟩

def sumL : List Int → Int
  | [] => 0
  | x :: xs => x + sumL xs
/-- Lengths are from 1 to 60. -/
def lensB : List Int → Bool
  | [] => true
  | x :: xs => decide (1 ≤ x ∧ x ≤ 60) && lensB xs
theorem lensB_iff : ∀ l : List Int, lensB l = true ↔ ∀ x ∈ l, 1 ≤ x ∧ x ≤ 60
  | [] => by simp [lensB]
  | x :: xs => by simp [lensB, lensB_iff xs]
theorem sumL_bd : ∀ l : List Int, (∀ x ∈ l, 1 ≤ x ∧ x ≤ 60) → (l.length : Int) ≤ sumL l ∧ sumL l ≤ 60 * l.length
  | [], _ => by simp [sumL]
  | x :: xs, h => by
    have h1 := h x (by simp)
    have h2 := sumL_bd xs (fun y hy => h y (by simp [hy]))
    simp only [sumL, List.length_cons]
    omega
def exB (a b c : List Int) : Bool := decide (1 ≤ a.length ∧ a.length ≤ 6) && decide (b.length = a.length) && decide (c.length = a.length) && lensB a && decide (sumL a ≤ 60) && permB b && permB c
theorem spec_ex_l0 (a b c : List Int) (ha : a.length ≤ 6) : ∀ (suf pre : List Int) (s : Int), a = pre ++ suf → 0 ≤ s → s + 60 * suf.length ≤ 360 →
    Ev (fun k => spec_ExchangeOk.l0 k s a (a.length : Int) (pre.length : Int) a b c) (lensB suf && decide (s + sumL suf ≤ 60) && permB b && permB c) := by
  intro suf
  induction suf with
  | nil =>
    intro pre s h h0 h1
    have hlen : ¬ ((pre.length : Nat) : Int) < (a.length : Int) := by rw [h]; simp
    refine ev_up ?_
    simp only [spec_ExchangeOk.l0, if_neg hlen, lensB, sumL, Int.add_zero, Bool.true_and, spec_PermOk.f, Option.bind_some, ← perm_same]
    by_cases h2 : s ≤ 60
    · simp only [if_pos h2, decide_eq_true h2, Bool.true_and]
      cases permB b <;> simp <;> exact Ev.now _
    · simp only [if_neg h2, decide_eq_false h2, Bool.false_and]
      exact Ev.now _
  | cons x suf ih =>
    intro pre s h h0 h1
    have hlt : ((pre.length : Nat) : Int) < (a.length : Int) := by rw [h]; exact lt_mid pre suf x
    have hrd : rd a (pre.length : Int) = x := by rw [h]; exact rd_mid pre suf x
    have hw : wrap64 ((pre.length : Int) + 1) = ((pre ++ [x]).length : Int) := wrap_snoc (s := suf) (by rw [← h]; omega)
    simp at h1
    refine ev_up ?_
    simp only [spec_ExchangeOk.l0, if_pos hlt, if_pos (Int.natCast_nonneg pre.length), hrd, hw, l01In_eq, Option.bind_some]
    by_cases h2 : 1 ≤ x ∧ x ≤ 60
    · simp only [decide_eq_true h2, if_true, pw_wrap (a := s + x) (by omega) (by omega), lensB, sumL, Bool.true_and]
      simp only [← Int.add_assoc]
      exact ih (pre ++ [x]) (s + x) (by simp [h]) (by omega) (by omega)
    · simp only [decide_eq_false h2, Bool.false_eq_true, if_false, lensB, Bool.false_and]
      exact Ev.now _
theorem spec_exOk (a b c : List Int) : Ev (fun k => spec_ExchangeOk.f k a b c) (exB a b c) := by
  have hbad : ∀ r : Bool, r = false → Ev (fun k => spec_ExchangeOk.j0 k true a b c) r := by
    rintro r rfl
    refine ev_up ?_
    simp only [spec_ExchangeOk.j0, if_true]
    exact Ev.now _
  unfold spec_ExchangeOk.f exB
  simp only [l01In_eq, Option.bind_some]
  by_cases h1 : 1 ≤ a.length ∧ a.length ≤ 6
  · simp only [decide_eq_true h1, decide_eq_true (show 1 ≤ (a.length : Int) ∧ (a.length : Int) ≤ 6 by omega), if_true, Bool.true_and]
    by_cases h2 : b.length = a.length
    · simp only [decide_eq_true h2, if_pos (show (b.length : Int) = (a.length : Int) by omega), Bool.true_and]
      by_cases h3 : c.length = a.length
      · simp only [decide_eq_true h3, show ((c.length : Int) != (a.length : Int)) = false from by simp; omega, Bool.true_and]
        refine ev_up ?_
        simp only [spec_ExchangeOk.j0, Bool.false_eq_true, if_false]
        have := spec_ex_l0 a b c h1.2 a [] 0 rfl (by omega) (by omega)
        simpa using this
      · simp only [decide_eq_false h3, show ((c.length : Int) != (a.length : Int)) = true from by simp; omega, Bool.false_and]
        exact hbad _ rfl
    · simp only [decide_eq_false h2, if_neg (show ¬ (b.length : Int) = (a.length : Int) by omega), Bool.false_and]
      exact hbad _ rfl
  · simp only [decide_eq_false h1, decide_eq_false (show ¬ (1 ≤ (a.length : Int) ∧ (a.length : Int) ≤ 6) by omega), Bool.false_eq_true, if_false, Bool.false_and]
    exact hbad _ rfl
theorem impl_ex_l0 (a b c : List Int) (ha : a.length ≤ 6) : ∀ (suf pre : List Int) (s : Int), a = pre ++ suf → 0 ≤ s → s + 60 * suf.length ≤ 360 →
    Ev (fun k => impl_ExchangeOk.l0 k (a.length : Int) s a (a.length : Int) (pre.length : Int) a b c) (lensB suf && decide (s + sumL suf ≤ 60) && permB b && permB c && decide (b.length = a.length) && decide (c.length = a.length)) := by
  intro suf
  induction suf with
  | nil =>
    intro pre s h h0 h1
    have hlen : ¬ ((pre.length : Nat) : Int) < (a.length : Int) := by rw [h]; simp
    have hcl : ((c.length : Int) == (a.length : Int)) = decide (c.length = a.length) := by
      by_cases hc : c.length = a.length
      · simp [hc]
      · simp [hc]; omega
    refine ev_up ?_
    simp only [impl_ExchangeOk.l0, if_neg hlen, lensB, sumL, Int.add_zero, Bool.true_and, impl_PermOk.f, Option.bind_some, hcl]
    by_cases h2 : s ≤ 60
    · simp only [if_pos h2, decide_eq_true h2, Bool.true_and]
      cases permB b
      · simpa using Ev.now false
      · cases permB c
        · simpa using Ev.now false
        · by_cases hb : b.length = a.length
          · simpa [hb] using Ev.now (decide (c.length = a.length))
          · simpa [hb, show ¬ (b.length : Int) = (a.length : Int) by omega] using Ev.now false
    · simp only [if_neg h2, decide_eq_false h2, Bool.false_and]
      exact Ev.now _
  | cons x suf ih =>
    intro pre s h h0 h1
    have hlt : ((pre.length : Nat) : Int) < (a.length : Int) := by rw [h]; exact lt_mid pre suf x
    have hrd : rd a (pre.length : Int) = x := by rw [h]; exact rd_mid pre suf x
    have hw : wrap64 ((pre.length : Int) + 1) = ((pre ++ [x]).length : Int) := wrap_snoc (s := suf) (by rw [← h]; omega)
    simp at h1
    refine ev_up ?_
    simp only [impl_ExchangeOk.l0, if_pos hlt, if_pos (Int.natCast_nonneg pre.length), hrd, hw]
    by_cases h2 : x < 1
    · simp only [if_pos h2, lensB, decide_eq_false (show ¬ (1 ≤ x ∧ x ≤ 60) by omega), Bool.false_and]
      exact Ev.now _
    · by_cases h3 : x > 60
      · simp only [if_neg h2, if_pos h3, lensB, decide_eq_false (show ¬ (1 ≤ x ∧ x ≤ 60) by omega), Bool.false_and]
        exact Ev.now _
      · simp only [if_neg h2, if_neg h3, lensB, decide_eq_true (show 1 ≤ x ∧ x ≤ 60 by omega), pw_wrap (a := s + x) (by omega) (by omega), sumL, Bool.true_and]
        simp only [← Int.add_assoc]
        exact ih (pre ++ [x]) (s + x) (by simp [h]) (by omega) (by omega)
theorem and_swap6 (p a b c d e f : Bool) : (p && a && b && c && d && e && f) = (p && (c && d && e && f && a && b)) := by
  cases p <;> cases a <;> cases b <;> cases c <;> cases d <;> cases e <;> cases f <;> rfl
theorem impl_exOk (a b c : List Int) : Ev (fun k => impl_ExchangeOk.f k a b c) (exB a b c) := by
  unfold impl_ExchangeOk.f exB
  rw [and_swap6]
  by_cases h1 : (a.length : Int) < 1
  · simp only [if_pos h1, decide_eq_false (show ¬ (1 ≤ a.length ∧ a.length ≤ 6) by omega), Bool.false_and]
    refine ev_up ?_
    simp only [impl_ExchangeOk.j0, if_true]
    exact Ev.now _
  · simp only [if_neg h1]
    refine ev_up ?_
    by_cases h2 : a.length ≤ 6
    · simp only [impl_ExchangeOk.j0, decide_eq_false (show ¬ (a.length : Int) > 6 by omega), Bool.false_eq_true, if_false, decide_eq_true (show 1 ≤ a.length ∧ a.length ≤ 6 by omega), Bool.true_and]
      have := impl_ex_l0 a b c h2 a [] 0 rfl (by omega) (by omega)
      simpa using this
    · simp only [impl_ExchangeOk.j0, decide_eq_true (show (a.length : Int) > 6 by omega), if_true, decide_eq_false (show ¬ (1 ≤ a.length ∧ a.length ≤ 6) by omega), Bool.false_and]
      exact Ev.now _
/-- What a valid exchange is. -/
theorem exB_side {a b c : List Int} (h : exB a b c = true) : (1 ≤ a.length ∧ a.length ≤ 6) ∧ b.length = a.length ∧ c.length = a.length ∧ (∀ x ∈ a, 1 ≤ x ∧ x ≤ 60) ∧ sumL a ≤ 60 ∧ isPerm b ∧ isPerm c := by
  simp only [exB, Bool.and_eq_true, decide_eq_true_eq, lensB_iff, permB_iff] at h
  obtain ⟨⟨⟨⟨⟨⟨h1, h2⟩, h3⟩, h4⟩, h5⟩, h6⟩, h7⟩ := h
  exact ⟨h1, h2, h3, h4, h5, h6, h7⟩

/-- The lengths and the numbers of parts are as those of a valid exchange. -/
structure ExOk (a b c : List Int) : Prop where
  n1 : 1 ≤ a.length ∧ a.length ≤ 6
  lb : b.length = a.length
  lc : c.length = a.length
  la : ∀ x ∈ a, 1 ≤ x ∧ x ≤ 60
  su : sumL a ≤ 60
  pb : isPerm b
  pc : isPerm c
theorem exOk_of {a b c : List Int} (h : exB a b c = true) : ExOk a b c := by
  obtain ⟨h1, h2, h3, h4, h5, h6, h7⟩ := exB_side h
  exact ⟨h1, h2, h3, h4, h5, h6, h7⟩
theorem rd_len {a : List Int} (h : ∀ x ∈ a, 1 ≤ x ∧ x ≤ 60) {k : Int} (h0 : 0 ≤ k) (h1 : k < a.length) : 1 ≤ rd a k ∧ rd a k ≤ 60 := by
  have hk : k.toNat < a.length := by omega
  have e : rd a k = a[k.toNat] := by simp [rd, List.getD, hk]
  rw [e]
  exact h _ (List.getElem_mem hk)

theorem spec_has_l0 (l : List Int) (hl : l.length ≤ 4611686018427387904) (x : Int) : ∀ (suf pre : List Int), l = pre ++ suf →
    Ev (fun k => spec_l02Has.l0 k x l (l.length : Int) (pre.length : Int)) (decide (x ∈ suf)) := by
  intro suf
  induction suf with
  | nil =>
    intro pre h
    subst h
    refine ev_up ?_
    simp only [spec_l02Has.l0, if_neg (nlt_end pre)]
    simpa using Ev.now false
  | cons c suf ih =>
    intro pre h
    have := ih (pre ++ [c]) (by simp [h])
    subst h
    refine ev_up ?_
    by_cases hc : c = x
    · simp only [spec_l02Has.l0, if_pos (lt_mid pre suf c), if_pos (Int.natCast_nonneg pre.length), rd_mid, if_pos hc]
      simpa [hc] using Ev.now true
    · simp only [spec_l02Has.l0, if_pos (lt_mid pre suf c), if_pos (Int.natCast_nonneg pre.length), rd_mid, if_neg hc, wrap_snoc hl]
      rw [show decide (x ∈ c :: suf) = decide (x ∈ suf) by simp [Ne.symm hc]]
      exact this
theorem spec_has (l : List Int) (hl : l.length ≤ 4611686018427387904) (x : Int) : Ev (fun k => spec_l02Has.f k l x) (decide (x ∈ l)) := spec_has_l0 l hl x l [] rfl

/-- The place of the first x, or -1. -/
def idxGo (x : Int) : List Int → Int → Int
  | [], _ => -1
  | c :: cs, i => if c = x then i else idxGo x cs (i + 1)
theorem impl_index_l0 (l : List Int) (hl : l.length ≤ 4611686018427387904) (x : Int) : ∀ (suf pre : List Int), l = pre ++ suf →
    Ev (fun k => slices_Index_int_int.l0 k l x (l.length : Int) (pre.length : Int)) (idxGo x suf pre.length) := by
  intro suf
  induction suf with
  | nil =>
    intro pre h
    subst h
    refine ev_up ?_
    simp only [slices_Index_int_int.l0, if_neg (nlt_end pre)]
    exact Ev.now _
  | cons c suf ih =>
    intro pre h
    have := ih (pre ++ [c]) (by simp [h])
    subst h
    refine ev_up ?_
    by_cases hc : c = x
    · simp only [slices_Index_int_int.l0, if_pos (lt_mid pre suf c), if_pos (Int.natCast_nonneg pre.length), rd_mid, if_pos hc.symm]
      rw [idxGo, if_pos hc]
      exact Ev.now _
    · simp only [slices_Index_int_int.l0, if_pos (lt_mid pre suf c), if_pos (Int.natCast_nonneg pre.length), rd_mid, if_neg (Ne.symm hc), wrap_snoc hl]
      rw [idxGo, if_neg hc, show (pre.length : Int) + 1 = ((pre ++ [c]).length : Int) by simp]
      exact this
theorem impl_index (l : List Int) (hl : l.length ≤ 4611686018427387904) (x : Int) : Ev (fun k => slices_Index_int_int.f k l x) (idxGo x l 0) := impl_index_l0 l hl x l [] rfl
theorem idx_mem (x : Int) : ∀ (l : List Int) (i : Int), 0 ≤ i → (decide (idxGo x l i ≥ 0) = decide (x ∈ l))
  | [], i, _ => by simp [idxGo]
  | c :: cs, i, h => by
    by_cases hc : c = x
    · simp [idxGo, hc, h]
    · rw [idxGo, if_neg hc, idx_mem x cs (i + 1) (by omega)]
      simp [Ne.symm hc]
theorem impl_contains (l : List Int) (hl : l.length ≤ 4611686018427387904) (x : Int) : Ev (fun k => slices_Contains_int_int.f k l x) (decide (x ∈ l)) := by
  unfold slices_Contains_int_int.f
  refine Ev.bind (impl_index l hl x) ?_
  simp only [idx_mem x l 0 (Int.le_refl 0)]
  exact Ev.now _

def subB (a b : List Int) : Bool := a.all (fun x => decide (x ∈ b))
/-- No start of the one order is a start of the other. -/
def irrGo (a b : List Int) : Nat → Nat → Bool
  | 0, _ => true
  | d + 1, k => if subB (a.take k) (b.take k) = true then false else irrGo a b d (k + 1)
theorem sub_len : ∀ (l m : List Int), l.Nodup → (∀ x ∈ l, x ∈ m) → l.length ≤ m.length
  | [], _, _, _ => by simp
  | x :: l, m, hn, h => by
    have hn2 := List.nodup_cons.1 hn
    have := sub_len l (m.erase x) hn2.2 (fun y hy => (List.mem_erase_of_ne (fun (e : y = x) => hn2.1 (by rw [← e]; exact hy))).2 (h y (List.mem_cons_of_mem _ hy)))
    have hm := h x List.mem_cons_self
    rw [List.length_erase_of_mem hm] at this
    have := List.length_pos_of_mem hm
    simp only [List.length_cons]
    omega
theorem sub_back {l m : List Int} (hn : l.Nodup) (hl : l.length = m.length) (h : ∀ x ∈ l, x ∈ m) : ∀ x ∈ m, x ∈ l := by
  intro x hx
  refine Classical.byContradiction fun hc => ?_
  have := sub_len (x :: l) m (List.nodup_cons.2 ⟨hc, hn⟩) (fun y hy => by
    rcases List.mem_cons.1 hy with rfl | hy
    · exact hx
    · exact h y hy)
  simp at this
  omega
theorem subB_swap {a b : List Int} (ha : a.Nodup) (hb : b.Nodup) (hl : a.length = b.length) (k : Nat) : subB (a.take k) (b.take k) = subB (b.take k) (a.take k) := by
  have hk : (a.take k).length = (b.take k).length := by simp [hl]
  have e : (∀ x ∈ a.take k, x ∈ b.take k) ↔ (∀ x ∈ b.take k, x ∈ a.take k) :=
    ⟨sub_back (ha.sublist (List.take_sublist k a)) hk, sub_back (hb.sublist (List.take_sublist k b)) hk.symm⟩
  rw [Bool.eq_iff_iff]
  simp only [subB, List.all_eq_true, decide_eq_true_eq]
  exact e
theorem irr_swap {a b : List Int} (ha : a.Nodup) (hb : b.Nodup) (hl : a.length = b.length) : ∀ (d k : Nat), irrGo a b d k = irrGo b a d k
  | 0, _ => rfl
  | d + 1, k => by simp only [irrGo, subB_swap ha hb hl k, irr_swap ha hb hl d (k + 1)]
theorem spec_irr_l1 (a b c : List Int) (hb : b.length ≤ 24) (hc : c.length ≤ 24) (k : Nat) (h1 : k ≤ b.length) (h2 : k ≤ c.length) (r : Bool) (hr : Ev (fun q => spec_IsIrreducible.l0 q ((k + 1 : Nat) : Int) a b c) r) : ∀ (suf pre : List Int) (f : Bool), c.take k = pre ++ suf →
    Ev (fun q => spec_IsIrreducible.l1 q (k : Int) f (c.take k) ((c.take k).length : Int) (pre.length : Int) a b c) (if (f && subB suf (b.take k)) = true then false else r) := by
  intro suf
  induction suf with
  | nil =>
    intro pre f h
    refine ev_up ?_
    have hn : ¬ (pre.length : Int) < ((c.take k).length : Int) := by rw [h]; simp
    have hw : wrap64 ((k : Int) + 1) = ((k + 1 : Nat) : Int) := by rw [pw_wrap (by omega) (by omega)]; rfl
    simp only [spec_IsIrreducible.l1, if_neg hn, hw]
    cases f
    · simpa using hr
    · simp only [if_true, subB, List.all_nil, Bool.and_self]
      exact Ev.now _
  | cons x suf ih =>
    intro pre f h
    have hi := fun g => ih (pre ++ [x]) g (by simp [h])
    have hl : (c.take k).length ≤ 24 := by rw [List.length_take]; omega
    have hlen : (c.take k).length = pre.length + suf.length + 1 := by rw [h]; simp; omega
    have hx : rd (c.take k) (pre.length : Int) = x := by rw [h]; exact rd_mid _ _ _
    have hw : wrap64 ((pre.length : Int) + 1) = ((pre ++ [x]).length : Int) := by rw [pw_wrap (by omega) (by omega)]; simp
    refine ev_up ?_
    simp only [spec_IsIrreducible.l1, if_pos (show (pre.length : Int) < ((c.take k).length : Int) by omega), if_pos (Int.natCast_nonneg pre.length), hx, hw, if_pos (Int.natCast_nonneg k), Int.toNat_natCast, if_pos (show (k : Int) ≤ (b.length : Int) by omega)]
    cases f
    · simp only [Bool.false_eq_true, if_false, Bool.false_and]
      have := hi false
      simpa only [Bool.false_and, Bool.false_eq_true, if_false] using this
    · simp only [if_true]
      refine Ev.bind (spec_has (b.take k) (by rw [List.length_take]; omega) x) ?_
      have := hi (decide (x ∈ b.take k))
      simp only [subB, List.all_cons, Bool.true_and] at this ⊢
      exact this
theorem spec_irr_l0 (a b c : List Int) (hb : b.length ≤ 24) (hc : c.length = b.length) : ∀ (d k : Nat), k + d = b.length → Ev (fun q => spec_IsIrreducible.l0 q (k : Int) a b c) (irrGo c b d k)
  | 0, k, h => by
    refine ev_up ?_
    simp only [spec_IsIrreducible.l0, if_neg (show ¬ (k : Int) < (b.length : Int) by omega)]
    exact Ev.now _
  | d + 1, k, h => by
    refine ev_up ?_
    simp only [spec_IsIrreducible.l0, if_pos (show (k : Int) < (b.length : Int) by omega), if_pos (Int.natCast_nonneg k), if_pos (show (k : Int) ≤ (c.length : Int) by omega), Int.toNat_natCast]
    have := spec_irr_l1 a b c hb (by omega) k (by omega) (by omega) _ (spec_irr_l0 a b c hb hc d (k + 1) (by omega)) (c.take k) [] true rfl
    simp only [Bool.true_and] at this
    rw [irrGo]
    exact this
theorem impl_irr_l1 (a b c : List Int) (hb : b.length ≤ 24) (hc : c.length ≤ 24) (k : Nat) (h1 : k ≤ b.length) (h2 : k ≤ c.length) (r : Bool) (hr : Ev (fun q => impl_IsIrreducible.l0 q ((k + 1 : Nat) : Int) a b c) r) : ∀ (suf pre : List Int) (f : Bool), b.take k = pre ++ suf →
    Ev (fun q => impl_IsIrreducible.l1 q (k : Int) f (b.take k) ((b.take k).length : Int) (pre.length : Int) a b c) (if (f && subB suf (c.take k)) = true then false else r) := by
  intro suf
  induction suf with
  | nil =>
    intro pre f h
    refine ev_up ?_
    have hn : ¬ (pre.length : Int) < ((b.take k).length : Int) := by rw [h]; simp
    have hw : wrap64 ((k : Int) + 1) = ((k + 1 : Nat) : Int) := by rw [pw_wrap (by omega) (by omega)]; rfl
    simp only [impl_IsIrreducible.l1, if_neg hn, hw]
    cases f
    · simpa using hr
    · simp only [if_true, subB, List.all_nil, Bool.and_self]
      exact Ev.now _
  | cons x suf ih =>
    intro pre f h
    have hi := fun g => ih (pre ++ [x]) g (by simp [h])
    have hl : (b.take k).length ≤ 24 := by rw [List.length_take]; omega
    have hlen : (b.take k).length = pre.length + suf.length + 1 := by rw [h]; simp; omega
    have hx : rd (b.take k) (pre.length : Int) = x := by rw [h]; exact rd_mid _ _ _
    have hw : wrap64 ((pre.length : Int) + 1) = ((pre ++ [x]).length : Int) := by rw [pw_wrap (by omega) (by omega)]; simp
    refine ev_up ?_
    simp only [impl_IsIrreducible.l1, if_pos (show (pre.length : Int) < ((b.take k).length : Int) by omega), if_pos (Int.natCast_nonneg pre.length), hx, hw, if_pos (Int.natCast_nonneg k), Int.toNat_natCast, if_pos (show (k : Int) ≤ (c.length : Int) by omega)]
    cases f
    · simp only [Bool.false_eq_true, if_false, Bool.false_and]
      have := hi false
      simpa only [Bool.false_and, Bool.false_eq_true, if_false] using this
    · simp only [if_true]
      refine Ev.bind (impl_contains (c.take k) (by rw [List.length_take]; omega) x) ?_
      have := hi (decide (x ∈ c.take k))
      simp only [subB, List.all_cons, Bool.true_and] at this ⊢
      exact this
theorem impl_irr_l0 (a b c : List Int) (hb : b.length ≤ 24) (hc : c.length = b.length) : ∀ (d k : Nat), k + d = b.length → Ev (fun q => impl_IsIrreducible.l0 q (k : Int) a b c) (irrGo b c d k)
  | 0, k, h => by
    refine ev_up ?_
    simp only [impl_IsIrreducible.l0, if_neg (show ¬ (k : Int) < (b.length : Int) by omega)]
    exact Ev.now _
  | d + 1, k, h => by
    refine ev_up ?_
    simp only [impl_IsIrreducible.l0, if_pos (show (k : Int) < (b.length : Int) by omega), if_pos (Int.natCast_nonneg k), if_pos (show (k : Int) ≤ (b.length : Int) by omega), Int.toNat_natCast]
    have := impl_irr_l1 a b c hb (by omega) k (by omega) (by omega) _ (impl_irr_l0 a b c hb hc d (k + 1) (by omega)) (b.take k) [] true rfl
    simp only [Bool.true_and] at this
    rw [irrGo]
    exact this
def irrOf (a b c : List Int) : Bool := if exB a b c = true then irrGo b c (b.length - 1) 1 else false
theorem spec_irr (a b c : List Int) : Ev (fun k => spec_IsIrreducible.f k a b c) (irrOf a b c) := by
  unfold spec_IsIrreducible.f irrOf
  refine Ev.bind (spec_exOk a b c) ?_
  by_cases h : exB a b c = true
  · obtain ⟨e1, e2, e3, _, _, p1, p2⟩ := exOk_of h
    simp only [if_pos h]
    rw [irr_swap p1.2.2 p2.2.2 (by omega)]
    exact spec_irr_l0 a b c p1.1 (by omega) (b.length - 1) 1 (by omega)
  · simp only [if_neg h]
    exact Ev.now _
theorem impl_irr (a b c : List Int) : Ev (fun k => impl_IsIrreducible.f k a b c) (irrOf a b c) := by
  unfold impl_IsIrreducible.f irrOf
  refine Ev.bind (impl_exOk a b c) ?_
  by_cases h : exB a b c = true
  · obtain ⟨e1, e2, e3, _, _, p1, p2⟩ := exOk_of h
    simp only [if_pos h]
    exact impl_irr_l0 a b c p1.1 (by omega) (b.length - 1) 1 (by omega)
  · simp only [if_neg h]
    exact Ev.now _

theorem szIntS_eq (l : List Int) (m : Int) (hl : l.length ≤ 9223372036854775807) (h0 : 0 ≤ m) (h1 : m ≤ 1048576) : laws_szIntS.f l m = some (if (l.length : Int) ≤ m then m - (l.length : Int) else -1) := by
  unfold laws_szIntS.f
  have e : wrap64 (m - (l.length : Int)) = m - (l.length : Int) := by unfold wrap64; omega
  rw [e]
  by_cases h : (l.length : Int) ≤ m
  · rw [if_neg (by omega), if_pos h]
  · rw [if_pos (by omega), if_neg h]

theorem eqIntS_l0 (l : List Int) (hl : l.length ≤ 2147483648) : ∀ (suf pre : List Int), l = pre ++ suf → Ev (fun k => laws_eqIntS.l0 k l l (pre.length : Int)) true := by
  intro suf
  induction suf with
  | nil =>
    intro pre h
    subst h
    refine ev_up ?_
    simp only [laws_eqIntS.l0, if_neg (nlt_end pre)]
    exact Ev.now _
  | cons c suf ih =>
    intro pre h
    have := ih (pre ++ [c]) (by simp [h])
    subst h
    refine ev_up ?_
    simp only [laws_eqIntS.l0, if_pos (lt_mid pre suf c), if_pos (Int.natCast_nonneg pre.length), if_true, wrap_snoc (x := c) (s := suf) (p := pre) (by simp at hl ⊢; omega)]
    exact this
theorem eqIntS_ev (l : List Int) (hl : l.length ≤ 2147483648) : Ev (fun k => laws_eqIntS.f k l l) true := by
  unfold laws_eqIntS.f
  simp only [if_true]
  exact eqIntS_l0 l hl l [] rfl

theorem toIntS_l0 (l : List Int) (hl : l.length ≤ 1048576) : ∀ (suf pre : List Int), l = pre ++ suf → Ev (fun k => laws_toIntS.l0 k l (pre ++ List.replicate suf.length 0) (pre.length : Int)) l := by
  intro suf
  induction suf with
  | nil =>
    intro pre h
    subst h
    refine ev_up ?_
    simp only [laws_toIntS.l0, if_neg (nlt_end pre)]
    simpa using Ev.now pre
  | cons c suf ih =>
    intro pre h
    have := ih (pre ++ [c]) (by simp [h])
    subst h
    refine ev_up ?_
    simp only [laws_toIntS.l0, if_pos (lt_mid pre suf c), if_pos (Int.natCast_nonneg pre.length), rd_mid, if_pos (show ((pre.length : Nat) : Int) < ((pre ++ List.replicate (c :: suf).length (0 : Int)).length : Int) by simp; omega), wrap_snoc (x := c) (s := suf) (p := pre) (by simp at hl ⊢; omega)]
    rw [show (pre ++ List.replicate (c :: suf).length (0 : Int)).set ((pre.length : Nat) : Int).toNat c = pre ++ [c] ++ List.replicate suf.length 0 by simp [List.replicate_succ]]
    exact this
theorem toIntS_ev (l : List Int) (hl : l.length ≤ 1048576) : Ev (fun k => laws_toIntS.f k l) l := by
  have := toIntS_l0 l hl l [] rfl
  unfold laws_toIntS.f
  simp only [if_pos (Int.natCast_nonneg l.length), if_pos (show ((l.length : Nat) : Int).toNat ≤ 35184372088832 by omega)]
  simpa using this

theorem szEx_eq (a b c : List Int) (ha : a.length ≤ 9223372036854775807) (hb : b.length ≤ 9223372036854775807) (hc : c.length ≤ 9223372036854775807) :
    laws_szExchange.f a b c 1048576 = some (if a.length + b.length + c.length ≤ 1048576 then 1048576 - (a.length : Int) - (b.length : Int) - (c.length : Int) else -1) := by
  unfold laws_szExchange.f
  rw [szIntS_eq a _ ha (by omega) (by omega)]
  simp only [Option.bind_some]
  by_cases h1 : (a.length : Int) ≤ 1048576
  · rw [if_pos h1, if_neg (by omega), szIntS_eq b _ hb (by omega) (by omega)]
    simp only [Option.bind_some]
    by_cases h2 : (b.length : Int) ≤ 1048576 - (a.length : Int)
    · rw [if_pos h2, if_neg (by omega), szIntS_eq c _ hc (by omega) (by omega)]
      simp only [Option.bind_some]
      by_cases h3 : (c.length : Int) ≤ 1048576 - (a.length : Int) - (b.length : Int)
      · rw [if_pos h3, if_neg (by omega), if_pos (by omega)]
      · rw [if_neg h3, if_pos (by omega), if_neg (by omega)]
    · rw [if_neg h2, if_pos (by omega), if_neg (by omega)]
  · rw [if_neg h1, if_pos (by omega), if_neg (by omega)]
theorem toEx_ev (a b c : List Int) (h : a.length + b.length + c.length ≤ 1048576) : Ev (fun k => laws_toExchange.f k a b c) (a, b, c) := by
  unfold laws_toExchange.f
  refine Ev.bind (toIntS_ev a (by omega)) ?_
  refine Ev.bind (toIntS_ev b (by omega)) ?_
  refine Ev.bind (toIntS_ev c (by omega)) ?_
  exact Ev.now _
theorem eqEx_ev (a b c : List Int) (h : a.length + b.length + c.length ≤ 1048576) : Ev (fun k => laws_eqExchange.f k a b c a b c) true := by
  unfold laws_eqExchange.f
  refine Ev.bind (eqIntS_ev a (by omega)) ?_
  simp only [if_true]
  refine Ev.bind (eqIntS_ev b (by omega)) ?_
  simp only [if_true]
  refine Ev.bind (eqIntS_ev c (by omega)) ?_
  exact Ev.now _

theorem FnExactIsIrreducible : laws_FnExactIsIrreducible.Pure := by
  intro a b c ha _ hb _ hc _
  apply Ev.rounds
  unfold laws_FnExactIsIrreducible.f
  simp only [szEx_eq a b c ha hb hc, Option.bind_some]
  by_cases h : a.length + b.length + c.length ≤ 1048576
  · simp only [if_pos h]
    refine Ev.congr (f := fun k => _) (fun k => if_neg (by omega)) ?_
    refine Ev.bind (toEx_ev a b c h) ?_
    refine Ev.bind (spec_irr a b c) ?_
    refine Ev.bind (toEx_ev a b c h) ?_
    refine Ev.bind (impl_irr a b c) ?_
    simp only [bne_self_eq_false, Bool.false_eq_true, if_false]
    refine Ev.bind (toEx_ev a b c h) ?_
    refine Ev.bind (eqEx_ev a b c h) ?_
    simp only [if_true]
    exact Ev.now _
  · simp only [if_neg h]
    exact Ev.now _

end Go.Proofs.Ytjokajioaoiceaa.Pure
