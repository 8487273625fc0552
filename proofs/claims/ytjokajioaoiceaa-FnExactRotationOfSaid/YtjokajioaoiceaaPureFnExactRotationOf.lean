/- The program's RotationOf returns what the reference's returns, for all arguments: no condition. -/
import Derived.Test.YtjokajioaoiceaaSayFnExactRotationOf
namespace Go.Proofs.Ytjokajioaoiceaa.Pure
open Go.RowKit Go.Proofs.Ytjokajioaoiceaa.S Go.Proofs.YtjokajioaoiceaaW.PrintWords Go.Proofs.YtjokajioaoiceaaW.PrintLast
set_option linter.unusedVariables false
set_option linter.unusedSimpArgs false

theorem l01In_eq (a b c : Int) : spec_l01In.f a b c = some (decide (b ≤ a ∧ a ≤ c)) := by
  unfold spec_l01In.f
  split
  · rename_i h
    by_cases h2 : a ≤ c
    · rw [decide_eq_true h2, decide_eq_true ⟨h, h2⟩]
    · rw [decide_eq_false h2, decide_eq_false (fun h => h2 h.2)]
  · rename_i h
    rw [decide_eq_false (fun h2 => h h2.1)]

theorem ev_up {α : Type} {g : Nat → Option α} {r : α} (h : Ev (fun k => g (k + 1)) r) : Ev g r := Ev.step (fun _ => rfl) h
theorem ev_k {α : Type} {g : Nat → Option α} {r : α} {n : Nat} (h : ∀ k, n < k → g k = some r) : Ev g r := ⟨n + 1, fun k hk => h k (by omega)⟩

theorem pw_wf {a : Int} (h : (Lit.int .i64 a).wf = true) : -9223372036854775808 ≤ a ∧ a ≤ 9223372036854775807 := by
  simp [Lit.wf, IntKind.min, IntKind.max, IntKind.signed, IntKind.bits] at h
  omega
theorem pw_wrap {a : Int} (h0 : -9223372036854775808 ≤ a) (h1 : a ≤ 9223372036854775807) : wrap64 a = a := by
  unfold wrap64
  omega

/-- A permutation of at most 24 elements. -/
def isPerm (p : List Int) : Prop := p.length ≤ 24 ∧ (∀ x ∈ p, 0 ≤ x ∧ x < (p.length : Int)) ∧ p.Nodup
theorem perm_go (n : Nat) (hn : n ≤ 24) : ∀ (p pre : List Int) (seen : List Bool), seen.length = 24 → (∀ x : Int, 0 ≤ x → x < n → (seen.getD x.toNat false = true ↔ x ∈ pre)) →
    permGo n p seen = permSGo n pre p := by
  intro p
  induction p with
  | nil => intro pre seen _ _; rfl
  | cons x p ih =>
    intro pre seen hl hs
    simp only [permGo, permSGo]
    by_cases h0 : x < 0
    · rw [if_pos h0, if_neg (by omega)]
    · rw [if_neg h0]
      by_cases h1 : (n : Int) ≤ x
      · rw [if_pos h1, if_neg (by omega)]
      · rw [if_neg h1, if_pos (show 0 ≤ x ∧ x ≤ (n : Int) - 1 by omega)]
        have hx := hs x (by omega) (by omega)
        by_cases h2 : x ∈ pre
        · rw [if_pos (hx.2 h2), if_pos h2]
        · rw [if_neg (fun h => h2 (hx.1 h)), if_neg h2]
          refine ih _ _ (by simpa using hl) (fun y hy0 hy1 => ?_)
          by_cases hxy : x = y
          · subst hxy
            have : x.toNat < seen.length := by omega
            simp [List.getD, this]
          · have hne : x.toNat ≠ y.toNat := by omega
            have := hs y hy0 hy1
            simp only [List.getD, List.getElem?_set_ne hne]
            rw [List.getD] at this
            rw [this]
            simp [Ne.symm hxy]
theorem perm_same (p : List Int) : permB p = permSB p := by
  unfold permB permSB
  by_cases h : p.length ≤ 24
  · rw [if_pos h, if_pos h]
    refine perm_go p.length h p [] no24 rfl (fun x h0 h1 => ?_)
    have : no24.getD x.toNat false = false := by
      unfold no24
      simp only [List.getD, List.getElem?_replicate]
      split <;> rfl
    rw [this]
    simp
  · rw [if_neg h, if_neg h]
theorem permS_iff (n : Nat) : ∀ (p pre : List Int), permSGo n pre p = true ↔ ((∀ x ∈ p, 0 ≤ x ∧ x < (n : Int)) ∧ (∀ x ∈ p, x ∉ pre) ∧ p.Nodup)
  | [], pre => by simp [permSGo]
  | x :: p, pre => by
    simp only [permSGo]
    by_cases h : 0 ≤ x ∧ x ≤ (n : Int) - 1
    · rw [if_pos h]
      by_cases h2 : x ∈ pre
      · rw [if_pos h2]
        simp [h2]
      · rw [if_neg h2, permS_iff n p (pre ++ [x])]
        simp only [List.mem_cons, forall_eq_or_imp, List.nodup_cons]
        constructor
        · rintro ⟨h3, h4, h5⟩
          exact ⟨⟨by omega, h3⟩, ⟨h2, fun y hy hp => h4 y hy (List.mem_append.2 (.inl hp))⟩, fun hx => h4 x hx (List.mem_append.2 (.inr (List.mem_singleton.2 rfl))), h5⟩
        · rintro ⟨h3, h4, h5, h6⟩
          refine ⟨h3.2, fun y hy hp => ?_, h6⟩
          rcases List.mem_append.1 hp with hp | hp
          · exact h4.2 y hy hp
          · rw [List.mem_singleton.1 hp] at hy
            exact h5 hy
    · rw [if_neg h]
      simp only [Bool.false_eq_true, List.mem_cons, forall_eq_or_imp, false_iff]
      intro h2
      omega
theorem permB_iff (p : List Int) : permB p = true ↔ isPerm p := by
  rw [perm_same]
  unfold permSB isPerm
  by_cases h : p.length ≤ 24
  · rw [if_pos h, permS_iff]
    simp [h]
  · rw [if_neg h]
    simp [h]

/-! Small words on lists, read at a place. -/
theorem len_snoc {α : Type} (p : List α) (x : α) : (p ++ [x]).length = p.length + 1 := by simp
theorem wrap_snoc {α : Type} {p s : List α} {x : α} (h : (p ++ x :: s).length ≤ 4611686018427387904) : wrap64 ((p.length : Int) + 1) = ((p ++ [x]).length : Int) := by
  simp at h ⊢
  unfold wrap64
  omega
theorem lt_mid {α : Type} (p s : List α) (x : α) : ((p.length : Nat) : Int) < ((p ++ x :: s).length : Int) := by simp; omega
theorem nlt_end {α : Type} (p : List α) : ¬ ((p.length : Nat) : Int) < ((p ++ []).length : Int) := by simp
theorem rd_mid (p s : List Int) (x : Int) : rd (p ++ x :: s) (p.length : Int) = x := by simp [rd, List.getD]
theorem nil_or_snoc {α : Type} (l : List α) : l = [] ∨ ∃ p x, l = p ++ [x] := by
  rcases List.eq_nil_or_concat l with h | ⟨p, x, h⟩
  · exact .inl h
  · exact .inr ⟨p, x, by rw [h]; simp⟩

def sumL : List Int → Int
  | [] => 0
  | x :: xs => x + sumL xs
/-- Lengths are from 1 to 60. -/
def lensB : List Int → Bool
  | [] => true
  | x :: xs => decide (1 ≤ x ∧ x ≤ 60) && lensB xs
theorem lensB_iff : ∀ l : List Int, lensB l = true ↔ ∀ x ∈ l, 1 ≤ x ∧ x ≤ 60
  | [] => by simp [lensB]
  | x :: xs => by simp [lensB, lensB_iff xs]
theorem sumL_bd : ∀ l : List Int, (∀ x ∈ l, 1 ≤ x ∧ x ≤ 60) → (l.length : Int) ≤ sumL l ∧ sumL l ≤ 60 * l.length
  | [], _ => by simp [sumL]
  | x :: xs, h => by
    have h1 := h x (by simp)
    have h2 := sumL_bd xs (fun y hy => h y (by simp [hy]))
    simp only [sumL, List.length_cons]
    omega
def exB (a b c : List Int) : Bool := decide (1 ≤ a.length ∧ a.length ≤ 6) && decide (b.length = a.length) && decide (c.length = a.length) && lensB a && decide (sumL a ≤ 60) && permB b && permB c
theorem spec_ex_l0 (a b c : List Int) (ha : a.length ≤ 6) : ∀ (suf pre : List Int) (s : Int), a = pre ++ suf → 0 ≤ s → s + 60 * suf.length ≤ 360 →
    Ev (fun k => spec_ExchangeOk.l0 k s a (a.length : Int) (pre.length : Int) a b c) (lensB suf && decide (s + sumL suf ≤ 60) && permB b && permB c) := by
  intro suf
  induction suf with
  | nil =>
    intro pre s h h0 h1
    have hlen : ¬ ((pre.length : Nat) : Int) < (a.length : Int) := by rw [h]; simp
    refine ev_up ?_
    simp only [spec_ExchangeOk.l0, if_neg hlen, lensB, sumL, Int.add_zero, Bool.true_and, spec_PermOk.f, Option.bind_some, ← perm_same]
    by_cases h2 : s ≤ 60
    · simp only [if_pos h2, decide_eq_true h2, Bool.true_and]
      cases permB b <;> simp <;> exact Ev.now _
    · simp only [if_neg h2, decide_eq_false h2, Bool.false_and]
      exact Ev.now _
  | cons x suf ih =>
    intro pre s h h0 h1
    have hlt : ((pre.length : Nat) : Int) < (a.length : Int) := by rw [h]; exact lt_mid pre suf x
    have hrd : rd a (pre.length : Int) = x := by rw [h]; exact rd_mid pre suf x
    have hw : wrap64 ((pre.length : Int) + 1) = ((pre ++ [x]).length : Int) := wrap_snoc (s := suf) (by rw [← h]; omega)
    simp at h1
    refine ev_up ?_
    simp only [spec_ExchangeOk.l0, if_pos hlt, if_pos (Int.natCast_nonneg pre.length), hrd, hw, l01In_eq, Option.bind_some]
    by_cases h2 : 1 ≤ x ∧ x ≤ 60
    · simp only [decide_eq_true h2, if_true, pw_wrap (a := s + x) (by omega) (by omega), lensB, sumL, Bool.true_and]
      simp only [← Int.add_assoc]
      exact ih (pre ++ [x]) (s + x) (by simp [h]) (by omega) (by omega)
    · simp only [decide_eq_false h2, Bool.false_eq_true, if_false, lensB, Bool.false_and]
      exact Ev.now _
theorem spec_exOk (a b c : List Int) : Ev (fun k => spec_ExchangeOk.f k a b c) (exB a b c) := by
  have hbad : ∀ r : Bool, r = false → Ev (fun k => spec_ExchangeOk.j0 k true a b c) r := by
    rintro r rfl
    refine ev_up ?_
    simp only [spec_ExchangeOk.j0, if_true]
    exact Ev.now _
  unfold spec_ExchangeOk.f exB
  simp only [l01In_eq, Option.bind_some]
  by_cases h1 : 1 ≤ a.length ∧ a.length ≤ 6
  · simp only [decide_eq_true h1, decide_eq_true (show 1 ≤ (a.length : Int) ∧ (a.length : Int) ≤ 6 by omega), if_true, Bool.true_and]
    by_cases h2 : b.length = a.length
    · simp only [decide_eq_true h2, if_pos (show (b.length : Int) = (a.length : Int) by omega), Bool.true_and]
      by_cases h3 : c.length = a.length
      · simp only [decide_eq_true h3, show ((c.length : Int) != (a.length : Int)) = false from by simp; omega, Bool.true_and]
        refine ev_up ?_
        simp only [spec_ExchangeOk.j0, Bool.false_eq_true, if_false]
        have := spec_ex_l0 a b c h1.2 a [] 0 rfl (by omega) (by omega)
        simpa using this
      · simp only [decide_eq_false h3, show ((c.length : Int) != (a.length : Int)) = true from by simp; omega, Bool.false_and]
        exact hbad _ rfl
    · simp only [decide_eq_false h2, if_neg (show ¬ (b.length : Int) = (a.length : Int) by omega), Bool.false_and]
      exact hbad _ rfl
  · simp only [decide_eq_false h1, decide_eq_false (show ¬ (1 ≤ (a.length : Int) ∧ (a.length : Int) ≤ 6) by omega), Bool.false_eq_true, if_false, Bool.false_and]
    exact hbad _ rfl
theorem impl_ex_l0 (a b c : List Int) (ha : a.length ≤ 6) : ∀ (suf pre : List Int) (s : Int), a = pre ++ suf → 0 ≤ s → s + 60 * suf.length ≤ 360 →
    Ev (fun k => impl_ExchangeOk.l0 k (a.length : Int) s a (a.length : Int) (pre.length : Int) a b c) (lensB suf && decide (s + sumL suf ≤ 60) && permB b && permB c && decide (b.length = a.length) && decide (c.length = a.length)) := by
  intro suf
  induction suf with
  | nil =>
    intro pre s h h0 h1
    have hlen : ¬ ((pre.length : Nat) : Int) < (a.length : Int) := by rw [h]; simp
    have hcl : ((c.length : Int) == (a.length : Int)) = decide (c.length = a.length) := by
      by_cases hc : c.length = a.length
      · simp [hc]
      · simp [hc]; omega
    refine ev_up ?_
    simp only [impl_ExchangeOk.l0, if_neg hlen, lensB, sumL, Int.add_zero, Bool.true_and, impl_PermOk.f, Option.bind_some, hcl]
    by_cases h2 : s ≤ 60
    · simp only [if_pos h2, decide_eq_true h2, Bool.true_and]
      cases permB b
      · simpa using Ev.now false
      · cases permB c
        · simpa using Ev.now false
        · by_cases hb : b.length = a.length
          · simpa [hb] using Ev.now (decide (c.length = a.length))
          · simpa [hb, show ¬ (b.length : Int) = (a.length : Int) by omega] using Ev.now false
    · simp only [if_neg h2, decide_eq_false h2, Bool.false_and]
      exact Ev.now _
  | cons x suf ih =>
    intro pre s h h0 h1
    have hlt : ((pre.length : Nat) : Int) < (a.length : Int) := by rw [h]; exact lt_mid pre suf x
    have hrd : rd a (pre.length : Int) = x := by rw [h]; exact rd_mid pre suf x
    have hw : wrap64 ((pre.length : Int) + 1) = ((pre ++ [x]).length : Int) := wrap_snoc (s := suf) (by rw [← h]; omega)
    simp at h1
    refine ev_up ?_
    simp only [impl_ExchangeOk.l0, if_pos hlt, if_pos (Int.natCast_nonneg pre.length), hrd, hw]
    by_cases h2 : x < 1
    · simp only [if_pos h2, lensB, decide_eq_false (show ¬ (1 ≤ x ∧ x ≤ 60) by omega), Bool.false_and]
      exact Ev.now _
    · by_cases h3 : x > 60
      · simp only [if_neg h2, if_pos h3, lensB, decide_eq_false (show ¬ (1 ≤ x ∧ x ≤ 60) by omega), Bool.false_and]
        exact Ev.now _
      · simp only [if_neg h2, if_neg h3, lensB, decide_eq_true (show 1 ≤ x ∧ x ≤ 60 by omega), pw_wrap (a := s + x) (by omega) (by omega), sumL, Bool.true_and]
        simp only [← Int.add_assoc]
        exact ih (pre ++ [x]) (s + x) (by simp [h]) (by omega) (by omega)
theorem and_swap6 (p a b c d e f : Bool) : (p && a && b && c && d && e && f) = (p && (c && d && e && f && a && b)) := by
  cases p <;> cases a <;> cases b <;> cases c <;> cases d <;> cases e <;> cases f <;> rfl
theorem impl_exOk (a b c : List Int) : Ev (fun k => impl_ExchangeOk.f k a b c) (exB a b c) := by
  unfold impl_ExchangeOk.f exB
  rw [and_swap6]
  by_cases h1 : (a.length : Int) < 1
  · simp only [if_pos h1, decide_eq_false (show ¬ (1 ≤ a.length ∧ a.length ≤ 6) by omega), Bool.false_and]
    refine ev_up ?_
    simp only [impl_ExchangeOk.j0, if_true]
    exact Ev.now _
  · simp only [if_neg h1]
    refine ev_up ?_
    by_cases h2 : a.length ≤ 6
    · simp only [impl_ExchangeOk.j0, decide_eq_false (show ¬ (a.length : Int) > 6 by omega), Bool.false_eq_true, if_false, decide_eq_true (show 1 ≤ a.length ∧ a.length ≤ 6 by omega), Bool.true_and]
      have := impl_ex_l0 a b c h2 a [] 0 rfl (by omega) (by omega)
      simpa using this
    · simp only [impl_ExchangeOk.j0, decide_eq_true (show (a.length : Int) > 6 by omega), if_true, decide_eq_false (show ¬ (1 ≤ a.length ∧ a.length ≤ 6) by omega), Bool.false_and]
      exact Ev.now _
/-- What a valid exchange is. -/
theorem exB_side {a b c : List Int} (h : exB a b c = true) : (1 ≤ a.length ∧ a.length ≤ 6) ∧ b.length = a.length ∧ c.length = a.length ∧ (∀ x ∈ a, 1 ≤ x ∧ x ≤ 60) ∧ sumL a ≤ 60 ∧ isPerm b ∧ isPerm c := by
  simp only [exB, Bool.and_eq_true, decide_eq_true_eq, lensB_iff, permB_iff] at h
  obtain ⟨⟨⟨⟨⟨⟨h1, h2⟩, h3⟩, h4⟩, h5⟩, h6⟩, h7⟩ := h
  exact ⟨h1, h2, h3, h4, h5, h6, h7⟩

def rotOf (a b : Int) : List Int × List Int × List Int × Bool := if exB [a, b] [0, 1] [1, 0] = true then ([a, b], [0, 1], [1, 0], true) else ([], [], [], false)
theorem spec_rot (a b : Int) : Ev (fun k => spec_RotationOf.f k a b) (rotOf a b) := by
  unfold spec_RotationOf.f rotOf
  simp only [Option.bind_some]
  refine Ev.bind (spec_exOk _ _ _) ?_
  split <;> exact Ev.now _
theorem impl_rot (a b : Int) : Ev (fun k => impl_RotationOf.f k a b) (rotOf a b) := by
  unfold impl_RotationOf.f rotOf
  simp only [Option.bind_some]
  refine Ev.bind (impl_exOk _ _ _) ?_
  split <;> exact Ev.now _
theorem rotOf_len (a b : Int) : (rotOf a b).1.length ≤ 2 ∧ (rotOf a b).2.1.length ≤ 2 ∧ (rotOf a b).2.2.1.length ≤ 2 := by
  unfold rotOf
  split <;> simp

theorem eqIntS_l0 (l : List Int) (hl : l.length ≤ 2147483648) : ∀ (suf pre : List Int), l = pre ++ suf → Ev (fun k => laws_eqIntS.l0 k l l (pre.length : Int)) true := by
  intro suf
  induction suf with
  | nil =>
    intro pre h
    subst h
    refine ev_up ?_
    simp only [laws_eqIntS.l0, if_neg (nlt_end pre)]
    exact Ev.now _
  | cons c suf ih =>
    intro pre h
    have := ih (pre ++ [c]) (by simp [h])
    subst h
    refine ev_up ?_
    simp only [laws_eqIntS.l0, if_pos (lt_mid pre suf c), if_pos (Int.natCast_nonneg pre.length), if_true, wrap_snoc (x := c) (s := suf) (p := pre) (by simp at hl ⊢; omega)]
    exact this
theorem eqIntS_ev (l : List Int) (hl : l.length ≤ 2147483648) : Ev (fun k => laws_eqIntS.f k l l) true := by
  unfold laws_eqIntS.f
  simp only [if_true]
  exact eqIntS_l0 l hl l [] rfl

/-- The numbers m, m + 1, .. -/
def marked : Nat → Int → List Int
  | 0, _ => []
  | n + 1, m => m :: marked n (m + 1)
theorem marked_len : ∀ (n : Nat) (m : Int), (marked n m).length = n
  | 0, _ => rfl
  | n + 1, m => by simp [marked, marked_len n]
theorem wrap_bd {a : Int} (h0 : -4611686018427387904 ≤ a) (h1 : a ≤ 4611686018427387904) : wrap64 a = a := by unfold wrap64; omega
theorem markIntS_l0 : ∀ (suf pre : List Int) (m : Int), (pre ++ suf).length ≤ 2147483648 → 0 ≤ m → m + suf.length ≤ 4000000000000000000 →
    Ev (fun k => laws_markIntS.l0 k (pre ++ suf) m (pre.length : Int)) (m + suf.length, pre ++ marked suf.length m) := by
  intro suf
  induction suf with
  | nil =>
    intro pre m _ _ _
    refine ev_up ?_
    simp only [laws_markIntS.l0, if_neg (nlt_end pre)]
    simpa [marked] using Ev.now (m, pre)
  | cons c suf ih =>
    intro pre m hl h0 h1
    have hs : (pre ++ c :: suf).set ((pre.length : Nat) : Int).toNat m = (pre ++ [m]) ++ suf := by simp
    have := ih (pre ++ [m]) (m + 1) (by simp at hl ⊢; omega) (by omega) (by simp at h1; omega)
    refine ev_up ?_
    simp only [laws_markIntS.l0, if_pos (lt_mid pre suf c), if_pos (Int.natCast_nonneg pre.length), hs, wrap_bd (a := m + 1) (by omega) (by simp at h1; omega), wrap_bd (a := (pre.length : Int) + 1) (by omega) (by simp at hl; omega)]
    rw [show (pre.length : Int) + 1 = ((pre ++ [m]).length : Int) by simp]
    rw [show m + ((c :: suf).length : Int) = m + 1 + (suf.length : Int) by simp; omega]
    simpa [marked] using this
theorem markIntS_ev (l : List Int) (m : Int) (hl : l.length ≤ 2147483648) (h0 : 0 ≤ m) (h1 : m ≤ 1000000000000000000) : Ev (fun k => laws_markIntS.f k l m) (m + l.length, marked l.length m) :=
  markIntS_l0 l [] m hl h0 (by omega)
theorem heldIntS_l0 : ∀ (n : Nat) (pre : List Int) (m : Int), pre.length + n ≤ 2147483648 → 0 ≤ m → m + n ≤ 4000000000000000000 →
    Ev (fun k => laws_heldIntS.l0 k (pre ++ marked n m) m (pre.length : Int)) (m + n) := by
  intro n
  induction n with
  | zero =>
    intro pre m _ _ _
    refine ev_up ?_
    simp only [laws_heldIntS.l0, marked, if_neg (nlt_end pre)]
    simpa using Ev.now m
  | succ n ih =>
    intro pre m hl h0 h1
    have := ih (pre ++ [m]) (m + 1) (by simp; omega) (by omega) (by omega)
    refine ev_up ?_
    simp only [laws_heldIntS.l0, marked, if_pos (lt_mid pre (marked n (m + 1)) m), if_pos (Int.natCast_nonneg pre.length), rd_mid, if_true, wrap_bd (a := m + 1) (by omega) (by omega), wrap_bd (a := (pre.length : Int) + 1) (by omega) (by omega)]
    rw [show (pre.length : Int) + 1 = ((pre ++ [m]).length : Int) by simp]
    rw [show m + ((n + 1 : Nat) : Int) = m + 1 + (n : Int) by push_cast; omega]
    simpa using this
theorem heldIntS_ev (n : Nat) (m : Int) (hl : n ≤ 2147483648) (h0 : 0 ≤ m) (h1 : m ≤ 1000000000000000000) : Ev (fun k => laws_heldIntS.f k (marked n m) m) (m + n) :=
  heldIntS_l0 n [] m (by simpa using hl) h0 (by omega)

theorem eqEx3_ev (a b c : List Int) (ha : a.length ≤ 1048576) (hb : b.length ≤ 1048576) (hc : c.length ≤ 1048576) : Ev (fun k => laws_eqExchange.f k a b c a b c) true := by
  unfold laws_eqExchange.f
  refine Ev.bind (eqIntS_ev a (by omega)) ?_
  simp only [if_true]
  refine Ev.bind (eqIntS_ev b (by omega)) ?_
  simp only [if_true]
  refine Ev.bind (eqIntS_ev c (by omega)) ?_
  exact Ev.now _
theorem markEx_ev (a b c : List Int) (m : Int) (ha : a.length ≤ 1048576) (hb : b.length ≤ 1048576) (hc : c.length ≤ 1048576) (h0 : 0 ≤ m) (h1 : m ≤ 100000000000) :
    Ev (fun k => laws_markExchange.f k a b c m) (m + a.length + b.length + c.length, marked a.length m, marked b.length (m + a.length), marked c.length (m + a.length + b.length)) := by
  unfold laws_markExchange.f
  refine Ev.bind (markIntS_ev a m (by omega) h0 (by omega)) ?_
  refine Ev.bind (markIntS_ev b (m + a.length) (by omega) (by omega) (by omega)) ?_
  refine Ev.bind (markIntS_ev c (m + a.length + b.length) (by omega) (by omega) (by omega)) ?_
  exact Ev.now _
theorem heldEx_ev (a b c : Nat) (m : Int) (ha : a ≤ 1048576) (hb : b ≤ 1048576) (hc : c ≤ 1048576) (h0 : 0 ≤ m) (h1 : m ≤ 100000000000) :
    Ev (fun k => laws_heldExchange.f k (marked a m) (marked b (m + a)) (marked c (m + a + b)) m) (m + a + b + c) := by
  unfold laws_heldExchange.f
  refine Ev.bind (heldIntS_ev a m (by omega) h0 (by omega)) ?_
  simp only [if_neg (show ¬ m + (a : Int) < 0 by omega)]
  refine Ev.bind (heldIntS_ev b (m + a) (by omega) (by omega) (by omega)) ?_
  simp only [if_neg (show ¬ m + (a : Int) + (b : Int) < 0 by omega)]
  refine Ev.bind (heldIntS_ev c (m + a + b) (by omega) (by omega) (by omega)) ?_
  simp only [if_neg (show ¬ m + (a : Int) + (b : Int) + (c : Int) < 0 by omega)]
  exact Ev.now _

theorem FnExactRotationOf : laws_FnExactRotationOf.Pure := by
  intro a b _ _
  apply Ev.rounds
  unfold laws_FnExactRotationOf.f
  have hl := rotOf_len a b
  have e1 := eqEx3_ev (rotOf a b).1 (rotOf a b).2.1 (rotOf a b).2.2.1 (by omega) (by omega) (by omega)
  refine Ev.bind (spec_rot a b) ?_
  refine Ev.bind (impl_rot a b) ?_
  refine Ev.bind e1 ?_
  simp only [if_true, bne_self_eq_false]
  refine ev_up ?_
  simp only [laws_FnExactRotationOf.j0, Bool.false_eq_true, if_false]
  refine Ev.bind (markEx_ev _ _ _ 1 (by omega) (by omega) (by omega) (by omega) (by omega)) ?_
  refine Ev.bind (heldEx_ev _ _ _ 1 (by omega) (by omega) (by omega) (by omega) (by omega)) ?_
  simp only [if_neg (show ¬ (1 + ((rotOf a b).1.length : Int) + ((rotOf a b).2.1.length : Int) + ((rotOf a b).2.2.1.length : Int)) < 0 by omega), if_true]
  refine Ev.bind (impl_rot a b) ?_
  refine Ev.bind e1 ?_
  simp only [if_true, bne_self_eq_false]
  refine ev_up ?_
  simp only [laws_FnExactRotationOf.j1, Bool.false_eq_true, if_false]
  refine Ev.bind (heldEx_ev _ _ _ 1 (by omega) (by omega) (by omega) (by omega) (by omega)) ?_
  simp only [if_neg (show ¬ (1 + ((rotOf a b).1.length : Int) + ((rotOf a b).2.1.length : Int) + ((rotOf a b).2.2.1.length : Int)) < 0 by omega), if_true]
  exact Ev.now _

end Go.Proofs.Ytjokajioaoiceaa.Pure
