/- The program's BallAfter returns what the reference's returns, for all arguments: no condition. -/
import Derived.Test.YtekegepppjmldaaSayFnExactBallAfter
namespace Go.Proofs.Ytekegepppjmldaa.Pure
open Go.RowKit Go.Proofs.Ytekegepppjmldaa.PFnExactBallAfter Go.Proofs.YtekegepppjmldaaW.PrintWords Go.Proofs.YtekegepppjmldaaW.PrintLast
set_option linter.unusedVariables false
set_option linter.unusedSimpArgs false

theorem eqBall_same (x y dx dy : Int) : laws_eqBall.f x y dx dy x y dx dy = some true := by
  unfold laws_eqBall.f
  simp

theorem pw_wf {a : Int} (h : (Lit.int .i64 a).wf = true) : -9223372036854775808 ≤ a ∧ a ≤ 9223372036854775807 := by
  simp [Lit.wf, IntKind.min, IntKind.max, IntKind.signed, IntKind.bits] at h
  omega
theorem pw_wrap {a : Int} (h0 : -9223372036854775808 ≤ a) (h1 : a ≤ 9223372036854775807) : wrap64 a = a := by
  unfold wrap64
  omega

theorem l01In_eq (a b c : Int) : spec_l01In.f a b c = some (decide (b ≤ a ∧ a ≤ c)) := by
  unfold spec_l01In.f
  split
  · rename_i h
    by_cases h2 : a ≤ c
    · rw [decide_eq_true h2, decide_eq_true ⟨h, h2⟩]
    · rw [decide_eq_false h2, decide_eq_false (fun h => h2 h.2)]
  · rename_i h
    rw [decide_eq_false (fun h2 => h h2.1)]

theorem table14_eq (a b : Int) : spec_l14Table.f a b = some (decide (1 ≤ a ∧ a ≤ 50 ∧ 1 ≤ b ∧ b ≤ 50)) := by
  unfold spec_l14Table.f
  simp only [l01In_eq, Option.bind_some, decide_eq_true_eq]
  split
  · rename_i h
    by_cases h2 : 1 ≤ b ∧ b ≤ 50
    · rw [decide_eq_true h2, decide_eq_true ⟨h.1, h.2, h2⟩]
    · rw [decide_eq_false h2, decide_eq_false (fun h => h2 h.2.2)]
  · rename_i h
    rw [decide_eq_false (fun h2 => h ⟨h2.1, h2.2.1⟩)]

theorem sideOk_eq (a : Int) : impl_sideOk.f a = some (decide (1 ≤ a ∧ a ≤ 50)) := by
  unfold impl_sideOk.f
  split
  · rename_i h
    by_cases h2 : a ≤ 50
    · rw [decide_eq_true h2, decide_eq_true ⟨h, h2⟩]
    · rw [decide_eq_false h2, decide_eq_false (fun h => h2 h.2)]
  · rename_i h
    rw [decide_eq_false (fun h2 => h h2.1)]

/-- A coordinate and its change are valid. -/
abbrev line (a x d : Int) : Prop := 0 ≤ x ∧ x ≤ a ∧ (d = 1 ∧ x < a ∨ d = -1 ∧ 0 < x)
theorem line14_eq (a x d : Int) : spec_l14Line.f a x d = some (decide (line a x d)) := by
  unfold spec_l14Line.f
  simp only [l01In_eq, Option.bind_some, decide_eq_true_eq]
  split
  · rename_i h
    split
    · rename_i h1
      split
      · rename_i h2; rw [decide_eq_true (by omega)]
      · rename_i h2
        split
        · omega
        · rw [decide_eq_false (by omega)]
    · rename_i h1
      split
      · rename_i h2
        by_cases h3 : x > 0
        · rw [decide_eq_true h3, decide_eq_true (by omega)]
        · rw [decide_eq_false h3, decide_eq_false (by omega)]
      · rw [decide_eq_false (by omega)]
  · rename_i h
    rw [decide_eq_false (by omega)]
theorem turnOk_eq (a x d : Int) (ha : 1 ≤ a) : impl_turnOk.f a x d = some (decide (line a x d)) := by
  unfold impl_turnOk.f
  repeat' split
  all_goals first
    | (rw [decide_eq_true (by omega)]; done)
    | (rw [decide_eq_false (by omega)]; done)
    | (rename_i h; by_cases h9 : d = -1
       · subst h9; first | (rw [decide_eq_true (by omega)]; rfl) | (rw [decide_eq_false (by omega)]; rfl)
       · rw [show (d == -1) = false from by simpa using h9]; rw [decide_eq_false (by omega)])
/-- A ball on a table is valid. -/
def ballB (a b x y dx dy : Int) : Bool := decide ((1 ≤ a ∧ a ≤ 50 ∧ 1 ≤ b ∧ b ≤ 50) ∧ line a x dx ∧ line b y dy)
theorem spec_ballOk (a b x y dx dy : Int) : spec_BallOk.f a b x y dx dy = some (ballB a b x y dx dy) := by
  unfold spec_BallOk.f ballB
  simp only [table14_eq, line14_eq, Option.bind_some, decide_eq_true_eq]
  split
  · split
    · rename_i h h2
      by_cases h3 : line b y dy
      · rw [decide_eq_true h3, decide_eq_true ⟨h, h2, h3⟩]
      · rw [decide_eq_false h3, decide_eq_false (fun h => h3 h.2.2)]
    · rename_i h h2
      rw [decide_eq_false (fun h => h2 h.2.1)]
  · rename_i h
    rw [decide_eq_false (fun h2 => h h2.1)]
theorem impl_ballOk (a b x y dx dy : Int) : impl_BallOk.f a b x y dx dy = some (ballB a b x y dx dy) := by
  unfold impl_BallOk.f ballB
  simp only [sideOk_eq, Option.bind_some, decide_eq_true_eq]
  by_cases h : 1 ≤ a ∧ a ≤ 50
  · rw [if_pos h]
    by_cases h2 : 1 ≤ b ∧ b ≤ 50
    · rw [if_pos h2, turnOk_eq a x dx h.1]
      simp only [Option.bind_some, decide_eq_true_eq]
      by_cases h3 : line a x dx
      · rw [if_pos h3, turnOk_eq b y dy h2.1]
        simp only [Option.bind_some]
        by_cases h4 : line b y dy
        · rw [decide_eq_true h4, decide_eq_true ⟨⟨h.1, h.2, h2⟩, h3, h4⟩]
        · rw [decide_eq_false h4, decide_eq_false (fun h => h4 h.2.2)]
      · rw [if_neg h3, decide_eq_false (fun h => h3 h.2.1)]
    · rw [if_neg h2, decide_eq_false (fun h => h2 h.1.2.2)]
  · rw [if_neg h, decide_eq_false (fun h2 => h ⟨h2.1.1, h2.1.2.1⟩)]
theorem ballB_side {a b x y dx dy : Int} (h : ballB a b x y dx dy = true) : (1 ≤ a ∧ a ≤ 50 ∧ 1 ≤ b ∧ b ≤ 50) ∧ line a x dx ∧ line b y dy := by
  unfold ballB at h
  exact of_decide_eq_true h
theorem toBall_eq (x y dx dy : Int) : laws_toBall.f x y dx dy = some (x, y, dx, dy) := rfl

/-- A change after a side may have been reached. -/
def turnD (a x d : Int) : Int := if x = a then -1 else if x = 0 then 1 else d
theorem turn14_eq (a x d : Int) : spec_l14Turn.f a x d = some (turnD a x d) := by
  unfold spec_l14Turn.f turnD
  split
  · rfl
  · split <;> rfl
theorem line_step {a x d : Int} (ha : 1 ≤ a) (h : line a x d) : line a (x + d) (turnD a (x + d) d) := by
  unfold turnD
  simp only [line] at h ⊢
  split
  · omega
  · split <;> omega
theorem moved_eq {a x d : Int} (ha : 1 ≤ a ∧ a ≤ 50) (h : line a x d) : impl_moved.f a x d = some (x + d, turnD a (x + d) d) := by
  unfold impl_moved.f turnD
  rw [pw_wrap (a := x + d) (by simp only [line] at h; omega) (by simp only [line] at h; omega)]
  split
  · split
    · omega
    · rfl
  · split <;> rfl
theorem step14_eq {a b x y dx dy : Int} (h : ballB a b x y dx dy = true) : spec_l14Step.f a b x y dx dy = some (x + dx, y + dy, turnD a (x + dx) dx, turnD b (y + dy) dy) := by
  obtain ⟨h1, h2, h3⟩ := ballB_side h
  unfold spec_l14Step.f
  rw [pw_wrap (a := x + dx) (by simp only [line] at h2; omega) (by simp only [line] at h2; omega), pw_wrap (a := y + dy) (by simp only [line] at h3; omega) (by simp only [line] at h3; omega)]
  simp only [turn14_eq, Option.bind_some]
theorem impl_ballStep {a b x y dx dy : Int} (h : ballB a b x y dx dy = true) : impl_BallStep.f a b x y dx dy = some (x + dx, y + dy, turnD a (x + dx) dx, turnD b (y + dy) dy, true) := by
  obtain ⟨h1, h2, h3⟩ := ballB_side h
  unfold impl_BallStep.f
  simp only [impl_ballOk, h, Option.bind_some, if_true]
  rw [moved_eq ⟨h1.1, h1.2.1⟩ h2, moved_eq h1.2.2 h3]
  rfl
theorem ballB_step {a b x y dx dy : Int} (h : ballB a b x y dx dy = true) : ballB a b (x + dx) (y + dy) (turnD a (x + dx) dx) (turnD b (y + dy) dy) = true := by
  obtain ⟨h1, h2, h3⟩ := ballB_side h
  exact decide_eq_true ⟨h1, line_step h1.1 h2, line_step h1.2.2.1 h3⟩

/-- One coordinate behind n steps. -/
def lineN (a : Int) : Nat → Int → Int → Int × Int
  | 0, x, d => (x, d)
  | n + 1, x, d => lineN a n (x + d) (turnD a (x + d) d)
/-- How far the unfolded ball is. -/
def ph (a x d : Int) : Int := if d = 1 then x else 2 * a - x
def unph (a p : Int) : Int × Int := if p < a then (p, 1) else (2 * a - p, -1)
theorem ph_bd {a x d : Int} (h : line a x d) : 0 ≤ ph a x d ∧ ph a x d < 2 * a := by
  simp only [line] at h
  unfold ph
  split <;> omega
theorem unph_ph {a x d : Int} (h : line a x d) : unph a (ph a x d) = (x, d) := by
  simp only [line] at h
  unfold unph ph
  rcases h with ⟨h0, h1, ⟨rfl, h2⟩ | ⟨rfl, h2⟩⟩
  · simp [h2]
  · rw [if_neg (show ¬ (-1 : Int) = 1 by omega), if_neg (by omega)]
    simp
    omega
theorem ph_step {a x d : Int} (ha : 1 ≤ a) (h : line a x d) : ph a (x + d) (turnD a (x + d) d) = (ph a x d + 1) % (2 * a) := by
  simp only [line] at h
  unfold ph turnD
  rcases h with ⟨h0, h1, ⟨rfl, h2⟩ | ⟨rfl, h2⟩⟩
  · rw [if_pos rfl]
    split
    · rename_i h3
      rw [if_neg (by omega), Int.emod_eq_of_lt (by omega) (by omega)]; omega
    · rw [if_neg (show ¬ x + 1 = 0 by omega), if_pos rfl, Int.emod_eq_of_lt (by omega) (by omega)]
  · rw [if_neg (show ¬ (-1 : Int) = 1 by omega)]
    split
    · omega
    · split
      · rename_i h3 h4
        rw [if_pos rfl, show 2 * a - x + 1 = 2 * a by omega, Int.emod_self]; omega
      · rw [if_neg (show ¬ (-1 : Int) = 1 by omega), Int.emod_eq_of_lt (by omega) (by omega)]; omega
theorem lineN_line {a : Int} (ha : 1 ≤ a) : ∀ (n : Nat) {x d : Int}, line a x d → line a (lineN a n x d).1 (lineN a n x d).2
  | 0, _, _, h => h
  | n + 1, _, _, h => lineN_line ha n (line_step ha h)
theorem lineN_ph {a : Int} (ha : 1 ≤ a) : ∀ (n : Nat) {x d : Int}, line a x d → ph a (lineN a n x d).1 (lineN a n x d).2 = (ph a x d + n) % (2 * a)
  | 0, x, d, h => by
    have := ph_bd h
    simp only [lineN]
    rw [Int.emod_eq_of_lt (by omega) (by omega)]; simp
  | n + 1, x, d, h => by
    simp only [lineN]
    rw [lineN_ph ha n (line_step ha h), ph_step ha h, Int.emod_add_emod]
    congr 1
    push_cast
    omega
theorem lineN_eq {a : Int} (ha : 1 ≤ a) (n : Nat) {x d : Int} (h : line a x d) : lineN a n x d = unph a ((ph a x d + n) % (2 * a)) := by
  have h1 := lineN_line ha n h
  rw [← lineN_ph ha n h, unph_ph h1]
theorem lineN_back {a : Int} (ha : 1 ≤ a) (n : Nat) {x d : Int} (h : line a x d) (hn : 2 * a ∣ (n : Int)) : lineN a n x d = (x, d) := by
  obtain ⟨q, hq⟩ := hn
  have := ph_bd h
  rw [lineN_eq ha n h, hq, Int.add_mul_emod_self_left, Int.emod_eq_of_lt (by omega) (by omega), unph_ph h]
theorem lineN_add (a : Int) : ∀ (n m : Nat) (x d : Int), lineN a (n + m) x d = lineN a m (lineN a n x d).1 (lineN a n x d).2
  | 0, m, x, d => by rw [Nat.zero_add]; rfl
  | n + 1, m, x, d => by rw [Nat.add_right_comm]; exact lineN_add a n m _ _
/-- A ball behind n steps. -/
def ballN (a b : Int) (n : Nat) (x y dx dy : Int) : Int × Int × Int × Int := ((lineN a n x dx).1, (lineN b n y dy).1, (lineN a n x dx).2, (lineN b n y dy).2)
theorem ballN_succ (a b : Int) (n : Nat) (x y dx dy : Int) : ballN a b (n + 1) x y dx dy = ballN a b n (x + dx) (y + dy) (turnD a (x + dx) dx) (turnD b (y + dy) dy) := rfl

theorem spec_after_l0 (a b s : Int) (hs : s ≤ 10000) : ∀ (n : Nat) (i x y dx dy : Int), 0 ≤ i → i + n = s → ballB a b x y dx dy = true →
    Ev (fun k => spec_BallAfter.l0 k a b s i x y dx dy) ((ballN a b n x y dx dy).1, (ballN a b n x y dx dy).2.1, (ballN a b n x y dx dy).2.2.1, (ballN a b n x y dx dy).2.2.2, true) := by
  intro n
  induction n with
  | zero =>
    intro i x y dx dy h0 hi hb
    refine Ev.step (f := fun _ => some (x, y, dx, dy, true)) (fun k => ?_) (Ev.now _)
    simp only [spec_BallAfter.l0]
    rw [if_neg (by omega)]
  | succ n ih =>
    intro i x y dx dy h0 hi hb
    rw [ballN_succ]
    refine Ev.step (fun k => ?_) (ih (i + 1) _ _ _ _ (by omega) (by omega) (ballB_step hb))
    simp only [spec_BallAfter.l0]
    rw [if_pos (by omega), step14_eq hb]
    simp only [Option.bind_some]
    rw [pw_wrap (a := i + 1) (by omega) (by omega)]
theorem impl_after_l0 (a b s : Int) (hs : s ≤ 10000) : ∀ (n : Nat) (i x y dx dy : Int), 0 ≤ i → i + n = s → ballB a b x y dx dy = true →
    Ev (fun k => impl_BallAfter.l0 k a b s i x y dx dy) ((ballN a b n x y dx dy).1, (ballN a b n x y dx dy).2.1, (ballN a b n x y dx dy).2.2.1, (ballN a b n x y dx dy).2.2.2, true) := by
  intro n
  induction n with
  | zero =>
    intro i x y dx dy h0 hi hb
    refine Ev.step (f := fun _ => some (x, y, dx, dy, true)) (fun k => ?_) (Ev.now _)
    simp only [impl_BallAfter.l0]
    rw [if_neg (by omega)]
  | succ n ih =>
    intro i x y dx dy h0 hi hb
    rw [ballN_succ]
    refine Ev.step (fun k => ?_) (ih (i + 1) _ _ _ _ (by omega) (by omega) (ballB_step hb))
    simp only [impl_BallAfter.l0]
    rw [if_pos (by omega), impl_ballStep hb]
    simp only [Option.bind_some]
    rw [pw_wrap (a := i + 1) (by omega) (by omega)]
/-- What both answer. -/
def afterOf (a b x y dx dy s : Int) : Int × Int × Int × Int × Bool :=
  if ballB a b x y dx dy = true ∧ 0 ≤ s ∧ s ≤ 10000 then ((ballN a b s.toNat x y dx dy).1, (ballN a b s.toNat x y dx dy).2.1, (ballN a b s.toNat x y dx dy).2.2.1, (ballN a b s.toNat x y dx dy).2.2.2, true) else (0, 0, 0, 0, false)
theorem spec_after (a b x y dx dy s : Int) : Ev (fun k => spec_BallAfter.f k a b x y dx dy s) (afterOf a b x y dx dy s) := by
  unfold spec_BallAfter.f afterOf
  simp only [spec_ballOk, l01In_eq, Option.bind_some]
  by_cases hb : ballB a b x y dx dy = true
  · rw [hb]
    simp only [if_true, true_and]
    by_cases h : 0 ≤ s ∧ s ≤ 10000
    · rw [if_pos h]
      refine Ev.step (fun k => ?_) (spec_after_l0 a b s h.2 s.toNat 0 x y dx dy (by omega) (by omega) hb)
      simp only [decide_eq_true h, spec_BallAfter.j0]
      rfl
    · rw [if_neg h]
      refine Ev.step (fun k => ?_) (Ev.now _)
      simp only [decide_eq_false h, spec_BallAfter.j0]
      rfl
  · rw [Bool.not_eq_true] at hb
    rw [hb]
    simp only [Bool.false_eq_true, if_false, false_and]
    refine Ev.step (fun k => ?_) (Ev.now _)
    simp only [spec_BallAfter.j0]
    rfl
theorem impl_after (a b x y dx dy s : Int) : Ev (fun k => impl_BallAfter.f k a b x y dx dy s) (afterOf a b x y dx dy s) := by
  unfold impl_BallAfter.f afterOf
  simp only [impl_ballOk, Option.bind_some]
  by_cases hb : ballB a b x y dx dy = true
  · rw [hb]
    simp only [if_true, true_and]
    by_cases h : 0 ≤ s ∧ s ≤ 10000
    · rw [if_pos h]
      refine Ev.step (fun k => ?_) (impl_after_l0 a b s h.2 s.toNat 0 x y dx dy (by omega) (by omega) hb)
      rw [if_neg (by omega)]
      simp only [decide_eq_false (show ¬ s > 10000 by omega), impl_BallAfter.j0]
      rfl
    · rw [if_neg h]
      refine Ev.step (fun k => ?_) (Ev.now _)
      by_cases h1 : s < 0
      · rw [if_pos h1]; simp only [impl_BallAfter.j0]; rfl
      · rw [if_neg h1]; simp only [decide_eq_true (show s > 10000 by omega), impl_BallAfter.j0]; rfl
  · rw [Bool.not_eq_true] at hb
    rw [hb]
    simp only [Bool.false_eq_true, if_false, false_and]
    refine Ev.step (fun k => ?_) (Ev.now _)
    simp only [impl_BallAfter.j0]
    rfl

theorem FnExactBallAfter : laws_FnExactBallAfter.Pure := by
  intro a b x y dx dy s _ _ _ _ _ _ _
  apply Ev.rounds
  unfold laws_FnExactBallAfter.f
  simp only [toBall_eq, Option.bind_some]
  refine Ev.bind (spec_after a b x y dx dy s) ?_
  refine Ev.bind (impl_after a b x y dx dy s) ?_
  simp only [eqBall_same, Option.bind_some]
  simp
  exact Ev.now _

end Go.Proofs.Ytekegepppjmldaa.Pure
