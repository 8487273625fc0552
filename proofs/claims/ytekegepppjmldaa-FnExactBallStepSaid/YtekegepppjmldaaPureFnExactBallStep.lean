/- The program's BallStep returns what the reference's returns, for all arguments: no condition. -/
import Derived.Test.YtekegepppjmldaaSayFnExactBallStep
namespace Go.Proofs.Ytekegepppjmldaa.Pure
open Go.RowKit Go.Proofs.Ytekegepppjmldaa.PFnExactBallStep Go.Proofs.YtekegepppjmldaaW.PrintWords Go.Proofs.YtekegepppjmldaaW.PrintLast
set_option linter.unusedVariables false
set_option linter.unusedSimpArgs false

theorem pw_wf {a : Int} (h : (Lit.int .i64 a).wf = true) : -9223372036854775808 ≤ a ∧ a ≤ 9223372036854775807 := by
  simp [Lit.wf, IntKind.min, IntKind.max, IntKind.signed, IntKind.bits] at h
  omega
theorem pw_wrap {a : Int} (h0 : -9223372036854775808 ≤ a) (h1 : a ≤ 9223372036854775807) : wrap64 a = a := by
  unfold wrap64
  omega

theorem l01In_eq (a b c : Int) : spec_l01In.f a b c = some (decide (b ≤ a ∧ a ≤ c)) := by
  unfold spec_l01In.f
  split
  · rename_i h
    by_cases h2 : a ≤ c
    · rw [decide_eq_true h2, decide_eq_true ⟨h, h2⟩]
    · rw [decide_eq_false h2, decide_eq_false (fun h => h2 h.2)]
  · rename_i h
    rw [decide_eq_false (fun h2 => h h2.1)]

theorem table14_eq (a b : Int) : spec_l14Table.f a b = some (decide (1 ≤ a ∧ a ≤ 50 ∧ 1 ≤ b ∧ b ≤ 50)) := by
  unfold spec_l14Table.f
  simp only [l01In_eq, Option.bind_some, decide_eq_true_eq]
  split
  · rename_i h
    by_cases h2 : 1 ≤ b ∧ b ≤ 50
    · rw [decide_eq_true h2, decide_eq_true ⟨h.1, h.2, h2⟩]
    · rw [decide_eq_false h2, decide_eq_false (fun h => h2 h.2.2)]
  · rename_i h
    rw [decide_eq_false (fun h2 => h ⟨h2.1, h2.2.1⟩)]

theorem sideOk_eq (a : Int) : impl_sideOk.f a = some (decide (1 ≤ a ∧ a ≤ 50)) := by
  unfold impl_sideOk.f
  split
  · rename_i h
    by_cases h2 : a ≤ 50
    · rw [decide_eq_true h2, decide_eq_true ⟨h, h2⟩]
    · rw [decide_eq_false h2, decide_eq_false (fun h => h2 h.2)]
  · rename_i h
    rw [decide_eq_false (fun h2 => h h2.1)]

/-- A coordinate and its change are valid. -/
abbrev line (a x d : Int) : Prop := 0 ≤ x ∧ x ≤ a ∧ (d = 1 ∧ x < a ∨ d = -1 ∧ 0 < x)
theorem line14_eq (a x d : Int) : spec_l14Line.f a x d = some (decide (line a x d)) := by
  unfold spec_l14Line.f
  simp only [l01In_eq, Option.bind_some, decide_eq_true_eq]
  split
  · rename_i h
    split
    · rename_i h1
      split
      · rename_i h2; rw [decide_eq_true (by omega)]
      · rename_i h2
        split
        · omega
        · rw [decide_eq_false (by omega)]
    · rename_i h1
      split
      · rename_i h2
        by_cases h3 : x > 0
        · rw [decide_eq_true h3, decide_eq_true (by omega)]
        · rw [decide_eq_false h3, decide_eq_false (by omega)]
      · rw [decide_eq_false (by omega)]
  · rename_i h
    rw [decide_eq_false (by omega)]
theorem turnOk_eq (a x d : Int) (ha : 1 ≤ a) : impl_turnOk.f a x d = some (decide (line a x d)) := by
  unfold impl_turnOk.f
  repeat' split
  all_goals first
    | (rw [decide_eq_true (by omega)]; done)
    | (rw [decide_eq_false (by omega)]; done)
    | (rename_i h; by_cases h9 : d = -1
       · subst h9; first | (rw [decide_eq_true (by omega)]; rfl) | (rw [decide_eq_false (by omega)]; rfl)
       · rw [show (d == -1) = false from by simpa using h9]; rw [decide_eq_false (by omega)])
/-- A ball on a table is valid. -/
def ballB (a b x y dx dy : Int) : Bool := decide ((1 ≤ a ∧ a ≤ 50 ∧ 1 ≤ b ∧ b ≤ 50) ∧ line a x dx ∧ line b y dy)
theorem spec_ballOk (a b x y dx dy : Int) : spec_BallOk.f a b x y dx dy = some (ballB a b x y dx dy) := by
  unfold spec_BallOk.f ballB
  simp only [table14_eq, line14_eq, Option.bind_some, decide_eq_true_eq]
  split
  · split
    · rename_i h h2
      by_cases h3 : line b y dy
      · rw [decide_eq_true h3, decide_eq_true ⟨h, h2, h3⟩]
      · rw [decide_eq_false h3, decide_eq_false (fun h => h3 h.2.2)]
    · rename_i h h2
      rw [decide_eq_false (fun h => h2 h.2.1)]
  · rename_i h
    rw [decide_eq_false (fun h2 => h h2.1)]
theorem impl_ballOk (a b x y dx dy : Int) : impl_BallOk.f a b x y dx dy = some (ballB a b x y dx dy) := by
  unfold impl_BallOk.f ballB
  simp only [sideOk_eq, Option.bind_some, decide_eq_true_eq]
  by_cases h : 1 ≤ a ∧ a ≤ 50
  · rw [if_pos h]
    by_cases h2 : 1 ≤ b ∧ b ≤ 50
    · rw [if_pos h2, turnOk_eq a x dx h.1]
      simp only [Option.bind_some, decide_eq_true_eq]
      by_cases h3 : line a x dx
      · rw [if_pos h3, turnOk_eq b y dy h2.1]
        simp only [Option.bind_some]
        by_cases h4 : line b y dy
        · rw [decide_eq_true h4, decide_eq_true ⟨⟨h.1, h.2, h2⟩, h3, h4⟩]
        · rw [decide_eq_false h4, decide_eq_false (fun h => h4 h.2.2)]
      · rw [if_neg h3, decide_eq_false (fun h => h3 h.2.1)]
    · rw [if_neg h2, decide_eq_false (fun h => h2 h.1.2.2)]
  · rw [if_neg h, decide_eq_false (fun h2 => h ⟨h2.1.1, h2.1.2.1⟩)]
theorem ballB_side {a b x y dx dy : Int} (h : ballB a b x y dx dy = true) : (1 ≤ a ∧ a ≤ 50 ∧ 1 ≤ b ∧ b ≤ 50) ∧ line a x dx ∧ line b y dy := by
  unfold ballB at h
  exact of_decide_eq_true h
theorem toBall_eq (x y dx dy : Int) : laws_toBall.f x y dx dy = some (x, y, dx, dy) := rfl

/-- A change after a side may have been reached. -/
def turnD (a x d : Int) : Int := if x = a then -1 else if x = 0 then 1 else d
theorem turn14_eq (a x d : Int) : spec_l14Turn.f a x d = some (turnD a x d) := by
  unfold spec_l14Turn.f turnD
  split
  · rfl
  · split <;> rfl
theorem line_step {a x d : Int} (ha : 1 ≤ a) (h : line a x d) : line a (x + d) (turnD a (x + d) d) := by
  unfold turnD
  simp only [line] at h ⊢
  split
  · omega
  · split <;> omega
theorem moved_eq {a x d : Int} (ha : 1 ≤ a ∧ a ≤ 50) (h : line a x d) : impl_moved.f a x d = some (x + d, turnD a (x + d) d) := by
  unfold impl_moved.f turnD
  rw [pw_wrap (a := x + d) (by simp only [line] at h; omega) (by simp only [line] at h; omega)]
  split
  · split
    · omega
    · rfl
  · split <;> rfl
theorem step14_eq {a b x y dx dy : Int} (h : ballB a b x y dx dy = true) : spec_l14Step.f a b x y dx dy = some (x + dx, y + dy, turnD a (x + dx) dx, turnD b (y + dy) dy) := by
  obtain ⟨h1, h2, h3⟩ := ballB_side h
  unfold spec_l14Step.f
  rw [pw_wrap (a := x + dx) (by simp only [line] at h2; omega) (by simp only [line] at h2; omega), pw_wrap (a := y + dy) (by simp only [line] at h3; omega) (by simp only [line] at h3; omega)]
  simp only [turn14_eq, Option.bind_some]
theorem impl_ballStep {a b x y dx dy : Int} (h : ballB a b x y dx dy = true) : impl_BallStep.f a b x y dx dy = some (x + dx, y + dy, turnD a (x + dx) dx, turnD b (y + dy) dy, true) := by
  obtain ⟨h1, h2, h3⟩ := ballB_side h
  unfold impl_BallStep.f
  simp only [impl_ballOk, h, Option.bind_some, if_true]
  rw [moved_eq ⟨h1.1, h1.2.1⟩ h2, moved_eq h1.2.2 h3]
  rfl
theorem ballB_step {a b x y dx dy : Int} (h : ballB a b x y dx dy = true) : ballB a b (x + dx) (y + dy) (turnD a (x + dx) dx) (turnD b (y + dy) dy) = true := by
  obtain ⟨h1, h2, h3⟩ := ballB_side h
  exact decide_eq_true ⟨h1, line_step h1.1 h2, line_step h1.2.2.1 h3⟩
theorem eqBall_same (x y dx dy : Int) : laws_eqBall.f x y dx dy x y dx dy = some true := by
  unfold laws_eqBall.f
  simp

theorem FnExactBallStep : laws_FnExactBallStep.Pure := by
  intro a b x y dx dy _ _ _ _ _ _
  unfold laws_FnExactBallStep.f
  simp only [toBall_eq, Option.bind_some]
  by_cases h : ballB a b x y dx dy = true
  · unfold spec_BallStep.f
    simp only [spec_ballOk, h, Option.bind_some, if_true]
    rw [step14_eq h, impl_ballStep h]
    simp only [Option.bind_some]
    rw [eqBall_same]
    simp
  · rw [Bool.not_eq_true] at h
    unfold spec_BallStep.f impl_BallStep.f
    simp [spec_ballOk, impl_ballOk, h, eqBall_same]

end Go.Proofs.Ytekegepppjmldaa.Pure
