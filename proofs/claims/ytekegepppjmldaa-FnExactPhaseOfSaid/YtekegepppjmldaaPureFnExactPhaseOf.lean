/- The program's PhaseOf returns what the reference's returns, for all arguments: no condition. -/
import Derived.Test.YtekegepppjmldaaPFnExactPhaseOfx
namespace Go.Proofs.Ytekegepppjmldaa.Pure
open Go.RowKit Go.Proofs.Ytekegepppjmldaa.PFnExactPhaseOf Go.Proofs.YtekegepppjmldaaW.PrintWords Go.Proofs.YtekegepppjmldaaW.PrintLast

theorem pw_wf {a : Int} (h : (Lit.int .i64 a).wf = true) : -9223372036854775808 ≤ a ∧ a ≤ 9223372036854775807 := by
  simp [Lit.wf, IntKind.min, IntKind.max, IntKind.signed, IntKind.bits] at h
  omega
theorem pw_wrap {a : Int} (h0 : -9223372036854775808 ≤ a) (h1 : a ≤ 9223372036854775807) : wrap64 a = a := by
  unfold wrap64
  omega

theorem l01In_eq (a b c : Int) : spec_l01In.f a b c = some (decide (b ≤ a ∧ a ≤ c)) := by
  unfold spec_l01In.f
  split
  · rename_i h
    by_cases h2 : a ≤ c
    · rw [decide_eq_true h2, decide_eq_true ⟨h, h2⟩]
    · rw [decide_eq_false h2, decide_eq_false (fun h => h2 h.2)]
  · rename_i h
    rw [decide_eq_false (fun h2 => h h2.1)]

theorem sideOk_eq (a : Int) : impl_sideOk.f a = some (decide (1 ≤ a ∧ a ≤ 50)) := by
  unfold impl_sideOk.f
  split
  · rename_i h
    by_cases h2 : a ≤ 50
    · rw [decide_eq_true h2, decide_eq_true ⟨h, h2⟩]
    · rw [decide_eq_false h2, decide_eq_false (fun h => h2 h.2)]
  · rename_i h
    rw [decide_eq_false (fun h2 => h h2.1)]

theorem tmod_small {x m : Int} (h0 : 0 ≤ x) (h1 : x < m) : Int.tmod x m = x := by
  rw [Int.tmod_eq_emod_of_nonneg h0, Int.emod_eq_of_lt h0 h1]

theorem FnExactPhaseOf : laws_FnExactPhaseOf.Pure := by
  intro a x d ha hx hd
  refine ⟨1, ?_⟩
  unfold laws_FnExactPhaseOf.f spec_PhaseOf.f impl_PhaseOf.f
  simp only [l01In_eq, sideOk_eq, Option.bind_some, decide_eq_true_eq]
  by_cases h : 1 ≤ a ∧ a ≤ 50
  · rw [if_pos h, if_pos h]
    have e : wrap64 (2 * a) = 2 * a := pw_wrap (by omega) (by omega)
    by_cases h2 : 0 ≤ x ∧ x ≤ a
    · rw [if_pos h2, if_neg (show ¬ x < 0 by omega), if_neg (show ¬ x > a by omega)]
      have e2 : wrap64 (2 * a - x) = 2 * a - x := pw_wrap (by omega) (by omega)
      by_cases h3 : d = 1
      · subst h3
        simp only [if_true, spec_PhaseOf.j0, impl_PhaseOf.j0, e]
        rw [if_neg (show ¬ (1 : Int) = -1 by omega), if_neg (show ¬ 2 * a = 0 by omega), tmod_small h2.1 (by omega)]
        simp
      · by_cases h4 : d = -1
        · subst h4
          simp only [spec_PhaseOf.j0, impl_PhaseOf.j0, e, e2]
          simp [show ¬ 2 * a = 0 by omega]
        · have h5 : (d != -1) = true := by simpa using h4
          simp only [if_neg h3, h5, spec_PhaseOf.j0, impl_PhaseOf.j0]
          simp
    · rw [if_neg h2]
      by_cases h3 : x < 0
      · rw [if_pos h3]; simp [spec_PhaseOf.j0, impl_PhaseOf.j0]
      · rw [if_neg h3, if_pos (show x > a by omega)]; simp [spec_PhaseOf.j0, impl_PhaseOf.j0]
  · rw [if_neg h, if_neg h]; simp [spec_PhaseOf.j0, impl_PhaseOf.j0]

end Go.Proofs.Ytekegepppjmldaa.Pure
