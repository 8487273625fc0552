/- The program's BallPeriod returns what the reference's returns, for all arguments: no condition. -/
import Derived.Test.YtekegepppjmldaaPFnExactBallPeriodx
namespace Go.Proofs.Ytekegepppjmldaa.Pure
open Go.RowKit Go.Proofs.Ytekegepppjmldaa.PFnExactBallPeriod Go.Proofs.YtekegepppjmldaaW.PrintWords Go.Proofs.YtekegepppjmldaaW.PrintLast
set_option linter.unusedVariables false
set_option linter.unusedSimpArgs false

theorem pw_wf {a : Int} (h : (Lit.int .i64 a).wf = true) : -9223372036854775808 ≤ a ∧ a ≤ 9223372036854775807 := by
  simp [Lit.wf, IntKind.min, IntKind.max, IntKind.signed, IntKind.bits] at h
  omega
theorem pw_wrap {a : Int} (h0 : -9223372036854775808 ≤ a) (h1 : a ≤ 9223372036854775807) : wrap64 a = a := by
  unfold wrap64
  omega

/-- Both programs' loops of the common divisor come to Nat's gcd. -/
theorem gcd_step {a b : Int} (hb : 0 < b) (ha : 0 ≤ a) : (Int.gcd b (Int.tmod a b) : Int) = Int.gcd a b := by
  obtain ⟨n, rfl⟩ := Int.eq_ofNat_of_zero_le ha
  obtain ⟨m, rfl⟩ := Int.eq_ofNat_of_zero_le (Int.le_of_lt hb)
  rw [Int.tmod_eq_emod_of_nonneg ha]
  rw [show ((n : Int) % (m : Int)) = ((n % m : Nat) : Int) from by simp]
  simp only [Int.gcd, Int.natAbs_natCast]
  rw [Nat.gcd_comm n m, Nat.gcd_rec m n, Nat.gcd_comm]
theorem spec_gcd_l0 (k : Nat) : ∀ a b : Int, 0 ≤ a → 0 ≤ b → b < k → spec_l08Gcd.l0 k a b = some (Int.gcd a b : Int) := by
  induction k with
  | zero => intro a b _ h0 h1; omega
  | succ k ih =>
    intro a b ha hb hk
    simp only [spec_l08Gcd.l0]
    by_cases h : b = 0
    · subst h
      rw [if_pos rfl]
      simp
      omega
    · rw [if_neg h, ih b _ hb (by rw [Int.tmod_eq_emod_of_nonneg ha]; exact Int.emod_nonneg _ h) (by rw [Int.tmod_eq_emod_of_nonneg ha]; have := Int.emod_lt_of_pos a (show 0 < b by omega); omega)]
      rw [gcd_step (by omega) ha]
theorem impl_gcd_l0 (k : Nat) : ∀ a b : Int, 0 ≤ a → 0 ≤ b → b < k → impl_gcd.l0 k a b = some (Int.gcd a b : Int) := by
  induction k with
  | zero => intro a b _ h0 h1; omega
  | succ k ih =>
    intro a b ha hb hk
    simp only [impl_gcd.l0]
    by_cases h : b = 0
    · subst h
      rw [if_pos rfl]
      simp
      omega
    · rw [if_neg h, ih b _ hb (by rw [Int.tmod_eq_emod_of_nonneg ha]; exact Int.emod_nonneg _ h) (by rw [Int.tmod_eq_emod_of_nonneg ha]; have := Int.emod_lt_of_pos a (show 0 < b by omega); omega)]
      rw [gcd_step (by omega) ha]

theorem l01In_eq (a b c : Int) : spec_l01In.f a b c = some (decide (b ≤ a ∧ a ≤ c)) := by
  unfold spec_l01In.f
  split
  · rename_i h
    by_cases h2 : a ≤ c
    · rw [decide_eq_true h2, decide_eq_true ⟨h, h2⟩]
    · rw [decide_eq_false h2, decide_eq_false (fun h => h2 h.2)]
  · rename_i h
    rw [decide_eq_false (fun h2 => h h2.1)]

theorem table14_eq (a b : Int) : spec_l14Table.f a b = some (decide (1 ≤ a ∧ a ≤ 50 ∧ 1 ≤ b ∧ b ≤ 50)) := by
  unfold spec_l14Table.f
  simp only [l01In_eq, Option.bind_some, decide_eq_true_eq]
  split
  · rename_i h
    by_cases h2 : 1 ≤ b ∧ b ≤ 50
    · rw [decide_eq_true h2, decide_eq_true ⟨h.1, h.2, h2⟩]
    · rw [decide_eq_false h2, decide_eq_false (fun h => h2 h.2.2)]
  · rename_i h
    rw [decide_eq_false (fun h2 => h ⟨h2.1, h2.2.1⟩)]

theorem sideOk_eq (a : Int) : impl_sideOk.f a = some (decide (1 ≤ a ∧ a ≤ 50)) := by
  unfold impl_sideOk.f
  split
  · rename_i h
    by_cases h2 : a ≤ 50
    · rw [decide_eq_true h2, decide_eq_true ⟨h, h2⟩]
    · rw [decide_eq_false h2, decide_eq_false (fun h => h2 h.2)]
  · rename_i h
    rw [decide_eq_false (fun h2 => h h2.1)]

/-- The period of a table whose sides are from 1 to 50. -/
def per (a b : Int) : Int := 2 * a / (Int.gcd a b : Int) * b
theorem per_alt {a b : Int} (ha : 1 ≤ a) (hb : 1 ≤ b) : 2 * (a / (Int.gcd a b : Int) * b) = per a b := by
  unfold per
  have hd : (Int.gcd a b : Int) ∣ a := Int.gcd_dvd_left ..
  rw [Int.mul_ediv_assoc 2 hd, Int.mul_assoc]
theorem gcd_pos' {a b : Int} (ha : 1 ≤ a) : 1 ≤ (Int.gcd a b : Int) := by
  have : 0 < Int.gcd a b := Int.gcd_pos_of_ne_zero_left b (by omega)
  omega
theorem per_bd {a b : Int} (ha : 1 ≤ a) (ha2 : a ≤ 50) (hb : 1 ≤ b) (hb2 : b ≤ 50) : 0 ≤ a / (Int.gcd a b : Int) ∧ a / (Int.gcd a b : Int) ≤ 50 ∧ 0 ≤ 2 * a / (Int.gcd a b : Int) ∧ 2 * a / (Int.gcd a b : Int) ≤ 100 ∧ 0 < per a b ∧ per a b ≤ 5000 ∧ 0 ≤ a / (Int.gcd a b : Int) * b ∧ a / (Int.gcd a b : Int) * b ≤ 2500 := by
  have hg := gcd_pos' (b := b) ha
  have hd : (Int.gcd a b : Int) ∣ a := Int.gcd_dvd_left ..
  obtain ⟨q, hq⟩ := hd
  generalize hG : (Int.gcd a b : Int) = g at *
  have e1 : a / g = q := by rw [hq]; exact Int.mul_ediv_cancel_left _ (by omega)
  have hq0 : 0 < q := by
    rcases Int.lt_or_le 0 q with h | h
    · exact h
    · have : g * q ≤ 0 := Int.mul_nonpos_of_nonneg_of_nonpos (by omega) h
      omega
  have hqa : q ≤ a := by
    have : 1 * q ≤ g * q := Int.mul_le_mul_of_nonneg_right hg (by omega)
    omega
  have h1 : q * b ≤ 50 * 50 := Int.mul_le_mul (by omega) hb2 (by omega) (by omega)
  have h2 : 0 < q * b := Int.mul_pos hq0 (by omega)
  have e2 : per a b = 2 * (q * b) := by rw [← per_alt ha hb, hG, e1]
  have e3 : 2 * a / g = 2 * q := by rw [hq, Int.mul_left_comm]; exact Int.mul_ediv_cancel_left _ (by omega)
  rw [e1, e2, e3]
  omega
theorem spec_period (k : Nat) (a b : Int) (hk : 50 < k) : spec_BallPeriod.f k a b = some (if 1 ≤ a ∧ a ≤ 50 ∧ 1 ≤ b ∧ b ≤ 50 then per a b else 0) := by
  unfold spec_BallPeriod.f spec_l08Gcd.f
  simp only [table14_eq, Option.bind_some, decide_eq_true_eq]
  by_cases h : 1 ≤ a ∧ a ≤ 50 ∧ 1 ≤ b ∧ b ≤ 50
  · obtain ⟨h1, h2, h3, h4⟩ := h
    have hb := per_bd h1 h2 h3 h4
    have hg := gcd_pos' (b := b) h1
    rw [if_pos ⟨h1, h2, h3, h4⟩, if_pos ⟨h1, h2, h3, h4⟩, spec_gcd_l0 k a b (by omega) (by omega) (by omega)]
    simp only [Option.bind_some]
    rw [if_neg (by omega), pw_wrap (a := 2 * a) (by omega) (by omega), Int.tdiv_eq_ediv_of_nonneg (by omega), pw_wrap (a := 2 * a / _) (by omega) (by omega)]
    rw [pw_wrap (by unfold per at hb; omega) (by unfold per at hb; omega)]
    rfl
  · rw [if_neg h, if_neg h]
theorem impl_period (k : Nat) (a b : Int) (hk : 50 < k) : impl_BallPeriod.f k a b = some (if 1 ≤ a ∧ a ≤ 50 ∧ 1 ≤ b ∧ b ≤ 50 then per a b else 0) := by
  unfold impl_BallPeriod.f impl_gcd.f
  simp only [sideOk_eq, Option.bind_some, decide_eq_true_eq]
  by_cases h : 1 ≤ a ∧ a ≤ 50 ∧ 1 ≤ b ∧ b ≤ 50
  · obtain ⟨h1, h2, h3, h4⟩ := h
    have hb := per_bd h1 h2 h3 h4
    have hg := gcd_pos' (b := b) h1
    rw [if_pos ⟨h1, h2⟩, if_pos ⟨h3, h4⟩, if_pos ⟨h1, h2, h3, h4⟩, impl_gcd_l0 k a b (by omega) (by omega) (by omega)]
    simp only [Option.bind_some]
    rw [if_neg (by omega), Int.tdiv_eq_ediv_of_nonneg (by omega), pw_wrap (a := a / _) (by omega) (by omega), pw_wrap (a := a / _ * b) (by omega) (by omega), per_alt h1 h3, pw_wrap (by omega) (by omega)]
  · by_cases h2 : 1 ≤ a ∧ a ≤ 50
    · rw [if_pos h2, if_neg (fun h3 => h ⟨h2.1, h2.2, h3⟩), if_neg h]
    · rw [if_neg h2, if_neg h]

theorem FnExactBallPeriod : laws_FnExactBallPeriod.Pure := by
  intro a b ha hb
  refine ⟨51, ?_⟩
  unfold laws_FnExactBallPeriod.f
  rw [spec_period 51 a b (by omega), impl_period 51 a b (by omega)]
  simp

end Go.Proofs.Ytekegepppjmldaa.Pure
