/- The program's BouncesIn returns what the reference's returns, for all arguments: no condition. -/
import Derived.Test.YtekegepppjmldaaSayFnExactBouncesIn
namespace Go.Proofs.Ytekegepppjmldaa.Pure
open Go.RowKit Go.Proofs.Ytekegepppjmldaa.PFnExactBouncesIn Go.Proofs.YtekegepppjmldaaW.PrintWords Go.Proofs.YtekegepppjmldaaW.PrintLast
set_option linter.unusedVariables false
set_option linter.unusedSimpArgs false

theorem ev_up {α : Type} {g : Nat → Option α} {r : α} (h : Ev (fun k => g (k + 1)) r) : Ev g r := Ev.step (fun _ => rfl) h
theorem ev_k {α : Type} {g : Nat → Option α} {r : α} {n : Nat} (h : ∀ k, n < k → g k = some r) : Ev g r := ⟨n + 1, fun k hk => h k (by omega)⟩

theorem pw_wf {a : Int} (h : (Lit.int .i64 a).wf = true) : -9223372036854775808 ≤ a ∧ a ≤ 9223372036854775807 := by
  simp [Lit.wf, IntKind.min, IntKind.max, IntKind.signed, IntKind.bits] at h
  omega
theorem pw_wrap {a : Int} (h0 : -9223372036854775808 ≤ a) (h1 : a ≤ 9223372036854775807) : wrap64 a = a := by
  unfold wrap64
  omega

theorem l01In_eq (a b c : Int) : spec_l01In.f a b c = some (decide (b ≤ a ∧ a ≤ c)) := by
  unfold spec_l01In.f
  split
  · rename_i h
    by_cases h2 : a ≤ c
    · rw [decide_eq_true h2, decide_eq_true ⟨h, h2⟩]
    · rw [decide_eq_false h2, decide_eq_false (fun h => h2 h.2)]
  · rename_i h
    rw [decide_eq_false (fun h2 => h h2.1)]

theorem table14_eq (a b : Int) : spec_l14Table.f a b = some (decide (1 ≤ a ∧ a ≤ 50 ∧ 1 ≤ b ∧ b ≤ 50)) := by
  unfold spec_l14Table.f
  simp only [l01In_eq, Option.bind_some, decide_eq_true_eq]
  split
  · rename_i h
    by_cases h2 : 1 ≤ b ∧ b ≤ 50
    · rw [decide_eq_true h2, decide_eq_true ⟨h.1, h.2, h2⟩]
    · rw [decide_eq_false h2, decide_eq_false (fun h => h2 h.2.2)]
  · rename_i h
    rw [decide_eq_false (fun h2 => h ⟨h2.1, h2.2.1⟩)]

theorem sideOk_eq (a : Int) : impl_sideOk.f a = some (decide (1 ≤ a ∧ a ≤ 50)) := by
  unfold impl_sideOk.f
  split
  · rename_i h
    by_cases h2 : a ≤ 50
    · rw [decide_eq_true h2, decide_eq_true ⟨h, h2⟩]
    · rw [decide_eq_false h2, decide_eq_false (fun h => h2 h.2)]
  · rename_i h
    rw [decide_eq_false (fun h2 => h h2.1)]

/-- A coordinate and its change are valid. -/
abbrev line (a x d : Int) : Prop := 0 ≤ x ∧ x ≤ a ∧ (d = 1 ∧ x < a ∨ d = -1 ∧ 0 < x)
theorem line14_eq (a x d : Int) : spec_l14Line.f a x d = some (decide (line a x d)) := by
  unfold spec_l14Line.f
  simp only [l01In_eq, Option.bind_some, decide_eq_true_eq]
  split
  · rename_i h
    split
    · rename_i h1
      split
      · rename_i h2; rw [decide_eq_true (by omega)]
      · rename_i h2
        split
        · omega
        · rw [decide_eq_false (by omega)]
    · rename_i h1
      split
      · rename_i h2
        by_cases h3 : x > 0
        · rw [decide_eq_true h3, decide_eq_true (by omega)]
        · rw [decide_eq_false h3, decide_eq_false (by omega)]
      · rw [decide_eq_false (by omega)]
  · rename_i h
    rw [decide_eq_false (by omega)]
theorem turnOk_eq (a x d : Int) (ha : 1 ≤ a) : impl_turnOk.f a x d = some (decide (line a x d)) := by
  unfold impl_turnOk.f
  repeat' split
  all_goals first
    | (rw [decide_eq_true (by omega)]; done)
    | (rw [decide_eq_false (by omega)]; done)
    | (rename_i h; by_cases h9 : d = -1
       · subst h9; first | (rw [decide_eq_true (by omega)]; rfl) | (rw [decide_eq_false (by omega)]; rfl)
       · rw [show (d == -1) = false from by simpa using h9]; rw [decide_eq_false (by omega)])
/-- A ball on a table is valid. -/
def ballB (a b x y dx dy : Int) : Bool := decide ((1 ≤ a ∧ a ≤ 50 ∧ 1 ≤ b ∧ b ≤ 50) ∧ line a x dx ∧ line b y dy)
theorem spec_ballOk (a b x y dx dy : Int) : spec_BallOk.f a b x y dx dy = some (ballB a b x y dx dy) := by
  unfold spec_BallOk.f ballB
  simp only [table14_eq, line14_eq, Option.bind_some, decide_eq_true_eq]
  split
  · split
    · rename_i h h2
      by_cases h3 : line b y dy
      · rw [decide_eq_true h3, decide_eq_true ⟨h, h2, h3⟩]
      · rw [decide_eq_false h3, decide_eq_false (fun h => h3 h.2.2)]
    · rename_i h h2
      rw [decide_eq_false (fun h => h2 h.2.1)]
  · rename_i h
    rw [decide_eq_false (fun h2 => h h2.1)]
theorem impl_ballOk (a b x y dx dy : Int) : impl_BallOk.f a b x y dx dy = some (ballB a b x y dx dy) := by
  unfold impl_BallOk.f ballB
  simp only [sideOk_eq, Option.bind_some, decide_eq_true_eq]
  by_cases h : 1 ≤ a ∧ a ≤ 50
  · rw [if_pos h]
    by_cases h2 : 1 ≤ b ∧ b ≤ 50
    · rw [if_pos h2, turnOk_eq a x dx h.1]
      simp only [Option.bind_some, decide_eq_true_eq]
      by_cases h3 : line a x dx
      · rw [if_pos h3, turnOk_eq b y dy h2.1]
        simp only [Option.bind_some]
        by_cases h4 : line b y dy
        · rw [decide_eq_true h4, decide_eq_true ⟨⟨h.1, h.2, h2⟩, h3, h4⟩]
        · rw [decide_eq_false h4, decide_eq_false (fun h => h4 h.2.2)]
      · rw [if_neg h3, decide_eq_false (fun h => h3 h.2.1)]
    · rw [if_neg h2, decide_eq_false (fun h => h2 h.1.2.2)]
  · rw [if_neg h, decide_eq_false (fun h2 => h ⟨h2.1.1, h2.1.2.1⟩)]
theorem ballB_side {a b x y dx dy : Int} (h : ballB a b x y dx dy = true) : (1 ≤ a ∧ a ≤ 50 ∧ 1 ≤ b ∧ b ≤ 50) ∧ line a x dx ∧ line b y dy := by
  unfold ballB at h
  exact of_decide_eq_true h
theorem toBall_eq (x y dx dy : Int) : laws_toBall.f x y dx dy = some (x, y, dx, dy) := rfl

/-- A change after a side may have been reached. -/
def turnD (a x d : Int) : Int := if x = a then -1 else if x = 0 then 1 else d
theorem turn14_eq (a x d : Int) : spec_l14Turn.f a x d = some (turnD a x d) := by
  unfold spec_l14Turn.f turnD
  split
  · rfl
  · split <;> rfl
theorem line_step {a x d : Int} (ha : 1 ≤ a) (h : line a x d) : line a (x + d) (turnD a (x + d) d) := by
  unfold turnD
  simp only [line] at h ⊢
  split
  · omega
  · split <;> omega
theorem moved_eq {a x d : Int} (ha : 1 ≤ a ∧ a ≤ 50) (h : line a x d) : impl_moved.f a x d = some (x + d, turnD a (x + d) d) := by
  unfold impl_moved.f turnD
  rw [pw_wrap (a := x + d) (by simp only [line] at h; omega) (by simp only [line] at h; omega)]
  split
  · split
    · omega
    · rfl
  · split <;> rfl
theorem step14_eq {a b x y dx dy : Int} (h : ballB a b x y dx dy = true) : spec_l14Step.f a b x y dx dy = some (x + dx, y + dy, turnD a (x + dx) dx, turnD b (y + dy) dy) := by
  obtain ⟨h1, h2, h3⟩ := ballB_side h
  unfold spec_l14Step.f
  rw [pw_wrap (a := x + dx) (by simp only [line] at h2; omega) (by simp only [line] at h2; omega), pw_wrap (a := y + dy) (by simp only [line] at h3; omega) (by simp only [line] at h3; omega)]
  simp only [turn14_eq, Option.bind_some]
theorem impl_ballStep {a b x y dx dy : Int} (h : ballB a b x y dx dy = true) : impl_BallStep.f a b x y dx dy = some (x + dx, y + dy, turnD a (x + dx) dx, turnD b (y + dy) dy, true) := by
  obtain ⟨h1, h2, h3⟩ := ballB_side h
  unfold impl_BallStep.f
  simp only [impl_ballOk, h, Option.bind_some, if_true]
  rw [moved_eq ⟨h1.1, h1.2.1⟩ h2, moved_eq h1.2.2 h3]
  rfl
theorem ballB_step {a b x y dx dy : Int} (h : ballB a b x y dx dy = true) : ballB a b (x + dx) (y + dy) (turnD a (x + dx) dx) (turnD b (y + dy) dy) = true := by
  obtain ⟨h1, h2, h3⟩ := ballB_side h
  exact decide_eq_true ⟨h1, line_step h1.1 h2, line_step h1.2.2.1 h3⟩

/-- One coordinate behind n steps. -/
def lineN (a : Int) : Nat → Int → Int → Int × Int
  | 0, x, d => (x, d)
  | n + 1, x, d => lineN a n (x + d) (turnD a (x + d) d)
/-- How far the unfolded ball is. -/
def ph (a x d : Int) : Int := if d = 1 then x else 2 * a - x
def unph (a p : Int) : Int × Int := if p < a then (p, 1) else (2 * a - p, -1)
theorem ph_bd {a x d : Int} (h : line a x d) : 0 ≤ ph a x d ∧ ph a x d < 2 * a := by
  simp only [line] at h
  unfold ph
  split <;> omega
theorem unph_ph {a x d : Int} (h : line a x d) : unph a (ph a x d) = (x, d) := by
  simp only [line] at h
  unfold unph ph
  rcases h with ⟨h0, h1, ⟨rfl, h2⟩ | ⟨rfl, h2⟩⟩
  · simp [h2]
  · rw [if_neg (show ¬ (-1 : Int) = 1 by omega), if_neg (by omega)]
    simp
    omega
theorem ph_step {a x d : Int} (ha : 1 ≤ a) (h : line a x d) : ph a (x + d) (turnD a (x + d) d) = (ph a x d + 1) % (2 * a) := by
  simp only [line] at h
  unfold ph turnD
  rcases h with ⟨h0, h1, ⟨rfl, h2⟩ | ⟨rfl, h2⟩⟩
  · rw [if_pos rfl]
    split
    · rename_i h3
      rw [if_neg (by omega), Int.emod_eq_of_lt (by omega) (by omega)]; omega
    · rw [if_neg (show ¬ x + 1 = 0 by omega), if_pos rfl, Int.emod_eq_of_lt (by omega) (by omega)]
  · rw [if_neg (show ¬ (-1 : Int) = 1 by omega)]
    split
    · omega
    · split
      · rename_i h3 h4
        rw [if_pos rfl, show 2 * a - x + 1 = 2 * a by omega, Int.emod_self]; omega
      · rw [if_neg (show ¬ (-1 : Int) = 1 by omega), Int.emod_eq_of_lt (by omega) (by omega)]; omega
theorem lineN_line {a : Int} (ha : 1 ≤ a) : ∀ (n : Nat) {x d : Int}, line a x d → line a (lineN a n x d).1 (lineN a n x d).2
  | 0, _, _, h => h
  | n + 1, _, _, h => lineN_line ha n (line_step ha h)
theorem lineN_ph {a : Int} (ha : 1 ≤ a) : ∀ (n : Nat) {x d : Int}, line a x d → ph a (lineN a n x d).1 (lineN a n x d).2 = (ph a x d + n) % (2 * a)
  | 0, x, d, h => by
    have := ph_bd h
    simp only [lineN]
    rw [Int.emod_eq_of_lt (by omega) (by omega)]; simp
  | n + 1, x, d, h => by
    simp only [lineN]
    rw [lineN_ph ha n (line_step ha h), ph_step ha h, Int.emod_add_emod]
    congr 1
    push_cast
    omega
theorem lineN_eq {a : Int} (ha : 1 ≤ a) (n : Nat) {x d : Int} (h : line a x d) : lineN a n x d = unph a ((ph a x d + n) % (2 * a)) := by
  have h1 := lineN_line ha n h
  rw [← lineN_ph ha n h, unph_ph h1]
theorem lineN_back {a : Int} (ha : 1 ≤ a) (n : Nat) {x d : Int} (h : line a x d) (hn : 2 * a ∣ (n : Int)) : lineN a n x d = (x, d) := by
  obtain ⟨q, hq⟩ := hn
  have := ph_bd h
  rw [lineN_eq ha n h, hq, Int.add_mul_emod_self_left, Int.emod_eq_of_lt (by omega) (by omega), unph_ph h]
theorem lineN_add (a : Int) : ∀ (n m : Nat) (x d : Int), lineN a (n + m) x d = lineN a m (lineN a n x d).1 (lineN a n x d).2
  | 0, m, x, d => by rw [Nat.zero_add]; rfl
  | n + 1, m, x, d => by rw [Nat.add_right_comm]; exact lineN_add a n m _ _
/-- A ball behind n steps. -/
def ballN (a b : Int) (n : Nat) (x y dx dy : Int) : Int × Int × Int × Int := ((lineN a n x dx).1, (lineN b n y dy).1, (lineN a n x dx).2, (lineN b n y dy).2)
theorem ballN_succ (a b : Int) (n : Nat) (x y dx dy : Int) : ballN a b (n + 1) x y dx dy = ballN a b n (x + dx) (y + dy) (turnD a (x + dx) dx) (turnD b (y + dy) dy) := rfl

/-- Both programs' loops of the common divisor come to Nat's gcd. -/
theorem gcd_step {a b : Int} (hb : 0 < b) (ha : 0 ≤ a) : (Int.gcd b (Int.tmod a b) : Int) = Int.gcd a b := by
  obtain ⟨n, rfl⟩ := Int.eq_ofNat_of_zero_le ha
  obtain ⟨m, rfl⟩ := Int.eq_ofNat_of_zero_le (Int.le_of_lt hb)
  rw [Int.tmod_eq_emod_of_nonneg ha]
  rw [show ((n : Int) % (m : Int)) = ((n % m : Nat) : Int) from by simp]
  simp only [Int.gcd, Int.natAbs_natCast]
  rw [Nat.gcd_comm n m, Nat.gcd_rec m n, Nat.gcd_comm]
theorem spec_gcd_l0 (k : Nat) : ∀ a b : Int, 0 ≤ a → 0 ≤ b → b < k → spec_l08Gcd.l0 k a b = some (Int.gcd a b : Int) := by
  induction k with
  | zero => intro a b _ h0 h1; omega
  | succ k ih =>
    intro a b ha hb hk
    simp only [spec_l08Gcd.l0]
    by_cases h : b = 0
    · subst h
      rw [if_pos rfl]
      simp
      omega
    · rw [if_neg h, ih b _ hb (by rw [Int.tmod_eq_emod_of_nonneg ha]; exact Int.emod_nonneg _ h) (by rw [Int.tmod_eq_emod_of_nonneg ha]; have := Int.emod_lt_of_pos a (show 0 < b by omega); omega)]
      rw [gcd_step (by omega) ha]
theorem impl_gcd_l0 (k : Nat) : ∀ a b : Int, 0 ≤ a → 0 ≤ b → b < k → impl_gcd.l0 k a b = some (Int.gcd a b : Int) := by
  induction k with
  | zero => intro a b _ h0 h1; omega
  | succ k ih =>
    intro a b ha hb hk
    simp only [impl_gcd.l0]
    by_cases h : b = 0
    · subst h
      rw [if_pos rfl]
      simp
      omega
    · rw [if_neg h, ih b _ hb (by rw [Int.tmod_eq_emod_of_nonneg ha]; exact Int.emod_nonneg _ h) (by rw [Int.tmod_eq_emod_of_nonneg ha]; have := Int.emod_lt_of_pos a (show 0 < b by omega); omega)]
      rw [gcd_step (by omega) ha]

/-- The period of a table whose sides are from 1 to 50. -/
def per (a b : Int) : Int := 2 * a / (Int.gcd a b : Int) * b
theorem per_alt {a b : Int} (ha : 1 ≤ a) (hb : 1 ≤ b) : 2 * (a / (Int.gcd a b : Int) * b) = per a b := by
  unfold per
  have hd : (Int.gcd a b : Int) ∣ a := Int.gcd_dvd_left ..
  rw [Int.mul_ediv_assoc 2 hd, Int.mul_assoc]
theorem gcd_pos' {a b : Int} (ha : 1 ≤ a) : 1 ≤ (Int.gcd a b : Int) := by
  have : 0 < Int.gcd a b := Int.gcd_pos_of_ne_zero_left b (by omega)
  omega
theorem per_bd {a b : Int} (ha : 1 ≤ a) (ha2 : a ≤ 50) (hb : 1 ≤ b) (hb2 : b ≤ 50) : 0 ≤ a / (Int.gcd a b : Int) ∧ a / (Int.gcd a b : Int) ≤ 50 ∧ 0 ≤ 2 * a / (Int.gcd a b : Int) ∧ 2 * a / (Int.gcd a b : Int) ≤ 100 ∧ 0 < per a b ∧ per a b ≤ 5000 ∧ 0 ≤ a / (Int.gcd a b : Int) * b ∧ a / (Int.gcd a b : Int) * b ≤ 2500 := by
  have hg := gcd_pos' (b := b) ha
  have hd : (Int.gcd a b : Int) ∣ a := Int.gcd_dvd_left ..
  obtain ⟨q, hq⟩ := hd
  generalize hG : (Int.gcd a b : Int) = g at *
  have e1 : a / g = q := by rw [hq]; exact Int.mul_ediv_cancel_left _ (by omega)
  have hq0 : 0 < q := by
    rcases Int.lt_or_le 0 q with h | h
    · exact h
    · have : g * q ≤ 0 := Int.mul_nonpos_of_nonneg_of_nonpos (by omega) h
      omega
  have hqa : q ≤ a := by
    have : 1 * q ≤ g * q := Int.mul_le_mul_of_nonneg_right hg (by omega)
    omega
  have h1 : q * b ≤ 50 * 50 := Int.mul_le_mul (by omega) hb2 (by omega) (by omega)
  have h2 : 0 < q * b := Int.mul_pos hq0 (by omega)
  have e2 : per a b = 2 * (q * b) := by rw [← per_alt ha hb, hG, e1]
  have e3 : 2 * a / g = 2 * q := by rw [hq, Int.mul_left_comm]; exact Int.mul_ediv_cancel_left _ (by omega)
  rw [e1, e2, e3]
  omega
theorem spec_period (k : Nat) (a b : Int) (hk : 50 < k) : spec_BallPeriod.f k a b = some (if 1 ≤ a ∧ a ≤ 50 ∧ 1 ≤ b ∧ b ≤ 50 then per a b else 0) := by
  unfold spec_BallPeriod.f spec_l08Gcd.f
  simp only [table14_eq, Option.bind_some, decide_eq_true_eq]
  by_cases h : 1 ≤ a ∧ a ≤ 50 ∧ 1 ≤ b ∧ b ≤ 50
  · obtain ⟨h1, h2, h3, h4⟩ := h
    have hb := per_bd h1 h2 h3 h4
    have hg := gcd_pos' (b := b) h1
    rw [if_pos ⟨h1, h2, h3, h4⟩, if_pos ⟨h1, h2, h3, h4⟩, spec_gcd_l0 k a b (by omega) (by omega) (by omega)]
    simp only [Option.bind_some]
    rw [if_neg (by omega), pw_wrap (a := 2 * a) (by omega) (by omega), Int.tdiv_eq_ediv_of_nonneg (by omega), pw_wrap (a := 2 * a / _) (by omega) (by omega)]
    rw [pw_wrap (by unfold per at hb; omega) (by unfold per at hb; omega)]
    rfl
  · rw [if_neg h, if_neg h]
theorem impl_period (k : Nat) (a b : Int) (hk : 50 < k) : impl_BallPeriod.f k a b = some (if 1 ≤ a ∧ a ≤ 50 ∧ 1 ≤ b ∧ b ≤ 50 then per a b else 0) := by
  unfold impl_BallPeriod.f impl_gcd.f
  simp only [sideOk_eq, Option.bind_some, decide_eq_true_eq]
  by_cases h : 1 ≤ a ∧ a ≤ 50 ∧ 1 ≤ b ∧ b ≤ 50
  · obtain ⟨h1, h2, h3, h4⟩ := h
    have hb := per_bd h1 h2 h3 h4
    have hg := gcd_pos' (b := b) h1
    rw [if_pos ⟨h1, h2⟩, if_pos ⟨h3, h4⟩, if_pos ⟨h1, h2, h3, h4⟩, impl_gcd_l0 k a b (by omega) (by omega) (by omega)]
    simp only [Option.bind_some]
    rw [if_neg (by omega), Int.tdiv_eq_ediv_of_nonneg (by omega), pw_wrap (a := a / _) (by omega) (by omega), pw_wrap (a := a / _ * b) (by omega) (by omega), per_alt h1 h3, pw_wrap (by omega) (by omega)]
  · by_cases h2 : 1 ≤ a ∧ a ≤ 50
    · rw [if_pos h2, if_neg (fun h3 => h ⟨h2.1, h2.2, h3⟩), if_neg h]
    · rw [if_neg h2, if_neg h]

theorem spec_period_ev {a b : Int} (h : 1 ≤ a ∧ a ≤ 50 ∧ 1 ≤ b ∧ b ≤ 50) : Ev (fun k => spec_BallPeriod.f k a b) (per a b) := ev_k (n := 50) fun k hk => by rw [spec_period k a b hk, if_pos h]
theorem impl_period_ev {a b : Int} (h : 1 ≤ a ∧ a ≤ 50 ∧ 1 ≤ b ∧ b ≤ 50) : Ev (fun k => impl_BallPeriod.f k a b) (per a b) := ev_k (n := 50) fun k hk => by rw [impl_period k a b hk, if_pos h]

/-- How often the sides are reached in n steps. -/
def bounceGo (a b : Int) : Nat → Int → Int → Int → Int → Int → Int → Int × Int
  | 0, u, v, _, _, _, _ => (u, v)
  | n + 1, u, v, x, y, dx, dy => bounceGo a b n (if x + dx = 0 ∨ x + dx = a then u + 1 else u) (if y + dy = 0 ∨ y + dy = b then v + 1 else v) (x + dx) (y + dy) (turnD a (x + dx) dx) (turnD b (y + dy) dy)
theorem spec_bounce_l0 (a b : Int) : ∀ (n : Nat) (u v x y dx dy : Int), 0 ≤ u → u + n ≤ 5000 → 0 ≤ v → v + n ≤ 5000 → ballB a b x y dx dy = true →
    Ev (fun k => spec_BouncesIn.l0 k a b u v (n : Int) x y dx dy) (bounceGo a b n u v x y dx dy) := by
  intro n
  induction n with
  | zero =>
    intro u v x y dx dy hu hu2 hv hv2 hb
    refine ev_up ?_
    simp only [spec_BouncesIn.l0, if_neg (show ¬ ((0 : Nat) : Int) > 0 by omega)]
    exact Ev.now _
  | succ n ih =>
    intro u v x y dx dy hu hu2 hv hv2 hb
    have hn : wrap64 (((n + 1 : Nat) : Int) - 1) = (n : Int) := by unfold wrap64; omega
    have wu : wrap64 (u + 1) = u + 1 := pw_wrap (by omega) (by omega)
    have wv : wrap64 (v + 1) = v + 1 := pw_wrap (by omega) (by omega)
    refine ev_up ?_
    simp only [spec_BouncesIn.l0, if_pos (show ((n + 1 : Nat) : Int) > 0 by omega), step14_eq hb, Option.bind_some]
    rw [bounceGo]
    by_cases hx : x + dx = 0 ∨ x + dx = a
    · have h1 : Ev (fun k => spec_BouncesIn.j1 k a b u v ((n + 1 : Nat) : Int) true (x + dx) (y + dy) (turnD a (x + dx) dx) (turnD b (y + dy) dy)) (bounceGo a b n (u + 1) (if y + dy = 0 ∨ y + dy = b then v + 1 else v) (x + dx) (y + dy) (turnD a (x + dx) dx) (turnD b (y + dy) dy)) := by
        refine ev_up ?_
        by_cases hy : y + dy = 0
        · simp only [spec_BouncesIn.j1, if_true, if_pos hy, if_pos (show y + dy = 0 ∨ y + dy = b from .inl hy), hn, wu, wv]
          exact ih (u + 1) (v + 1) _ _ _ _ (by omega) (by omega) (by omega) (by omega) (ballB_step hb)
        · by_cases hy2 : y + dy = b
          · simp only [spec_BouncesIn.j1, if_true, if_neg hy, if_pos hy2, if_pos (show y + dy = 0 ∨ y + dy = b from .inr hy2), hn, wu, wv]
            exact ih (u + 1) (v + 1) _ _ _ _ (by omega) (by omega) (by omega) (by omega) (ballB_step hb)
          · simp only [spec_BouncesIn.j1, if_true, if_neg hy, if_neg hy2, if_neg (show ¬ (y + dy = 0 ∨ y + dy = b) by omega), hn, wu]
            exact ih (u + 1) v _ _ _ _ (by omega) (by omega) (by omega) (by omega) (ballB_step hb)
      rw [if_pos hx]
      by_cases hx0 : x + dx = 0
      · simp only [if_pos hx0]
        exact h1
      · have hxa : x + dx = a := by omega
        simp only [if_neg hx0, show (x + dx == a) = true from by simpa using hxa]
        exact h1
    · have h1 : Ev (fun k => spec_BouncesIn.j1 k a b u v ((n + 1 : Nat) : Int) false (x + dx) (y + dy) (turnD a (x + dx) dx) (turnD b (y + dy) dy)) (bounceGo a b n u (if y + dy = 0 ∨ y + dy = b then v + 1 else v) (x + dx) (y + dy) (turnD a (x + dx) dx) (turnD b (y + dy) dy)) := by
        refine ev_up ?_
        by_cases hy : y + dy = 0
        · simp only [spec_BouncesIn.j1, Bool.false_eq_true, if_false, if_pos hy, if_pos (show y + dy = 0 ∨ y + dy = b from .inl hy), hn, wv]
          exact ih u (v + 1) _ _ _ _ (by omega) (by omega) (by omega) (by omega) (ballB_step hb)
        · by_cases hy2 : y + dy = b
          · simp only [spec_BouncesIn.j1, Bool.false_eq_true, if_false, if_neg hy, if_pos hy2, if_pos (show y + dy = 0 ∨ y + dy = b from .inr hy2), hn, wv]
            exact ih u (v + 1) _ _ _ _ (by omega) (by omega) (by omega) (by omega) (ballB_step hb)
          · simp only [spec_BouncesIn.j1, Bool.false_eq_true, if_false, if_neg hy, if_neg hy2, if_neg (show ¬ (y + dy = 0 ∨ y + dy = b) by omega), hn]
            exact ih u v _ _ _ _ (by omega) (by omega) (by omega) (by omega) (ballB_step hb)
      rw [if_neg hx]
      simp only [if_neg (show ¬ x + dx = 0 by omega), show (x + dx == a) = false from by simp; omega]
      exact h1
theorem impl_bounce_l0 (a b : Int) : ∀ (n : Nat) (u v x y dx dy : Int), 0 ≤ u → u + n ≤ 5000 → 0 ≤ v → v + n ≤ 5000 → ballB a b x y dx dy = true →
    Ev (fun k => impl_BouncesIn.l0 k a b u v (n : Int) x y dx dy) (bounceGo a b n u v x y dx dy) := by
  intro n
  induction n with
  | zero =>
    intro u v x y dx dy hu hu2 hv hv2 hb
    refine ev_up ?_
    simp only [impl_BouncesIn.l0, if_neg (show ¬ ((0 : Nat) : Int) > 0 by omega)]
    exact Ev.now _
  | succ n ih =>
    intro u v x y dx dy hu hu2 hv hv2 hb
    have hn : wrap64 (((n + 1 : Nat) : Int) - 1) = (n : Int) := by unfold wrap64; omega
    have wu : wrap64 (u + 1) = u + 1 := pw_wrap (by omega) (by omega)
    have wv : wrap64 (v + 1) = v + 1 := pw_wrap (by omega) (by omega)
    refine ev_up ?_
    simp only [impl_BouncesIn.l0, if_pos (show ((n + 1 : Nat) : Int) > 0 by omega), impl_ballStep hb, Option.bind_some]
    rw [bounceGo]
    by_cases hx : x + dx = 0 ∨ x + dx = a
    · have h1 : Ev (fun k => impl_BouncesIn.j1 k a b u v ((n + 1 : Nat) : Int) true (x + dx) (y + dy) (turnD a (x + dx) dx) (turnD b (y + dy) dy)) (bounceGo a b n (u + 1) (if y + dy = 0 ∨ y + dy = b then v + 1 else v) (x + dx) (y + dy) (turnD a (x + dx) dx) (turnD b (y + dy) dy)) := by
        refine ev_up ?_
        by_cases hy : y + dy = 0
        · simp only [impl_BouncesIn.j1, if_true, if_pos hy, if_pos (show y + dy = 0 ∨ y + dy = b from .inl hy), hn, wu, wv]
          exact ih (u + 1) (v + 1) _ _ _ _ (by omega) (by omega) (by omega) (by omega) (ballB_step hb)
        · by_cases hy2 : y + dy = b
          · simp only [impl_BouncesIn.j1, if_true, if_neg hy, if_pos hy2, if_pos (show y + dy = 0 ∨ y + dy = b from .inr hy2), hn, wu, wv]
            exact ih (u + 1) (v + 1) _ _ _ _ (by omega) (by omega) (by omega) (by omega) (ballB_step hb)
          · simp only [impl_BouncesIn.j1, if_true, if_neg hy, if_neg hy2, if_neg (show ¬ (y + dy = 0 ∨ y + dy = b) by omega), hn, wu]
            exact ih (u + 1) v _ _ _ _ (by omega) (by omega) (by omega) (by omega) (ballB_step hb)
      rw [if_pos hx]
      by_cases hx0 : x + dx = 0
      · simp only [if_pos hx0]
        exact h1
      · have hxa : x + dx = a := by omega
        simp only [if_neg hx0, show (x + dx == a) = true from by simpa using hxa]
        exact h1
    · have h1 : Ev (fun k => impl_BouncesIn.j1 k a b u v ((n + 1 : Nat) : Int) false (x + dx) (y + dy) (turnD a (x + dx) dx) (turnD b (y + dy) dy)) (bounceGo a b n u (if y + dy = 0 ∨ y + dy = b then v + 1 else v) (x + dx) (y + dy) (turnD a (x + dx) dx) (turnD b (y + dy) dy)) := by
        refine ev_up ?_
        by_cases hy : y + dy = 0
        · simp only [impl_BouncesIn.j1, Bool.false_eq_true, if_false, if_pos hy, if_pos (show y + dy = 0 ∨ y + dy = b from .inl hy), hn, wv]
          exact ih u (v + 1) _ _ _ _ (by omega) (by omega) (by omega) (by omega) (ballB_step hb)
        · by_cases hy2 : y + dy = b
          · simp only [impl_BouncesIn.j1, Bool.false_eq_true, if_false, if_neg hy, if_pos hy2, if_pos (show y + dy = 0 ∨ y + dy = b from .inr hy2), hn, wv]
            exact ih u (v + 1) _ _ _ _ (by omega) (by omega) (by omega) (by omega) (ballB_step hb)
          · simp only [impl_BouncesIn.j1, Bool.false_eq_true, if_false, if_neg hy, if_neg hy2, if_neg (show ¬ (y + dy = 0 ∨ y + dy = b) by omega), hn]
            exact ih u v _ _ _ _ (by omega) (by omega) (by omega) (by omega) (ballB_step hb)
      rw [if_neg hx]
      simp only [if_neg (show ¬ x + dx = 0 by omega), show (x + dx == a) = false from by simp; omega]
      exact h1
/-- What both answer. -/
def bouncesOf (a b x y dx dy : Int) : Int × Int := if ballB a b x y dx dy = true then bounceGo a b (per a b).toNat 0 0 x y dx dy else (0, 0)
theorem spec_bounces (a b x y dx dy : Int) : Ev (fun k => spec_BouncesIn.f k a b x y dx dy) (bouncesOf a b x y dx dy) := by
  unfold spec_BouncesIn.f bouncesOf
  simp only [spec_ballOk, Option.bind_some]
  by_cases hb : ballB a b x y dx dy = true
  · have hbs := (ballB_side hb).1
    have hp := per_bd hbs.1 hbs.2.1 hbs.2.2.1 hbs.2.2.2
    have e : ((per a b).toNat : Int) = per a b := by omega
    simp only [if_pos hb]
    refine Ev.bind (spec_period_ev hbs) ?_
    have := spec_bounce_l0 a b (per a b).toNat 0 0 x y dx dy (by omega) (by omega) (by omega) (by omega) hb
    rw [e] at this
    exact this
  · simp only [if_neg hb]
    exact Ev.now _
theorem impl_bounces (a b x y dx dy : Int) : Ev (fun k => impl_BouncesIn.f k a b x y dx dy) (bouncesOf a b x y dx dy) := by
  unfold impl_BouncesIn.f bouncesOf
  simp only [impl_ballOk, Option.bind_some]
  by_cases hb : ballB a b x y dx dy = true
  · have hbs := (ballB_side hb).1
    have hp := per_bd hbs.1 hbs.2.1 hbs.2.2.1 hbs.2.2.2
    have e : ((per a b).toNat : Int) = per a b := by omega
    simp only [if_pos hb]
    refine Ev.bind (impl_period_ev hbs) ?_
    have := impl_bounce_l0 a b (per a b).toNat 0 0 x y dx dy (by omega) (by omega) (by omega) (by omega) hb
    rw [e] at this
    exact this
  · simp only [if_neg hb]
    exact Ev.now _

theorem FnExactBouncesIn : laws_FnExactBouncesIn.Pure := by
  intro a b x y dx dy _ _ _ _ _ _
  apply Ev.rounds
  unfold laws_FnExactBouncesIn.f
  simp only [toBall_eq, Option.bind_some]
  refine Ev.bind (spec_bounces a b x y dx dy) ?_
  refine Ev.bind (impl_bounces a b x y dx dy) ?_
  simp only [if_true]
  exact Ev.now _

end Go.Proofs.Ytekegepppjmldaa.Pure
