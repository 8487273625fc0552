/- A ball reaches a corner exactly if its phases agree modulo the common divisor of the sides, and then at the first time: for all codes. -/
import Derived.Test.YtnoopmbhdlfkbaaDoorSayFnCornersHit
namespace Go.Proofs.YtnoopmbhdlfkbaaDoor.Pure
open Go.RowKit Go.Proofs.YtnoopmbhdlfkbaaDoor.S Go.Proofs.YtnoopmbhdlfkbaaDoorW.PrintWords Go.Proofs.YtnoopmbhdlfkbaaDoorW.PrintLast
set_option linter.unusedVariables false
set_option linter.unusedSimpArgs false

theorem ev_up {α : Type} {g : Nat → Option α} {r : α} (h : Ev (fun k => g (k + 1)) r) : Ev g r := Ev.step (fun _ => rfl) h
theorem ev_k {α : Type} {g : Nat → Option α} {r : α} {n : Nat} (h : ∀ k, n < k → g k = some r) : Ev g r := ⟨n + 1, fun k hk => h k (by omega)⟩

theorem pw_wf {a : Int} (h : (Lit.int .i64 a).wf = true) : -9223372036854775808 ≤ a ∧ a ≤ 9223372036854775807 := by
  simp [Lit.wf, IntKind.min, IntKind.max, IntKind.signed, IntKind.bits] at h
  omega
theorem pw_wrap {a : Int} (h0 : -9223372036854775808 ≤ a) (h1 : a ≤ 9223372036854775807) : wrap64 a = a := by
  unfold wrap64
  omega

theorem and255 (x : Int) : 0 ≤ Go.bits .and .i64 x 255 ∧ Go.bits .and .i64 x 255 ≤ 255 := by
  have h : (BitVec.ofInt 64 x &&& BitVec.ofInt 64 255).toNat ≤ 255 := by
    rw [BitVec.toNat_and]
    exact Nat.le_trans Nat.and_le_right (by decide)
  show 0 ≤ IntKind.i64.wrap ((BitVec.ofInt 64 x &&& BitVec.ofInt 64 255).toNat : Int) ∧ IntKind.i64.wrap ((BitVec.ofInt 64 x &&& BitVec.ofInt 64 255).toNat : Int) ≤ 255
  generalize (BitVec.ofInt 64 x &&& BitVec.ofInt 64 255).toNat = n at *
  rw [IntKind.wrap_i64]
  omega
theorem byte_some (l : List Int) (hl : l.length ≤ 4611686018427387904) (i h : Int) (hi : 0 ≤ i) : ∃ v i' h', spec_l01Byte.f l i h = some (v, i', h') ∧ 0 ≤ v ∧ v ≤ 255 ∧ 0 ≤ i' := by
  unfold spec_l01Byte.f
  by_cases h1 : i < (l.length : Int)
  · simp only [if_pos h1, if_pos hi]
    exact ⟨_, _, _, rfl, (and255 _).1, (and255 _).2, by rw [pw_wrap (by omega) (by omega)]; omega⟩
  · simp only [if_neg h1]
    exact ⟨_, _, _, rfl, (and255 _).1, (and255 _).2, hi⟩
theorem below_some (l : List Int) (hl : l.length ≤ 4611686018427387904) (i h : Int) (hi : 0 ≤ i) (n : Int) (h1 : 1 ≤ n) (h2 : n ≤ 256) : ∃ v i' h', spec_l01Below.f l i h n = some (v, i', h') ∧ 0 ≤ v ∧ v < n ∧ 0 ≤ i' := by
  obtain ⟨v, i', h', e, v0, v1, hi'⟩ := byte_some l hl i h hi
  unfold spec_l01Below.f
  simp only [if_neg (show ¬ n ≤ 0 by omega), if_pos h2, e, Option.bind_some, if_neg (show ¬ n = 0 by omega)]
  refine ⟨_, _, _, rfl, ?_, ?_, hi'⟩
  · exact Int.tmod_nonneg _ v0
  · rw [Int.tmod_eq_emod_of_nonneg v0]
    exact Int.emod_lt_of_pos _ (by omega)
theorem new_l0 (l : List Int) (hl : l.length ≤ 4611686018427387904) : ∀ (d : Nat) (x i : Int), 0 ≤ i → i + d = 4000 → ∃ h, Ev (fun k => spec_l01New.l0 k l x i) (l, 0, h)
  | 0, x, i, h0, h1 => by
    by_cases h : i < (l.length : Int)
    · refine ⟨x, ev_up ?_⟩
      simp only [spec_l01New.l0, if_pos h, if_neg (show ¬ i < 4000 by omega)]
      exact Ev.now _
    · refine ⟨x, ev_up ?_⟩
      simp only [spec_l01New.l0, if_neg h]
      exact Ev.now _
  | d + 1, x, i, h0, h1 => by
    by_cases h : i < (l.length : Int)
    · obtain ⟨r, hr⟩ := new_l0 l hl d (Go.bits .and .i64 (wrap64 ((wrap64 ((wrap64 (x * 109)) + (wrap64 (rd l i)))) + 7)) 1073741823) (i + 1) (by omega) (by omega)
      refine ⟨r, ev_up ?_⟩
      simp only [spec_l01New.l0, if_pos h, if_pos (show i < 4000 by omega), if_pos h0, pw_wrap (a := i + 1) (by omega) (by omega)]
      exact hr
    · refine ⟨x, ev_up ?_⟩
      simp only [spec_l01New.l0, if_neg h]
      exact Ev.now _
theorem new_some (l : List Int) (hl : l.length ≤ 4611686018427387904) : ∃ h, Ev (fun k => spec_l01New.f k l) (l, 0, h) := by
  unfold spec_l01New.f
  exact new_l0 l hl 4000 _ 0 (by omega) (by omega)
theorem sideOk_eq (a : Int) : impl_sideOk.f a = some (decide (1 ≤ a ∧ a ≤ 50)) := by
  unfold impl_sideOk.f
  split
  · rename_i h
    by_cases h2 : a ≤ 50
    · rw [decide_eq_true h2, decide_eq_true ⟨h, h2⟩]
    · rw [decide_eq_false h2, decide_eq_false (fun h => h2 h.2)]
  · rename_i h
    rw [decide_eq_false (fun h2 => h h2.1)]

/-- A coordinate and its change are valid. -/
abbrev line (a x d : Int) : Prop := 0 ≤ x ∧ x ≤ a ∧ (d = 1 ∧ x < a ∨ d = -1 ∧ 0 < x)
theorem turnOk_eq (a x d : Int) (ha : 1 ≤ a) : impl_turnOk.f a x d = some (decide (line a x d)) := by
  unfold impl_turnOk.f
  repeat' split
  all_goals first
    | (rw [decide_eq_true (by omega)]; done)
    | (rw [decide_eq_false (by omega)]; done)
    | (rename_i h; by_cases h9 : d = -1
       · subst h9; first | (rw [decide_eq_true (by omega)]; rfl) | (rw [decide_eq_false (by omega)]; rfl)
       · rw [show (d == -1) = false from by simpa using h9]; rw [decide_eq_false (by omega)])
/-- A ball on a table is valid. -/
def ballB (a b x y dx dy : Int) : Bool := decide ((1 ≤ a ∧ a ≤ 50 ∧ 1 ≤ b ∧ b ≤ 50) ∧ line a x dx ∧ line b y dy)
theorem impl_ballOk (a b x y dx dy : Int) : impl_BallOk.f a b x y dx dy = some (ballB a b x y dx dy) := by
  unfold impl_BallOk.f ballB
  simp only [sideOk_eq, Option.bind_some, decide_eq_true_eq]
  by_cases h : 1 ≤ a ∧ a ≤ 50
  · rw [if_pos h]
    by_cases h2 : 1 ≤ b ∧ b ≤ 50
    · rw [if_pos h2, turnOk_eq a x dx h.1]
      simp only [Option.bind_some, decide_eq_true_eq]
      by_cases h3 : line a x dx
      · rw [if_pos h3, turnOk_eq b y dy h2.1]
        simp only [Option.bind_some]
        by_cases h4 : line b y dy
        · rw [decide_eq_true h4, decide_eq_true ⟨⟨h.1, h.2, h2⟩, h3, h4⟩]
        · rw [decide_eq_false h4, decide_eq_false (fun h => h4 h.2.2)]
      · rw [if_neg h3, decide_eq_false (fun h => h3 h.2.1)]
    · rw [if_neg h2, decide_eq_false (fun h => h2 h.1.2.2)]
  · rw [if_neg h, decide_eq_false (fun h2 => h ⟨h2.1.1, h2.1.2.1⟩)]
theorem ballB_side {a b x y dx dy : Int} (h : ballB a b x y dx dy = true) : (1 ≤ a ∧ a ≤ 50 ∧ 1 ≤ b ∧ b ≤ 50) ∧ line a x dx ∧ line b y dy := by
  unfold ballB at h
  exact of_decide_eq_true h
/-- A change after a side may have been reached. -/
def turnD (a x d : Int) : Int := if x = a then -1 else if x = 0 then 1 else d
theorem turn14_eq (a x d : Int) : spec_l14Turn.f a x d = some (turnD a x d) := by
  unfold spec_l14Turn.f turnD
  split
  · rfl
  · split <;> rfl
theorem line_step {a x d : Int} (ha : 1 ≤ a) (h : line a x d) : line a (x + d) (turnD a (x + d) d) := by
  unfold turnD
  simp only [line] at h ⊢
  split
  · omega
  · split <;> omega
theorem moved_eq {a x d : Int} (ha : 1 ≤ a ∧ a ≤ 50) (h : line a x d) : impl_moved.f a x d = some (x + d, turnD a (x + d) d) := by
  unfold impl_moved.f turnD
  rw [pw_wrap (a := x + d) (by simp only [line] at h; omega) (by simp only [line] at h; omega)]
  split
  · split
    · omega
    · rfl
  · split <;> rfl
theorem impl_ballStep {a b x y dx dy : Int} (h : ballB a b x y dx dy = true) : impl_BallStep.f a b x y dx dy = some (x + dx, y + dy, turnD a (x + dx) dx, turnD b (y + dy) dy, true) := by
  obtain ⟨h1, h2, h3⟩ := ballB_side h
  unfold impl_BallStep.f
  simp only [impl_ballOk, h, Option.bind_some, if_true]
  rw [moved_eq ⟨h1.1, h1.2.1⟩ h2, moved_eq h1.2.2 h3]
  rfl
theorem ballB_step {a b x y dx dy : Int} (h : ballB a b x y dx dy = true) : ballB a b (x + dx) (y + dy) (turnD a (x + dx) dx) (turnD b (y + dy) dy) = true := by
  obtain ⟨h1, h2, h3⟩ := ballB_side h
  exact decide_eq_true ⟨h1, line_step h1.1 h2, line_step h1.2.2.1 h3⟩

theorem ball_some (l : List Int) (hl : l.length ≤ 4611686018427387904) : ∃ a b x y dx dy, Ev (fun k => spec_MakeBall.f k l) (a, b, x, y, dx, dy) ∧ ballB a b x y dx dy = true := by
  obtain ⟨h, e⟩ := new_some l hl
  obtain ⟨v1, i1, h1, e1, p1, q1, r1⟩ := below_some l hl 0 h (by omega) 12 (by omega) (by omega)
  obtain ⟨v2, i2, h2, e2, p2, q2, r2⟩ := below_some l hl i1 h1 r1 12 (by omega) (by omega)
  obtain ⟨v3, i3, h3, e3, p3, q3, r3⟩ := below_some l hl i2 h2 r2 (1 + v1 + 1) (by omega) (by omega)
  obtain ⟨v4, i4, h4, e4, p4, q4, r4⟩ := below_some l hl i3 h3 r3 (1 + v2 + 1) (by omega) (by omega)
  obtain ⟨v5, i5, h5, e5, p5, q5, r5⟩ := below_some l hl i4 h4 r4 2 (by omega) (by omega)
  obtain ⟨v6, i6, h6, e6, p6, q6, r6⟩ := below_some l hl i5 h5 r5 2 (by omega) (by omega)
  unfold spec_MakeBall.f
  refine ⟨1 + v1, 1 + v2, v3, v4, turnD (1 + v1) v3 (2 * v5 - 1), turnD (1 + v2) v4 (2 * v6 - 1), Ev.bind e ?_, ?_⟩
  · unfold spec_l14Draw.f
    simp only [e1, e2, Option.bind_some, pw_wrap (a := 1 + v1) (by omega) (by omega), pw_wrap (a := 1 + v2) (by omega) (by omega), pw_wrap (a := 1 + v1 + 1) (by omega) (by omega), pw_wrap (a := 1 + v2 + 1) (by omega) (by omega), e3, e4, e5, e6, pw_wrap (a := 2 * v5) (by omega) (by omega), pw_wrap (a := 2 * v6) (by omega) (by omega), pw_wrap (a := 2 * v5 - 1) (by omega) (by omega), pw_wrap (a := 2 * v6 - 1) (by omega) (by omega), turn14_eq]
    exact Ev.now _
  · unfold ballB
    apply decide_eq_true
    refine ⟨by omega, ?_, ?_⟩
    · unfold line turnD
      split <;> (try split) <;> omega
    · unfold line turnD
      split <;> (try split) <;> omega

/-- One coordinate behind n steps. -/
def lineN (a : Int) : Nat → Int → Int → Int × Int
  | 0, x, d => (x, d)
  | n + 1, x, d => lineN a n (x + d) (turnD a (x + d) d)
/-- How far the unfolded ball is. -/
def ph (a x d : Int) : Int := if d = 1 then x else 2 * a - x
def unph (a p : Int) : Int × Int := if p < a then (p, 1) else (2 * a - p, -1)
theorem ph_bd {a x d : Int} (h : line a x d) : 0 ≤ ph a x d ∧ ph a x d < 2 * a := by
  simp only [line] at h
  unfold ph
  split <;> omega
theorem unph_ph {a x d : Int} (h : line a x d) : unph a (ph a x d) = (x, d) := by
  simp only [line] at h
  unfold unph ph
  rcases h with ⟨h0, h1, ⟨rfl, h2⟩ | ⟨rfl, h2⟩⟩
  · simp [h2]
  · rw [if_neg (show ¬ (-1 : Int) = 1 by omega), if_neg (by omega)]
    simp
    omega
theorem ph_step {a x d : Int} (ha : 1 ≤ a) (h : line a x d) : ph a (x + d) (turnD a (x + d) d) = (ph a x d + 1) % (2 * a) := by
  simp only [line] at h
  unfold ph turnD
  rcases h with ⟨h0, h1, ⟨rfl, h2⟩ | ⟨rfl, h2⟩⟩
  · rw [if_pos rfl]
    split
    · rename_i h3
      rw [if_neg (by omega), Int.emod_eq_of_lt (by omega) (by omega)]; omega
    · rw [if_neg (show ¬ x + 1 = 0 by omega), if_pos rfl, Int.emod_eq_of_lt (by omega) (by omega)]
  · rw [if_neg (show ¬ (-1 : Int) = 1 by omega)]
    split
    · omega
    · split
      · rename_i h3 h4
        rw [if_pos rfl, show 2 * a - x + 1 = 2 * a by omega, Int.emod_self]; omega
      · rw [if_neg (show ¬ (-1 : Int) = 1 by omega), Int.emod_eq_of_lt (by omega) (by omega)]; omega
theorem lineN_line {a : Int} (ha : 1 ≤ a) : ∀ (n : Nat) {x d : Int}, line a x d → line a (lineN a n x d).1 (lineN a n x d).2
  | 0, _, _, h => h
  | n + 1, _, _, h => lineN_line ha n (line_step ha h)
theorem lineN_ph {a : Int} (ha : 1 ≤ a) : ∀ (n : Nat) {x d : Int}, line a x d → ph a (lineN a n x d).1 (lineN a n x d).2 = (ph a x d + n) % (2 * a)
  | 0, x, d, h => by
    have := ph_bd h
    simp only [lineN]
    rw [Int.emod_eq_of_lt (by omega) (by omega)]; simp
  | n + 1, x, d, h => by
    simp only [lineN]
    rw [lineN_ph ha n (line_step ha h), ph_step ha h, Int.emod_add_emod]
    congr 1
    push_cast
    omega
theorem lineN_eq {a : Int} (ha : 1 ≤ a) (n : Nat) {x d : Int} (h : line a x d) : lineN a n x d = unph a ((ph a x d + n) % (2 * a)) := by
  have h1 := lineN_line ha n h
  rw [← lineN_ph ha n h, unph_ph h1]
theorem lineN_back {a : Int} (ha : 1 ≤ a) (n : Nat) {x d : Int} (h : line a x d) (hn : 2 * a ∣ (n : Int)) : lineN a n x d = (x, d) := by
  obtain ⟨q, hq⟩ := hn
  have := ph_bd h
  rw [lineN_eq ha n h, hq, Int.add_mul_emod_self_left, Int.emod_eq_of_lt (by omega) (by omega), unph_ph h]
theorem lineN_add (a : Int) : ∀ (n m : Nat) (x d : Int), lineN a (n + m) x d = lineN a m (lineN a n x d).1 (lineN a n x d).2
  | 0, m, x, d => by rw [Nat.zero_add]; rfl
  | n + 1, m, x, d => by rw [Nat.add_right_comm]; exact lineN_add a n m _ _
/-- A ball behind n steps. -/
def ballN (a b : Int) (n : Nat) (x y dx dy : Int) : Int × Int × Int × Int := ((lineN a n x dx).1, (lineN b n y dy).1, (lineN a n x dx).2, (lineN b n y dy).2)
theorem ballN_succ (a b : Int) (n : Nat) (x y dx dy : Int) : ballN a b (n + 1) x y dx dy = ballN a b n (x + dx) (y + dy) (turnD a (x + dx) dx) (turnD b (y + dy) dy) := rfl

/-- Both programs' loops of the common divisor come to Nat's gcd. -/
theorem gcd_step {a b : Int} (hb : 0 < b) (ha : 0 ≤ a) : (Int.gcd b (Int.tmod a b) : Int) = Int.gcd a b := by
  obtain ⟨n, rfl⟩ := Int.eq_ofNat_of_zero_le ha
  obtain ⟨m, rfl⟩ := Int.eq_ofNat_of_zero_le (Int.le_of_lt hb)
  rw [Int.tmod_eq_emod_of_nonneg ha]
  rw [show ((n : Int) % (m : Int)) = ((n % m : Nat) : Int) from by simp]
  simp only [Int.gcd, Int.natAbs_natCast]
  rw [Nat.gcd_comm n m, Nat.gcd_rec m n, Nat.gcd_comm]
theorem impl_gcd_l0 (k : Nat) : ∀ a b : Int, 0 ≤ a → 0 ≤ b → b < k → impl_gcd.l0 k a b = some (Int.gcd a b : Int) := by
  induction k with
  | zero => intro a b _ h0 h1; omega
  | succ k ih =>
    intro a b ha hb hk
    simp only [impl_gcd.l0]
    by_cases h : b = 0
    · subst h
      rw [if_pos rfl]
      simp
      omega
    · rw [if_neg h, ih b _ hb (by rw [Int.tmod_eq_emod_of_nonneg ha]; exact Int.emod_nonneg _ h) (by rw [Int.tmod_eq_emod_of_nonneg ha]; have := Int.emod_lt_of_pos a (show 0 < b by omega); omega)]
      rw [gcd_step (by omega) ha]

/-- The period of a table whose sides are from 1 to 50. -/
def per (a b : Int) : Int := 2 * a / (Int.gcd a b : Int) * b
theorem per_alt {a b : Int} (ha : 1 ≤ a) (hb : 1 ≤ b) : 2 * (a / (Int.gcd a b : Int) * b) = per a b := by
  unfold per
  have hd : (Int.gcd a b : Int) ∣ a := Int.gcd_dvd_left ..
  rw [Int.mul_ediv_assoc 2 hd, Int.mul_assoc]
theorem gcd_pos' {a b : Int} (ha : 1 ≤ a) : 1 ≤ (Int.gcd a b : Int) := by
  have : 0 < Int.gcd a b := Int.gcd_pos_of_ne_zero_left b (by omega)
  omega
theorem per_bd {a b : Int} (ha : 1 ≤ a) (ha2 : a ≤ 50) (hb : 1 ≤ b) (hb2 : b ≤ 50) : 0 ≤ a / (Int.gcd a b : Int) ∧ a / (Int.gcd a b : Int) ≤ 50 ∧ 0 ≤ 2 * a / (Int.gcd a b : Int) ∧ 2 * a / (Int.gcd a b : Int) ≤ 100 ∧ 0 < per a b ∧ per a b ≤ 5000 ∧ 0 ≤ a / (Int.gcd a b : Int) * b ∧ a / (Int.gcd a b : Int) * b ≤ 2500 := by
  have hg := gcd_pos' (b := b) ha
  have hd : (Int.gcd a b : Int) ∣ a := Int.gcd_dvd_left ..
  obtain ⟨q, hq⟩ := hd
  generalize hG : (Int.gcd a b : Int) = g at *
  have e1 : a / g = q := by rw [hq]; exact Int.mul_ediv_cancel_left _ (by omega)
  have hq0 : 0 < q := by
    rcases Int.lt_or_le 0 q with h | h
    · exact h
    · have : g * q ≤ 0 := Int.mul_nonpos_of_nonneg_of_nonpos (by omega) h
      omega
  have hqa : q ≤ a := by
    have : 1 * q ≤ g * q := Int.mul_le_mul_of_nonneg_right hg (by omega)
    omega
  have h1 : q * b ≤ 50 * 50 := Int.mul_le_mul (by omega) hb2 (by omega) (by omega)
  have h2 : 0 < q * b := Int.mul_pos hq0 (by omega)
  have e2 : per a b = 2 * (q * b) := by rw [← per_alt ha hb, hG, e1]
  have e3 : 2 * a / g = 2 * q := by rw [hq, Int.mul_left_comm]; exact Int.mul_ediv_cancel_left _ (by omega)
  rw [e1, e2, e3]
  omega
theorem impl_period (k : Nat) (a b : Int) (hk : 50 < k) : impl_BallPeriod.f k a b = some (if 1 ≤ a ∧ a ≤ 50 ∧ 1 ≤ b ∧ b ≤ 50 then per a b else 0) := by
  unfold impl_BallPeriod.f impl_gcd.f
  simp only [sideOk_eq, Option.bind_some, decide_eq_true_eq]
  by_cases h : 1 ≤ a ∧ a ≤ 50 ∧ 1 ≤ b ∧ b ≤ 50
  · obtain ⟨h1, h2, h3, h4⟩ := h
    have hb := per_bd h1 h2 h3 h4
    have hg := gcd_pos' (b := b) h1
    rw [if_pos ⟨h1, h2⟩, if_pos ⟨h3, h4⟩, if_pos ⟨h1, h2, h3, h4⟩, impl_gcd_l0 k a b (by omega) (by omega) (by omega)]
    simp only [Option.bind_some]
    rw [if_neg (by omega), Int.tdiv_eq_ediv_of_nonneg (by omega), pw_wrap (a := a / _) (by omega) (by omega), pw_wrap (a := a / _ * b) (by omega) (by omega), per_alt h1 h3, pw_wrap (by omega) (by omega)]
  · by_cases h2 : 1 ≤ a ∧ a ≤ 50
    · rw [if_pos h2, if_neg (fun h3 => h ⟨h2.1, h2.2, h3⟩), if_neg h]
    · rw [if_neg h2, if_neg h]

theorem impl_period_ev {a b : Int} (h : 1 ≤ a ∧ a ≤ 50 ∧ 1 ≤ b ∧ b ≤ 50) : Ev (fun k => impl_BallPeriod.f k a b) (per a b) := ev_k (n := 50) fun k hk => by rw [impl_period k a b hk, if_pos h]

/-- The ball is in a corner. -/
abbrev inCorner (a b x y : Int) : Prop := (x = 0 ∨ x = a) ∧ (y = 0 ∨ y = b)
/-- The first time, of n, at which it is so; -1 if there is none. -/
def cornerGo (a b : Int) : Nat → Int → Int → Int → Int → Int → Int
  | 0, _, _, _, _, _ => -1
  | n + 1, i, x, y, dx, dy => if inCorner a b x y then i else cornerGo a b n (i + 1) (x + dx) (y + dy) (turnD a (x + dx) dx) (turnD b (y + dy) dy)
theorem cornerGo_last (a b : Int) : ∀ (n : Nat) (i x y dx dy : Int), 0 ≤ i →
    cornerGo a b (n + 1) i x y dx dy = if cornerGo a b n i x y dx dy = -1 then (if inCorner a b (ballN a b n x y dx dy).1 (ballN a b n x y dx dy).2.1 then i + n else -1) else cornerGo a b n i x y dx dy := by
  intro n
  induction n with
  | zero =>
    intro i x y dx dy hi
    simp [cornerGo, ballN, lineN]
  | succ n ih =>
    intro i x y dx dy hi
    rw [cornerGo]
    by_cases hc : inCorner a b x y
    · rw [if_pos hc]
      have : cornerGo a b (n + 1) i x y dx dy = i := by rw [cornerGo, if_pos hc]
      rw [this, if_neg (by omega)]
    · rw [if_neg hc, ih _ _ _ _ _ (by omega)]
      have : cornerGo a b (n + 1) i x y dx dy = cornerGo a b n (i + 1) (x + dx) (y + dy) (turnD a (x + dx) dx) (turnD b (y + dy) dy) := by rw [cornerGo, if_neg hc]
      rw [this, ballN_succ]
      congr 1
      congr 1
      push_cast
      omega
theorem per_dvd {a b : Int} (ha : 1 ≤ a) (hb : 1 ≤ b) : 2 * a ∣ per a b ∧ 2 * b ∣ per a b := by
  have h1 : (Int.gcd a b : Int) ∣ a := Int.gcd_dvd_left ..
  have h2 : (Int.gcd a b : Int) ∣ b := Int.gcd_dvd_right ..
  rw [← per_alt ha hb]
  have hg := gcd_pos' (b := b) ha
  constructor
  · obtain ⟨p, hp⟩ := h1
    obtain ⟨q, hq⟩ := h2
    refine ⟨q, ?_⟩
    generalize (Int.gcd a b : Int) = g at *
    rw [hp, Int.mul_ediv_cancel_left _ (by omega : g ≠ 0), hq]
    simp only [Int.mul_assoc, Int.mul_left_comm, Int.mul_comm]
  · refine ⟨a / (Int.gcd a b : Int), ?_⟩
    simp only [Int.mul_assoc, Int.mul_left_comm, Int.mul_comm]
theorem ballN_per {a b x y dx dy : Int} (h : ballB a b x y dx dy = true) : ballN a b (per a b).toNat x y dx dy = (x, y, dx, dy) := by
  obtain ⟨h1, h2, h3⟩ := ballB_side h
  have hp := per_bd h1.1 h1.2.1 h1.2.2.1 h1.2.2.2
  have hd := per_dvd h1.1 h1.2.2.1
  have e : ((per a b).toNat : Int) = per a b := by omega
  unfold ballN
  rw [lineN_back h1.1 _ h2 (by rw [e]; exact hd.1), lineN_back h1.2.2.1 _ h3 (by rw [e]; exact hd.2)]
theorem corner_more {a b x y dx dy : Int} (h : ballB a b x y dx dy = true) : cornerGo a b ((per a b).toNat + 1) 0 x y dx dy = cornerGo a b (per a b).toNat 0 x y dx dy := by
  obtain ⟨h1, h2, h3⟩ := ballB_side h
  have hp := per_bd h1.1 h1.2.1 h1.2.2.1 h1.2.2.2
  rw [cornerGo_last a b _ 0 x y dx dy (by omega), ballN_per h]
  by_cases hc : cornerGo a b (per a b).toNat 0 x y dx dy = -1
  · rw [if_pos hc]
    have hn : ¬ inCorner a b x y := by
      intro hi
      obtain ⟨m, hm⟩ : ∃ m, (per a b).toNat = m + 1 := ⟨(per a b).toNat - 1, by omega⟩
      rw [hm, cornerGo, if_pos hi] at hc
      omega
    rw [if_neg hn, hc]
  · rw [if_neg hc]
theorem impl_corner_l0 (a b : Int) : ∀ (n : Nat) (i x y dx dy : Int), 0 ≤ i → i + n = per a b + 1 → ballB a b x y dx dy = true →
    Ev (fun k => impl_StepsToCorner.l0 k a b i x y dx dy) (cornerGo a b n i x y dx dy) := by
  intro n
  induction n with
  | zero =>
    intro i x y dx dy h0 hi hb
    refine ev_up ?_
    simp only [impl_StepsToCorner.l0]
    refine Ev.bind (impl_period_ev (ballB_side hb).1) ?_
    simp only [if_neg (show ¬ i ≤ per a b by omega)]
    exact Ev.now _
  | succ n ih =>
    intro i x y dx dy h0 hi hb
    have hbs := (ballB_side hb).1
    have hp := per_bd hbs.1 hbs.2.1 hbs.2.2.1 hbs.2.2.2
    refine ev_up ?_
    simp only [impl_StepsToCorner.l0]
    refine Ev.bind (impl_period_ev hbs) ?_
    have := ih (i + 1) _ _ _ _ (by omega) (by omega) (ballB_step hb)
    rw [cornerGo]
    by_cases hx : x = 0
    · by_cases hy : y = 0
      · simp only [if_pos (show i ≤ per a b by omega), if_pos hx, if_pos hy, if_pos (show inCorner a b x y from ⟨.inl hx, .inl hy⟩)]
        exact Ev.now _
      · by_cases hy2 : y = b
        · simp only [if_pos (show i ≤ per a b by omega), if_pos hx, if_neg hy, if_pos hy2, if_pos (show inCorner a b x y from ⟨.inl hx, .inr hy2⟩)]
          exact Ev.now _
        · simp only [if_pos (show i ≤ per a b by omega), if_pos hx, if_neg hy, if_neg hy2, if_neg (show ¬ inCorner a b x y by simp only [inCorner]; omega), impl_ballStep hb, Option.bind_some, pw_wrap (a := i + 1) (by omega) (by omega)]
          exact this
    · by_cases hx2 : x = a
      · by_cases hy : y = 0
        · simp only [if_pos (show i ≤ per a b by omega), if_neg hx, if_pos hx2, if_pos hy, if_pos (show inCorner a b x y from ⟨.inr hx2, .inl hy⟩)]
          exact Ev.now _
        · by_cases hy2 : y = b
          · simp only [if_pos (show i ≤ per a b by omega), if_neg hx, if_pos hx2, if_neg hy, if_pos hy2, if_pos (show inCorner a b x y from ⟨.inr hx2, .inr hy2⟩)]
            exact Ev.now _
          · simp only [if_pos (show i ≤ per a b by omega), if_neg hx, if_pos hx2, if_neg hy, if_neg hy2, if_neg (show ¬ inCorner a b x y by simp only [inCorner]; omega), impl_ballStep hb, Option.bind_some, pw_wrap (a := i + 1) (by omega) (by omega)]
            exact this
      · simp only [if_pos (show i ≤ per a b by omega), if_neg hx, if_neg hx2, if_neg (show ¬ inCorner a b x y by simp only [inCorner]; omega), impl_ballStep hb, Option.bind_some, pw_wrap (a := i + 1) (by omega) (by omega)]
        exact this
/-- What both answer. -/
def stepsOf (a b x y dx dy : Int) : Int := if ballB a b x y dx dy = true then cornerGo a b (per a b).toNat 0 x y dx dy else -1
theorem impl_steps (a b x y dx dy : Int) : Ev (fun k => impl_StepsToCorner.f k a b x y dx dy) (stepsOf a b x y dx dy) := by
  unfold impl_StepsToCorner.f stepsOf
  simp only [impl_ballOk, Option.bind_some]
  by_cases hb : ballB a b x y dx dy = true
  · have hbs := (ballB_side hb).1
    have hp := per_bd hbs.1 hbs.2.1 hbs.2.2.1 hbs.2.2.2
    simp only [if_pos hb]
    rw [← corner_more hb]
    exact impl_corner_l0 a b _ 0 x y dx dy (by omega) (by omega) hb
  · simp only [if_neg hb]
    exact Ev.now _

theorem bezout : ∀ (m n : Nat), ∃ u v : Int, (m : Int) * u + (n : Int) * v = (Nat.gcd m n : Int) := by
  intro m n
  induction m, n using Nat.gcd.induction with
  | H0 n => exact ⟨0, 1, by simp⟩
  | H1 m n hm ih =>
    obtain ⟨u, v, h⟩ := ih
    refine ⟨v - (n / m : Nat) * u, u, ?_⟩
    rw [Nat.gcd_rec m n, ← h]
    have e : (n : Int) = (m : Int) * ((n / m : Nat) : Int) + ((n % m : Nat) : Int) := by
      have := Nat.div_add_mod n m
      exact_mod_cast this.symm
    generalize ((n / m : Nat) : Int) = w at *
    generalize ((n % m : Nat) : Int) = z at *
    rw [e, Int.mul_sub, Int.add_mul, Int.mul_assoc]
    omega
theorem corner_state {a x d : Int} (ha : 1 ≤ a) (h : line a x d) : (x = 0 ∨ x = a) ↔ ph a x d % a = 0 := by
  obtain ⟨h0, h1, h2⟩ := h
  rcases h2 with ⟨rfl, h3⟩ | ⟨rfl, h3⟩
  · unfold ph
    rw [if_pos rfl, Int.emod_eq_of_lt h0 (by omega)]
    omega
  · unfold ph
    rw [if_neg (by omega)]
    by_cases hx : x = a
    · subst hx
      rw [show 2 * x - x = 0 + x * 1 from by omega, Int.add_mul_emod_self_left]
      simp
    · rw [show 2 * a - x = (a - x) + a * 1 from by omega, Int.add_mul_emod_self_left, Int.emod_eq_of_lt (by omega) (by omega)]
      omega
theorem corner_at {a x d : Int} (ha : 1 ≤ a) (h : line a x d) (t : Nat) : ((lineN a t x d).1 = 0 ∨ (lineN a t x d).1 = a) ↔ a ∣ ph a x d + t := by
  rw [corner_state ha (lineN_line ha t h), lineN_ph ha t h, Int.emod_emod_of_dvd _ (Int.dvd_mul_left ..)]
  exact (Int.dvd_iff_emod_eq_zero ..).symm
theorem cornerGo_spec (a b : Int) : ∀ (n : Nat) (i x y dx dy : Int), (cornerGo a b n i x y dx dy = -1 ∧ ∀ t, t < n → ¬ inCorner a b (ballN a b t x y dx dy).1 (ballN a b t x y dx dy).2.1) ∨
    (∃ t, t < n ∧ cornerGo a b n i x y dx dy = i + (t : Int) ∧ inCorner a b (ballN a b t x y dx dy).1 (ballN a b t x y dx dy).2.1)
  | 0, i, x, y, dx, dy => .inl ⟨rfl, fun t h => absurd h (by omega)⟩
  | n + 1, i, x, y, dx, dy => by
    rw [cornerGo]
    by_cases hc : inCorner a b x y
    · rw [if_pos hc]
      exact .inr ⟨0, by omega, by simp, hc⟩
    · rw [if_neg hc]
      rcases cornerGo_spec a b n (i + 1) (x + dx) (y + dy) (turnD a (x + dx) dx) (turnD b (y + dy) dy) with ⟨e, h⟩ | ⟨t, h0, e, h⟩
      · refine .inl ⟨e, fun t ht => ?_⟩
        cases t with
        | zero => exact hc
        | succ t => exact h t (by omega)
      · refine .inr ⟨t + 1, by omega, ?_, h⟩
        rw [e]
        omega
theorem crt {a b p q n : Int} (ha : 1 ≤ a) (hb : 1 ≤ b) (hn : 0 < n) (hna : a ∣ n) (hnb : b ∣ n) (h : (Int.gcd a b : Int) ∣ q - p) : ∃ t : Nat, (t : Int) < n ∧ a ∣ p + t ∧ b ∣ q + t := by
  obtain ⟨u, v, e⟩ := bezout a.natAbs b.natAbs
  have ea : ((a.natAbs : Nat) : Int) = a := by omega
  have eb : ((b.natAbs : Nat) : Int) = b := by omega
  rw [ea, eb] at e
  have eg : ((Nat.gcd a.natAbs b.natAbs : Nat) : Int) = (Int.gcd a b : Int) := rfl
  rw [eg] at e
  obtain ⟨c, hc⟩ := h
  have m0 := Int.emod_nonneg (-p - a * (u * c)) (show n ≠ 0 by omega)
  have m1 := Int.emod_lt_of_pos (-p - a * (u * c)) hn
  refine ⟨((-p - a * (u * c)) % n).toNat, by omega, ?_, ?_⟩
  · have e2 : p + ((((-p - a * (u * c)) % n).toNat : Nat) : Int) = -(a * (u * c)) - n * ((-p - a * (u * c)) / n) := by
      have := Int.mul_ediv_add_emod (-p - a * (u * c)) n
      omega
    rw [e2]
    exact Int.dvd_sub (Int.dvd_neg.2 (Int.dvd_mul_right ..)) (Int.dvd_trans hna (Int.dvd_mul_right ..))
  · have e3 : q - p = a * (u * c) + b * (v * c) := by
      rw [hc, ← e, Int.add_mul, Int.mul_assoc, Int.mul_assoc]
    have e2 : q + ((((-p - a * (u * c)) % n).toNat : Nat) : Int) = b * (v * c) - n * ((-p - a * (u * c)) / n) := by
      have := Int.mul_ediv_add_emod (-p - a * (u * c)) n
      omega
    rw [e2]
    exact Int.dvd_sub (Int.dvd_mul_right ..) (Int.dvd_trans hnb (Int.dvd_mul_right ..))
theorem steps_iff {a b x y dx dy : Int} (h : ballB a b x y dx dy = true) : ((0 ≤ stepsOf a b x y dx dy) ↔ ph a x dx % (Int.gcd a b : Int) = ph b y dy % (Int.gcd a b : Int)) ∧ (stepsOf a b x y dx dy < per a b) ∧ (-1 ≤ stepsOf a b x y dx dy) ∧
    (0 ≤ stepsOf a b x y dx dy → inCorner a b (ballN a b (stepsOf a b x y dx dy).toNat x y dx dy).1 (ballN a b (stepsOf a b x y dx dy).toNat x y dx dy).2.1) := by
  obtain ⟨hab, h1, h2⟩ := ballB_side h
  have hp := per_bd hab.1 hab.2.1 hab.2.2.1 hab.2.2.2
  have hd := per_dvd hab.1 hab.2.2.1
  have hga : (Int.gcd a b : Int) ∣ a := Int.gcd_dvd_left ..
  have hgb : (Int.gcd a b : Int) ∣ b := Int.gcd_dvd_right ..
  unfold stepsOf
  rw [if_pos h]
  have at_ : ∀ t : Nat, inCorner a b (ballN a b t x y dx dy).1 (ballN a b t x y dx dy).2.1 ↔ (a ∣ ph a x dx + t ∧ b ∣ ph b y dy + t) := fun t => and_congr (corner_at hab.1 h1 t) (corner_at hab.2.2.1 h2 t)
  rcases cornerGo_spec a b (per a b).toNat 0 x y dx dy with ⟨e, hn⟩ | ⟨t, ht, e, hc⟩
  · rw [e]
    refine ⟨⟨fun hh => absurd hh (by omega), fun hh => ?_⟩, by omega, by omega, fun hh => absurd hh (by omega)⟩
    exfalso
    have hdv : (Int.gcd a b : Int) ∣ ph b y dy - ph a x dx := Int.dvd_of_emod_eq_zero (Int.emod_eq_emod_iff_emod_sub_eq_zero.1 hh.symm)
    obtain ⟨t, h0, h3, h4⟩ := crt hab.1 hab.2.2.1 (show 0 < per a b by omega) (Int.dvd_trans (Int.dvd_mul_left ..) hd.1) (Int.dvd_trans (Int.dvd_mul_left ..) hd.2) hdv
    exact hn t (by omega) ((at_ t).2 ⟨h3, h4⟩)
  · rw [e, show (0 + (t : Int)).toNat = t from by omega]
    refine ⟨⟨fun _ => ?_, fun _ => by omega⟩, by omega, by omega, fun _ => hc⟩
    obtain ⟨h3, h4⟩ := (at_ t).1 hc
    have d := Int.dvd_sub (Int.dvd_trans hga h3) (Int.dvd_trans hgb h4)
    rw [show ph a x dx + (t : Int) - (ph b y dy + t) = ph a x dx - ph b y dy from by omega] at d
    exact Int.emod_eq_emod_iff_emod_sub_eq_zero.2 (Int.emod_eq_zero_of_dvd d)

theorem impl_after_l0 (a b s : Int) (hs : s ≤ 10000) : ∀ (n : Nat) (i x y dx dy : Int), 0 ≤ i → i + n = s → ballB a b x y dx dy = true →
    Ev (fun k => impl_BallAfter.l0 k a b s i x y dx dy) ((ballN a b n x y dx dy).1, (ballN a b n x y dx dy).2.1, (ballN a b n x y dx dy).2.2.1, (ballN a b n x y dx dy).2.2.2, true) := by
  intro n
  induction n with
  | zero =>
    intro i x y dx dy h0 hi hb
    refine Ev.step (f := fun _ => some (x, y, dx, dy, true)) (fun k => ?_) (Ev.now _)
    simp only [impl_BallAfter.l0]
    rw [if_neg (by omega)]
  | succ n ih =>
    intro i x y dx dy h0 hi hb
    rw [ballN_succ]
    refine Ev.step (fun k => ?_) (ih (i + 1) _ _ _ _ (by omega) (by omega) (ballB_step hb))
    simp only [impl_BallAfter.l0]
    rw [if_pos (by omega), impl_ballStep hb]
    simp only [Option.bind_some]
    rw [pw_wrap (a := i + 1) (by omega) (by omega)]
/-- What both answer. -/
def afterOf (a b x y dx dy s : Int) : Int × Int × Int × Int × Bool :=
  if ballB a b x y dx dy = true ∧ 0 ≤ s ∧ s ≤ 10000 then ((ballN a b s.toNat x y dx dy).1, (ballN a b s.toNat x y dx dy).2.1, (ballN a b s.toNat x y dx dy).2.2.1, (ballN a b s.toNat x y dx dy).2.2.2, true) else (0, 0, 0, 0, false)
theorem impl_after (a b x y dx dy s : Int) : Ev (fun k => impl_BallAfter.f k a b x y dx dy s) (afterOf a b x y dx dy s) := by
  unfold impl_BallAfter.f afterOf
  simp only [impl_ballOk, Option.bind_some]
  by_cases hb : ballB a b x y dx dy = true
  · rw [hb]
    simp only [if_true, true_and]
    by_cases h : 0 ≤ s ∧ s ≤ 10000
    · rw [if_pos h]
      refine Ev.step (fun k => ?_) (impl_after_l0 a b s h.2 s.toNat 0 x y dx dy (by omega) (by omega) hb)
      rw [if_neg (by omega)]
      simp only [decide_eq_false (show ¬ s > 10000 by omega), impl_BallAfter.j0]
      rfl
    · rw [if_neg h]
      refine Ev.step (fun k => ?_) (Ev.now _)
      by_cases h1 : s < 0
      · rw [if_pos h1]; simp only [impl_BallAfter.j0]; rfl
      · rw [if_neg h1]; simp only [decide_eq_true (show s > 10000 by omega), impl_BallAfter.j0]; rfl
  · rw [Bool.not_eq_true] at hb
    rw [hb]
    simp only [Bool.false_eq_true, if_false, false_and]
    refine Ev.step (fun k => ?_) (Ev.now _)
    simp only [impl_BallAfter.j0]
    rfl

theorem impl_phase {a x d : Int} (ha : 1 ≤ a ∧ a ≤ 50) (h : line a x d) : Ev (fun k => impl_PhaseOf.f k a x d) (ph a x d) := by
  obtain ⟨h0, h1, h2⟩ := h
  unfold impl_PhaseOf.f
  simp only [sideOk_eq, Option.bind_some, decide_eq_true ha, if_true, if_neg (show ¬ x < 0 by omega), if_neg (show ¬ x > a by omega)]
  have e : wrap64 (2 * a) = 2 * a := pw_wrap (by omega) (by omega)
  have e2 : wrap64 (2 * a - x) = 2 * a - x := pw_wrap (by omega) (by omega)
  rcases h2 with ⟨rfl, h3⟩ | ⟨rfl, h3⟩
  · simp only [if_true]
    refine ev_up ?_
    simp only [impl_PhaseOf.j0, Bool.false_eq_true, if_false, if_neg (show ¬ (1 : Int) = -1 by omega), e, if_neg (show ¬ 2 * a = 0 by omega)]
    rw [Int.tmod_eq_emod_of_nonneg h0, Int.emod_eq_of_lt h0 (by omega)]
    exact Ev.now _
  · simp only [if_neg (show ¬ (-1 : Int) = 1 by omega), bne_self_eq_false]
    refine ev_up ?_
    simp only [impl_PhaseOf.j0, Bool.false_eq_true, if_false, if_true, e, e2, if_neg (show ¬ 2 * a = 0 by omega)]
    rw [Int.tmod_eq_emod_of_nonneg (by omega), Int.emod_eq_of_lt (by omega) (by omega)]
    exact Ev.now _

/-- How often the sides are reached in n steps. -/
def bounceGo (a b : Int) : Nat → Int → Int → Int → Int → Int → Int → Int × Int
  | 0, u, v, _, _, _, _ => (u, v)
  | n + 1, u, v, x, y, dx, dy => bounceGo a b n (if x + dx = 0 ∨ x + dx = a then u + 1 else u) (if y + dy = 0 ∨ y + dy = b then v + 1 else v) (x + dx) (y + dy) (turnD a (x + dx) dx) (turnD b (y + dy) dy)
theorem impl_bounce_l0 (a b : Int) : ∀ (n : Nat) (u v x y dx dy : Int), 0 ≤ u → u + n ≤ 5000 → 0 ≤ v → v + n ≤ 5000 → ballB a b x y dx dy = true →
    Ev (fun k => impl_BouncesIn.l0 k a b u v (n : Int) x y dx dy) (bounceGo a b n u v x y dx dy) := by
  intro n
  induction n with
  | zero =>
    intro u v x y dx dy hu hu2 hv hv2 hb
    refine ev_up ?_
    simp only [impl_BouncesIn.l0, if_neg (show ¬ ((0 : Nat) : Int) > 0 by omega)]
    exact Ev.now _
  | succ n ih =>
    intro u v x y dx dy hu hu2 hv hv2 hb
    have hn : wrap64 (((n + 1 : Nat) : Int) - 1) = (n : Int) := by unfold wrap64; omega
    have wu : wrap64 (u + 1) = u + 1 := pw_wrap (by omega) (by omega)
    have wv : wrap64 (v + 1) = v + 1 := pw_wrap (by omega) (by omega)
    refine ev_up ?_
    simp only [impl_BouncesIn.l0, if_pos (show ((n + 1 : Nat) : Int) > 0 by omega), impl_ballStep hb, Option.bind_some]
    rw [bounceGo]
    by_cases hx : x + dx = 0 ∨ x + dx = a
    · have h1 : Ev (fun k => impl_BouncesIn.j1 k a b u v ((n + 1 : Nat) : Int) true (x + dx) (y + dy) (turnD a (x + dx) dx) (turnD b (y + dy) dy)) (bounceGo a b n (u + 1) (if y + dy = 0 ∨ y + dy = b then v + 1 else v) (x + dx) (y + dy) (turnD a (x + dx) dx) (turnD b (y + dy) dy)) := by
        refine ev_up ?_
        by_cases hy : y + dy = 0
        · simp only [impl_BouncesIn.j1, if_true, if_pos hy, if_pos (show y + dy = 0 ∨ y + dy = b from .inl hy), hn, wu, wv]
          exact ih (u + 1) (v + 1) _ _ _ _ (by omega) (by omega) (by omega) (by omega) (ballB_step hb)
        · by_cases hy2 : y + dy = b
          · simp only [impl_BouncesIn.j1, if_true, if_neg hy, if_pos hy2, if_pos (show y + dy = 0 ∨ y + dy = b from .inr hy2), hn, wu, wv]
            exact ih (u + 1) (v + 1) _ _ _ _ (by omega) (by omega) (by omega) (by omega) (ballB_step hb)
          · simp only [impl_BouncesIn.j1, if_true, if_neg hy, if_neg hy2, if_neg (show ¬ (y + dy = 0 ∨ y + dy = b) by omega), hn, wu]
            exact ih (u + 1) v _ _ _ _ (by omega) (by omega) (by omega) (by omega) (ballB_step hb)
      rw [if_pos hx]
      by_cases hx0 : x + dx = 0
      · simp only [if_pos hx0]
        exact h1
      · have hxa : x + dx = a := by omega
        simp only [if_neg hx0, show (x + dx == a) = true from by simpa using hxa]
        exact h1
    · have h1 : Ev (fun k => impl_BouncesIn.j1 k a b u v ((n + 1 : Nat) : Int) false (x + dx) (y + dy) (turnD a (x + dx) dx) (turnD b (y + dy) dy)) (bounceGo a b n u (if y + dy = 0 ∨ y + dy = b then v + 1 else v) (x + dx) (y + dy) (turnD a (x + dx) dx) (turnD b (y + dy) dy)) := by
        refine ev_up ?_
        by_cases hy : y + dy = 0
        · simp only [impl_BouncesIn.j1, Bool.false_eq_true, if_false, if_pos hy, if_pos (show y + dy = 0 ∨ y + dy = b from .inl hy), hn, wv]
          exact ih u (v + 1) _ _ _ _ (by omega) (by omega) (by omega) (by omega) (ballB_step hb)
        · by_cases hy2 : y + dy = b
          · simp only [impl_BouncesIn.j1, Bool.false_eq_true, if_false, if_neg hy, if_pos hy2, if_pos (show y + dy = 0 ∨ y + dy = b from .inr hy2), hn, wv]
            exact ih u (v + 1) _ _ _ _ (by omega) (by omega) (by omega) (by omega) (ballB_step hb)
          · simp only [impl_BouncesIn.j1, Bool.false_eq_true, if_false, if_neg hy, if_neg hy2, if_neg (show ¬ (y + dy = 0 ∨ y + dy = b) by omega), hn]
            exact ih u v _ _ _ _ (by omega) (by omega) (by omega) (by omega) (ballB_step hb)
      rw [if_neg hx]
      simp only [if_neg (show ¬ x + dx = 0 by omega), show (x + dx == a) = false from by simp; omega]
      exact h1
/-- What both answer. -/
def bouncesOf (a b x y dx dy : Int) : Int × Int := if ballB a b x y dx dy = true then bounceGo a b (per a b).toNat 0 0 x y dx dy else (0, 0)
theorem impl_bounces (a b x y dx dy : Int) : Ev (fun k => impl_BouncesIn.f k a b x y dx dy) (bouncesOf a b x y dx dy) := by
  unfold impl_BouncesIn.f bouncesOf
  simp only [impl_ballOk, Option.bind_some]
  by_cases hb : ballB a b x y dx dy = true
  · have hbs := (ballB_side hb).1
    have hp := per_bd hbs.1 hbs.2.1 hbs.2.2.1 hbs.2.2.2
    have e : ((per a b).toNat : Int) = per a b := by omega
    simp only [if_pos hb]
    refine Ev.bind (impl_period_ev hbs) ?_
    have := impl_bounce_l0 a b (per a b).toNat 0 0 x y dx dy (by omega) (by omega) (by omega) (by omega) hb
    rw [e] at this
    exact this
  · simp only [if_neg hb]
    exact Ev.now _

/-- A number in decimals. -/
def decB (u : Nat) : ByteArray := ⟨(Go.Lib.decDigits u).toArray⟩
def itoaB (n : Int) : ByteArray := ⟨(Go.Lib.itoa n).toArray⟩
theorem nDig_le : ∀ (d u : Nat), u < 10 ^ (d + 1) → Go.Lib.nDigits u ≤ d + 1
  | 0, u, h => by rw [Go.Lib.nDigits_small (by simpa using h)]; omega
  | d + 1, u, h => by
    by_cases hu : u < 10
    · rw [Go.Lib.nDigits_small hu]; omega
    · rw [Go.Lib.nDigits_big hu]
      have := nDig_le d (u / 10) (by rw [Nat.pow_succ] at h; omega)
      omega
theorem decB_size (u : Nat) : (decB u).size = Go.Lib.nDigits u := by
  show (Go.Lib.decDigits u).toArray.size = _
  rw [List.size_toArray, Go.Lib.decDigits_length]
theorem bytes_app (a b : List UInt8) : (⟨a.toArray⟩ : ByteArray) ++ ⟨b.toArray⟩ = ⟨(a ++ b).toArray⟩ := by
  apply ByteArray.ext
  rw [ByteArray.data_append]
  simp
theorem app_assocB (a b c : ByteArray) : a ++ b ++ c = a ++ (b ++ c) := by
  apply ByteArray.ext
  simp [ByteArray.data_append, Array.append_assoc]
theorem one_strB (n : Int) (u : Nat) (h : n = ((u : Nat) : Int)) : strOfNums [n] = ⟨[UInt8.ofNat u].toArray⟩ := by
  subst h
  simp [strOfNums]
theorem strOne_size (n : Int) : (strOfNums [n]).size = 1 := id rfl
theorem decB_small {u : Nat} (h : u < 10) : decB u = strOfNums [(48 + (u : Int))] := by
  rw [one_strB _ (48 + u) (by omega)]
  unfold decB
  rw [Go.Lib.decDigits, dif_pos h]
theorem decB_big {u : Nat} (h : ¬ u < 10) : decB u = decB (u / 10) ++ strOfNums [(48 + (u : Int) % 10)] := by
  rw [one_strB _ (48 + u % 10) (by omega)]
  unfold decB
  rw [bytes_app, Go.Lib.decDigits, dif_neg h]
theorem itoaB_pos {n : Int} (h : 0 ≤ n) : itoaB n = decB n.toNat := by
  unfold itoaB Go.Lib.itoa decB
  rw [if_neg (by omega)]
theorem itoaB_neg {n : Int} (h : n < 0) : itoaB n = (⟨#[45]⟩ : ByteArray) ++ decB n.natAbs := by
  unfold itoaB Go.Lib.itoa decB
  rw [if_pos h, show (⟨#[45]⟩ : ByteArray) = ⟨[45].toArray⟩ from rfl, bytes_app]
  rfl
theorem itoaB_size {n : Int} (h0 : -9223372036854775808 ≤ n) (h1 : n ≤ 9223372036854775807) : (itoaB n).size ≤ 20 := by
  by_cases h : 0 ≤ n
  · rw [itoaB_pos h, decB_size]
    have := nDig_le 18 n.toNat (by omega)
    omega
  · rw [itoaB_neg (by omega), ByteArray.size_append, decB_size]
    have := nDig_le 18 n.natAbs (by omega)
    show 1 + _ ≤ 20
    omega
theorem impl_fmtint {n : Int} (h0 : -9223372036854775808 ≤ n) (h1 : n ≤ 9223372036854775807) : impl_FormatInt.f n = some (itoaB n) := by
  unfold impl_FormatInt.f strconv_Itoa.f
  rw [if_pos ⟨h0, h1⟩]
  rfl
theorem i64_wf {x : Int} (h : (Lit.int .i64 x).wf = true) : -9223372036854775808 ≤ x ∧ x ≤ 9223372036854775807 := pw_wf h

theorem bounceGo_bd (a b : Int) : ∀ (n : Nat) (u v x y dx dy : Int), u ≤ (bounceGo a b n u v x y dx dy).1 ∧ (bounceGo a b n u v x y dx dy).1 ≤ u + n ∧ v ≤ (bounceGo a b n u v x y dx dy).2 ∧ (bounceGo a b n u v x y dx dy).2 ≤ v + n
  | 0, u, v, _, _, _, _ => by simp [bounceGo]
  | n + 1, u, v, x, y, dx, dy => by
    simp only [bounceGo]
    have := bounceGo_bd a b n (if x + dx = 0 ∨ x + dx = a then u + 1 else u) (if y + dy = 0 ∨ y + dy = b then v + 1 else v) (x + dx) (y + dy) (turnD a (x + dx) dx) (turnD b (y + dy) dy)
    generalize bounceGo a b n _ _ _ _ _ _ = r at *
    split at this <;> split at this <;> omega
theorem cornerGo_bd (a b : Int) : ∀ (n : Nat) (i x y dx dy : Int), 0 ≤ i → -1 ≤ cornerGo a b n i x y dx dy ∧ cornerGo a b n i x y dx dy ≤ i + n
  | 0, i, _, _, _, _, h => by simp only [cornerGo]; omega
  | n + 1, i, x, y, dx, dy, h => by
    simp only [cornerGo]
    have := cornerGo_bd a b n (i + 1) (x + dx) (y + dy) (turnD a (x + dx) dx) (turnD b (y + dy) dy) (by omega)
    split <;> omega
def ballT (p u v s : Int) : ByteArray := ((((((((⟨#[112, 101, 114, 105, 111, 100, 32]⟩ : ByteArray) ++ itoaB p) ++ (⟨#[32, 98, 111, 117, 110, 99, 101, 115, 32]⟩ : ByteArray)) ++ itoaB u) ++ (⟨#[32]⟩ : ByteArray)) ++ itoaB v) ++ (⟨#[32, 99, 111, 114, 110, 101, 114, 32]⟩ : ByteArray)) ++ itoaB s)
theorem mk_size (a : List UInt8) : (⟨a.toArray⟩ : ByteArray).size = a.length := by
  have h : (⟨a.toArray⟩ : ByteArray).size = a.toArray.size := rfl
  rw [h, List.size_toArray]
def ballLine (a b x y dx dy : Int) : ByteArray := if ballB a b x y dx dy = true then ballT (per a b) (bouncesOf a b x y dx dy).1 (bouncesOf a b x y dx dy).2 (stepsOf a b x y dx dy) else ⟨#[]⟩
def In50 (x : Int) : Prop := -1 ≤ x ∧ x ≤ 5000
theorem in50_size {x : Int} (h : In50 x) : (itoaB x).size ≤ 20 := itoaB_size (by have := h.1; omega) (by have := h.2; omega)
theorem ball_nums {a b x y dx dy : Int} (h : ballB a b x y dx dy = true) : In50 (per a b) ∧ In50 (bouncesOf a b x y dx dy).1 ∧ In50 (bouncesOf a b x y dx dy).2 ∧ In50 (stepsOf a b x y dx dy) := by
  obtain ⟨⟨ha, ha2, hb, hb2⟩, _, _⟩ := ballB_side h
  have hp := per_bd ha ha2 hb hb2
  have h1 := bounceGo_bd a b (per a b).toNat 0 0 x y dx dy
  have h2 := cornerGo_bd a b (per a b).toNat 0 x y dx dy (by omega)
  unfold bouncesOf stepsOf In50
  rw [if_pos h, if_pos h]
  generalize bounceGo a b _ _ _ _ _ _ _ = r at *
  omega
theorem impl_int50 {x : Int} (h : In50 x) : impl_FormatInt.f x = some (itoaB x) := impl_fmtint (by have := h.1; omega) (by have := h.2; omega)
theorem impl_ballline (a b x y dx dy : Int) : Ev (fun k => impl_BallLine.f k a b x y dx dy) (ballLine a b x y dx dy) := by
  unfold impl_BallLine.f ballLine
  simp only [impl_ballOk, Option.bind_some]
  by_cases h : ballB a b x y dx dy = true
  · obtain ⟨n1, n2, n3, n4⟩ := ball_nums h
    obtain ⟨hab, _, _⟩ := ballB_side h
    have z1 := in50_size n1
    have z2 := in50_size n2
    have z3 := in50_size n3
    have z4 := in50_size n4
    simp only [if_pos h]
    refine Ev.bind (impl_bounces a b x y dx dy) ?_
    refine Ev.bind (impl_period_ev hab) ?_
    refine Ev.bind (Ev.congr (fun _ => impl_int50 n1) (Ev.now _)) ?_
    refine Ev.congr (f := fun k => _) (fun k => (if_pos (by omega)).trans (if_pos (by simp only [ByteArray.size_append, mk_size, List.length_cons, List.length_nil]; omega))) ?_
    refine Ev.bind (Ev.congr (fun _ => impl_int50 n2) (Ev.now _)) ?_
    refine Ev.congr (f := fun k => _) (fun k => (if_pos (by simp only [ByteArray.size_append, mk_size, List.length_cons, List.length_nil]; omega)).trans (if_pos (by simp only [ByteArray.size_append, mk_size, List.length_cons, List.length_nil]; omega))) ?_
    refine Ev.bind (Ev.congr (fun _ => impl_int50 n3) (Ev.now _)) ?_
    refine Ev.congr (f := fun k => _) (fun k => (if_pos (by simp only [ByteArray.size_append, mk_size, List.length_cons, List.length_nil]; omega)).trans (if_pos (by simp only [ByteArray.size_append, mk_size, List.length_cons, List.length_nil]; omega))) ?_
    refine Ev.bind (impl_steps a b x y dx dy) ?_
    refine Ev.bind (Ev.congr (fun _ => impl_int50 n4) (Ev.now _)) ?_
    refine Ev.congr (f := fun k => _) (fun k => if_pos (by simp only [ByteArray.size_append, mk_size, List.length_cons, List.length_nil]; omega)) ?_
    exact Ev.now _
  · simp only [if_neg h]
    exact Ev.now _

theorem loop_eq (b : ByteArray) : ∀ (d i : Nat) (r : List UInt8), b.size - i = d → ByteArray.toList.loop b i r = r.reverse ++ b.data.toList.drop i
  | 0, i, r, h => by
    rw [ByteArray.toList.loop, if_neg (by omega), List.drop_eq_nil_of_le (by have e : b.data.toList.length = b.size := rfl; omega)]
    simp
  | d + 1, i, r, h => by
    have hi : i < b.data.toList.length := by have e : b.data.toList.length = b.size := rfl; omega
    rw [ByteArray.toList.loop, if_pos (by omega), loop_eq b d (i + 1) _ (by omega), List.drop_eq_getElem_cons hi]
    have e : b.get! i = b.data.toList[i] := by
      have h2 : i < b.data.size := by simpa using hi
      show b.data[i]! = _
      rw [getElem!_pos b.data i h2]
      simp
    rw [e]
    simp
theorem toList_eq (b : ByteArray) : b.toList = b.data.toList := by
  unfold ByteArray.toList
  rw [loop_eq b b.size 0 [] (by omega)]
  simp
theorem toList_ne {b : ByteArray} (h : 0 < b.size) : b.toList ≠ [] := by
  rw [toList_eq]
  intro e
  have e2 : b.data.toList.length = b.size := rfl
  have e3 := congrArg List.length e
  simp only [List.length_nil] at e3
  omega

theorem common_top {a b g : Int} (ha : 1 ≤ a) (h1 : 1 ≤ g) (h2 : g ∣ a) (h3 : g ∣ b) (h4 : ∀ e : Int, 1 ≤ e → e ≤ a → e ∣ a → e ∣ b → e ≤ g) : g = (Int.gcd a b : Int) := by
  have hg := gcd_pos' (b := b) ha
  have ga : (Int.gcd a b : Int) ∣ a := Int.gcd_dvd_left ..
  have gb : (Int.gcd a b : Int) ∣ b := Int.gcd_dvd_right ..
  have l1 := h4 _ hg (Int.le_of_dvd (by omega) ga) ga gb
  have l2 : g ∣ (Int.gcd a b : Int) := Int.dvd_coe_gcd h2 h3
  have := Int.le_of_dvd (by omega) l2
  omega
theorem ballT_ne (p u v s : Int) : 0 < (ballT p u v s).size := by
  unfold ballT
  simp only [ByteArray.size_append, mk_size, List.length_cons, List.length_nil]
  omega
theorem corners_end {a b x y dx dy : Int} (h : ballB a b x y dx dy = true) : Ev (fun k => laws_FnCornersHit.l0 k a b (stepsOf a b x y dx dy) (Int.gcd a b : Int) (a + 1) x y dx dy) true := by
  obtain ⟨hab, h1, h2⟩ := ballB_side h
  have hp := per_bd hab.1 hab.2.1 hab.2.2.1 hab.2.2.2
  obtain ⟨s1, s2, s3, s4⟩ := steps_iff h
  have hg := gcd_pos' (b := b) hab.1
  have ba := ph_bd h1
  have bb := ph_bd h2
  refine ev_up ?_
  simp only [laws_FnCornersHit.l0, if_neg (show ¬ a + 1 ≤ a by omega)]
  refine Ev.bind (impl_phase ⟨hab.1, hab.2.1⟩ h1) ?_
  refine Ev.bind (impl_phase ⟨hab.2.2.1, hab.2.2.2⟩ h2) ?_
  have hb : ((decide (stepsOf a b x y dx dy ≥ 0)) != ((Int.tmod (ph a x dx) (Int.gcd a b : Int)) == (Int.tmod (ph b y dy) (Int.gcd a b : Int)))) = false := by
    rw [Int.tmod_eq_emod_of_nonneg ba.1, Int.tmod_eq_emod_of_nonneg bb.1]
    by_cases hh : 0 ≤ stepsOf a b x y dx dy
    · simp [hh, s1.1 hh]
    · have : ¬ ph a x dx % (Int.gcd a b : Int) = ph b y dy % (Int.gcd a b : Int) := fun z => hh (s1.2 z)
      simp [hh, this]
  simp only [if_neg (show ¬ ph a x dx < 0 by omega), if_neg (show ¬ ph b y dy < 0 by omega), if_neg (show ¬ (Int.gcd a b : Int) = 0 by omega), hb, Bool.false_eq_true, if_false]
  refine Ev.bind (impl_period_ev hab) ?_
  simp only [if_neg (show ¬ stepsOf a b x y dx dy ≥ per a b by omega)]
  refine Ev.bind (impl_ballline a b x y dx dy) ?_
  have hne : ¬ (ballLine a b x y dx dy).toList = ([] : List UInt8) := by
    unfold ballLine
    rw [if_pos h]
    exact toList_ne (ballT_ne _ _ _ _)
  refine Ev.congr (f := fun k => _) (fun k => if_neg hne) ?_
  have hm : mx (stepsOf a b x y dx dy) 0 = ((stepsOf a b x y dx dy).toNat : Int) := by unfold mx; split <;> omega
  rw [hm]
  refine Ev.bind (impl_after a b x y dx dy _) ?_
  generalize hN : (stepsOf a b x y dx dy).toNat = N at *
  have ea : afterOf a b x y dx dy (N : Int) = ((ballN a b N x y dx dy).1, (ballN a b N x y dx dy).2.1, (ballN a b N x y dx dy).2.2.1, (ballN a b N x y dx dy).2.2.2, true) := by
    unfold afterOf
    rw [if_pos (show ballB a b x y dx dy = true ∧ 0 ≤ (N : Int) ∧ (N : Int) ≤ 10000 from ⟨h, by omega, by omega⟩), Int.toNat_natCast]
  rw [ea]
  simp only [if_true]
  by_cases hh : 0 ≤ stepsOf a b x y dx dy
  · simp only [if_neg (show ¬ stepsOf a b x y dx dy < 0 by omega), if_pos (show stepsOf a b x y dx dy ≥ 0 by omega)]
    obtain ⟨c1, c2⟩ := s4 hh
    have key : ∀ X Y : Int, (X = 0 ∨ X = a) → (Y = 0 ∨ Y = b) → (if X = 0 then (if Y = 0 then some true else if Y = b then some true else some false) else if X = a then (if Y = 0 then some true else if Y = b then some true else some false) else some false) = some true := by
      intro X Y hX hY
      split
      · split
        · rfl
        · rw [if_pos (by omega)]
      · rw [if_pos (by omega)]
        split
        · rfl
        · rw [if_pos (by omega)]
    rw [key _ _ c1 c2]
    exact Ev.now _
  · simp only [if_pos (show stepsOf a b x y dx dy < 0 by omega), if_neg (show ¬ stepsOf a b x y dx dy ≥ 0 by omega), show stepsOf a b x y dx dy = -1 by omega]
    exact Ev.now _
theorem corners_loop {a b x y dx dy : Int} (h : ballB a b x y dx dy = true) : ∀ (d : Nat) (e g : Int), 2 ≤ e → e + d = a + 1 ∨ (a = 1 ∧ e = 2 ∧ d = 0) → 1 ≤ g → g ∣ a → g ∣ b → (∀ z : Int, 1 ≤ z → z < e → z ∣ a → z ∣ b → z ≤ g) → Ev (fun k => laws_FnCornersHit.l0 k a b (stepsOf a b x y dx dy) g e x y dx dy) true
  | 0, e, g, h0, h1, hg, ha, hb, hz => by
    have hab := (ballB_side h).1
    have ee : e = a + 1 := by omega
    subst ee
    rw [common_top hab.1 hg ha hb (fun z z1 z2 => hz z z1 (by omega))]
    exact corners_end h
  | d + 1, e, g, h0, h1, hg, ha, hb, hz => by
    have hab := (ballB_side h).1
    have hw : wrap64 (e + 1) = e + 1 := pw_wrap (by omega) (by omega)
    refine ev_up ?_
    simp only [laws_FnCornersHit.l0, if_pos (show e ≤ a by omega), if_neg (show ¬ e = 0 by omega), Int.tmod_eq_emod_of_nonneg (show 0 ≤ a by omega), Int.tmod_eq_emod_of_nonneg (show 0 ≤ b by omega), hw]
    have keep : (¬ (e ∣ a ∧ e ∣ b)) → Ev (fun k => laws_FnCornersHit.l0 k a b (stepsOf a b x y dx dy) g (e + 1) x y dx dy) true := fun hn =>
      corners_loop h d (e + 1) g (by omega) (by omega) hg ha hb (fun z z1 z2 za zb => by
        by_cases hze : z = e
        · subst hze
          exact absurd ⟨za, zb⟩ hn
        · exact hz z z1 (by omega) za zb)
    by_cases ha2 : a % e = 0
    · simp only [if_pos ha2]
      by_cases hb2 : b % e = 0
      · simp only [if_pos hb2]
        exact corners_loop h d (e + 1) e (by omega) (by omega) (by omega) (Int.dvd_of_emod_eq_zero ha2) (Int.dvd_of_emod_eq_zero hb2) (fun z z1 z2 _ _ => by omega)
      · simp only [if_neg hb2]
        exact keep (fun z => hb2 (Int.emod_eq_zero_of_dvd z.2))
    · simp only [if_neg ha2]
      exact keep (fun z => ha2 (Int.emod_eq_zero_of_dvd z.1))
theorem FnCornersHit : laws_FnCornersHit.Pure := by
  intro l hl _
  apply Ev.rounds
  unfold laws_FnCornersHit.f
  by_cases hlen : (l.length : Int) > 1048576
  · simp only [if_pos hlen]
    exact Ev.now _
  · simp only [if_neg hlen]
    obtain ⟨a, b, x, y, dx, dy, hm, h⟩ := ball_some l (by omega)
    have hab := (ballB_side h).1
    refine Ev.bind hm ?_
    refine Ev.bind (impl_steps a b x y dx dy) ?_
    exact corners_loop h (a - 1).toNat 2 1 (by omega) (by omega) (by omega) (Int.one_dvd a) (Int.one_dvd b) (fun z z1 z2 _ _ => by omega)

end Go.Proofs.YtnoopmbhdlfkbaaDoor.Pure
