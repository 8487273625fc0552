/- An unfolded ball moves one place in each step, and hits the sides as often as the period says: for all codes. -/
import Derived.Test.YtnoopmbhdlfkbaaSayFnBalls
namespace Go.Proofs.Ytnoopmbhdlfkbaa.Pure
open Go.RowKit Go.Proofs.Ytnoopmbhdlfkbaa.S Go.Proofs.YtnoopmbhdlfkbaaW.PrintWords Go.Proofs.YtnoopmbhdlfkbaaW.PrintLast
set_option linter.unusedVariables false
set_option linter.unusedSimpArgs false

theorem ev_up {α : Type} {g : Nat → Option α} {r : α} (h : Ev (fun k => g (k + 1)) r) : Ev g r := Ev.step (fun _ => rfl) h
theorem ev_k {α : Type} {g : Nat → Option α} {r : α} {n : Nat} (h : ∀ k, n < k → g k = some r) : Ev g r := ⟨n + 1, fun k hk => h k (by omega)⟩

theorem pw_wf {a : Int} (h : (Lit.int .i64 a).wf = true) : -9223372036854775808 ≤ a ∧ a ≤ 9223372036854775807 := by
  simp [Lit.wf, IntKind.min, IntKind.max, IntKind.signed, IntKind.bits] at h
  omega
theorem pw_wrap {a : Int} (h0 : -9223372036854775808 ≤ a) (h1 : a ≤ 9223372036854775807) : wrap64 a = a := by
  unfold wrap64
  omega

theorem and255 (x : Int) : 0 ≤ Go.bits .and .i64 x 255 ∧ Go.bits .and .i64 x 255 ≤ 255 := by
  have h : (BitVec.ofInt 64 x &&& BitVec.ofInt 64 255).toNat ≤ 255 := by
    rw [BitVec.toNat_and]
    exact Nat.le_trans Nat.and_le_right (by decide)
  show 0 ≤ IntKind.i64.wrap ((BitVec.ofInt 64 x &&& BitVec.ofInt 64 255).toNat : Int) ∧ IntKind.i64.wrap ((BitVec.ofInt 64 x &&& BitVec.ofInt 64 255).toNat : Int) ≤ 255
  generalize (BitVec.ofInt 64 x &&& BitVec.ofInt 64 255).toNat = n at *
  rw [IntKind.wrap_i64]
  omega
theorem byte_some (l : List Int) (hl : l.length ≤ 4611686018427387904) (i h : Int) (hi : 0 ≤ i) : ∃ v i' h', spec_l01Byte.f l i h = some (v, i', h') ∧ 0 ≤ v ∧ v ≤ 255 ∧ 0 ≤ i' := by
  unfold spec_l01Byte.f
  by_cases h1 : i < (l.length : Int)
  · simp only [if_pos h1, if_pos hi]
    exact ⟨_, _, _, rfl, (and255 _).1, (and255 _).2, by rw [pw_wrap (by omega) (by omega)]; omega⟩
  · simp only [if_neg h1]
    exact ⟨_, _, _, rfl, (and255 _).1, (and255 _).2, hi⟩
theorem below_some (l : List Int) (hl : l.length ≤ 4611686018427387904) (i h : Int) (hi : 0 ≤ i) (n : Int) (h1 : 1 ≤ n) (h2 : n ≤ 256) : ∃ v i' h', spec_l01Below.f l i h n = some (v, i', h') ∧ 0 ≤ v ∧ v < n ∧ 0 ≤ i' := by
  obtain ⟨v, i', h', e, v0, v1, hi'⟩ := byte_some l hl i h hi
  unfold spec_l01Below.f
  simp only [if_neg (show ¬ n ≤ 0 by omega), if_pos h2, e, Option.bind_some, if_neg (show ¬ n = 0 by omega)]
  refine ⟨_, _, _, rfl, ?_, ?_, hi'⟩
  · exact Int.tmod_nonneg _ v0
  · rw [Int.tmod_eq_emod_of_nonneg v0]
    exact Int.emod_lt_of_pos _ (by omega)
theorem new_l0 (l : List Int) (hl : l.length ≤ 4611686018427387904) : ∀ (d : Nat) (x i : Int), 0 ≤ i → i + d = 4000 → ∃ h, Ev (fun k => spec_l01New.l0 k l x i) (l, 0, h)
  | 0, x, i, h0, h1 => by
    by_cases h : i < (l.length : Int)
    · refine ⟨x, ev_up ?_⟩
      simp only [spec_l01New.l0, if_pos h, if_neg (show ¬ i < 4000 by omega)]
      exact Ev.now _
    · refine ⟨x, ev_up ?_⟩
      simp only [spec_l01New.l0, if_neg h]
      exact Ev.now _
  | d + 1, x, i, h0, h1 => by
    by_cases h : i < (l.length : Int)
    · obtain ⟨r, hr⟩ := new_l0 l hl d (Go.bits .and .i64 (wrap64 ((wrap64 ((wrap64 (x * 109)) + (wrap64 (rd l i)))) + 7)) 1073741823) (i + 1) (by omega) (by omega)
      refine ⟨r, ev_up ?_⟩
      simp only [spec_l01New.l0, if_pos h, if_pos (show i < 4000 by omega), if_pos h0, pw_wrap (a := i + 1) (by omega) (by omega)]
      exact hr
    · refine ⟨x, ev_up ?_⟩
      simp only [spec_l01New.l0, if_neg h]
      exact Ev.now _
theorem new_some (l : List Int) (hl : l.length ≤ 4611686018427387904) : ∃ h, Ev (fun k => spec_l01New.f k l) (l, 0, h) := by
  unfold spec_l01New.f
  exact new_l0 l hl 4000 _ 0 (by omega) (by omega)
theorem skip_l0 (l : List Int) (hl : l.length ≤ 4611686018427387904) (n : Int) (hn : n ≤ 1000000) : ∀ (d : Nat) (i s1 s2 : Int), 0 ≤ i → i + d = n → 0 ≤ s1 → ∃ t1 t2, Ev (fun k => spec_l20New.l0 k l n i s1 s2) (l, t1, t2) ∧ 0 ≤ t1
  | 0, i, s1, s2, h0, h1, hs => by
    refine ⟨s1, s2, ev_up ?_, hs⟩
    simp only [spec_l20New.l0, if_neg (show ¬ i < n by omega)]
    exact Ev.now _
  | d + 1, i, s1, s2, h0, h1, hs => by
    obtain ⟨v, t1, t2, e, _, _, ht⟩ := byte_some l hl s1 s2 hs
    obtain ⟨u1, u2, hr, hu⟩ := skip_l0 l hl n hn d (i + 1) t1 t2 (by omega) (by omega) ht
    refine ⟨u1, u2, ev_up ?_, hu⟩
    simp only [spec_l20New.l0, if_pos (show i < n by omega), e, Option.bind_some, pw_wrap (a := i + 1) (by omega) (by omega)]
    exact hr
theorem skip_some (l : List Int) (hl : l.length ≤ 4611686018427387904) (n : Int) (h0 : 0 ≤ n) (hn : n ≤ 1000000) : ∃ t1 t2, Ev (fun k => spec_l20New.f k l n) (l, t1, t2) ∧ 0 ≤ t1 := by
  obtain ⟨h, e⟩ := new_some l hl
  obtain ⟨t1, t2, hr, ht⟩ := skip_l0 l hl n hn n.toNat 0 0 h (by omega) (by omega) (by omega)
  unfold spec_l20New.f
  exact ⟨t1, t2, Ev.bind e hr, ht⟩
theorem num_some (l : List Int) (hl : l.length ≤ 4611686018427387904) (n : Int) (h0 : 0 ≤ n) (hn : n ≤ 1000000) : ∃ v, Ev (fun k => spec_MakeNum.f k l n) v ∧ 0 ≤ v ∧ v ≤ 65535 := by
  obtain ⟨t1, t2, e, ht⟩ := skip_some l hl n h0 hn
  obtain ⟨v, i', h', e2, v0, v1, hi⟩ := byte_some l hl t1 t2 ht
  obtain ⟨u, i2, h2, e3, u0, u1, hi2⟩ := byte_some l hl i' h' hi
  unfold spec_MakeNum.f
  refine ⟨v * 256 + u, Ev.bind e ?_, by omega, by omega⟩
  simp only [e2, e3, Option.bind_some]
  rw [pw_wrap (a := v * 256) (by omega) (by omega), pw_wrap (by omega) (by omega)]
  exact Ev.now _

theorem sideOk_eq (a : Int) : impl_sideOk.f a = some (decide (1 ≤ a ∧ a ≤ 50)) := by
  unfold impl_sideOk.f
  split
  · rename_i h
    by_cases h2 : a ≤ 50
    · rw [decide_eq_true h2, decide_eq_true ⟨h, h2⟩]
    · rw [decide_eq_false h2, decide_eq_false (fun h => h2 h.2)]
  · rename_i h
    rw [decide_eq_false (fun h2 => h h2.1)]

/-- A coordinate and its change are valid. -/
abbrev line (a x d : Int) : Prop := 0 ≤ x ∧ x ≤ a ∧ (d = 1 ∧ x < a ∨ d = -1 ∧ 0 < x)
theorem turnOk_eq (a x d : Int) (ha : 1 ≤ a) : impl_turnOk.f a x d = some (decide (line a x d)) := by
  unfold impl_turnOk.f
  repeat' split
  all_goals first
    | (rw [decide_eq_true (by omega)]; done)
    | (rw [decide_eq_false (by omega)]; done)
    | (rename_i h; by_cases h9 : d = -1
       · subst h9; first | (rw [decide_eq_true (by omega)]; rfl) | (rw [decide_eq_false (by omega)]; rfl)
       · rw [show (d == -1) = false from by simpa using h9]; rw [decide_eq_false (by omega)])
/-- A ball on a table is valid. -/
def ballB (a b x y dx dy : Int) : Bool := decide ((1 ≤ a ∧ a ≤ 50 ∧ 1 ≤ b ∧ b ≤ 50) ∧ line a x dx ∧ line b y dy)
theorem impl_ballOk (a b x y dx dy : Int) : impl_BallOk.f a b x y dx dy = some (ballB a b x y dx dy) := by
  unfold impl_BallOk.f ballB
  simp only [sideOk_eq, Option.bind_some, decide_eq_true_eq]
  by_cases h : 1 ≤ a ∧ a ≤ 50
  · rw [if_pos h]
    by_cases h2 : 1 ≤ b ∧ b ≤ 50
    · rw [if_pos h2, turnOk_eq a x dx h.1]
      simp only [Option.bind_some, decide_eq_true_eq]
      by_cases h3 : line a x dx
      · rw [if_pos h3, turnOk_eq b y dy h2.1]
        simp only [Option.bind_some]
        by_cases h4 : line b y dy
        · rw [decide_eq_true h4, decide_eq_true ⟨⟨h.1, h.2, h2⟩, h3, h4⟩]
        · rw [decide_eq_false h4, decide_eq_false (fun h => h4 h.2.2)]
      · rw [if_neg h3, decide_eq_false (fun h => h3 h.2.1)]
    · rw [if_neg h2, decide_eq_false (fun h => h2 h.1.2.2)]
  · rw [if_neg h, decide_eq_false (fun h2 => h ⟨h2.1.1, h2.1.2.1⟩)]
theorem ballB_side {a b x y dx dy : Int} (h : ballB a b x y dx dy = true) : (1 ≤ a ∧ a ≤ 50 ∧ 1 ≤ b ∧ b ≤ 50) ∧ line a x dx ∧ line b y dy := by
  unfold ballB at h
  exact of_decide_eq_true h
/-- A change after a side may have been reached. -/
def turnD (a x d : Int) : Int := if x = a then -1 else if x = 0 then 1 else d
theorem turn14_eq (a x d : Int) : spec_l14Turn.f a x d = some (turnD a x d) := by
  unfold spec_l14Turn.f turnD
  split
  · rfl
  · split <;> rfl
theorem line_step {a x d : Int} (ha : 1 ≤ a) (h : line a x d) : line a (x + d) (turnD a (x + d) d) := by
  unfold turnD
  simp only [line] at h ⊢
  split
  · omega
  · split <;> omega
theorem moved_eq {a x d : Int} (ha : 1 ≤ a ∧ a ≤ 50) (h : line a x d) : impl_moved.f a x d = some (x + d, turnD a (x + d) d) := by
  unfold impl_moved.f turnD
  rw [pw_wrap (a := x + d) (by simp only [line] at h; omega) (by simp only [line] at h; omega)]
  split
  · split
    · omega
    · rfl
  · split <;> rfl
theorem impl_ballStep {a b x y dx dy : Int} (h : ballB a b x y dx dy = true) : impl_BallStep.f a b x y dx dy = some (x + dx, y + dy, turnD a (x + dx) dx, turnD b (y + dy) dy, true) := by
  obtain ⟨h1, h2, h3⟩ := ballB_side h
  unfold impl_BallStep.f
  simp only [impl_ballOk, h, Option.bind_some, if_true]
  rw [moved_eq ⟨h1.1, h1.2.1⟩ h2, moved_eq h1.2.2 h3]
  rfl
theorem ballB_step {a b x y dx dy : Int} (h : ballB a b x y dx dy = true) : ballB a b (x + dx) (y + dy) (turnD a (x + dx) dx) (turnD b (y + dy) dy) = true := by
  obtain ⟨h1, h2, h3⟩ := ballB_side h
  exact decide_eq_true ⟨h1, line_step h1.1 h2, line_step h1.2.2.1 h3⟩

theorem ball_some (l : List Int) (hl : l.length ≤ 4611686018427387904) : ∃ a b x y dx dy, Ev (fun k => spec_MakeBall.f k l) (a, b, x, y, dx, dy) ∧ ballB a b x y dx dy = true := by
  obtain ⟨h, e⟩ := new_some l hl
  obtain ⟨v1, i1, h1, e1, p1, q1, r1⟩ := below_some l hl 0 h (by omega) 12 (by omega) (by omega)
  obtain ⟨v2, i2, h2, e2, p2, q2, r2⟩ := below_some l hl i1 h1 r1 12 (by omega) (by omega)
  obtain ⟨v3, i3, h3, e3, p3, q3, r3⟩ := below_some l hl i2 h2 r2 (1 + v1 + 1) (by omega) (by omega)
  obtain ⟨v4, i4, h4, e4, p4, q4, r4⟩ := below_some l hl i3 h3 r3 (1 + v2 + 1) (by omega) (by omega)
  obtain ⟨v5, i5, h5, e5, p5, q5, r5⟩ := below_some l hl i4 h4 r4 2 (by omega) (by omega)
  obtain ⟨v6, i6, h6, e6, p6, q6, r6⟩ := below_some l hl i5 h5 r5 2 (by omega) (by omega)
  unfold spec_MakeBall.f
  refine ⟨1 + v1, 1 + v2, v3, v4, turnD (1 + v1) v3 (2 * v5 - 1), turnD (1 + v2) v4 (2 * v6 - 1), Ev.bind e ?_, ?_⟩
  · unfold spec_l14Draw.f
    simp only [e1, e2, Option.bind_some, pw_wrap (a := 1 + v1) (by omega) (by omega), pw_wrap (a := 1 + v2) (by omega) (by omega), pw_wrap (a := 1 + v1 + 1) (by omega) (by omega), pw_wrap (a := 1 + v2 + 1) (by omega) (by omega), e3, e4, e5, e6, pw_wrap (a := 2 * v5) (by omega) (by omega), pw_wrap (a := 2 * v6) (by omega) (by omega), pw_wrap (a := 2 * v5 - 1) (by omega) (by omega), pw_wrap (a := 2 * v6 - 1) (by omega) (by omega), turn14_eq]
    exact Ev.now _
  · unfold ballB
    apply decide_eq_true
    refine ⟨by omega, ?_, ?_⟩
    · unfold line turnD
      split <;> (try split) <;> omega
    · unfold line turnD
      split <;> (try split) <;> omega

/-- One coordinate behind n steps. -/
def lineN (a : Int) : Nat → Int → Int → Int × Int
  | 0, x, d => (x, d)
  | n + 1, x, d => lineN a n (x + d) (turnD a (x + d) d)
/-- How far the unfolded ball is. -/
def ph (a x d : Int) : Int := if d = 1 then x else 2 * a - x
def unph (a p : Int) : Int × Int := if p < a then (p, 1) else (2 * a - p, -1)
theorem ph_bd {a x d : Int} (h : line a x d) : 0 ≤ ph a x d ∧ ph a x d < 2 * a := by
  simp only [line] at h
  unfold ph
  split <;> omega
theorem unph_ph {a x d : Int} (h : line a x d) : unph a (ph a x d) = (x, d) := by
  simp only [line] at h
  unfold unph ph
  rcases h with ⟨h0, h1, ⟨rfl, h2⟩ | ⟨rfl, h2⟩⟩
  · simp [h2]
  · rw [if_neg (show ¬ (-1 : Int) = 1 by omega), if_neg (by omega)]
    simp
    omega
theorem ph_step {a x d : Int} (ha : 1 ≤ a) (h : line a x d) : ph a (x + d) (turnD a (x + d) d) = (ph a x d + 1) % (2 * a) := by
  simp only [line] at h
  unfold ph turnD
  rcases h with ⟨h0, h1, ⟨rfl, h2⟩ | ⟨rfl, h2⟩⟩
  · rw [if_pos rfl]
    split
    · rename_i h3
      rw [if_neg (by omega), Int.emod_eq_of_lt (by omega) (by omega)]; omega
    · rw [if_neg (show ¬ x + 1 = 0 by omega), if_pos rfl, Int.emod_eq_of_lt (by omega) (by omega)]
  · rw [if_neg (show ¬ (-1 : Int) = 1 by omega)]
    split
    · omega
    · split
      · rename_i h3 h4
        rw [if_pos rfl, show 2 * a - x + 1 = 2 * a by omega, Int.emod_self]; omega
      · rw [if_neg (show ¬ (-1 : Int) = 1 by omega), Int.emod_eq_of_lt (by omega) (by omega)]; omega
theorem lineN_line {a : Int} (ha : 1 ≤ a) : ∀ (n : Nat) {x d : Int}, line a x d → line a (lineN a n x d).1 (lineN a n x d).2
  | 0, _, _, h => h
  | n + 1, _, _, h => lineN_line ha n (line_step ha h)
theorem lineN_ph {a : Int} (ha : 1 ≤ a) : ∀ (n : Nat) {x d : Int}, line a x d → ph a (lineN a n x d).1 (lineN a n x d).2 = (ph a x d + n) % (2 * a)
  | 0, x, d, h => by
    have := ph_bd h
    simp only [lineN]
    rw [Int.emod_eq_of_lt (by omega) (by omega)]; simp
  | n + 1, x, d, h => by
    simp only [lineN]
    rw [lineN_ph ha n (line_step ha h), ph_step ha h, Int.emod_add_emod]
    congr 1
    push_cast
    omega
theorem lineN_eq {a : Int} (ha : 1 ≤ a) (n : Nat) {x d : Int} (h : line a x d) : lineN a n x d = unph a ((ph a x d + n) % (2 * a)) := by
  have h1 := lineN_line ha n h
  rw [← lineN_ph ha n h, unph_ph h1]
theorem lineN_back {a : Int} (ha : 1 ≤ a) (n : Nat) {x d : Int} (h : line a x d) (hn : 2 * a ∣ (n : Int)) : lineN a n x d = (x, d) := by
  obtain ⟨q, hq⟩ := hn
  have := ph_bd h
  rw [lineN_eq ha n h, hq, Int.add_mul_emod_self_left, Int.emod_eq_of_lt (by omega) (by omega), unph_ph h]
theorem lineN_add (a : Int) : ∀ (n m : Nat) (x d : Int), lineN a (n + m) x d = lineN a m (lineN a n x d).1 (lineN a n x d).2
  | 0, m, x, d => by rw [Nat.zero_add]; rfl
  | n + 1, m, x, d => by rw [Nat.add_right_comm]; exact lineN_add a n m _ _
/-- A ball behind n steps. -/
def ballN (a b : Int) (n : Nat) (x y dx dy : Int) : Int × Int × Int × Int := ((lineN a n x dx).1, (lineN b n y dy).1, (lineN a n x dx).2, (lineN b n y dy).2)
theorem ballN_succ (a b : Int) (n : Nat) (x y dx dy : Int) : ballN a b (n + 1) x y dx dy = ballN a b n (x + dx) (y + dy) (turnD a (x + dx) dx) (turnD b (y + dy) dy) := rfl

/-- Both programs' loops of the common divisor come to Nat's gcd. -/
theorem gcd_step {a b : Int} (hb : 0 < b) (ha : 0 ≤ a) : (Int.gcd b (Int.tmod a b) : Int) = Int.gcd a b := by
  obtain ⟨n, rfl⟩ := Int.eq_ofNat_of_zero_le ha
  obtain ⟨m, rfl⟩ := Int.eq_ofNat_of_zero_le (Int.le_of_lt hb)
  rw [Int.tmod_eq_emod_of_nonneg ha]
  rw [show ((n : Int) % (m : Int)) = ((n % m : Nat) : Int) from by simp]
  simp only [Int.gcd, Int.natAbs_natCast]
  rw [Nat.gcd_comm n m, Nat.gcd_rec m n, Nat.gcd_comm]
theorem impl_gcd_l0 (k : Nat) : ∀ a b : Int, 0 ≤ a → 0 ≤ b → b < k → impl_gcd.l0 k a b = some (Int.gcd a b : Int) := by
  induction k with
  | zero => intro a b _ h0 h1; omega
  | succ k ih =>
    intro a b ha hb hk
    simp only [impl_gcd.l0]
    by_cases h : b = 0
    · subst h
      rw [if_pos rfl]
      simp
      omega
    · rw [if_neg h, ih b _ hb (by rw [Int.tmod_eq_emod_of_nonneg ha]; exact Int.emod_nonneg _ h) (by rw [Int.tmod_eq_emod_of_nonneg ha]; have := Int.emod_lt_of_pos a (show 0 < b by omega); omega)]
      rw [gcd_step (by omega) ha]

/-- The period of a table whose sides are from 1 to 50. -/
def per (a b : Int) : Int := 2 * a / (Int.gcd a b : Int) * b
theorem per_alt {a b : Int} (ha : 1 ≤ a) (hb : 1 ≤ b) : 2 * (a / (Int.gcd a b : Int) * b) = per a b := by
  unfold per
  have hd : (Int.gcd a b : Int) ∣ a := Int.gcd_dvd_left ..
  rw [Int.mul_ediv_assoc 2 hd, Int.mul_assoc]
theorem gcd_pos' {a b : Int} (ha : 1 ≤ a) : 1 ≤ (Int.gcd a b : Int) := by
  have : 0 < Int.gcd a b := Int.gcd_pos_of_ne_zero_left b (by omega)
  omega
theorem per_bd {a b : Int} (ha : 1 ≤ a) (ha2 : a ≤ 50) (hb : 1 ≤ b) (hb2 : b ≤ 50) : 0 ≤ a / (Int.gcd a b : Int) ∧ a / (Int.gcd a b : Int) ≤ 50 ∧ 0 ≤ 2 * a / (Int.gcd a b : Int) ∧ 2 * a / (Int.gcd a b : Int) ≤ 100 ∧ 0 < per a b ∧ per a b ≤ 5000 ∧ 0 ≤ a / (Int.gcd a b : Int) * b ∧ a / (Int.gcd a b : Int) * b ≤ 2500 := by
  have hg := gcd_pos' (b := b) ha
  have hd : (Int.gcd a b : Int) ∣ a := Int.gcd_dvd_left ..
  obtain ⟨q, hq⟩ := hd
  generalize hG : (Int.gcd a b : Int) = g at *
  have e1 : a / g = q := by rw [hq]; exact Int.mul_ediv_cancel_left _ (by omega)
  have hq0 : 0 < q := by
    rcases Int.lt_or_le 0 q with h | h
    · exact h
    · have : g * q ≤ 0 := Int.mul_nonpos_of_nonneg_of_nonpos (by omega) h
      omega
  have hqa : q ≤ a := by
    have : 1 * q ≤ g * q := Int.mul_le_mul_of_nonneg_right hg (by omega)
    omega
  have h1 : q * b ≤ 50 * 50 := Int.mul_le_mul (by omega) hb2 (by omega) (by omega)
  have h2 : 0 < q * b := Int.mul_pos hq0 (by omega)
  have e2 : per a b = 2 * (q * b) := by rw [← per_alt ha hb, hG, e1]
  have e3 : 2 * a / g = 2 * q := by rw [hq, Int.mul_left_comm]; exact Int.mul_ediv_cancel_left _ (by omega)
  rw [e1, e2, e3]
  omega
theorem impl_period (k : Nat) (a b : Int) (hk : 50 < k) : impl_BallPeriod.f k a b = some (if 1 ≤ a ∧ a ≤ 50 ∧ 1 ≤ b ∧ b ≤ 50 then per a b else 0) := by
  unfold impl_BallPeriod.f impl_gcd.f
  simp only [sideOk_eq, Option.bind_some, decide_eq_true_eq]
  by_cases h : 1 ≤ a ∧ a ≤ 50 ∧ 1 ≤ b ∧ b ≤ 50
  · obtain ⟨h1, h2, h3, h4⟩ := h
    have hb := per_bd h1 h2 h3 h4
    have hg := gcd_pos' (b := b) h1
    rw [if_pos ⟨h1, h2⟩, if_pos ⟨h3, h4⟩, if_pos ⟨h1, h2, h3, h4⟩, impl_gcd_l0 k a b (by omega) (by omega) (by omega)]
    simp only [Option.bind_some]
    rw [if_neg (by omega), Int.tdiv_eq_ediv_of_nonneg (by omega), pw_wrap (a := a / _) (by omega) (by omega), pw_wrap (a := a / _ * b) (by omega) (by omega), per_alt h1 h3, pw_wrap (by omega) (by omega)]
  · by_cases h2 : 1 ≤ a ∧ a ≤ 50
    · rw [if_pos h2, if_neg (fun h3 => h ⟨h2.1, h2.2, h3⟩), if_neg h]
    · rw [if_neg h2, if_neg h]

theorem impl_period_ev {a b : Int} (h : 1 ≤ a ∧ a ≤ 50 ∧ 1 ≤ b ∧ b ≤ 50) : Ev (fun k => impl_BallPeriod.f k a b) (per a b) := ev_k (n := 50) fun k hk => by rw [impl_period k a b hk, if_pos h]

/-- The ball is in a corner. -/
abbrev inCorner (a b x y : Int) : Prop := (x = 0 ∨ x = a) ∧ (y = 0 ∨ y = b)
/-- The first time, of n, at which it is so; -1 if there is none. -/
def cornerGo (a b : Int) : Nat → Int → Int → Int → Int → Int → Int
  | 0, _, _, _, _, _ => -1
  | n + 1, i, x, y, dx, dy => if inCorner a b x y then i else cornerGo a b n (i + 1) (x + dx) (y + dy) (turnD a (x + dx) dx) (turnD b (y + dy) dy)
theorem cornerGo_last (a b : Int) : ∀ (n : Nat) (i x y dx dy : Int), 0 ≤ i →
    cornerGo a b (n + 1) i x y dx dy = if cornerGo a b n i x y dx dy = -1 then (if inCorner a b (ballN a b n x y dx dy).1 (ballN a b n x y dx dy).2.1 then i + n else -1) else cornerGo a b n i x y dx dy := by
  intro n
  induction n with
  | zero =>
    intro i x y dx dy hi
    simp [cornerGo, ballN, lineN]
  | succ n ih =>
    intro i x y dx dy hi
    rw [cornerGo]
    by_cases hc : inCorner a b x y
    · rw [if_pos hc]
      have : cornerGo a b (n + 1) i x y dx dy = i := by rw [cornerGo, if_pos hc]
      rw [this, if_neg (by omega)]
    · rw [if_neg hc, ih _ _ _ _ _ (by omega)]
      have : cornerGo a b (n + 1) i x y dx dy = cornerGo a b n (i + 1) (x + dx) (y + dy) (turnD a (x + dx) dx) (turnD b (y + dy) dy) := by rw [cornerGo, if_neg hc]
      rw [this, ballN_succ]
      congr 1
      congr 1
      push_cast
      omega
theorem per_dvd {a b : Int} (ha : 1 ≤ a) (hb : 1 ≤ b) : 2 * a ∣ per a b ∧ 2 * b ∣ per a b := by
  have h1 : (Int.gcd a b : Int) ∣ a := Int.gcd_dvd_left ..
  have h2 : (Int.gcd a b : Int) ∣ b := Int.gcd_dvd_right ..
  rw [← per_alt ha hb]
  have hg := gcd_pos' (b := b) ha
  constructor
  · obtain ⟨p, hp⟩ := h1
    obtain ⟨q, hq⟩ := h2
    refine ⟨q, ?_⟩
    generalize (Int.gcd a b : Int) = g at *
    rw [hp, Int.mul_ediv_cancel_left _ (by omega : g ≠ 0), hq]
    simp only [Int.mul_assoc, Int.mul_left_comm, Int.mul_comm]
  · refine ⟨a / (Int.gcd a b : Int), ?_⟩
    simp only [Int.mul_assoc, Int.mul_left_comm, Int.mul_comm]
theorem ballN_per {a b x y dx dy : Int} (h : ballB a b x y dx dy = true) : ballN a b (per a b).toNat x y dx dy = (x, y, dx, dy) := by
  obtain ⟨h1, h2, h3⟩ := ballB_side h
  have hp := per_bd h1.1 h1.2.1 h1.2.2.1 h1.2.2.2
  have hd := per_dvd h1.1 h1.2.2.1
  have e : ((per a b).toNat : Int) = per a b := by omega
  unfold ballN
  rw [lineN_back h1.1 _ h2 (by rw [e]; exact hd.1), lineN_back h1.2.2.1 _ h3 (by rw [e]; exact hd.2)]
theorem corner_more {a b x y dx dy : Int} (h : ballB a b x y dx dy = true) : cornerGo a b ((per a b).toNat + 1) 0 x y dx dy = cornerGo a b (per a b).toNat 0 x y dx dy := by
  obtain ⟨h1, h2, h3⟩ := ballB_side h
  have hp := per_bd h1.1 h1.2.1 h1.2.2.1 h1.2.2.2
  rw [cornerGo_last a b _ 0 x y dx dy (by omega), ballN_per h]
  by_cases hc : cornerGo a b (per a b).toNat 0 x y dx dy = -1
  · rw [if_pos hc]
    have hn : ¬ inCorner a b x y := by
      intro hi
      obtain ⟨m, hm⟩ : ∃ m, (per a b).toNat = m + 1 := ⟨(per a b).toNat - 1, by omega⟩
      rw [hm, cornerGo, if_pos hi] at hc
      omega
    rw [if_neg hn, hc]
  · rw [if_neg hc]
/-- What both answer. -/
def stepsOf (a b x y dx dy : Int) : Int := if ballB a b x y dx dy = true then cornerGo a b (per a b).toNat 0 x y dx dy else -1
/-- How often the sides are reached in n steps. -/
def bounceGo (a b : Int) : Nat → Int → Int → Int → Int → Int → Int → Int × Int
  | 0, u, v, _, _, _, _ => (u, v)
  | n + 1, u, v, x, y, dx, dy => bounceGo a b n (if x + dx = 0 ∨ x + dx = a then u + 1 else u) (if y + dy = 0 ∨ y + dy = b then v + 1 else v) (x + dx) (y + dy) (turnD a (x + dx) dx) (turnD b (y + dy) dy)
theorem impl_bounce_l0 (a b : Int) : ∀ (n : Nat) (u v x y dx dy : Int), 0 ≤ u → u + n ≤ 5000 → 0 ≤ v → v + n ≤ 5000 → ballB a b x y dx dy = true →
    Ev (fun k => impl_BouncesIn.l0 k a b u v (n : Int) x y dx dy) (bounceGo a b n u v x y dx dy) := by
  intro n
  induction n with
  | zero =>
    intro u v x y dx dy hu hu2 hv hv2 hb
    refine ev_up ?_
    simp only [impl_BouncesIn.l0, if_neg (show ¬ ((0 : Nat) : Int) > 0 by omega)]
    exact Ev.now _
  | succ n ih =>
    intro u v x y dx dy hu hu2 hv hv2 hb
    have hn : wrap64 (((n + 1 : Nat) : Int) - 1) = (n : Int) := by unfold wrap64; omega
    have wu : wrap64 (u + 1) = u + 1 := pw_wrap (by omega) (by omega)
    have wv : wrap64 (v + 1) = v + 1 := pw_wrap (by omega) (by omega)
    refine ev_up ?_
    simp only [impl_BouncesIn.l0, if_pos (show ((n + 1 : Nat) : Int) > 0 by omega), impl_ballStep hb, Option.bind_some]
    rw [bounceGo]
    by_cases hx : x + dx = 0 ∨ x + dx = a
    · have h1 : Ev (fun k => impl_BouncesIn.j1 k a b u v ((n + 1 : Nat) : Int) true (x + dx) (y + dy) (turnD a (x + dx) dx) (turnD b (y + dy) dy)) (bounceGo a b n (u + 1) (if y + dy = 0 ∨ y + dy = b then v + 1 else v) (x + dx) (y + dy) (turnD a (x + dx) dx) (turnD b (y + dy) dy)) := by
        refine ev_up ?_
        by_cases hy : y + dy = 0
        · simp only [impl_BouncesIn.j1, if_true, if_pos hy, if_pos (show y + dy = 0 ∨ y + dy = b from .inl hy), hn, wu, wv]
          exact ih (u + 1) (v + 1) _ _ _ _ (by omega) (by omega) (by omega) (by omega) (ballB_step hb)
        · by_cases hy2 : y + dy = b
          · simp only [impl_BouncesIn.j1, if_true, if_neg hy, if_pos hy2, if_pos (show y + dy = 0 ∨ y + dy = b from .inr hy2), hn, wu, wv]
            exact ih (u + 1) (v + 1) _ _ _ _ (by omega) (by omega) (by omega) (by omega) (ballB_step hb)
          · simp only [impl_BouncesIn.j1, if_true, if_neg hy, if_neg hy2, if_neg (show ¬ (y + dy = 0 ∨ y + dy = b) by omega), hn, wu]
            exact ih (u + 1) v _ _ _ _ (by omega) (by omega) (by omega) (by omega) (ballB_step hb)
      rw [if_pos hx]
      by_cases hx0 : x + dx = 0
      · simp only [if_pos hx0]
        exact h1
      · have hxa : x + dx = a := by omega
        simp only [if_neg hx0, show (x + dx == a) = true from by simpa using hxa]
        exact h1
    · have h1 : Ev (fun k => impl_BouncesIn.j1 k a b u v ((n + 1 : Nat) : Int) false (x + dx) (y + dy) (turnD a (x + dx) dx) (turnD b (y + dy) dy)) (bounceGo a b n u (if y + dy = 0 ∨ y + dy = b then v + 1 else v) (x + dx) (y + dy) (turnD a (x + dx) dx) (turnD b (y + dy) dy)) := by
        refine ev_up ?_
        by_cases hy : y + dy = 0
        · simp only [impl_BouncesIn.j1, Bool.false_eq_true, if_false, if_pos hy, if_pos (show y + dy = 0 ∨ y + dy = b from .inl hy), hn, wv]
          exact ih u (v + 1) _ _ _ _ (by omega) (by omega) (by omega) (by omega) (ballB_step hb)
        · by_cases hy2 : y + dy = b
          · simp only [impl_BouncesIn.j1, Bool.false_eq_true, if_false, if_neg hy, if_pos hy2, if_pos (show y + dy = 0 ∨ y + dy = b from .inr hy2), hn, wv]
            exact ih u (v + 1) _ _ _ _ (by omega) (by omega) (by omega) (by omega) (ballB_step hb)
          · simp only [impl_BouncesIn.j1, Bool.false_eq_true, if_false, if_neg hy, if_neg hy2, if_neg (show ¬ (y + dy = 0 ∨ y + dy = b) by omega), hn]
            exact ih u v _ _ _ _ (by omega) (by omega) (by omega) (by omega) (ballB_step hb)
      rw [if_neg hx]
      simp only [if_neg (show ¬ x + dx = 0 by omega), show (x + dx == a) = false from by simp; omega]
      exact h1
/-- What both answer. -/
def bouncesOf (a b x y dx dy : Int) : Int × Int := if ballB a b x y dx dy = true then bounceGo a b (per a b).toNat 0 0 x y dx dy else (0, 0)
theorem impl_bounces (a b x y dx dy : Int) : Ev (fun k => impl_BouncesIn.f k a b x y dx dy) (bouncesOf a b x y dx dy) := by
  unfold impl_BouncesIn.f bouncesOf
  simp only [impl_ballOk, Option.bind_some]
  by_cases hb : ballB a b x y dx dy = true
  · have hbs := (ballB_side hb).1
    have hp := per_bd hbs.1 hbs.2.1 hbs.2.2.1 hbs.2.2.2
    have e : ((per a b).toNat : Int) = per a b := by omega
    simp only [if_pos hb]
    refine Ev.bind (impl_period_ev hbs) ?_
    have := impl_bounce_l0 a b (per a b).toNat 0 0 x y dx dy (by omega) (by omega) (by omega) (by omega) hb
    rw [e] at this
    exact this
  · simp only [if_neg hb]
    exact Ev.now _

/-- How many of the next n numbers behind p are multiples of a. -/
theorem div_step {a p : Int} (ha : 1 ≤ a) : (p + 1) / a = p / a + (if (p + 1) % a = 0 then 1 else 0) := by
  have e1 := Int.mul_ediv_add_emod p a
  have e2 := Int.mul_ediv_add_emod (p + 1) a
  have b1 := Int.emod_nonneg p (show a ≠ 0 by omega)
  have b2 := Int.emod_lt_of_pos p (show 0 < a by omega)
  have b3 := Int.emod_nonneg (p + 1) (show a ≠ 0 by omega)
  have b4 := Int.emod_lt_of_pos (p + 1) (show 0 < a by omega)
  generalize p / a = q at *
  generalize (p + 1) / a = q' at *
  generalize p % a = r at *
  generalize (p + 1) % a = r' at *
  have h1 : a * (q' - q) = r + 1 - r' := by rw [Int.mul_sub]; omega
  split
  · rename_i hz
    subst hz
    have : q' - q = 1 := by
      have h2 : 0 < a * (q' - q) := by omega
      have h3 : a * (q' - q) ≤ a * 1 := by omega
      have h4 := Int.lt_of_mul_lt_mul_left (show a * 0 < a * (q' - q) by omega) (by omega)
      have h5 : q' - q ≤ 1 := Int.le_of_mul_le_mul_left h3 (by omega)
      omega
    omega
  · rename_i hz
    have : q' - q = 0 := by
      have h2 : a * (q' - q) < a * 1 := by omega
      have h4 : a * (-1) < a * (q' - q) := by omega
      have h5 := Int.lt_of_mul_lt_mul_left h2 (by omega)
      have h6 := Int.lt_of_mul_lt_mul_left h4 (by omega)
      omega
    omega
theorem hit_iff {a x d q : Int} (ha : 1 ≤ a) (h : line a x d) (hq : q % a = ph a x d % a) : (x + d = 0 ∨ x + d = a) ↔ (q + 1) % a = 0 := by
  have e : (q + 1) % a = (ph a x d + 1) % a := by rw [Int.add_emod, hq, ← Int.add_emod]
  rw [e]
  obtain ⟨h0, h1, h2⟩ := h
  rcases h2 with ⟨rfl, h3⟩ | ⟨rfl, h3⟩
  · unfold ph
    rw [if_pos rfl]
    by_cases hx : x + 1 = a
    · rw [hx, Int.emod_self]
      omega
    · rw [Int.emod_eq_of_lt (by omega) (by omega)]
      omega
  · unfold ph
    rw [if_neg (by omega)]
    by_cases hx : x = 1
    · subst hx
      rw [show 2 * a - 1 + 1 = 0 + a * 2 from by omega, Int.add_mul_emod_self_left]
      simp
    · rw [show 2 * a - x + 1 = (a - (x - 1)) + a * 1 from by omega, Int.add_mul_emod_self_left, Int.emod_eq_of_lt (by omega) (by omega)]
      omega
theorem ph_next {a x d q : Int} (ha : 1 ≤ a) (h : line a x d) (hq : q % a = ph a x d % a) : (q + 1) % a = ph a (x + d) (turnD a (x + d) d) % a := by
  rw [ph_step ha h, Int.emod_emod_of_dvd _ (Int.dvd_mul_left ..), Int.add_emod, hq, ← Int.add_emod]
theorem bounce_one {a b : Int} : ∀ (n : Nat) (u v x y dx dy q : Int), ballB a b x y dx dy = true → q % a = ph a x dx % a → (bounceGo a b n u v x y dx dy).1 = u + ((q + n) / a - q / a)
  | 0, u, v, x, y, dx, dy, q, h, hq => by simp [bounceGo]
  | n + 1, u, v, x, y, dx, dy, q, h, hq => by
    obtain ⟨hab, h1, h2⟩ := ballB_side h
    rw [bounceGo, bounce_one n _ _ _ _ _ _ (q + 1) (ballB_step h) (ph_next hab.1 h1 hq)]
    have e := hit_iff hab.1 h1 hq
    have d := div_step (a := a) (p := q) hab.1
    have c : q + 1 + (n : Int) = q + ((n + 1 : Nat) : Int) := by omega
    rw [c]
    by_cases hh : x + dx = 0 ∨ x + dx = a
    · rw [if_pos hh]
      rw [if_pos (e.1 hh)] at d
      omega
    · rw [if_neg hh]
      rw [if_neg (fun z => hh (e.2 z))] at d
      omega
theorem bounce_two {a b : Int} : ∀ (n : Nat) (u v x y dx dy q : Int), ballB a b x y dx dy = true → q % b = ph b y dy % b → (bounceGo a b n u v x y dx dy).2 = v + ((q + n) / b - q / b)
  | 0, u, v, x, y, dx, dy, q, h, hq => by simp [bounceGo]
  | n + 1, u, v, x, y, dx, dy, q, h, hq => by
    obtain ⟨hab, h1, h2⟩ := ballB_side h
    rw [bounceGo, bounce_two n _ _ _ _ _ _ (q + 1) (ballB_step h) (ph_next hab.2.2.1 h2 hq)]
    have e := hit_iff hab.2.2.1 h2 hq
    have d := div_step (a := b) (p := q) hab.2.2.1
    have c : q + 1 + (n : Int) = q + ((n + 1 : Nat) : Int) := by omega
    rw [c]
    by_cases hh : y + dy = 0 ∨ y + dy = b
    · rw [if_pos hh]
      rw [if_pos (e.1 hh)] at d
      omega
    · rw [if_neg hh]
      rw [if_neg (fun z => hh (e.2 z))] at d
      omega
theorem whole_turns {a q n : Int} (ha : 1 ≤ a) (h : a ∣ n) : ((q + n) / a - q / a) * a = n := by
  obtain ⟨m, rfl⟩ := h
  rw [Int.add_mul_ediv_left _ _ (by omega), Int.mul_comm]
  congr 1
  omega
theorem bounces_turn {a b x y dx dy : Int} (h : ballB a b x y dx dy = true) : (bouncesOf a b x y dx dy).1 * a = per a b ∧ (bouncesOf a b x y dx dy).2 * b = per a b := by
  obtain ⟨hab, h1, h2⟩ := ballB_side h
  have hp := per_bd hab.1 hab.2.1 hab.2.2.1 hab.2.2.2
  have hd := per_dvd hab.1 hab.2.2.1
  have e : (((per a b).toNat : Nat) : Int) = per a b := by omega
  unfold bouncesOf
  rw [if_pos h, bounce_one _ 0 0 x y dx dy (ph a x dx) h rfl, bounce_two _ 0 0 x y dx dy (ph b y dy) h rfl, e, Int.zero_add, Int.zero_add]
  exact ⟨whole_turns hab.1 (Int.dvd_trans (Int.dvd_mul_left ..) hd.1), whole_turns hab.2.2.1 (Int.dvd_trans (Int.dvd_mul_left ..) hd.2)⟩

theorem impl_after_l0 (a b s : Int) (hs : s ≤ 10000) : ∀ (n : Nat) (i x y dx dy : Int), 0 ≤ i → i + n = s → ballB a b x y dx dy = true →
    Ev (fun k => impl_BallAfter.l0 k a b s i x y dx dy) ((ballN a b n x y dx dy).1, (ballN a b n x y dx dy).2.1, (ballN a b n x y dx dy).2.2.1, (ballN a b n x y dx dy).2.2.2, true) := by
  intro n
  induction n with
  | zero =>
    intro i x y dx dy h0 hi hb
    refine Ev.step (f := fun _ => some (x, y, dx, dy, true)) (fun k => ?_) (Ev.now _)
    simp only [impl_BallAfter.l0]
    rw [if_neg (by omega)]
  | succ n ih =>
    intro i x y dx dy h0 hi hb
    rw [ballN_succ]
    refine Ev.step (fun k => ?_) (ih (i + 1) _ _ _ _ (by omega) (by omega) (ballB_step hb))
    simp only [impl_BallAfter.l0]
    rw [if_pos (by omega), impl_ballStep hb]
    simp only [Option.bind_some]
    rw [pw_wrap (a := i + 1) (by omega) (by omega)]
/-- What both answer. -/
def afterOf (a b x y dx dy s : Int) : Int × Int × Int × Int × Bool :=
  if ballB a b x y dx dy = true ∧ 0 ≤ s ∧ s ≤ 10000 then ((ballN a b s.toNat x y dx dy).1, (ballN a b s.toNat x y dx dy).2.1, (ballN a b s.toNat x y dx dy).2.2.1, (ballN a b s.toNat x y dx dy).2.2.2, true) else (0, 0, 0, 0, false)
theorem impl_after (a b x y dx dy s : Int) : Ev (fun k => impl_BallAfter.f k a b x y dx dy s) (afterOf a b x y dx dy s) := by
  unfold impl_BallAfter.f afterOf
  simp only [impl_ballOk, Option.bind_some]
  by_cases hb : ballB a b x y dx dy = true
  · rw [hb]
    simp only [if_true, true_and]
    by_cases h : 0 ≤ s ∧ s ≤ 10000
    · rw [if_pos h]
      refine Ev.step (fun k => ?_) (impl_after_l0 a b s h.2 s.toNat 0 x y dx dy (by omega) (by omega) hb)
      rw [if_neg (by omega)]
      simp only [decide_eq_false (show ¬ s > 10000 by omega), impl_BallAfter.j0]
      rfl
    · rw [if_neg h]
      refine Ev.step (fun k => ?_) (Ev.now _)
      by_cases h1 : s < 0
      · rw [if_pos h1]; simp only [impl_BallAfter.j0]; rfl
      · rw [if_neg h1]; simp only [decide_eq_true (show s > 10000 by omega), impl_BallAfter.j0]; rfl
  · rw [Bool.not_eq_true] at hb
    rw [hb]
    simp only [Bool.false_eq_true, if_false, false_and]
    refine Ev.step (fun k => ?_) (Ev.now _)
    simp only [impl_BallAfter.j0]
    rfl

theorem impl_phase {a x d : Int} (ha : 1 ≤ a ∧ a ≤ 50) (h : line a x d) : Ev (fun k => impl_PhaseOf.f k a x d) (ph a x d) := by
  obtain ⟨h0, h1, h2⟩ := h
  unfold impl_PhaseOf.f
  simp only [sideOk_eq, Option.bind_some, decide_eq_true ha, if_true, if_neg (show ¬ x < 0 by omega), if_neg (show ¬ x > a by omega)]
  have e : wrap64 (2 * a) = 2 * a := pw_wrap (by omega) (by omega)
  have e2 : wrap64 (2 * a - x) = 2 * a - x := pw_wrap (by omega) (by omega)
  rcases h2 with ⟨rfl, h3⟩ | ⟨rfl, h3⟩
  · simp only [if_true]
    refine ev_up ?_
    simp only [impl_PhaseOf.j0, Bool.false_eq_true, if_false, if_neg (show ¬ (1 : Int) = -1 by omega), e, if_neg (show ¬ 2 * a = 0 by omega)]
    rw [Int.tmod_eq_emod_of_nonneg h0, Int.emod_eq_of_lt h0 (by omega)]
    exact Ev.now _
  · simp only [if_neg (show ¬ (-1 : Int) = 1 by omega), bne_self_eq_false]
    refine ev_up ?_
    simp only [impl_PhaseOf.j0, Bool.false_eq_true, if_false, if_true, e, e2, if_neg (show ¬ 2 * a = 0 by omega)]
    rw [Int.tmod_eq_emod_of_nonneg (by omega), Int.emod_eq_of_lt (by omega) (by omega)]
    exact Ev.now _

theorem after_ok {a b x y dx dy s : Int} (h : ballB a b x y dx dy = true) (h0 : 0 ≤ s) (h1 : s ≤ 10000) : afterOf a b x y dx dy s = ((lineN a s.toNat x dx).1, (lineN b s.toNat y dy).1, (lineN a s.toNat x dx).2, (lineN b s.toNat y dy).2, true) := by
  unfold afterOf
  rw [if_pos ⟨h, h0, h1⟩]
  rfl
theorem FnBalls : laws_FnBalls.Pure := by
  intro l hl _
  apply Ev.rounds
  unfold laws_FnBalls.f
  by_cases hlen : (l.length : Int) > 1048576
  · simp only [if_pos hlen]
    exact Ev.now _
  · simp only [if_neg hlen]
    obtain ⟨a, b, x, y, dx, dy, hm, h⟩ := ball_some l (by omega)
    obtain ⟨v, hv, v0, v1⟩ := num_some l (by omega) 40 (by omega) (by omega)
    obtain ⟨hab, h1, h2⟩ := ballB_side h
    have hp := per_bd hab.1 hab.2.1 hab.2.2.1 hab.2.2.2
    have hd := per_dvd hab.1 hab.2.2.1
    have hk0 : 0 ≤ Int.tmod v 300 := Int.tmod_nonneg _ v0
    have hk1 : Int.tmod v 300 < 300 := by rw [Int.tmod_eq_emod_of_nonneg v0]; exact Int.emod_lt_of_pos _ (by omega)
    generalize hK : Int.tmod v 300 = s at hk0 hk1
    have ep : (((per a b).toNat : Nat) : Int) = per a b := by omega
    have es : ((s.toNat : Nat) : Int) = s := by omega
    refine Ev.bind hm ?_
    refine Ev.bind hv ?_
    simp only [hK]
    refine Ev.bind (impl_after a b x y dx dy s) ?_
    refine Ev.bind (impl_period_ev hab) ?_
    refine Ev.bind (impl_after a b x y dx dy (per a b)) ?_
    refine Ev.bind (impl_bounces a b x y dx dy) ?_
    simp only [impl_ballStep h, Option.bind_some]
    refine Ev.bind (impl_after a b x y dx dy 1) ?_
    simp only [impl_ballOk, h, Option.bind_some, if_true, after_ok h hk0 (show s ≤ 10000 by omega), after_ok h (show 0 ≤ per a b by omega) (show per a b ≤ 10000 by omega), after_ok h (show (0 : Int) ≤ 1 by omega) (show (1 : Int) ≤ 10000 by omega)]
    have eb := bounces_turn h
    rw [lineN_back hab.1 (per a b).toNat h1 (by rw [ep]; exact hd.1), lineN_back hab.2.2.1 (per a b).toNat h2 (by rw [ep]; exact hd.2)]
    simp only [show (1 : Int).toNat = 1 from rfl, lineN, beq_self_eq_true, Bool.and_self, if_true, if_pos (show per a b > 0 by omega), eb.1, eb.2, pw_wrap (a := per a b) (by omega) (by omega)]
    have hla := lineN_line hab.1 s.toNat h1
    have hlb := lineN_line hab.2.2.1 s.toNat h2
    refine Ev.bind (impl_phase ⟨hab.1, hab.2.1⟩ hla) ?_
    refine Ev.bind (impl_phase ⟨hab.1, hab.2.1⟩ h1) ?_
    have ba := ph_bd h1
    have bb := ph_bd h2
    simp only [pw_wrap (a := 2 * a) (by omega) (by omega), pw_wrap (a := 2 * b) (by omega) (by omega), if_neg (show ¬ 2 * a = 0 by omega), if_neg (show ¬ 2 * b = 0 by omega), pw_wrap (a := ph a x dx + s) (by omega) (by omega), pw_wrap (a := ph b y dy + s) (by omega) (by omega), lineN_ph hab.1 s.toNat h1, es, Int.tmod_eq_emod_of_nonneg (show 0 ≤ ph a x dx + s by omega), Int.tmod_eq_emod_of_nonneg (show 0 ≤ ph b y dy + s by omega), if_true]
    refine Ev.bind (impl_phase ⟨hab.2.2.1, hab.2.2.2⟩ hlb) ?_
    refine Ev.bind (impl_phase ⟨hab.2.2.1, hab.2.2.2⟩ h2) ?_
    rw [lineN_ph hab.2.2.1 s.toNat h2, es]
    simp only [pw_wrap (a := ph b y dy + s) (by omega) (by omega), Int.tmod_eq_emod_of_nonneg (show 0 ≤ ph b y dy + s by omega), beq_self_eq_true]
    exact Ev.now _

end Go.Proofs.Ytnoopmbhdlfkbaa.Pure
