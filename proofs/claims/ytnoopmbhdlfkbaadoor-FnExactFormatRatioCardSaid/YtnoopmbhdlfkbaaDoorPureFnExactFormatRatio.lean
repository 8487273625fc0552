/- The program's FormatRatio returns what the reference's returns, for all arguments: no condition. -/
import Derived.Test.YtnoopmbhdlfkbaaDoorSayFnExactFormatRatio
namespace Go.Proofs.YtnoopmbhdlfkbaaDoor.Pure
open Go.RowKit Go.Proofs.YtnoopmbhdlfkbaaDoor.S Go.Proofs.YtnoopmbhdlfkbaaDoorW.PrintWords Go.Proofs.YtnoopmbhdlfkbaaDoorW.PrintLast
set_option linter.unusedVariables false
set_option linter.unusedSimpArgs false

theorem ev_up {α : Type} {g : Nat → Option α} {r : α} (h : Ev (fun k => g (k + 1)) r) : Ev g r := Ev.step (fun _ => rfl) h
theorem ev_k {α : Type} {g : Nat → Option α} {r : α} {n : Nat} (h : ∀ k, n < k → g k = some r) : Ev g r := ⟨n + 1, fun k hk => h k (by omega)⟩

theorem pw_wf {a : Int} (h : (Lit.int .i64 a).wf = true) : -9223372036854775808 ≤ a ∧ a ≤ 9223372036854775807 := by
  simp [Lit.wf, IntKind.min, IntKind.max, IntKind.signed, IntKind.bits] at h
  omega
theorem pw_wrap {a : Int} (h0 : -9223372036854775808 ≤ a) (h1 : a ≤ 9223372036854775807) : wrap64 a = a := by
  unfold wrap64
  omega

/-- A number in decimals. -/
def decB (u : Nat) : ByteArray := ⟨(Go.Lib.decDigits u).toArray⟩
def itoaB (n : Int) : ByteArray := ⟨(Go.Lib.itoa n).toArray⟩
theorem nDig_le : ∀ (d u : Nat), u < 10 ^ (d + 1) → Go.Lib.nDigits u ≤ d + 1
  | 0, u, h => by rw [Go.Lib.nDigits_small (by simpa using h)]; omega
  | d + 1, u, h => by
    by_cases hu : u < 10
    · rw [Go.Lib.nDigits_small hu]; omega
    · rw [Go.Lib.nDigits_big hu]
      have := nDig_le d (u / 10) (by rw [Nat.pow_succ] at h; omega)
      omega
theorem decB_size (u : Nat) : (decB u).size = Go.Lib.nDigits u := by
  show (Go.Lib.decDigits u).toArray.size = _
  rw [List.size_toArray, Go.Lib.decDigits_length]
theorem bytes_app (a b : List UInt8) : (⟨a.toArray⟩ : ByteArray) ++ ⟨b.toArray⟩ = ⟨(a ++ b).toArray⟩ := by
  apply ByteArray.ext
  rw [ByteArray.data_append]
  simp
theorem app_assocB (a b c : ByteArray) : a ++ b ++ c = a ++ (b ++ c) := by
  apply ByteArray.ext
  simp [ByteArray.data_append, Array.append_assoc]
theorem one_strB (n : Int) (u : Nat) (h : n = ((u : Nat) : Int)) : strOfNums [n] = ⟨[UInt8.ofNat u].toArray⟩ := by
  subst h
  simp [strOfNums]
theorem strOne_size (n : Int) : (strOfNums [n]).size = 1 := id rfl
theorem decB_small {u : Nat} (h : u < 10) : decB u = strOfNums [(48 + (u : Int))] := by
  rw [one_strB _ (48 + u) (by omega)]
  unfold decB
  rw [Go.Lib.decDigits, dif_pos h]
theorem decB_big {u : Nat} (h : ¬ u < 10) : decB u = decB (u / 10) ++ strOfNums [(48 + (u : Int) % 10)] := by
  rw [one_strB _ (48 + u % 10) (by omega)]
  unfold decB
  rw [bytes_app, Go.Lib.decDigits, dif_neg h]
theorem itoaB_pos {n : Int} (h : 0 ≤ n) : itoaB n = decB n.toNat := by
  unfold itoaB Go.Lib.itoa decB
  rw [if_neg (by omega)]
theorem itoaB_neg {n : Int} (h : n < 0) : itoaB n = (⟨#[45]⟩ : ByteArray) ++ decB n.natAbs := by
  unfold itoaB Go.Lib.itoa decB
  rw [if_pos h, show (⟨#[45]⟩ : ByteArray) = ⟨[45].toArray⟩ from rfl, bytes_app]
  rfl
theorem itoaB_size {n : Int} (h0 : -9223372036854775808 ≤ n) (h1 : n ≤ 9223372036854775807) : (itoaB n).size ≤ 20 := by
  by_cases h : 0 ≤ n
  · rw [itoaB_pos h, decB_size]
    have := nDig_le 18 n.toNat (by omega)
    omega
  · rw [itoaB_neg (by omega), ByteArray.size_append, decB_size]
    have := nDig_le 18 n.natAbs (by omega)
    show 1 + _ ≤ 20
    omega
theorem spec_fmt_l0 : ∀ (u : Nat) (x : Int) (acc : ByteArray), x = u → u < 10 ^ 19 → acc.size + Go.Lib.nDigits u ≤ 40 → Ev (fun k => spec_FormatInt.l0 k x acc) (decB u ++ acc) := by
  intro u
  induction u using Nat.strongRecOn with
  | _ u ih =>
    intro x acc hx hu hs
    subst hx
    refine ev_up ?_
    have h9 : (10 : Int) ^ 19 = 10000000000000000000 := by decide
    by_cases h : u < 10
    · have hw : (wrap64 (48 + (u : Int))) % 256 = 48 + (u : Int) := by rw [pw_wrap (by omega) (by omega)]; omega
      have hn := Go.Lib.nDigits_small h
      simp only [spec_FormatInt.l0, if_neg (show ¬ ((u : Int) > 9) by omega), hw, Option.bind_some, strOne_size, if_pos (show 1 + acc.size ≤ 9223372036854775807 by omega)]
      rw [decB_small h]
      exact Ev.now _
    · have ht : Int.tmod (u : Int) 10 = (u : Int) % 10 := Int.tmod_eq_emod_of_nonneg (by omega)
      have hq : Int.tdiv (u : Int) 10 = (u : Int) / 10 := Int.tdiv_eq_ediv_of_nonneg (by omega)
      have hw : (wrap64 (48 + (u : Int) % 10)) % 256 = 48 + (u : Int) % 10 := by rw [pw_wrap (by omega) (by omega)]; omega
      have hw2 : wrap64 ((u : Int) / 10) = ((u / 10 : Nat) : Int) := by rw [pw_wrap (by omega) (by omega)]; omega
      have hn := Go.Lib.nDigits_big h
      simp only [spec_FormatInt.l0, if_pos (show ((u : Int) > 9) by omega), ht, hq, hw, hw2, Option.bind_some, strOne_size, if_pos (show 1 + acc.size ≤ 9223372036854775807 by omega)]
      rw [decB_big h, app_assocB]
      exact ih (u / 10) (by omega) _ _ rfl (by omega) (by rw [ByteArray.size_append, strOne_size]; omega)
theorem spec_fmtint {n : Int} (h0 : -9223372036854775808 ≤ n) (h1 : n ≤ 9223372036854775807) : Ev (fun k => spec_FormatInt.f k n) (itoaB n) := by
  by_cases hn : 0 ≤ n
  · refine ev_up ?_
    simp only [spec_FormatInt.f, if_neg (show ¬ n < 0 by omega)]
    rw [itoaB_pos hn]
    have := spec_fmt_l0 n.toNat n ⟨#[]⟩ (by omega) (by omega) (by
      have := nDig_le 18 n.toNat (by omega)
      show 0 + _ ≤ 40
      omega)
    rw [show decB n.toNat ++ (⟨#[]⟩ : ByteArray) = decB n.toNat from by apply ByteArray.ext; simp [ByteArray.data_append]] at this
    exact this
  · have key : ∀ (u : Nat) (n : Int), n = -(u : Int) → 1 ≤ u → u ≤ 9223372036854775808 → Ev (fun k => spec_FormatInt.f k n) ((⟨#[45]⟩ : ByteArray) ++ decB u) := by
      intro u
      induction u using Nat.strongRecOn with
      | _ u ih =>
        intro n hx h1 h2
        subst hx
        refine ev_up ?_
        have hq : Int.tdiv (-(u : Int)) 10 = -((u / 10 : Nat) : Int) := by rw [Int.neg_tdiv, Int.tdiv_eq_ediv_of_nonneg (by omega)]; omega
        have ht : Int.tmod (-(u : Int)) 10 = -((u : Int) % 10) := by rw [Int.neg_tmod, Int.tmod_eq_emod_of_nonneg (by omega)]
        have hw2 : wrap64 (-((u / 10 : Nat) : Int)) = -((u / 10 : Nat) : Int) := pw_wrap (by omega) (by omega)
        by_cases h : u < 10
        · have hw : (wrap64 (48 - -(u : Int))) % 256 = 48 + (u : Int) := by rw [pw_wrap (by omega) (by omega)]; omega
          simp only [spec_FormatInt.f, if_pos (show -(u : Int) < 0 by omega), hq, hw2, hw, if_pos (show -((u / 10 : Nat) : Int) = 0 by omega), Option.bind_some, strOne_size, if_pos (show 1 + 1 ≤ 9223372036854775807 by omega)]
          rw [decB_small h]
          exact Ev.now _
        · have hw : (wrap64 (48 - -((u : Int) % 10))) % 256 = 48 + (u : Int) % 10 := by rw [pw_wrap (by omega) (by omega)]; omega
          simp only [spec_FormatInt.f, if_pos (show -(u : Int) < 0 by omega), hq, ht, hw2, hw, if_neg (show ¬ -((u / 10 : Nat) : Int) = 0 by omega)]
          refine Ev.bind (ih (u / 10) (by omega) _ rfl (by omega) (by omega)) ?_
          have hz : ((⟨#[45]⟩ : ByteArray) ++ decB (u / 10)).size ≤ 20 := by
            rw [ByteArray.size_append, decB_size]
            have := nDig_le 18 (u / 10) (by omega)
            show 1 + _ ≤ 20
            omega
          simp only [Option.bind_some, strOne_size, if_pos (show ((⟨#[45]⟩ : ByteArray) ++ decB (u / 10)).size + 1 ≤ 9223372036854775807 by omega)]
          rw [decB_big h, ← app_assocB]
          exact Ev.now _
    rw [itoaB_neg (by omega)]
    exact key n.natAbs n (by omega) (by omega) (by omega)
theorem impl_fmtint {n : Int} (h0 : -9223372036854775808 ≤ n) (h1 : n ≤ 9223372036854775807) : impl_FormatInt.f n = some (itoaB n) := by
  unfold impl_FormatInt.f strconv_Itoa.f
  rw [if_pos ⟨h0, h1⟩]
  rfl
theorem i64_wf {x : Int} (h : (Lit.int .i64 x).wf = true) : -9223372036854775808 ≤ x ∧ x ≤ 9223372036854775807 := pw_wf h

/-- Both programs' loops of the common divisor come to Nat's gcd. -/
theorem gcd_step {a b : Int} (hb : 0 < b) (ha : 0 ≤ a) : (Int.gcd b (Int.tmod a b) : Int) = Int.gcd a b := by
  obtain ⟨n, rfl⟩ := Int.eq_ofNat_of_zero_le ha
  obtain ⟨m, rfl⟩ := Int.eq_ofNat_of_zero_le (Int.le_of_lt hb)
  rw [Int.tmod_eq_emod_of_nonneg ha]
  rw [show ((n : Int) % (m : Int)) = ((n % m : Nat) : Int) from by simp]
  simp only [Int.gcd, Int.natAbs_natCast]
  rw [Nat.gcd_comm n m, Nat.gcd_rec m n, Nat.gcd_comm]
theorem spec_gcd_l0 (k : Nat) : ∀ a b : Int, 0 ≤ a → 0 ≤ b → b < k → spec_l08Gcd.l0 k a b = some (Int.gcd a b : Int) := by
  induction k with
  | zero => intro a b _ h0 h1; omega
  | succ k ih =>
    intro a b ha hb hk
    simp only [spec_l08Gcd.l0]
    by_cases h : b = 0
    · subst h
      rw [if_pos rfl]
      simp
      omega
    · rw [if_neg h, ih b _ hb (by rw [Int.tmod_eq_emod_of_nonneg ha]; exact Int.emod_nonneg _ h) (by rw [Int.tmod_eq_emod_of_nonneg ha]; have := Int.emod_lt_of_pos a (show 0 < b by omega); omega)]
      rw [gcd_step (by omega) ha]
theorem impl_gcd_l0 (k : Nat) : ∀ a b : Int, 0 ≤ a → 0 ≤ b → b < k → impl_gcd.l0 k a b = some (Int.gcd a b : Int) := by
  induction k with
  | zero => intro a b _ h0 h1; omega
  | succ k ih =>
    intro a b ha hb hk
    simp only [impl_gcd.l0]
    by_cases h : b = 0
    · subst h
      rw [if_pos rfl]
      simp
      omega
    · rw [if_neg h, ih b _ hb (by rw [Int.tmod_eq_emod_of_nonneg ha]; exact Int.emod_nonneg _ h) (by rw [Int.tmod_eq_emod_of_nonneg ha]; have := Int.emod_lt_of_pos a (show 0 < b by omega); omega)]
      rw [gcd_step (by omega) ha]

theorem FnExactFormatRatio : laws_FnExactFormatRatio.Pure := by
  intro a b ha hb
  apply Ev.rounds
  obtain ⟨ha0, ha1⟩ := i64_wf ha
  obtain ⟨hb0, hb1⟩ := i64_wf hb
  have za := itoaB_size ha0 ha1
  have zb := itoaB_size hb0 hb1
  have hz : (itoaB a ++ (⟨#[47]⟩ : ByteArray)).size + (itoaB b).size ≤ 9223372036854775807 := by
    rw [ByteArray.size_append]
    show _ + 1 + _ ≤ _
    omega
  have hok : ∃ ok, Ev (fun k => spec_RatioOk.f k a b) ok ∧ Ev (fun k => impl_RatioOk.f k a b) ok := by
    unfold spec_RatioOk.f impl_RatioOk.f spec_l01In.f
    by_cases h1 : b < 1
    · simp only [if_neg (show ¬ b ≥ 1 by omega), if_pos h1, Option.bind_some]
      exact ⟨false, Ev.now _, ev_up (Ev.now _)⟩
    · simp only [if_pos (show b ≥ 1 by omega), if_neg h1, Option.bind_some]
      by_cases h2 : b > 1000000000000
      · simp only [decide_eq_false (show ¬ b ≤ 1000000000000 by omega), if_pos h2]
        exact ⟨false, Ev.now _, ev_up (Ev.now _)⟩
      · simp only [decide_eq_true (show b ≤ 1000000000000 by omega), if_neg h2, if_true]
        by_cases h3 : a < -1000000000000
        · simp only [if_neg (show ¬ a ≥ -1000000000000 by omega), if_pos h3, Option.bind_some]
          exact ⟨false, Ev.now _, ev_up (Ev.now _)⟩
        · simp only [if_pos (show a ≥ -1000000000000 by omega), if_neg h3, Option.bind_some]
          by_cases h4 : a > 1000000000000
          · simp only [decide_eq_false (show ¬ a ≤ 1000000000000 by omega), decide_eq_true h4]
            exact ⟨false, Ev.now _, ev_up (Ev.now _)⟩
          · simp only [decide_eq_true (show a ≤ 1000000000000 by omega), decide_eq_false h4, if_true]
            have hw : wrap64 (-a) = -a := pw_wrap (by omega) (by omega)
            have hm : mx a (wrap64 (-a)) = (a.natAbs : Int) := by rw [hw]; unfold mx; omega
            refine ⟨((Int.gcd a b : Int) == 1), ?_, ev_up ?_⟩
            · refine Ev.bind (a := (Int.gcd a b : Int)) ?_ (Ev.now _)
              rw [hm]
              refine ev_k (n := b.toNat) fun k hk => ?_
              unfold spec_l08Gcd.f
              rw [spec_gcd_l0 k _ _ (by omega) (by omega) (by omega)]
              simp [Int.gcd]
            · simp only [impl_RatioOk.j0, Bool.false_eq_true, if_false]
              by_cases h5 : a < 0
              · simp only [if_pos h5, hw]
                refine Ev.bind (a := (Int.gcd a b : Int)) ?_ (Ev.now _)
                refine ev_k (n := b.toNat) fun k hk => ?_
                unfold impl_gcd.f
                rw [impl_gcd_l0 k _ _ (by omega) (by omega) (by omega)]
                simp [Int.gcd]
              · simp only [if_neg h5]
                refine Ev.bind (a := (Int.gcd a b : Int)) ?_ (Ev.now _)
                refine ev_k (n := b.toNat) fun k hk => ?_
                unfold impl_gcd.f
                rw [impl_gcd_l0 k _ _ (by omega) (by omega) (by omega)]
  obtain ⟨ok, hs, hi⟩ := hok
  have hr : ∃ r, Ev (fun k => spec_FormatRatio.f k a b) r ∧ Ev (fun k => impl_FormatRatio.f k a b) r := by
    unfold spec_FormatRatio.f impl_FormatRatio.f
    simp only [impl_fmtint ha0 ha1, impl_fmtint hb0 hb1, Option.bind_some, if_pos (show (itoaB a).size + 1 ≤ 9223372036854775807 by omega), if_pos hz]
    cases ok
    · exact ⟨_, Ev.bind hs (Ev.now _), Ev.bind hi (Ev.now _)⟩
    · by_cases h1 : b = 1
      · refine ⟨itoaB a, ?_, ?_⟩
        · refine Ev.bind hs ?_
          simp only [if_pos h1, if_true]
          exact Ev.bind (spec_fmtint ha0 ha1) (Ev.now _)
        · refine Ev.bind hi ?_
          simp only [if_pos h1, if_true]
          exact Ev.now _
      · refine ⟨itoaB a ++ (⟨#[47]⟩ : ByteArray) ++ itoaB b, ?_, ?_⟩
        · refine Ev.bind hs ?_
          simp only [if_neg h1, if_true]
          refine Ev.bind (spec_fmtint ha0 ha1) ?_
          simp only [if_pos (show (itoaB a).size + 1 ≤ 9223372036854775807 by omega)]
          refine Ev.bind (spec_fmtint hb0 hb1) ?_
          simp only [if_pos hz]
          exact Ev.now _
        · refine Ev.bind hi ?_
          simp only [if_neg h1, if_true]
          exact Ev.now _
  obtain ⟨r, h1, h2⟩ := hr
  unfold laws_FnExactFormatRatio.f laws_toRatio.f
  simp only [Option.bind_some]
  refine Ev.bind h1 ?_
  refine Ev.bind h2 ?_
  exact Ev.congr (fun _ => if_pos rfl) (Ev.now _)

end Go.Proofs.YtnoopmbhdlfkbaaDoor.Pure
