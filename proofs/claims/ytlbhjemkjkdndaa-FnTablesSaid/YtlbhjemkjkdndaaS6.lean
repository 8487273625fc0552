-- PRINTED by print.py (a twelfth state) out of the translation. Not trusted: Lean checks it.
import Derived.Test.YtlbhjemkjkdndaaS0
import Derived.Test.YtlbhjemkjkdndaaS5
namespace Go.Proofs.Ytlbhjemkjkdndaa.S
set_option maxHeartbeats 8000000
set_option maxRecDepth 100000
open Go.RowKit Go.Proofs.YtlbhjemkjkdndaaW.PrintWords Go.Proofs.YtlbhjemkjkdndaaW.PrintLast Go.Proofs.YtlbhjemkjkdndaaW.PrintMore
attribute [local go_sem] max2_int min2_int max_two min_two max_three min_three max_four min_four   -- for this text's walks alone
set_option linter.unusedVariables false
set_option linter.unusedSimpArgs false

/-! ### i_IsTransitive: function 29 -/
mutual
def i_IsTransitive.j0 : Nat → List Int → List Int → Bool → Option (Bool)
 | 0, _, _, _ => none
 | k + 1, x0, x1, x29 => if x29 = true then (some false) else (if 0 ≤ (x0.length : Int) then (if ((x0.length : Int) : Int).toNat ≤ 281474976710656 then ((some (List.replicate ((x0.length : Int) : Int).toNat false : List Bool)).bind fun y267 => (if 0 < (y267.length : Int) then (i_IsTransitive.l0 k x0 x1 (y267.set (0 : Int).toNat true) (([0] : List Int)) 0) else (none))) else (none)) else (none))
def i_IsTransitive.l0 : Nat → List Int → List Int → List Bool → List Int → Int → Option (Bool)
 | 0, _, _, _, _, _ => none
 | k + 1, x0, x1, x5, x6, x7 => if x7 < (x6.length : Int) then (if 0 ≤ x7 then (if 0 ≤ (rd x6 x7) then (if (rd x6 x7) < (x0.length : Int) then (if (rd x6 x7) < (x1.length : Int) then ((some (([rd x0 (rd x6 x7), rd x1 (rd x6 x7)] : List Int) : List Int)).bind fun y278 => (i_IsTransitive.l1 k x0 x1 x5 x6 x7 y278 (y278.length : Int) 0)) else (none)) else (none)) else (none)) else (none)) else (some ((x6.length : Int) == (x0.length : Int)))
def i_IsTransitive.l1 : Nat → List Int → List Int → List Bool → List Int → Int → List Int → Int → Int → Option (Bool)
 | 0, _, _, _, _, _, _, _, _ => none
 | k + 1, x0, x1, x5, x6, x7, x56, x57, x58 => if x58 < x57 then (if 0 ≤ x58 then (if x58 < (x56.length : Int) then (if 0 ≤ (rd x56 x58) then (if (rd x56 x58) < (x5.length : Int) then (if (rdOf false x5 (rd x56 x58) = true) then (i_IsTransitive.l1 k x0 x1 x5 x6 x7 x56 x57 (wrap64 (x58 + 1))) else (if x6.length < 17592186044416 then (i_IsTransitive.l1 k x0 x1 (x5.set ((rd x56 x58) : Int).toNat true) (x6 ++ [rd x56 x58]) x7 x56 x57 (wrap64 (x58 + 1))) else (none))) else (none)) else (none)) else (none)) else (none)) else (i_IsTransitive.l0 k x0 x1 x5 x6 (wrap64 (x7 + 1)))
end
def i_IsTransitive.f (k : Nat) (l0 : List Int) (l1 : List Int) : Option (Bool) := (i_PermOk.f l0).bind fun t265 => (if t265 = true then ((i_PermOk.f l1).bind fun t266 => (if t266 = true then (if (l0.length : Int) = (l1.length : Int) then (i_IsTransitive.j0 k l0 l1 ((l0.length : Int) == 0)) else (i_IsTransitive.j0 k l0 l1 true)) else (i_IsTransitive.j0 k l0 l1 true))) else (i_IsTransitive.j0 k l0 l1 true))
def i_IsTransitive.T9 : Bool × List (List Nat × List Nat) := (true, [([], []), ([], []), ([], []), ([1, 2], [1, 2]), ([3], [3]), ([0, 4], [0, 4]), ([5], [5]), ([], []), ([], []), ([], []), ([8, 9], [8, 9]), ([10], [10]), ([7, 11], [7, 11]), ([12], [12]), ([6, 13], [6, 13]), ([14], [14]), ([], [])])
def i_IsTransitive.B9 : List Nat := [0, 0, 0, 6, 14, 31, 63, 0, 0, 0, 768, 1792, 3968, 8064, 16383, 32767, 0]
theorem i_IsTransitive.tab9 : rtab .any (opsOf Try.f29 9) = i_IsTransitive.T9 := by kernel_rfl
theorem i_IsTransitive.bits9 : waitsOk i_IsTransitive.T9.2 i_IsTransitive.B9 = true := by kernel_rfl
theorem i_IsTransitive.calls (k : Nat) (A0 : Option Addr) (c0 : Nat) (l0 : List Int) (A1 : Option Addr) (c1 : Nat) (l1 : List Int) (r : Bool) (w : World) (hr0 : Kd.C (Kd.int .i64) w A0 l0.length l0) (hc0 : l0.length ≤ c0) (hr1 : Kd.C (Kd.int .i64) w A1 l1.length l1) (hc1 : l1.length ≤ c1) (h : i_IsTransitive.f k l0 l1 = some r) :
  Calls Try.prog 29 #[.slice A0 l0.length c0, .slice A1 l1.length c1] w fun e w' => e = .returned (.bool r) ∧ Below w.heap.size w w' := by
 have HR0 := aM hr0
 have HC0 := aM hc0
 clear hr0 hc0
 have HR1 := aM hr1
 have HC1 := aM hc1
 clear hr1 hc1
 have HB := aM (Below.refl w.heap.size w)
 have H : ((i_PermOk.f l0).bind fun t265 => (if t265 = true then ((i_PermOk.f l1).bind fun t266 => (if t266 = true then (if (l0.length : Int) = (l1.length : Int) then (i_IsTransitive.j0 k l0 l1 ((l0.length : Int) == 0)) else (i_IsTransitive.j0 k l0 l1 true)) else (i_IsTransitive.j0 k l0 l1 true))) else (i_IsTransitive.j0 k l0 l1 true))) = some r := h
 clear h
 have HC3 := aM H
 clear H
 go_enter Try.func29, Try.ntmps29
 go_upto_region 1 with (fail)
 go_cut [29] (fun v29 wc => ∃ (kq : Nat) (x29_2 : Bool), v29 = .bool x29_2 ∧ Aside0 (i_IsTransitive.j0 kq l0 l1 x29_2 = some r) ∧ Aside0 (kq ≤ k) ∧ Aside0 (Below w.heap.size w wc))
 case first =>
  have H := HC3.out
  clear HC3
  replace H := oB H
  obtain ⟨t265, A40, H⟩ := H
  replace H : (if t265 = true then ((i_PermOk.f l1).bind fun t266 => (if t266 = true then (if (l0.length : Int) = (l1.length : Int) then (i_IsTransitive.j0 k l0 l1 ((l0.length : Int) == 0)) else (i_IsTransitive.j0 k l0 l1 true)) else (i_IsTransitive.j0 k l0 l1 true))) else (i_IsTransitive.j0 k l0 l1 true)) = some r := H
  have A4 := aM A40
  clear A40
  by_cases c5 : t265 = true
  {
  subst c5
  have H1 : ((i_PermOk.f l1).bind fun t266 => (if t266 = true then (if (l0.length : Int) = (l1.length : Int) then (i_IsTransitive.j0 k l0 l1 ((l0.length : Int) == 0)) else (i_IsTransitive.j0 k l0 l1 true)) else (i_IsTransitive.j0 k l0 l1 true))) = some r := by rw [if_pos rfl] at H; exact H
  clear H
  have H := H1
  clear H1
  replace H := oB H
  obtain ⟨t266, A60, H⟩ := H
  replace H : (if t266 = true then (if (l0.length : Int) = (l1.length : Int) then (i_IsTransitive.j0 k l0 l1 ((l0.length : Int) == 0)) else (i_IsTransitive.j0 k l0 l1 true)) else (i_IsTransitive.j0 k l0 l1 true)) = some r := H
  have A6 := aM A60
  clear A60
  by_cases c7 : t266 = true
  {
  subst c7
  have H1 : (if (l0.length : Int) = (l1.length : Int) then (i_IsTransitive.j0 k l0 l1 ((l0.length : Int) == 0)) else (i_IsTransitive.j0 k l0 l1 true)) = some r := by rw [if_pos rfl] at H; exact H
  clear H
  have H := H1
  clear H1
  by_cases c8 : (l0.length : Int) = (l1.length : Int)
  {
  rw [if_pos c8] at H
  have c8b0 : ((l0.length : Int) == (l1.length : Int)) = true := beq_iff_eq.mpr c8
  have c8b1 : ((l0.length : Int) != (l1.length : Int)) = false := bne_eq_false_iff_eq.mpr c8
  have c8b2 : (l0.length == l1.length) = true := by first | simpa using c8 | (simp at c8 ⊢; omega)
  clear c8
  (first | rw [c8b0] | (simp only [i64_w, i32_w]; rw [c8b0]) | skip)
  have H' := aM H
  clear H
  go_wp2_with (first | ((with_reducible refine gate_callee (f := 21) rfl ?_); refine goesL_ (some 11) rfl rfl Try.func21 (by kernel_rfl) rfl #[.slice A0 l0.length c0] rfl aX ?_; (with_reducible refine (i_PermOk.calls _ _ l0 true _ ?side1 ?side2 A4.out).mono ?_); (case side1 => exact cX (Kd.C_below HR0.out HB.out)); (case side2 => exact HC0.out); rintro e w9 ⟨rfl, hb⟩; refine ⟨_, rfl, ?_⟩; replace HB := aM (below_step (bX HB.out) hb); (try clear hb); (try clear hb2); (try clear hk); (try clear hi)) | (go_at_call 21; (with_reducible refine (i_PermOk.calls _ _ l1 true _ ?side1 ?side2 A6.out).mono ?_); (case side1 => exact cX (Kd.C_below HR1.out HB.out)); (case side2 => exact HC1.out); rintro e w10 ⟨rfl, hb⟩; replace HB := aM (below_step (bX HB.out) hb); (try clear hb); (try clear hb2); (try clear hk); (try clear hi)))
  go_meet
  case rel => exact ⟨_, (((l0.length : Int) == 0)), vX, H', ⟨by first | omega | exact Nat.le_refl _⟩, ⟨bX HB.out⟩⟩
  }
  {
  rw [if_neg c8] at H
  have c8b0 : ((l0.length : Int) == (l1.length : Int)) = false := beq_eq_false_iff_ne.mpr c8
  have c8b1 : ((l0.length : Int) != (l1.length : Int)) = true := bne_iff_ne.mpr c8
  have c8b2 : (l0.length == l1.length) = false := by first | simpa using c8 | (simp at c8 ⊢; omega)
  (first | rw [c8b0] | (simp only [i64_w, i32_w]; rw [c8b0]) | skip)
  have H' := aM H
  clear H
  go_wp2_with (first | ((with_reducible refine gate_callee (f := 21) rfl ?_); refine goesL_ (some 11) rfl rfl Try.func21 (by kernel_rfl) rfl #[.slice A0 l0.length c0] rfl aX ?_; (with_reducible refine (i_PermOk.calls _ _ l0 true _ ?side1 ?side2 A4.out).mono ?_); (case side1 => exact cX (Kd.C_below HR0.out HB.out)); (case side2 => exact HC0.out); rintro e w11 ⟨rfl, hb⟩; refine ⟨_, rfl, ?_⟩; replace HB := aM (below_step (bX HB.out) hb); (try clear hb); (try clear hb2); (try clear hk); (try clear hi)) | (go_at_call 21; (with_reducible refine (i_PermOk.calls _ _ l1 true _ ?side1 ?side2 A6.out).mono ?_); (case side1 => exact cX (Kd.C_below HR1.out HB.out)); (case side2 => exact HC1.out); rintro e w12 ⟨rfl, hb⟩; replace HB := aM (below_step (bX HB.out) hb); (try clear hb); (try clear hb2); (try clear hk); (try clear hi)))
  go_meet
  case rel => exact ⟨_, (true), vX, H', ⟨by first | omega | exact Nat.le_refl _⟩, ⟨bX HB.out⟩⟩
  }
  }
  {
  replace c7 := Bool.eq_false_iff.mpr c7
  subst c7
  have H1 : (i_IsTransitive.j0 k l0 l1 true) = some r := by rw [if_neg (show ¬ (false = true) by decide)] at H; exact H
  clear H
  have H := H1
  clear H1
  have H' := aM H
  clear H
  go_wp2_with (first | ((with_reducible refine gate_callee (f := 21) rfl ?_); refine goesL_ (some 11) rfl rfl Try.func21 (by kernel_rfl) rfl #[.slice A0 l0.length c0] rfl aX ?_; (with_reducible refine (i_PermOk.calls _ _ l0 true _ ?side1 ?side2 A4.out).mono ?_); (case side1 => exact cX (Kd.C_below HR0.out HB.out)); (case side2 => exact HC0.out); rintro e w13 ⟨rfl, hb⟩; refine ⟨_, rfl, ?_⟩; replace HB := aM (below_step (bX HB.out) hb); (try clear hb); (try clear hb2); (try clear hk); (try clear hi)) | (go_at_call 21; (with_reducible refine (i_PermOk.calls _ _ l1 false _ ?side1 ?side2 A6.out).mono ?_); (case side1 => exact cX (Kd.C_below HR1.out HB.out)); (case side2 => exact HC1.out); rintro e w14 ⟨rfl, hb⟩; replace HB := aM (below_step (bX HB.out) hb); (try clear hb); (try clear hb2); (try clear hk); (try clear hi)))
  go_meet
  case rel => exact ⟨_, (true), vX, H', ⟨by first | omega | exact Nat.le_refl _⟩, ⟨bX HB.out⟩⟩
  }
  }
  {
  replace c5 := Bool.eq_false_iff.mpr c5
  subst c5
  have H1 : (i_IsTransitive.j0 k l0 l1 true) = some r := by rw [if_neg (show ¬ (false = true) by decide)] at H; exact H
  clear H
  have H := H1
  clear H1
  have H' := aM H
  clear H
  go_wp2_with (first | ((with_reducible refine gate_callee (f := 21) rfl ?_); refine goesL_ (some 11) rfl rfl Try.func21 (by kernel_rfl) rfl #[.slice A0 l0.length c0] rfl aX ?_; (with_reducible refine (i_PermOk.calls _ _ l0 false _ ?side1 ?side2 A4.out).mono ?_); (case side1 => exact cX (Kd.C_below HR0.out HB.out)); (case side2 => exact HC0.out); rintro e w15 ⟨rfl, hb⟩; refine ⟨_, rfl, ?_⟩; replace HB := aM (below_step (bX HB.out) hb); (try clear hb); (try clear hb2); (try clear hk); (try clear hi)))
  go_meet
  case rel => exact ⟨_, (true), vX, H', ⟨by first | omega | exact Nat.le_refl _⟩, ⟨bX HB.out⟩⟩
  }
 case rest =>
 clear HC3
 try clear c1
 try clear c5
 try clear c7
 try clear c8
 try clear c8b0
 try clear c8b1
 try clear c8b2
 obtain ⟨kq, x29_2, rfl, HA, HJ2, HB⟩ := hcut
 cases kq with
 | zero => exact absurd HA.out (by simp [i_IsTransitive.j0])
 | succ kj2 =>
 have H := HA.out
 clear HA
 simp only [i_IsTransitive.j0] at H
 by_cases c16 : x29_2 = true
 {
 subst c16
 have H1 : (some false) = some r := by rw [if_pos rfl] at H; exact H
 clear H
 have H := H1
 clear H1
 obtain rfl := Option.some.inj H
 go_wp2
 go_ret
 exact ⟨eX, bX HB.out⟩
 }
 {
 replace c16 := Bool.eq_false_iff.mpr c16
 subst c16
 have H1 : (if 0 ≤ (l0.length : Int) then (if ((l0.length : Int) : Int).toNat ≤ 281474976710656 then ((some (List.replicate ((l0.length : Int) : Int).toNat false : List Bool)).bind fun y267 => (if 0 < (y267.length : Int) then (i_IsTransitive.l0 kj2 l0 l1 (y267.set (0 : Int).toNat true) (([0] : List Int)) 0) else (none))) else (none)) else (none)) = some r := by rw [if_neg (show ¬ (false = true) by decide)] at H; exact H
 clear H
 have H := H1
 clear H1
 by_cases c17 : 0 ≤ (l0.length : Int)
 {
 rw [if_pos c17] at H
 have c17b0 := eq_true c17
 have c17b1 : decide (0 ≤ (l0.length : Int)) = true := decide_eq_true c17
 clear c17
 by_cases c18 : ((l0.length : Int) : Int).toNat ≤ 281474976710656
 {
 rw [if_pos c18] at H
 have c18b0 := eq_true c18
 have c18b1 : decide (((l0.length : Int) : Int).toNat ≤ 281474976710656) = true := decide_eq_true c18
 clear c18
 obtain ⟨y267, hy267⟩ : ∃ y_ : List Bool, y_ = (List.replicate ((l0.length : Int) : Int).toNat false) := ⟨_, rfl⟩
 replace H : (if 0 < (y267.length : Int) then (i_IsTransitive.l0 kj2 l0 l1 (y267.set (0 : Int).toNat true) (([0] : List Int)) 0) else (none)) = some r := by first | (rw [hy267]; with_reducible exact H) | (have H2_ := (Option.bind_some _ _).symm.trans H; rw [hy267]; with_reducible exact H2_) | (have H2_ := (Option.bind_some _ _).symm.trans H; with_reducible exact H2_) | with_reducible exact H | (rw [hy267]; exact H) | exact H
 have Ny267 := aM hy267
 clear hy267
 by_cases c19 : 0 < (y267.length : Int)
 {
 rw [if_pos c19] at H
 have c19b0 : decide (0 < (y267.length : Int)) = true := decide_eq_true c19
 have c19b1 : decide (0 < y267.length) = true := decide_eq_true (by omega)
 clear c19
 obtain ⟨y270, hy270⟩ : ∃ y_ : List Bool, y_ = (y267.set (0 : Int).toNat true) := ⟨_, rfl⟩
 replace H : (i_IsTransitive.l0 kj2 l0 l1 y270 (([0] : List Int)) 0) = some r := by first | (rw [hy270]; with_reducible exact H) | (have H2_ := (Option.bind_some _ _).symm.trans H; rw [hy270]; with_reducible exact H2_) | (have H2_ := (Option.bind_some _ _).symm.trans H; with_reducible exact H2_) | with_reducible exact H | (rw [hy270]; exact H) | exact H
 have Ny270 := aM hy270
 clear hy270
 obtain ⟨y271, hy271⟩ : ∃ y_ : List Int, y_ = (([0] : List Int)) := ⟨_, rfl⟩
 replace H : (i_IsTransitive.l0 kj2 l0 l1 y270 y271 0) = some r := by first | (rw [hy271]; with_reducible exact H) | (have H2_ := (Option.bind_some _ _).symm.trans H; rw [hy271]; with_reducible exact H2_) | (have H2_ := (Option.bind_some _ _).symm.trans H; with_reducible exact H2_) | with_reducible exact H | (rw [hy271]; exact H) | exact H
 have Ny271 := aM hy271
 clear hy271
 have H' := aM H
 clear H
 go_wp2_with (first | ((with_reducible refine gate_dst (N := 32) rfl ?_); (try (refine gate_guard (by rfl) ?_; dsimp only)); refine Kd.R_make Kd.bool _ 4 rfl (N := 32) rfl 64 _ _ rfl (l0.length : Int) rfl rfl Try.underlying64 (.bool false) 1 info4 rfl (by decide) (by omega) false (ok := fun _ => True) (okp := fun _ => True) rfl (fun _ hk => hk) trivial (dX) (Nat.le_trans (Nat.mul_le_mul_right _ (dX : (l0.length : Int).toNat ≤ 281474976710656)) (by omega)) (Below.refl _ _) (Nat.le_refl _) ?_; intro v268 w21 ho22 hb hg_ hnew_; clear hg_ hnew_; (first | rw [← Ny267.out] at ho22 | (simp only [Int.reduceToNat] at ho22; rw [← Ny267.out] at ho22)); have HO269 := aM (Kd.R_lower ho22 (below_size (bX HB.out))); replace HB := aM (below_step (bX HB.out) hb); clear hb ho22; have p20 : 0 ≤ (0 : Int) := (by omega); have q20 : (0 : Int) < ((y267.length : Int) : Int) := dX; have qi20 : (0 < y267.length) = True := eq_true (by omega); obtain ⟨go20, co20, eo20, gb20, gl20, cl20, HG20⟩ := Kd.R_form HO269.out (by omega); (first | cases eo20 | (injection eo20 with ea_ en_ ec_; (first | subst ea_ | (injection ea_ with ea_; subst ea_)); subst ec_; clear en_)); have GB20 := aM gb20; have GG20 := aM HG20; clear gb20 gl20 HG20; obtain ⟨hx20_0, hf20_0⟩ := Kd.R_celln false HO269.out (0 : Int) p20 q20; (try rw [show ((0 : Int)).toNat = 0 from rfl] at hx20_0); (try simp only [Nat.reduceMul, Nat.zero_mul, Nat.zero_add, Nat.reduceAdd] at hx20_0); (try rw [show ((0 : Int)).toNat = 0 from rfl] at hf20_0); (try simp only [Nat.reduceMul, Nat.zero_mul, Nat.zero_add, Nat.reduceAdd] at hf20_0); replace p20 := eq_true p20; replace q20 := eq_true q20; obtain ⟨hy23_, hz23_⟩ := Kd.R_celln false HO269.out (0 : Int) (by omega) (dX); (try simp only [Int.reduceToNat, Int.toNat_zero, Int.toNat_ofNat, Nat.reduceMul, Nat.zero_mul, Nat.zero_add] at hy23_ hz23_); (try rw [show ((0 : Int)).toNat = 0 from rfl] at hy23_); (try rw [show ((0 : Int)).toNat = 0 from rfl] at hz23_); have HP23 := Kd.R_putg HO269.out (0 : Int) true) | ((with_reducible refine gate_store (t := 4) (p := 34) rfl ?_); refine store_event (t := 4) (p := 34) (v := ?vo_w24) (w1 := (w21.setCell ⟨go20, (0 : Int).toNat, none⟩ (.bool true))) ?hg ?ho ?hn ?hr ?_; (case ho => rfl); (case hg => rfl); (case hn => rfl); (case hr => first | (go_simp; done) | (go_simp; rfl)); intro w24 hw; have hg : w21.grownBy w24 (some go20) := (by rw [hw]; exact HP23.2); have hp_ : Kd.R Kd.bool 4 w24 w.heap.size (fun _ => True) (.slice (some ⟨go20, 0, none⟩) y267.length co20) y270 := (by rw [hw, Ny270.out]; exact HP23.1); clear HP23; replace HO269 := aM (hp_); replace HB := aM ((by rw [hw]; exact below_set (HB.out) GB20.out : Below w.heap.size w w24)); clear hg hw hp_) | ((with_reducible refine gate_dst (N := 35) rfl ?_); (try (refine gate_guard (by rfl) ?_; dsimp only)); refine Kd.R_lit (Kd.int .i64) _ 3 ?hg (N := 35) ?hd (xs := ([0] : List Int)) (inner := [.int .i64 0]) (ok := fun _ => True) (okp := fun _ => True) ?hr ?hp (fun _ hk => hk) trivial (Below.refl _ _) (Nat.le_refl _) (by simp) ?_; (case hd => rfl); (case hg => rfl); (case hr => first | (go_simp; done) | (go_simp; rfl)); (case hp => exact (Reps.one (show Kd.M (Kd.int .i64) _ _ _ 0 [.int .i64 0] from rfl) (Reps.none _ _))); intro v272 w25 ho26 hb hg_ hnew_; clear hg_ hnew_; (first | rw [← Ny271.out] at ho26 | (simp only [Int.reduceToNat] at ho26; rw [← Ny271.out] at ho26)); replace HO269 := aM (Kd.R_below (rX HO269.out) hb); have HO273 := aM (Kd.R_lower ho26 (below_size (bX HB.out))); replace HB := aM (below_step (bX HB.out) hb); clear hb ho26))
 go_loopg [6, 7] kj2 (fun kq v6 v7 w' => ∃ (x5_2 : List Bool) (x6_2 : List Int) (x7_2 : Int), v7 = .int .i64 x7_2 ∧ Aside0 (i_IsTransitive.l0 kq l0 l1 x5_2 x6_2 x7_2 = some r) ∧ Aside0 (kq ≤ kj2) ∧ Aside0 (Kd.R Kd.bool 4 w' w.heap.size (fun _ => True) (.slice (some ⟨go20, 0, none⟩) y267.length co20) x5_2) ∧ Aside0 (Kd.R (Kd.int .i64) 3 w' w.heap.size (fun _ => True) v6 x6_2) ∧ Aside0 (Below w.heap.size w w'))
 case atStart => exact ⟨(y270), (y271), (0), vX, H', ⟨Nat.le_refl _⟩, ⟨rX HO269.out⟩, ⟨rX HO273.out⟩, ⟨bX HB.out⟩⟩
 case round =>
 clear H'
 try clear c1
 try clear c5
 try clear c7
 try clear c8
 try clear c8b0
 try clear c8b1
 try clear c8b2
 try clear c16
 try clear c17
 try clear c17b0
 try clear c17b1
 try clear c18
 try clear c18b0
 try clear c18b1
 try clear c19
 try clear c19b0
 try clear c19b1
 try clear p20
 try clear q20
 try clear qi20
 try clear hx20_0
 try clear p20
 try clear q20
 obtain ⟨x5_2, x6_2, x7_2, rfl, HA, HK2, HO_5, HO_6, HB⟩ := hrel
 have hl5_2 := (Kd.R_reads' HO_5.out).1
 rw [hl5_2] at HO_5
 (try simp only [hl5_2])
 (try simp only [hl5_2] at HO_6)
 cases gk with
 | zero => exact absurd HA.out (by simp [i_IsTransitive.l0])
 | succ k2 =>
 have H := HA.out
 clear HA
 simp only [i_IsTransitive.l0] at H
 by_cases c27 : x7_2 < (x6_2.length : Int)
 {
 rw [if_pos c27] at H
 have c27b0 : decide (x7_2 < (x6_2.length : Int)) = true := decide_eq_true c27
 clear c27
 by_cases c28 : 0 ≤ x7_2
 {
 rw [if_pos c28] at H
 have c28b0 : decide (0 ≤ x7_2) = true := decide_eq_true c28
 clear c28
 by_cases c29 : 0 ≤ (rd x6_2 x7_2)
 {
 rw [if_pos c29] at H
 have c29b0 : decide (0 ≤ (rd x6_2 x7_2)) = true := decide_eq_true c29
 clear c29
 by_cases c30 : (rd x6_2 x7_2) < (l0.length : Int)
 {
 rw [if_pos c30] at H
 have c30b0 : decide ((rd x6_2 x7_2) < (l0.length : Int)) = true := decide_eq_true c30
 clear c30
 by_cases c31 : (rd x6_2 x7_2) < (l1.length : Int)
 {
 rw [if_pos c31] at H
 have c31b0 : decide ((rd x6_2 x7_2) < (l1.length : Int)) = true := decide_eq_true c31
 clear c31
 obtain ⟨y278, hy278⟩ : ∃ y_ : List Int, y_ = (([rd l0 (rd x6_2 x7_2), rd l1 (rd x6_2 x7_2)] : List Int)) := ⟨_, rfl⟩
 replace H : (i_IsTransitive.l1 k2 l0 l1 x5_2 x6_2 x7_2 y278 (y278.length : Int) 0) = some r := by first | (rw [hy278]; with_reducible exact H) | (have H2_ := (Option.bind_some _ _).symm.trans H; rw [hy278]; with_reducible exact H2_) | (have H2_ := (Option.bind_some _ _).symm.trans H; with_reducible exact H2_) | with_reducible exact H | (rw [hy278]; exact H) | exact H
 have Ny278 := aM hy278
 clear hy278
 have H' := aM H
 clear H
 obtain ⟨Ao32, co32, eo32⟩ := Kd.R_slice HO_6.out
 subst eo32
 try go_wp2
 replace HO_5 := aM (Kd.R_drew HO_5.out)
 replace HO_6 := aM (Kd.R_drew HO_6.out)
 replace HB := aM (below_drew1 HB.out)
 have p274 : 0 ≤ (x7_2 : Int) := dX
 have q274 : x7_2 < (x6_2.length : Int) := dX
 obtain ⟨ad274, e274, hx274_0⟩ := Kd.at_int (Kd.R_reads' HO_6.out).2.2 x7_2 p274 q274
 cases e274
 replace p274 := eq_true p274
 replace q274 := eq_true q274
 have p275 : 0 ≤ ((rd x6_2 x7_2) : Int) := dX
 have q275 : (rd x6_2 x7_2) < (l0.length : Int) := dX
 obtain ⟨ad275, e275, hx275_0⟩ := Kd.at_int HR0.out (rd x6_2 x7_2) p275 q275
 have hw275_0 := hx275_0
 cases e275
 replace hx275_0 := (HB.out.cell (World.block_lt_of_cell? w _ hx275_0)).trans hx275_0
 replace p275 := eq_true p275
 replace q275 := eq_true q275
 have p276 : 0 ≤ (x7_2 : Int) := dX
 have q276 : x7_2 < (x6_2.length : Int) := dX
 obtain ⟨ad276, e276, hx276_0⟩ := Kd.at_int (Kd.R_reads' HO_6.out).2.2 x7_2 p276 q276
 obtain rfl : ad274 = ad276 := (by injection e276)
 replace p276 := eq_true p276
 replace q276 := eq_true q276
 have p277 : 0 ≤ ((rd x6_2 x7_2) : Int) := dX
 have q277 : (rd x6_2 x7_2) < (l1.length : Int) := dX
 obtain ⟨ad277, e277, hx277_0⟩ := Kd.at_int HR1.out (rd x6_2 x7_2) p277 q277
 have hw277_0 := hx277_0
 cases e277
 replace hx277_0 := (HB.out.cell (World.block_lt_of_cell? w _ hx277_0)).trans hx277_0
 replace p277 := eq_true p277
 replace q277 := eq_true q277
 refine start_ (n := 17) (S := fun w' => w'.cell? (ad274.add (x7_2).toNat) = some (.int .i64 (rd x6_2 x7_2)) ∧ w'.cell? (ad275.add ((rd x6_2 x7_2)).toNat) = some (.int .i64 (rd l0 (rd x6_2 x7_2))) ∧ w'.cell? (ad274.add (x7_2).toNat) = some (.int .i64 (rd x6_2 x7_2)) ∧ w'.cell? (ad277.add ((rd x6_2 x7_2)).toNat) = some (.int .i64 (rd l1 (rd x6_2 x7_2)))) (ds := []) #[ff,ff,ff,ff,ff,ff,ff,ff,ff,ff,ff,ff,ff,ff,ff,ff,ff] (by kernel_rfl) rfl rfl ⟨hx274_0, ((HB.out.cell (World.block_lt_of_cell? w _ hw275_0)).trans hw275_0), hx276_0, ((HB.out.cell (World.block_lt_of_cell? w _ hw277_0)).trans hw277_0)⟩ (fun hHeld => ?_); refine with_tabW i_IsTransitive.tab9 i_IsTransitive.bits9 (fun HT_ HW_ => ?_)
 generalize wr.drew = w33 at HO_5 HO_6 HB hx274_0 hx275_0 hx276_0 hx277_0 hHeld ⊢
 refine pX 0 42 (fl 17 1) rfl rfl HT_.out ?_
 refine pX 1 43 (fl 17 3) rfl rfl HT_.out ?_
 refine pX 2 44 (fl 17 7) rfl rfl HT_.out ?_
 refine pX 3 45 (fl 17 15) rfl rfl HT_.out ?_
 refine pX 7 49 (fl 17 143) rfl rfl HT_.out ?_
 refine pX 8 50 (fl 17 399) rfl rfl HT_.out ?_
 refine pX 9 51 (fl 17 911) rfl rfl HT_.out ?_
 refine pX 10 52 (fl 17 1935) rfl rfl HT_.out ?_
 refine pX 16 58 (fl 17 67471) rfl rfl HT_.out ?_
 refine tX4 4 46 (fl 17 67487) rfl rfl HT_.out HW_.out hHeld ?_
 refine pX 5 47 (fl 17 67519) rfl rfl HT_.out ?_
 refine tX4 6 48 (fl 17 67583) rfl rfl HT_.out HW_.out hHeld ?_
 refine tX4 11 53 (fl 17 69631) rfl rfl HT_.out HW_.out hHeld ?_
 refine pX 12 54 (fl 17 73727) rfl rfl HT_.out ?_
 refine tX4 13 55 (fl 17 81919) rfl rfl HT_.out HW_.out hHeld ?_
 refine one_ (i := 14) (N := some 56) #[tt,tt,tt,tt,tt,tt,tt,tt,tt,tt,tt,tt,tt,tt,tt,ff,tt] rfl rfl (one_of HT_.out (by kernel_rfl)) (by decide) (fun K hK => ?_)
 refine Kd.R_lit_step (Kd.int .i64) _ 3 ?hg (N := 56) ?hd (xs := ([rd l0 (rd x6_2 x7_2), rd l1 (rd x6_2 x7_2)] : List Int)) (inner := [.int .i64 (rd l0 (rd x6_2 x7_2)), .int .i64 (rd l1 (rd x6_2 x7_2))]) (ok := fun _ => True) (okp := fun _ => True) ?hr ?hp (fun _ hk => hk) trivial (Below.refl _ _) (Nat.le_refl _) (by simp) ?_; (case hd => rfl); (case hg => rfl); (case hr => first | (go_simp; done) | (go_simp; rfl)); (case hp => exact (Reps.one (show Kd.M (Kd.int .i64) _ _ _ (rd l0 (rd x6_2 x7_2)) [.int .i64 (rd l0 (rd x6_2 x7_2))] from rfl) (Reps.one (show Kd.M (Kd.int .i64) _ _ _ (rd l1 (rd x6_2 x7_2)) [.int .i64 (rd l1 (rd x6_2 x7_2))] from rfl) (Reps.none _ _))))
 intro v279 w34 ho35 hb hg_ hnew_
 have HS0_ := (hb.cell (World.block_lt_of_cell? _ _ (hHeld.1))).trans (hHeld.1)
 have HS2_ := (hb.cell (World.block_lt_of_cell? _ _ (hHeld.2.2.1))).trans (hHeld.2.2.1)
 clear hg_ hnew_
 (first | rw [← Ny278.out] at ho35 | (simp only [Int.reduceToNat] at ho35; rw [← Ny278.out] at ho35))
 replace HO_5 := aM (Kd.R_below (rX HO_5.out) hb)
 have HO280 := aM (Kd.R_lower (Kd.R_new' ho35 (Kd.R_lt (rX HO_6.out))) (below_size (bX HB.out)))
 replace HO_6 := aM (Kd.R_elder' (rX HO_6.out) (Kd.R_base ho35) hb)
 replace HB := aM (below_step (bX HB.out) hb)
 clear hb ho35
 obtain ⟨Ao36, co36, eo36⟩ := Kd.R_slice HO280.out
 (first | subst eo36 | (injection eo36 with f1_ f2_ f3_; have f4_ := f1_.symm; have f5_ := f3_.symm; clear f1_ f2_ f3_; subst f4_; subst f5_))
 refine hK.out _ _ ⟨HS0_, ((HB.out.cell (World.block_lt_of_cell? w _ hw275_0)).trans hw275_0), HS2_, ((HB.out.cell (World.block_lt_of_cell? w _ hw277_0)).trans hw277_0)⟩ (fun hHeld => ?_)
 clear hK K
 refine norm_ (a' := ?_) ?_ ?_
 rotate_left
 {
 show Act.put _ (some 56) _ = _
 simp only [Act.put, zA, zB, zC, i64_w, i32_w]
 rfl
 }
 refine pX 15 57 (fl 17 131071) rfl rfl HT_.out ?_
 refine done_ (done_of HT_.out (by kernel_rfl)) ?_
 try go_wp2
 go_loopg [6, 58] k2 (fun kq v6 v58 w' => ∃ (x5_3 : List Bool) (x6_3 : List Int) (x58_3 : Int), v58 = .int .i64 x58_3 ∧ Aside0 (i_IsTransitive.l1 kq l0 l1 x5_3 x6_3 x7_2 y278 (y278.length : Int) x58_3 = some r) ∧ Aside0 (kq ≤ k2) ∧ Aside0 (Kd.R Kd.bool 4 w' w.heap.size (fun _ => True) (.slice (some ⟨go20, 0, none⟩) x5_2.length co20) x5_3) ∧ Aside0 (Kd.R (Kd.int .i64) 3 w' w.heap.size (fun k_ => some k_ ≠ ((.slice Ao36 y278.length co36) : Value).ownBlock) v6 x6_3) ∧ Aside0 (Kd.R (Kd.int .i64) 3 w' w.heap.size (fun k_ => some k_ ≠ (v6 : Value).ownBlock) (.slice Ao36 y278.length co36) y278) ∧ Aside0 (Below w.heap.size w w'))
 case atStart => exact ⟨(x5_2), (x6_2), (0), vX, H', ⟨Nat.le_refl _⟩, ⟨by (try simp only [hl5_2]); (with_reducible repeat (first|apply rA|apply rN|apply rD)); exact HO_5.out⟩, ⟨by (try simp only [hl5_2]); (with_reducible repeat (first|apply rA|apply rN|apply rD)); exact Kd.R_mono HO_6.out (fun _ hk => hk.2)⟩, ⟨by (try simp only [hl5_2]); (with_reducible repeat (first|apply rA|apply rN|apply rD)); exact Kd.R_mono HO280.out (fun _ hk => hk.2)⟩, ⟨bX HB.out⟩⟩
 case round =>
 clear H'
 try clear c1
 try clear c5
 try clear c7
 try clear c8
 try clear c8b0
 try clear c8b1
 try clear c8b2
 try clear c16
 try clear c17
 try clear c17b0
 try clear c17b1
 try clear c18
 try clear c18b0
 try clear c18b1
 try clear c19
 try clear c19b0
 try clear c19b1
 try clear p20
 try clear q20
 try clear qi20
 try clear c27
 try clear c27b0
 try clear c28
 try clear c28b0
 try clear c29
 try clear c29b0
 try clear c30
 try clear c30b0
 try clear c31
 try clear c31b0
 try clear hx20_0
 try clear hx274_0
 try clear hx275_0
 try clear hx276_0
 try clear hx277_0
 try clear p20
 try clear p274
 try clear p275
 try clear p276
 try clear p277
 try clear q20
 try clear q274
 try clear q275
 try clear q276
 try clear q277
 obtain ⟨x5_3, x6_3, x58_3, rfl, HA, HK3, HO_5, HO_6, HO_56, HB⟩ := hrel
 have hl5_3 := (Kd.R_reads' HO_5.out).1
 rw [hl5_3] at HO_5
 (try simp only [hl5_3])
 (try simp only [hl5_3] at HO_6)
 (try simp only [hl5_3] at HO_56)
 cases gk with
 | zero => exact absurd HA.out (by simp [i_IsTransitive.l1])
 | succ k3 =>
 have H := HA.out
 clear HA
 simp only [i_IsTransitive.l1] at H
 by_cases c37 : x58_3 < (y278.length : Int)
 {
 rw [if_pos c37] at H
 have c37b0 : decide (x58_3 < (y278.length : Int)) = true := decide_eq_true c37
 clear c37
 by_cases c38 : 0 ≤ x58_3
 {
 rw [if_pos c38] at H
 have c38b0 : decide (0 ≤ x58_3) = true := decide_eq_true c38
 clear c38
 by_cases c39 : x58_3 < (y278.length : Int)
 {
 rw [if_pos c39] at H
 have c39b0 : decide (x58_3 < (y278.length : Int)) = true := decide_eq_true c39
 clear c39
 by_cases c40 : 0 ≤ (rd y278 x58_3)
 {
 rw [if_pos c40] at H
 have c40b0 : decide (0 ≤ (rd y278 x58_3)) = true := decide_eq_true c40
 clear c40
 by_cases c41 : (rd y278 x58_3) < (x5_3.length : Int)
 {
 rw [if_pos c41] at H
 have c41b0 : decide ((rd y278 x58_3) < (x5_3.length : Int)) = true := decide_eq_true c41
 clear c41
 obtain ⟨bq42, hbq42⟩ : ∃ b_ : Bool, b_ = (rdOf false x5_3 (rd y278 x58_3)) := ⟨_, rfl⟩
 replace H : (if (bq42 = true) then (i_IsTransitive.l1 k3 l0 l1 x5_3 x6_3 x7_2 y278 (y278.length : Int) (wrap64 (x58_3 + 1))) else (if x6_3.length < 17592186044416 then (i_IsTransitive.l1 k3 l0 l1 (x5_3.set ((rd y278 x58_3) : Int).toNat true) (x6_3 ++ [rd y278 x58_3]) x7_2 y278 (y278.length : Int) (wrap64 (x58_3 + 1))) else (none))) = some r := by rw [← hbq42] at H; exact H
 have Nbq42 := aM hbq42
 clear hbq42
 by_cases c43 : (bq42 = true)
 {
 subst c43
 have H1 : (i_IsTransitive.l1 k3 l0 l1 x5_3 x6_3 x7_2 y278 (y278.length : Int) (wrap64 (x58_3 + 1))) = some r := by rw [if_pos rfl] at H; exact H
 clear H
 have H := H1
 clear H1
 have H' := aM H
 clear H
 have p281 : 0 ≤ (x58_3 : Int) := dX
 have q281 : x58_3 < (y278.length : Int) := dX
 obtain ⟨ad281, e281, hx281_0⟩ := Kd.at_int (Kd.R_reads' HO_56.out).2.2 x58_3 p281 q281
 cases e281
 replace p281 := eq_true p281
 replace q281 := eq_true q281
 have p282 : 0 ≤ ((rd y278 x58_3) : Int) := dX
 have q282 : (rd y278 x58_3) < (x5_3.length : Int) := dX
 obtain ⟨ad282, e282, hx282_0⟩ := Kd.at_bool (Kd.R_reads' HO_5.out).2.2 (rd y278 x58_3) p282 q282
 (try rw [← Nbq42.out] at hx282_0)
 obtain rfl : (⟨go20, 0, none⟩ : Addr) = ad282 := (by injection e282)
 (first | simp only [add_plain] at hx282_0 | simp only [add_at] at hx282_0 | simp only [Addr.add, Nat.zero_add] at hx282_0 | skip)
 replace p282 := eq_true p282
 replace q282 := eq_true q282
 go_wp2
 (try simp only [← hl5_3])
 go_roundg k3
 case measure => have := HJ2.out; have := HK2.out; have := HK3.out; omega
 case rel => exact ⟨(x5_3), (x6_3), (wrap64 (x58_3 + 1)), vX, H', ⟨by have := HJ2.out; have := HK2.out; have := HK3.out; omega⟩, ⟨by (try simp only [hl5_2]); (try simp only [hl5_3]); (with_reducible repeat (first|apply rA|apply rN|apply rD)); exact HO_5.out⟩, ⟨by (try simp only [hl5_2]); (try simp only [hl5_3]); (with_reducible repeat (first|apply rA|apply rN|apply rD)); exact HO_6.out⟩, ⟨by (try simp only [hl5_2]); (try simp only [hl5_3]); (with_reducible repeat (first|apply rA|apply rN|apply rD)); exact HO_56.out⟩, ⟨bX HB.out⟩⟩
 }
 {
 replace c43 := Bool.eq_false_iff.mpr c43
 subst c43
 have H1 : (if x6_3.length < 17592186044416 then (i_IsTransitive.l1 k3 l0 l1 (x5_3.set ((rd y278 x58_3) : Int).toNat true) (x6_3 ++ [rd y278 x58_3]) x7_2 y278 (y278.length : Int) (wrap64 (x58_3 + 1))) else (none)) = some r := by rw [if_neg (show ¬ (false = true) by decide)] at H; exact H
 clear H
 have H := H1
 clear H1
 obtain ⟨y283, hy283⟩ : ∃ y_ : List Bool, y_ = (x5_3.set ((rd y278 x58_3) : Int).toNat true) := ⟨_, rfl⟩
 replace H : (if x6_3.length < 17592186044416 then (i_IsTransitive.l1 k3 l0 l1 y283 (x6_3 ++ [rd y278 x58_3]) x7_2 y278 (y278.length : Int) (wrap64 (x58_3 + 1))) else (none)) = some r := by first | (rw [hy283]; with_reducible exact H) | (have H2_ := (Option.bind_some _ _).symm.trans H; rw [hy283]; with_reducible exact H2_) | (have H2_ := (Option.bind_some _ _).symm.trans H; with_reducible exact H2_) | with_reducible exact H | (rw [hy283]; exact H) | exact H
 have Ny283 := aM hy283
 clear hy283
 by_cases c45 : x6_3.length < 17592186044416
 {
 rw [if_pos c45] at H
 have LMc45 := aM c45
 clear c45
 obtain ⟨y284, hy284⟩ : ∃ y_ : List Int, y_ = (x6_3 ++ [rd y278 x58_3]) := ⟨_, rfl⟩
 replace H : (i_IsTransitive.l1 k3 l0 l1 y283 y284 x7_2 y278 (y278.length : Int) (wrap64 (x58_3 + 1))) = some r := by first | (rw [hy284]; with_reducible exact H) | (have H2_ := (Option.bind_some _ _).symm.trans H; rw [hy284]; with_reducible exact H2_) | (have H2_ := (Option.bind_some _ _).symm.trans H; with_reducible exact H2_) | with_reducible exact H | (rw [hy284]; exact H) | exact H
 have Ny284 := aM hy284
 clear hy284
 have H' := aM H
 clear H
 have p281 : 0 ≤ (x58_3 : Int) := dX
 have q281 : x58_3 < (y278.length : Int) := dX
 obtain ⟨ad281, e281, hx281_0⟩ := Kd.at_int (Kd.R_reads' HO_56.out).2.2 x58_3 p281 q281
 cases e281
 replace p281 := eq_true p281
 replace q281 := eq_true q281
 have p282 : 0 ≤ ((rd y278 x58_3) : Int) := dX
 have q282 : (rd y278 x58_3) < (x5_3.length : Int) := dX
 obtain ⟨ad282, e282, hx282_0⟩ := Kd.at_bool (Kd.R_reads' HO_5.out).2.2 (rd y278 x58_3) p282 q282
 (try rw [← Nbq42.out] at hx282_0)
 obtain rfl : (⟨go20, 0, none⟩ : Addr) = ad282 := (by injection e282)
 (first | simp only [add_plain] at hx282_0 | simp only [add_at] at hx282_0 | simp only [Addr.add, Nat.zero_add] at hx282_0 | skip)
 replace p282 := eq_true p282
 replace q282 := eq_true q282
 have p44 : 0 ≤ ((rd y278 x58_3) : Int) := dX
 have q44 : ((rd y278 x58_3) : Int) < ((x5_3.length : Int) : Int) := dX
 obtain ⟨hx44_0, hf44_0⟩ := Kd.R_celln false HO_5.out ((rd y278 x58_3) : Int) p44 q44
 replace p44 := eq_true p44
 replace q44 := eq_true q44
 have HP46 := Kd.R_putg HO_5.out ((rd y278 x58_3) : Int) true
 go_wp2_with (first | ((with_reducible refine gate_store (t := 4) (p := 69) rfl ?_); refine store_event (t := 4) (p := 69) (v := ?vo_w47) (w1 := (wr.setCell ⟨go20, ((rd y278 x58_3) : Int).toNat, none⟩ (.bool true))) ?hg ?ho ?hn ?hr ?_; (case ho => rfl); (case hg => rfl); (case hn => rfl); (case hr => first | (go_simp; done) | (go_simp; rfl)); intro w47 hw; have hg : wr.grownBy w47 (some go20) := (by rw [hw]; exact HP46.2); have hp_ : Kd.R Kd.bool 4 w47 w.heap.size (fun _ => True) (.slice (some ⟨go20, 0, none⟩) x5_3.length co20) y283 := (by rw [hw, Ny283.out]; exact HP46.1); clear HP46; replace HO_6 := aM (Kd.R_over' (v := (.slice (some ⟨go20, 0, none⟩) x5_3.length co20)) (rX HO_6.out) (Kd.R_typed HO_5.out) (by decide) hg); replace HO_56 := aM (Kd.R_over' (v := (.slice (some ⟨go20, 0, none⟩) x5_3.length co20)) (rX HO_56.out) (Kd.R_typed HO_5.out) (by decide) hg); replace HO_5 := aM (hp_); replace HB := aM ((by rw [hw]; exact below_set (HB.out) GB20.out : Below w.heap.size w w47)); clear hg hw hp_) | ((with_reducible refine gate_builtin (b := .append) (xs := #[.tmp 70, .tmp 72]) rfl ?_); (try (refine gate_guard (by rfl) ?_; dsimp only)); at_builtin; refine Kd.R_append (Kd.int .i64) (w0 := w) w.heap.size rfl (.tmp 70) (.tmp 72) 25 3 (.int .i64 0) 8 rfl Try.underlying25 info3 rfl (by decide) (by omega) u6 x6_3 (rd y278 x58_3) [.int .i64 (rd y278 x58_3)] (fun k_ => some k_ ≠ (.slice (some ad281) y278.length co36 : Value).ownBlock) (fun _ => False) rfl rfl ?aP (fun _ hk => hk.elim) ?aF ?aO ?aB ?aS ?aL ?_; (case aP => exact rfl); (case aB => exact (bX HB.out)); (case aF => exact (fun k_ hk => Kd.fresh' (Kd.R_lt (rX HO_56.out)) k_ hk)); (case aO => exact (rX HO_6.out)); (case aS => exact (below_size (bX HB.out))); (case aL => have := LMc45.out; omega); intro v285 w48 ho hb hg hat; rw [← Ny284.out] at ho; replace HO_5 := aM (Kd.R_over' (rX HO_5.out) (Kd.R_typed (rX HO_6.out)) (by decide) hg); replace HO_56 := aM (Kd.R_after (ok := (fun _ => True)) (rM HO_56.out (fun _ hk => ⟨trivial, hk⟩)) hg hat); replace HB := aM (hb); have HO286 := aM (ho); clear HO_6 ho hb hg hat))
 (try simp only [← hl5_3])
 go_roundg k3
 case measure => have := HJ2.out; have := HK2.out; have := HK3.out; omega
 case rel => exact ⟨(y283), (y284), (wrap64 (x58_3 + 1)), vX, H', ⟨by have := HJ2.out; have := HK2.out; have := HK3.out; omega⟩, ⟨by (try simp only [hl5_2]); (try simp only [hl5_3]); (with_reducible repeat (first|apply rA|apply rN|apply rD)); exact HO_5.out⟩, ⟨by (try simp only [hl5_2]); (try simp only [hl5_3]); (with_reducible repeat (first|apply rA|apply rN|apply rD)); exact HO286.out⟩, ⟨by (try simp only [hl5_2]); (try simp only [hl5_3]); (with_reducible repeat (first|apply rA|apply rN|apply rD)); exact Kd.R_mono HO_56.out (fun _ hk => hk.2)⟩, ⟨bX HB.out⟩⟩
 }
 {
 rw [if_neg c45] at H
 exact absurd H (by simp)
 }
 }
 }
 {
 rw [if_neg c41] at H
 exact absurd H (by simp)
 }
 }
 {
 rw [if_neg c40] at H
 exact absurd H (by simp)
 }
 }
 {
 rw [if_neg c39] at H
 exact absurd H (by simp)
 }
 }
 {
 rw [if_neg c38] at H
 exact absurd H (by simp)
 }
 }
 {
 rw [if_neg c37] at H
 have c37b0 : decide (x58_3 < (y278.length : Int)) = false := decide_eq_false c37
 clear c37
 have H' := aM H
 clear H
 go_wp2
 (try simp only [← hl5_2, ← hl5_3])
 go_roundg k3
 case measure => have := HJ2.out; have := HK2.out; have := HK3.out; omega
 case rel => exact ⟨(x5_3), (x6_3), (wrap64 (x7_2 + 1)), vX, H', ⟨by have := HJ2.out; have := HK2.out; have := HK3.out; omega⟩, ⟨by (try simp only [hl5_2]); (try simp only [hl5_3]); (with_reducible repeat (first|apply rA|apply rN|apply rD)); exact HO_5.out⟩, ⟨by (try simp only [hl5_2]); (try simp only [hl5_3]); (with_reducible repeat (first|apply rA|apply rN|apply rD)); exact Kd.R_mono HO_6.out (fun _ hk => trivial)⟩, ⟨bX HB.out⟩⟩
 }
 }
 {
 rw [if_neg c31] at H
 exact absurd H (by simp)
 }
 }
 {
 rw [if_neg c30] at H
 exact absurd H (by simp)
 }
 }
 {
 rw [if_neg c29] at H
 exact absurd H (by simp)
 }
 }
 {
 rw [if_neg c28] at H
 exact absurd H (by simp)
 }
 }
 {
 rw [if_neg c27] at H
 have c27b0 : decide (x7_2 < (x6_2.length : Int)) = false := decide_eq_false c27
 clear c27
 obtain rfl := Option.some.inj H
 obtain ⟨Ao49, co49, eo49⟩ := Kd.R_slice HO_6.out
 subst eo49
 go_wp2
 go_ret
 exact ⟨eX, bX HB.out⟩
 }
 }
 {
 rw [if_neg c19] at H
 exact absurd H (by simp)
 }
 }
 {
 rw [if_neg c18] at H
 exact absurd H (by simp)
 }
 }
 {
 rw [if_neg c17] at H
 exact absurd H (by simp)
 }
 }

/-! ### i_SurfaceOk: function 19 -/
def i_SurfaceOk.f (k : Nat) (l0_0 : List Int) (l0_1 : List Int) : Option (Bool) := (i_IsTransitive.f k l0_0 l0_1).bind fun t288 => (some t288)
theorem i_SurfaceOk.calls (k : Nat) (A0_0 : Option Addr) (c0_0 : Nat) (l0_0 : List Int) (A0_1 : Option Addr) (c0_1 : Nat) (l0_1 : List Int) (r : Bool) (w : World) (hr0_0 : Kd.C (Kd.int .i64) w A0_0 l0_0.length l0_0) (hc0_0 : l0_0.length ≤ c0_0) (hr0_1 : Kd.C (Kd.int .i64) w A0_1 l0_1.length l0_1) (hc0_1 : l0_1.length ≤ c0_1) (h : i_SurfaceOk.f k l0_0 l0_1 = some r) :
  Calls Try.prog 19 #[.agg #[.slice A0_0 l0_0.length c0_0, .slice A0_1 l0_1.length c0_1]] w fun e w' => e = .returned (.bool r) ∧ Below w.heap.size w w' := by
 have hu27 := Try.underlying27
 have HR0_0 := aM hr0_0
 have HC0_0 := aM hc0_0
 clear hr0_0 hc0_0
 have HR0_1 := aM hr0_1
 have HC0_1 := aM hc0_1
 clear hr0_1 hc0_1
 have HB := aM (Below.refl w.heap.size w)
 have H : ((i_IsTransitive.f k l0_0 l0_1).bind fun t288 => (some t288)) = some r := h
 clear h
 replace H := oB H
 obtain ⟨t288, A20, H⟩ := H
 replace H : (some t288) = some r := H
 have A2 := aM A20
 clear A20
 obtain rfl := Option.some.inj H
 go_enter Try.func19, Try.ntmps19
 go_wp2_with (first | ((with_reducible refine gate_dst (N := 1) rfl ?_); refine bEv (cs := #[.slice A0_0 l0_0.length c0_0, .slice A0_1 l0_1.length c0_1]) (t := 27) ?_; intro gb287 hg w3 hbox hb; have BK287 := aM (hbox); have GW287 := aM ((szX (below_size (bX HB.out)) hg : w.heap.size ≤ gb287)); have GE287 := aM ((szX (below_size (bX HB.out)) hg : w.heap.size ≤ gb287)); replace HB := aM (below_step (bX HB.out) hb); clear hb hbox hg; have hcz4_0 := cz20 BK287.out; have hcz4_1 := cz21 BK287.out; have hfz4_0 := blk_frozen BK287.out 0; have hfz4_1 := blk_frozen BK287.out 1) | ((with_reducible refine gate_callee (f := 29) rfl ?_); refine goesL_ (some 7) rfl rfl Try.func29 (by kernel_rfl) rfl #[.slice A0_0 l0_0.length c0_0, .slice A0_1 l0_1.length c0_1] rfl aX ?_; (with_reducible refine (i_IsTransitive.calls k _ _ l0_0 _ _ l0_1 t288 _ ?side1 ?side2 ?side3 ?side4 A2.out).mono ?_); (case side1 => exact cX (Kd.C_below HR0_0.out HB.out)); (case side2 => exact HC0_0.out); (case side3 => exact cX (Kd.C_below HR0_1.out HB.out)); (case side4 => exact HC0_1.out); rintro e w5 ⟨rfl, hb⟩; refine ⟨_, rfl, ?_⟩; replace BK287 := aM (bbX BK287.out hb); replace HB := aM (below_step (bX1 HB.out GE287.out) hb); (try clear hb); (try clear hb2); (try clear hk); (try clear hi)))
 go_ret
 exact ⟨eX, bX1 HB.out GE287.out⟩

/-! ### i_CountSquares: function 8 -/
def i_CountSquares.f (k : Nat) (l0_0 : List Int) (l0_1 : List Int) : Option (Int) := (i_SurfaceOk.f k l0_0 l0_1).bind fun t290 => (if t290 = true then (some (l0_0.length : Int)) else (some 0))
theorem i_CountSquares.calls (k : Nat) (A0_0 : Option Addr) (c0_0 : Nat) (l0_0 : List Int) (A0_1 : Option Addr) (c0_1 : Nat) (l0_1 : List Int) (r : Int) (w : World) (hr0_0 : Kd.C (Kd.int .i64) w A0_0 l0_0.length l0_0) (hc0_0 : l0_0.length ≤ c0_0) (hr0_1 : Kd.C (Kd.int .i64) w A0_1 l0_1.length l0_1) (hc0_1 : l0_1.length ≤ c0_1) (h : i_CountSquares.f k l0_0 l0_1 = some r) :
  Calls Try.prog 8 #[.agg #[.slice A0_0 l0_0.length c0_0, .slice A0_1 l0_1.length c0_1]] w fun e w' => e = .returned (.int .i64 r) ∧ Below w.heap.size w w' := by
 have hu27 := Try.underlying27
 have HR0_0 := aM hr0_0
 have HC0_0 := aM hc0_0
 clear hr0_0 hc0_0
 have HR0_1 := aM hr0_1
 have HC0_1 := aM hc0_1
 clear hr0_1 hc0_1
 have HB := aM (Below.refl w.heap.size w)
 have H : ((i_SurfaceOk.f k l0_0 l0_1).bind fun t290 => (if t290 = true then (some (l0_0.length : Int)) else (some 0))) = some r := h
 clear h
 replace H := oB H
 obtain ⟨t290, A20, H⟩ := H
 replace H : (if t290 = true then (some (l0_0.length : Int)) else (some 0)) = some r := H
 have A2 := aM A20
 clear A20
 by_cases c3 : t290 = true
 {
 subst c3
 have H1 : (some (l0_0.length : Int)) = some r := by rw [if_pos rfl] at H; exact H
 clear H
 have H := H1
 clear H1
 obtain rfl := Option.some.inj H
 go_enter Try.func8, Try.ntmps8
 go_wp2_with (first | ((with_reducible refine gate_dst (N := 1) rfl ?_); refine bEv (cs := #[.slice A0_0 l0_0.length c0_0, .slice A0_1 l0_1.length c0_1]) (t := 27) ?_; intro gb289 hg w4 hbox hb; have BK289 := aM (hbox); have GW289 := aM ((szX (below_size (bX HB.out)) hg : w.heap.size ≤ gb289)); have GE289 := aM ((szX (below_size (bX HB.out)) hg : w.heap.size ≤ gb289)); replace HB := aM (below_step (bX HB.out) hb); clear hb hbox hg; have hcz5_0 := cz20 BK289.out; have hcz5_1 := cz21 BK289.out; have hfz5_0 := blk_frozen BK289.out 0; have hfz5_1 := blk_frozen BK289.out 1) | ((with_reducible refine gate_callee (f := 19) rfl ?_); refine goesL_ (some 4) rfl rfl Try.func19 (by kernel_rfl) rfl #[.agg #[.slice A0_0 l0_0.length c0_0, .slice A0_1 l0_1.length c0_1]] rfl aX ?_; (with_reducible refine (i_SurfaceOk.calls k _ _ l0_0 _ _ l0_1 true _ ?side1 ?side2 ?side3 ?side4 A2.out).mono ?_); (case side1 => exact cX (Kd.C_below HR0_0.out HB.out)); (case side2 => exact HC0_0.out); (case side3 => exact cX (Kd.C_below HR0_1.out HB.out)); (case side4 => exact HC0_1.out); rintro e w6 ⟨rfl, hb⟩; refine ⟨_, rfl, ?_⟩; replace BK289 := aM (bbX BK289.out hb); replace HB := aM (below_step (bX1 HB.out GE289.out) hb); (try clear hb); (try clear hb2); (try clear hk); (try clear hi); have hcz7_0 := cz20 BK289.out; have hcz7_1 := cz21 BK289.out; have hfz7_0 := blk_frozen BK289.out 0; have hfz7_1 := blk_frozen BK289.out 1))
 go_ret
 exact ⟨eX, bX1 HB.out GE289.out⟩
 }
 {
 replace c3 := Bool.eq_false_iff.mpr c3
 subst c3
 have H1 : (some 0) = some r := by rw [if_neg (show ¬ (false = true) by decide)] at H; exact H
 clear H
 have H := H1
 clear H1
 obtain rfl := Option.some.inj H
 go_enter Try.func8, Try.ntmps8
 go_wp2_with (first | ((with_reducible refine gate_dst (N := 1) rfl ?_); refine bEv (cs := #[.slice A0_0 l0_0.length c0_0, .slice A0_1 l0_1.length c0_1]) (t := 27) ?_; intro gb289 hg w8 hbox hb; have BK289 := aM (hbox); have GW289 := aM ((szX (below_size (bX HB.out)) hg : w.heap.size ≤ gb289)); have GE289 := aM ((szX (below_size (bX HB.out)) hg : w.heap.size ≤ gb289)); replace HB := aM (below_step (bX HB.out) hb); clear hb hbox hg; have hcz9_0 := cz20 BK289.out; have hcz9_1 := cz21 BK289.out; have hfz9_0 := blk_frozen BK289.out 0; have hfz9_1 := blk_frozen BK289.out 1) | ((with_reducible refine gate_callee (f := 19) rfl ?_); refine goesL_ (some 4) rfl rfl Try.func19 (by kernel_rfl) rfl #[.agg #[.slice A0_0 l0_0.length c0_0, .slice A0_1 l0_1.length c0_1]] rfl aX ?_; (with_reducible refine (i_SurfaceOk.calls k _ _ l0_0 _ _ l0_1 false _ ?side1 ?side2 ?side3 ?side4 A2.out).mono ?_); (case side1 => exact cX (Kd.C_below HR0_0.out HB.out)); (case side2 => exact HC0_0.out); (case side3 => exact cX (Kd.C_below HR0_1.out HB.out)); (case side4 => exact HC0_1.out); rintro e w10 ⟨rfl, hb⟩; refine ⟨_, rfl, ?_⟩; replace BK289 := aM (bbX BK289.out hb); replace HB := aM (below_step (bX1 HB.out GE289.out) hb); (try clear hb); (try clear hb2); (try clear hk); (try clear hi)))
 go_ret
 exact ⟨eX, bX1 HB.out GE289.out⟩
 }

/-! ### laws_total: function 9 -/
def laws_total.l0 : Nat → Int → List Int → Int → Int → Option (Int)
 | 0, _, _, _, _ => none
 | k + 1, x3, x6, x7, x8 => if x8 < x7 then (if 0 ≤ x8 then (if x8 < (x6.length : Int) then (laws_total.l0 k (wrap64 (x3 + (rd x6 x8))) x6 x7 (wrap64 (x8 + 1))) else (none)) else (none)) else (some x3)
def laws_total.f (k : Nat) (l0 : List Int) : Option (Int) := laws_total.l0 k 0 l0 (l0.length : Int) 0
theorem laws_total.calls (k : Nat) (A0 : Option Addr) (c0 : Nat) (l0 : List Int) (r : Int) (w : World) (hr0 : Kd.C (Kd.int .i64) w A0 l0.length l0) (hc0 : l0.length ≤ c0) (h : laws_total.f k l0 = some r) :
  Calls Try.prog 9 #[.slice A0 l0.length c0] w fun e w' => e = .returned (.int .i64 r) ∧ Drawn0 w w' := by
 have HR0 := aM hr0
 have HC0 := aM hc0
 clear hr0 hc0
 have H : (laws_total.l0 k 0 l0 (l0.length : Int) 0) = some r := h
 clear h
 have H' := aM H
 clear H
 go_enter Try.func9, Try.ntmps9
 go_wp2
 go_loopg [3, 8] k (fun kq v3 v8 w' => ∃ (x3_1 : Int) (x8_1 : Int), v3 = .int .i64 x3_1 ∧ v8 = .int .i64 x8_1 ∧ Aside0 (laws_total.l0 kq x3_1 l0 (l0.length : Int) x8_1 = some r) ∧ Aside0 (kq ≤ k) ∧ Drawn0 w w')
 case atStart => exact ⟨(0), (0), vX, vX, H', ⟨Nat.le_refl _⟩, by repeat (first | exact Drawn0.refl _ | apply Drawn0.step)⟩
 case round =>
 clear H'
 obtain ⟨x3_1, x8_1, rfl, rfl, HA, HK1, ⟨m1, rfl⟩⟩ := hrel
 cases gk with
 | zero => exact absurd HA.out (by simp [laws_total.l0])
 | succ k1 =>
 have H := HA.out
 clear HA
 simp only [laws_total.l0] at H
 by_cases c2 : x8_1 < (l0.length : Int)
 {
 rw [if_pos c2] at H
 have c2b0 : decide (x8_1 < (l0.length : Int)) = true := decide_eq_true c2
 clear c2
 by_cases c3 : 0 ≤ x8_1
 {
 rw [if_pos c3] at H
 have c3b0 : decide (0 ≤ x8_1) = true := decide_eq_true c3
 clear c3
 by_cases c4 : x8_1 < (l0.length : Int)
 {
 rw [if_pos c4] at H
 have c4b0 : decide (x8_1 < (l0.length : Int)) = true := decide_eq_true c4
 clear c4
 have H' := aM H
 clear H
 have p291 : 0 ≤ (x8_1 : Int) := dX
 have q291 : x8_1 < (l0.length : Int) := dX
 obtain ⟨ad291, e291, hx291_0⟩ := Kd.at_int HR0.out x8_1 p291 q291
 cases e291
 replace p291 := eq_true p291
 replace q291 := eq_true q291
 go_wp2
 go_roundg k1
 case measure => have := HK1.out; omega
 case rel => exact ⟨(wrap64 (x3_1 + (rd l0 x8_1))), (wrap64 (x8_1 + 1)), vX, vX, H', ⟨by have := HK1.out; omega⟩, by repeat (first | exact Drawn0.refl _ | apply Drawn0.step)⟩
 }
 {
 rw [if_neg c4] at H
 exact absurd H (by simp)
 }
 }
 {
 rw [if_neg c3] at H
 exact absurd H (by simp)
 }
 }
 {
 rw [if_neg c2] at H
 have c2b0 : decide (x8_1 < (l0.length : Int)) = false := decide_eq_false c2
 clear c2
 obtain rfl := Option.some.inj H
 go_wp2
 go_ret
 exact ⟨by first | rfl | (simp; done) | (simp [*]; done), by repeat (first | exact Drawn0.refl _ | apply Drawn0.step)⟩
 }

/-! ### strings_IndexByte: function 45 -/
/-! by hand -/
def strings_IndexByte.f (a0 : ByteArray) (a1 : Int) : Option (Int) := some (Go.Lib.indexByte a0.data.toList a1.toNat.toUInt8)
theorem strings_IndexByte.calls (a0 : ByteArray) (a1 : Int) (r : Int) (w : World) (h : strings_IndexByte.f a0 a1 = some r) :
    Calls Try.prog 45 #[.string a0, .int .u8 a1] w fun e w' => e = .returned (.int .i64 r) ∧ Drawn0 w w' := by
 unfold strings_IndexByte.f at h
 obtain rfl := Option.some.inj h
 refine (Try.strings_IndexByte a0 a1 w).mono ?_
 rintro e w' ⟨rfl, rfl⟩
 exact ⟨rfl, Drawn0.refl _⟩

/-! ### i_WordOk: function 36 -/
def i_WordOk.l0 : Nat → ByteArray → Int → Option (Bool)
 | 0, _, _ => none
 | k + 1, x0, x3 => if x3 < (x0.size : Int) then (if 0 ≤ x3 then ((strings_IndexByte.f (⟨#[84, 116, 83, 115]⟩ : ByteArray) (bt x0 x3)).bind fun t292 => (if t292 < 0 then (some false) else (i_WordOk.l0 k x0 (wrap64 (x3 + 1))))) else (none)) else (some (decide ((x0.size : Int) ≤ 40)))
def i_WordOk.f (k : Nat) (a0 : ByteArray) : Option (Bool) := i_WordOk.l0 k a0 0
theorem i_WordOk.calls (k : Nat) (a0 : ByteArray) (r : Bool) (w : World) (h : i_WordOk.f k a0 = some r) :
  Calls Try.prog 36 #[.string a0] w fun e w' => e = .returned (.bool r) ∧ Drawn0 w w' := by
 have H : (i_WordOk.l0 k a0 0) = some r := h
 clear h
 have H' := aM H
 clear H
 go_enter Try.func36, Try.ntmps36
 go_wp2
 go_loopg [3] k (fun kq v3 w' => ∃ (x3_1 : Int), v3 = .int .i64 x3_1 ∧ Aside0 (i_WordOk.l0 kq a0 x3_1 = some r) ∧ Aside0 (kq ≤ k) ∧ Drawn0 w w')
 case atStart => exact ⟨(0), vX, H', ⟨Nat.le_refl _⟩, by repeat (first | exact Drawn0.refl _ | apply Drawn0.step)⟩
 case round =>
 clear H'
 obtain ⟨x3_1, rfl, HA, HK1, ⟨m1, rfl⟩⟩ := hrel
 cases gk with
 | zero => exact absurd HA.out (by simp [i_WordOk.l0])
 | succ k1 =>
 have H := HA.out
 clear HA
 simp only [i_WordOk.l0] at H
 by_cases c2 : x3_1 < (a0.size : Int)
 {
 rw [if_pos c2] at H
 have c2b0 : decide (x3_1 < (a0.size : Int)) = true := decide_eq_true c2
 clear c2
 by_cases c3 : 0 ≤ x3_1
 {
 rw [if_pos c3] at H
 have c3b0 : decide (0 ≤ x3_1) = true := decide_eq_true c3
 clear c3
 replace H := oB H
 obtain ⟨t292, A50, H⟩ := H
 replace H : (if t292 < 0 then (some false) else (i_WordOk.l0 k1 a0 (wrap64 (x3_1 + 1)))) = some r := H
 have A5 := aM A50
 clear A50
 by_cases c6 : t292 < 0
 {
 rw [if_pos c6] at H
 have c6b0 : decide (t292 < 0) = true := decide_eq_true c6
 clear c6
 obtain rfl := Option.some.inj H
 have p4 : 0 ≤ (x3_1 : Int) := dX
 have q4 : x3_1 < (a0.size : Int) := dX
 have hx4 := bt_at a0 x3_1
 replace p4 := eq_true p4
 replace q4 := eq_true q4
 go_wp2_with (first | ((with_reducible refine gate_callee (f := 45) rfl ?_); refine goesL_ (some 13) rfl rfl Try.func45 (by kernel_rfl) rfl #[.string (⟨#[84, 116, 83, 115]⟩ : ByteArray), .int .u8 (bt a0 x3_1)] rfl aX ?_; (with_reducible refine (strings_IndexByte.calls (⟨#[84, 116, 83, 115]⟩ : ByteArray) (bt a0 x3_1) t292 _ A5.out).mono ?_); rintro e w' ⟨rfl, ⟨nd, rfl⟩⟩; refine ⟨_, rfl, ?_⟩))
 go_ret
 exact ⟨by first | rfl | (simp; done) | (simp [*]; done), by repeat (first | exact Drawn0.refl _ | apply Drawn0.step)⟩
 }
 {
 rw [if_neg c6] at H
 have c6b0 : decide (t292 < 0) = false := decide_eq_false c6
 clear c6
 have H' := aM H
 clear H
 have p4 : 0 ≤ (x3_1 : Int) := dX
 have q4 : x3_1 < (a0.size : Int) := dX
 have hx4 := bt_at a0 x3_1
 replace p4 := eq_true p4
 replace q4 := eq_true q4
 go_wp2_with (first | ((with_reducible refine gate_callee (f := 45) rfl ?_); refine goesL_ (some 13) rfl rfl Try.func45 (by kernel_rfl) rfl #[.string (⟨#[84, 116, 83, 115]⟩ : ByteArray), .int .u8 (bt a0 x3_1)] rfl aX ?_; (with_reducible refine (strings_IndexByte.calls (⟨#[84, 116, 83, 115]⟩ : ByteArray) (bt a0 x3_1) t292 _ A5.out).mono ?_); rintro e w' ⟨rfl, ⟨nd, rfl⟩⟩; refine ⟨_, rfl, ?_⟩))
 go_roundg k1
 case measure => have := HK1.out; omega
 case rel => exact ⟨(wrap64 (x3_1 + 1)), vX, H', ⟨by have := HK1.out; omega⟩, by repeat (first | exact Drawn0.refl _ | apply Drawn0.step)⟩
 }
 }
 {
 rw [if_neg c3] at H
 exact absurd H (by simp)
 }
 }
 {
 rw [if_neg c2] at H
 have c2b0 : decide (x3_1 < (a0.size : Int)) = false := decide_eq_false c2
 clear c2
 obtain rfl := Option.some.inj H
 go_wp2
 go_ret
 exact ⟨by first | rfl | (simp; done) | (simp [*]; done), by repeat (first | exact Drawn0.refl _ | apply Drawn0.step)⟩
 }

/-! ### i_copyInts: function 46 -/
def i_copyInts.f (l0 : List Int) : Option (List Int) := (some (([] : List Int) : List Int)).bind fun y293 => (if y293.length + l0.length < 17592186044416 then (some (y293 ++ l0)) else (none))
theorem i_copyInts.calls (A0 : Option Addr) (c0 : Nat) (l0 : List Int) (r : List Int) (w : World) (hr0 : Kd.C (Kd.int .i64) w A0 l0.length l0) (hc0 : l0.length ≤ c0) (h : i_copyInts.f l0 = some r) :
  Calls Try.prog 46 #[.slice A0 l0.length c0] w fun e w' => ∃ v0_ : Value, e = .returned (v0_) ∧ Kd.R (Kd.int .i64) 3 w' w.heap.size (fun _ => True) v0_ r ∧ Below w.heap.size w w' := by
 have HR0 := aM hr0
 have HC0 := aM hc0
 clear hr0 hc0
 have HB := aM (Below.refl w.heap.size w)
 have H : ((some (([] : List Int) : List Int)).bind fun y293 => (if y293.length + l0.length < 17592186044416 then (some (y293 ++ l0)) else (none))) = some r := h
 clear h
 obtain ⟨y293, hy293⟩ : ∃ y_ : List Int, y_ = (([] : List Int)) := ⟨_, rfl⟩
 replace H : (if y293.length + l0.length < 17592186044416 then (some (y293 ++ l0)) else (none)) = some r := by first | (rw [hy293]; with_reducible exact H) | (have H2_ := (Option.bind_some _ _).symm.trans H; rw [hy293]; with_reducible exact H2_) | (have H2_ := (Option.bind_some _ _).symm.trans H; with_reducible exact H2_) | with_reducible exact H | (rw [hy293]; exact H) | exact H
 have Ny293 := aM hy293
 clear hy293
 by_cases c2 : y293.length + l0.length < 17592186044416
 {
 rw [if_pos c2] at H
 have LMc2 := aM c2
 clear c2
 obtain ⟨y296, hy296⟩ : ∃ y_ : List Int, y_ = (y293 ++ l0) := ⟨_, rfl⟩
 replace H : (some y296) = some r := by first | (rw [hy296]; with_reducible exact H) | (have H2_ := (Option.bind_some _ _).symm.trans H; rw [hy296]; with_reducible exact H2_) | (have H2_ := (Option.bind_some _ _).symm.trans H; with_reducible exact H2_) | with_reducible exact H | (rw [hy296]; exact H) | exact H
 have Ny296 := aM hy296
 clear hy296
 obtain rfl := Option.some.inj H
 go_enter Try.func46, Try.ntmps46
 go_wp2_with (first | ((with_reducible refine gate_dst (N := 3) rfl ?_); refine Kd.R_lit (Kd.int .i64) _ 3 ?hg (N := 3) ?hd (xs := ([] : List Int)) (inner := []) (ok := fun _ => True) (okp := fun _ => True) ?hr ?hp (fun _ hk => hk) trivial (Below.refl _ _) (Nat.le_refl _) (by simp) ?_; (case hd => rfl); (case hg => rfl); (case hr => first | (go_simp; done) | (go_simp; rfl)); (case hp => exact (Reps.none _ _)); intro v294 w3 ho4 hb hg_ hnew_; clear hg_ hnew_; (first | rw [← Ny293.out] at ho4 | (simp only [Int.reduceToNat] at ho4; rw [← Ny293.out] at ho4)); have HO295 := aM (Kd.R_lower ho4 (below_size (bX HB.out))); replace HB := aM (below_step (bX HB.out) hb); clear hb ho4) | ((with_reducible refine gate_builtin (b := .append) (xs := #[.tmp 3, .tmp 4]) rfl ?_); at_builtin; refine Kd.R_append_rows (Kd.int .i64) (w0 := w) w.heap.size rfl (.tmp 3) (.tmp 4) 25 3 (.int .i64 0) 8 rfl Try.underlying25 info3 rfl (by decide) (by omega) v294 y293 l0 _ _ _ (fun _ => True) (fun _ => False) rfl rfl ?aO ?aR (fun _ _ h => h) (fun _ h => h.elim) ?aF ?aB ?aS ?aL ?_; (case aR => exact cX (Kd.C_below HR0.out HB.out)); (case aB => exact (bX HB.out)); (case aF => exact (fun _ _ => trivial)); (case aO => exact (rX HO295.out)); (case aS => exact (below_size (bX HB.out))); (case aL => have := LMc2.out; omega); intro v297 w5 ho hb hg hat; rw [← Ny296.out] at ho; replace HB := aM (hb); have HO298 := aM (ho); clear HO295 ho hb hg hat))
 go_ret
 exact ⟨_, eX, by (with_reducible repeat (first|apply rA|apply rN|apply rD)); exact HO298.out, bX HB.out⟩
 }
 {
 rw [if_neg c2] at H
 exact absurd H (by simp)
 }

/-! ### i_copySurface: function 37 -/
def i_copySurface.f (l0_0 : List Int) (l0_1 : List Int) : Option (List Int × List Int) := (i_copyInts.f l0_0).bind fun t301 => ((i_copyInts.f l0_1).bind fun t304 => (some (t301, t304)))
def i_copySurface.T1 : Bool × List (List Nat × List Nat) := (true, [([], []), ([0], [0]), ([1], [1]), ([], []), ([3], [3]), ([4, 2], [4]), ([2, 5], [2, 5]), ([6, 5, 0, 1, 2, 3, 4, 5, 6], [6])])
def i_copySurface.B1 : List Nat := [0, 1, 3, 0, 8, 31, 63, 127]
theorem i_copySurface.tab1 : rtab .any (opsOf Try.f37 1) = i_copySurface.T1 := by kernel_rfl
theorem i_copySurface.bits1 : waitsOk i_copySurface.T1.2 i_copySurface.B1 = true := by kernel_rfl
theorem i_copySurface.calls (A0_0 : Option Addr) (c0_0 : Nat) (l0_0 : List Int) (A0_1 : Option Addr) (c0_1 : Nat) (l0_1 : List Int) (r1 : List Int) (r2 : List Int) (w : World) (hr0_0 : Kd.C (Kd.int .i64) w A0_0 l0_0.length l0_0) (hc0_0 : l0_0.length ≤ c0_0) (hr0_1 : Kd.C (Kd.int .i64) w A0_1 l0_1.length l0_1) (hc0_1 : l0_1.length ≤ c0_1) (h : i_copySurface.f l0_0 l0_1 = some (r1, r2)) :
  Calls Try.prog 37 #[.agg #[.slice A0_0 l0_0.length c0_0, .slice A0_1 l0_1.length c0_1]] w fun e w' => ∃ v0_ v1_ : Value, e = .returned (.agg #[v0_, v1_]) ∧ Kd.R (Kd.int .i64) 3 w' w.heap.size (fun k_ => some k_ ≠ (v1_ : Value).ownBlock) v0_ r1 ∧ Kd.R (Kd.int .i64) 3 w' w.heap.size (fun k_ => some k_ ≠ (v0_ : Value).ownBlock) v1_ r2 ∧ Below w.heap.size w w' := by
 have hu27 := Try.underlying27
 have HR0_0 := aM hr0_0
 have HC0_0 := aM hc0_0
 clear hr0_0 hc0_0
 have HR0_1 := aM hr0_1
 have HC0_1 := aM hc0_1
 clear hr0_1 hc0_1
 have HB := aM (Below.refl w.heap.size w)
 have H : ((i_copyInts.f l0_0).bind fun t301 => ((i_copyInts.f l0_1).bind fun t304 => (some (t301, t304)))) = some (r1, r2) := h
 clear h
 replace H := oB H
 obtain ⟨t301, A20, H⟩ := H
 replace H : ((i_copyInts.f l0_1).bind fun t304 => (some (t301, t304))) = some (r1, r2) := H
 have A2 := aM A20
 clear A20
 replace H := oB H
 obtain ⟨t304, A30, H⟩ := H
 replace H : (some (t301, t304)) = some (r1, r2) := H
 have A3 := aM A30
 clear A30
 simp only [Option.some.injEq, Prod.mk.injEq] at H
 obtain ⟨rfl, rfl⟩ := H
 go_enter Try.func37, Try.ntmps37
 try go_wp2_with (first | ((with_reducible refine gate_dst (N := 1) rfl ?_); refine bEv (cs := #[.slice A0_0 l0_0.length c0_0, .slice A0_1 l0_1.length c0_1]) (t := 27) ?_; intro gb299 hg w4 hbox hb; have BK299 := aM (hbox); have GW299 := aM ((szX (below_size (bX HB.out)) hg : w.heap.size ≤ gb299)); have GE299 := aM ((szX (below_size (bX HB.out)) hg : w.heap.size ≤ gb299)); replace HB := aM (below_step (bX HB.out) hb); clear hb hbox hg) | ((with_reducible refine gate_dst (N := 2) rfl ?_); refine bEv (cs := #[.slice none 0 0, .slice none 0 0]) (t := 27) ?_; intro gb300 hg w5 hbox hb; have BK300 := aM (hbox); have GW300 := aM ((szX (below_size (bX1 HB.out GE299.out)) hg : w.heap.size ≤ gb300)); have GE300 := aM ((szX (below_size (bX1 HB.out GE299.out)) hg : w.heap.size ≤ gb300)); replace HB := aM (below_step (bX1 HB.out GE299.out) hb); have NB299_300 := aM (neX BK299.out hg); have NB300_299 := aM (nfX BK299.out hg); replace BK299 := aM (bbX BK299.out hb); clear hb hbox hg))
 replace BK299 := aM (blk_drew BK299.out)
 replace BK300 := aM (blk_drew BK300.out)
 replace HB := aM (below_drew1 HB.out)
 refine start_ (n := 8) (S := fun w' => w'.cell? ⟨gb299, 0, none⟩ = some (.slice A0_0 l0_0.length c0_0) ∧ w'.cell? ⟨gb299, 1, none⟩ = some (.slice A0_1 l0_1.length c0_1)) (ds := []) #[ff,ff,ff,ff,ff,ff,ff,ff] (by kernel_rfl) rfl rfl ⟨cz20 BK299.out, cz21 BK299.out⟩ (fun hHeld => ?_); refine with_tabW i_copySurface.tab1 i_copySurface.bits1 (fun HT_ HW_ => ?_)
 generalize w5.drew = w6 at BK299 BK300 HB hHeld ⊢
 refine pX 0 3 (fl 8 1) rfl rfl HT_.out ?_
 refine pX 3 6 (fl 8 9) rfl rfl HT_.out ?_
 refine tX2 1 4 (fl 8 11) rfl rfl HT_.out HW_.out hHeld ?_
 refine tX2 4 7 (fl 8 27) rfl rfl HT_.out HW_.out hHeld ?_
 refine one_ (i := 2) (N := some 5) #[tt,tt,tt,tt,tt,ff,ff,ff] rfl rfl (one_of HT_.out (by kernel_rfl)) (by decide) (fun K hK => ?_)
 refine goes_ Try.func46 (by kernel_rfl) rfl #[.slice A0_0 l0_0.length c0_0] (by rfl) rfl rfl aX ?_
 with_reducible refine (i_copyInts.calls _ _ l0_0 t301 _ ?side1 ?side2 A2.out).mono ?_
 (case side1 => exact cX (Kd.C_below HR0_0.out HB.out))
 (case side2 => exact HC0_0.out)
 rintro e w7 ⟨v302, rfl, ho0, hb⟩
 refine ⟨_, rfl, ?_⟩
 have HO303 := aM (Kd.R_lower ho0 (below_size (bX2 HB.out GE299.out GE300.out)))
 replace BK299 := aM (bbX BK299.out hb)
 replace BK300 := aM (bbX BK300.out hb)
 replace HB := aM (below_step (bX2 HB.out GE299.out GE300.out) hb)
 (try clear hb)
 (try clear hb2)
 (try clear hk)
 (try clear hi)
 (try clear ho0)
 refine hK.out _ _ ⟨cz20 BK299.out, cz21 BK299.out⟩ (fun hHeld => ?_)
 clear hK K
 refine norm_ (a' := ?_) ?_ ?_
 rotate_left
 {
 show Act.put _ (some 5) _ = _
 simp only [Act.put, zA, zB, zC, i64_w, i32_w]
 rfl
 }
 refine one_ (i := 5) (N := some 8) #[tt,tt,tt,tt,tt,tt,ff,ff] rfl rfl (one_of HT_.out (by kernel_rfl)) (by decide) (fun K hK => ?_)
 refine goes_ Try.func46 (by kernel_rfl) rfl #[.slice A0_1 l0_1.length c0_1] (by rfl) rfl rfl aX ?_
 with_reducible refine (i_copyInts.calls _ _ l0_1 t304 _ ?side1 ?side2 A3.out).mono ?_
 (case side1 => exact cX (Kd.C_below HR0_1.out HB.out))
 (case side2 => exact HC0_1.out)
 rintro e w8 ⟨v305, rfl, ho0, hb⟩
 refine ⟨_, rfl, ?_⟩
 have HO306 := aM (Kd.R_lower (Kd.R_new' ho0 (Kd.R_lt (rX HO303.out))) (below_size (bX2 HB.out GE299.out GE300.out)))
 replace HO303 := aM (Kd.R_elder' (rX HO303.out) (Kd.R_base ho0) hb)
 replace BK299 := aM (bbX BK299.out hb)
 replace BK300 := aM (bbX BK300.out hb)
 replace HB := aM (below_step (bX2 HB.out GE299.out GE300.out) hb)
 (try clear hb)
 (try clear hb2)
 (try clear hk)
 (try clear hi)
 (try clear ho0)
 obtain ⟨Ao9, co9, eo9⟩ := Kd.R_slice HO306.out
 (first | subst eo9 | (injection eo9 with f1_ f2_ f3_; have f4_ := f1_.symm; have f5_ := f3_.symm; clear f1_ f2_ f3_; subst f4_; subst f5_))
 obtain ⟨Ao10, co10, eo10⟩ := Kd.R_slice HO303.out
 (first | subst eo10 | (injection eo10 with f1_ f2_ f3_; have f4_ := f1_.symm; have f5_ := f3_.symm; clear f1_ f2_ f3_; subst f4_; subst f5_))
 refine hK.out _ _ ⟨cz20 BK299.out, cz21 BK299.out⟩ (fun hHeld => ?_)
 clear hK K
 refine norm_ (a' := ?_) ?_ ?_
 rotate_left
 {
 show Act.put _ (some 8) _ = _
 simp only [Act.put, zA, zB, zC, i64_w, i32_w]
 rfl
 }
 refine pX 6 9 (fl 8 127) rfl rfl HT_.out ?_
 refine one_ (i := 7) (N := none) #[tt,tt,tt,tt,tt,tt,tt,tt] rfl rfl (one_of HT_.out (by kernel_rfl)) (by decide) (fun K hK => ?_)
 have hs11 : w8.cell? ⟨gb300, 0, none⟩ = some (.slice none 0 0) := cz20 BK300.out
 have hfs11 := blk_frozen BK300.out 0
 have hns11_0 := NB299_300.out
 have hms11_0 := NB300_299.out
 have hs12 : w8.cell? ⟨gb300, 1, none⟩ = some (.slice none 0 0) := cz21 BK300.out
 have hfs12 := blk_frozen BK300.out 1
 have hns12_0 := NB299_300.out
 have hms12_0 := NB300_299.out
 refine skip_ (w1 := ?_) (by rfl) rfl ?_ ?_
 rotate_left
 {
 go_simp
 rfl
 }
 refine hK.out _ _ ⟨((cell_far (p := ⟨gb300, _, none⟩) NB299_300.out _).trans (((cell_far (p := ⟨gb300, _, none⟩) NB299_300.out _).trans (hHeld.1)))), ((cell_far (p := ⟨gb300, _, none⟩) NB299_300.out _).trans (((cell_far (p := ⟨gb300, _, none⟩) NB299_300.out _).trans (hHeld.2))))⟩ (fun hHeld => ?_)
 clear hK K
 refine done_ (done_of HT_.out (by kernel_rfl)) ?_
 try go_wp2
 refine bodyPost_ret (results_cell_row rfl _ _ gb300 27 #[.slice Ao10 t301.length co10, .slice Ao9 t304.length co9] (0, 0) _ rfl (by (with_reducible repeat (first|refine kN ?_ _|refine kD ?_|refine kA ?_ _)); refine blk_put (cs := #[.slice Ao10 t301.length co10, .slice none 0 0]) ?_ 1 _ rfl; (with_reducible repeat (first|refine kN ?_ _|refine kD ?_|refine kA ?_ _)); refine blk_put (cs := #[.slice none 0 0, .slice none 0 0]) ?_ 0 _ rfl; (with_reducible repeat (first|refine kN ?_ _|refine kD ?_|refine kA ?_ _)); exact BK300.out) Try.underlying27 rfl (by kernel_rfl)) rfl ?_
 exact ⟨_, _, eX, by (with_reducible repeat (first|apply rA|apply rN|apply rD)); exact Kd.R_mono (Kd.R_far (p := ⟨gb300, 1, none⟩) (Kd.R_far (p := ⟨gb300, 0, none⟩) (Kd.R_types HO303.out BK300.out (by decide)) (fun _ hk => hk.2) (.slice Ao10 t301.length co10)) (fun _ hk => hk.2) (.slice Ao9 t304.length co9)) (fun _ hk => hk.1.2), by (with_reducible repeat (first|apply rA|apply rN|apply rD)); exact Kd.R_mono (Kd.R_far (p := ⟨gb300, 1, none⟩) (Kd.R_far (p := ⟨gb300, 0, none⟩) (Kd.R_types HO306.out BK300.out (by decide)) (fun _ hk => hk.2) (.slice Ao10 t301.length co10)) (fun _ hk => hk.2) (.slice Ao9 t304.length co9)) (fun _ hk => hk.1.2), bX2 HB.out GE299.out GE300.out⟩

/-! ### i_InversePerm: function 22 -/
def i_InversePerm.l0 : Nat → List Int → List Int → Int → Int → Option (List Int)
 | 0, _, _, _, _ => none
 | k + 1, x3, x12, x13, x14 => if x14 < x13 then (if 0 ≤ x14 then (if x14 < (x12.length : Int) then (if 0 ≤ (rd x12 x14) then (if (rd x12 x14) < (x3.length : Int) then (i_InversePerm.l0 k (x3.set ((rd x12 x14) : Int).toNat x14) x12 x13 (wrap64 (x14 + 1))) else (none)) else (none)) else (none)) else (none)) else (some x3)
def i_InversePerm.f (k : Nat) (l0 : List Int) : Option (List Int) := (i_PermOk.f l0).bind fun t307 => (if t307 = true then (if 0 ≤ (l0.length : Int) then (if ((l0.length : Int) : Int).toNat ≤ 35184372088832 then (i_InversePerm.l0 k (List.replicate ((l0.length : Int) : Int).toNat 0) l0 (l0.length : Int) 0) else (none)) else (none)) else (some ([] : List Int)))
theorem i_InversePerm.calls (k : Nat) (A0 : Option Addr) (c0 : Nat) (l0 : List Int) (r : List Int) (w : World) (hr0 : Kd.C (Kd.int .i64) w A0 l0.length l0) (hc0 : l0.length ≤ c0) (h : i_InversePerm.f k l0 = some r) :
  Calls Try.prog 22 #[.slice A0 l0.length c0] w fun e w' => ∃ v0_ : Value, e = .returned (v0_) ∧ Kd.R (Kd.int .i64) 3 w' w.heap.size (fun _ => True) v0_ r ∧ Below w.heap.size w w' := by
 have HR0 := aM hr0
 have HC0 := aM hc0
 clear hr0 hc0
 have HB := aM (Below.refl w.heap.size w)
 have H : ((i_PermOk.f l0).bind fun t307 => (if t307 = true then (if 0 ≤ (l0.length : Int) then (if ((l0.length : Int) : Int).toNat ≤ 35184372088832 then (i_InversePerm.l0 k (List.replicate ((l0.length : Int) : Int).toNat 0) l0 (l0.length : Int) 0) else (none)) else (none)) else (some ([] : List Int)))) = some r := h
 clear h
 replace H := oB H
 obtain ⟨t307, A20, H⟩ := H
 replace H : (if t307 = true then (if 0 ≤ (l0.length : Int) then (if ((l0.length : Int) : Int).toNat ≤ 35184372088832 then (i_InversePerm.l0 k (List.replicate ((l0.length : Int) : Int).toNat 0) l0 (l0.length : Int) 0) else (none)) else (none)) else (some ([] : List Int))) = some r := H
 have A2 := aM A20
 clear A20
 by_cases c3 : t307 = true
 {
 subst c3
 have H1 : (if 0 ≤ (l0.length : Int) then (if ((l0.length : Int) : Int).toNat ≤ 35184372088832 then (i_InversePerm.l0 k (List.replicate ((l0.length : Int) : Int).toNat 0) l0 (l0.length : Int) 0) else (none)) else (none)) = some r := by rw [if_pos rfl] at H; exact H
 clear H
 have H := H1
 clear H1
 by_cases c4 : 0 ≤ (l0.length : Int)
 {
 rw [if_pos c4] at H
 have c4b0 := eq_true c4
 have c4b1 : decide (0 ≤ (l0.length : Int)) = true := decide_eq_true c4
 clear c4
 by_cases c5 : ((l0.length : Int) : Int).toNat ≤ 35184372088832
 {
 rw [if_pos c5] at H
 have c5b0 := eq_true c5
 have c5b1 : decide (((l0.length : Int) : Int).toNat ≤ 35184372088832) = true := decide_eq_true c5
 clear c5
 obtain ⟨y308, hy308⟩ : ∃ y_ : List Int, y_ = (List.replicate ((l0.length : Int) : Int).toNat 0) := ⟨_, rfl⟩
 replace H : (i_InversePerm.l0 k y308 l0 (l0.length : Int) 0) = some r := by first | (rw [hy308]; with_reducible exact H) | (have H2_ := (Option.bind_some _ _).symm.trans H; rw [hy308]; with_reducible exact H2_) | (have H2_ := (Option.bind_some _ _).symm.trans H; with_reducible exact H2_) | with_reducible exact H | (rw [hy308]; exact H) | exact H
 have Ny308 := aM hy308
 clear hy308
 have H' := aM H
 clear H
 go_enter Try.func22, Try.ntmps22
 go_wp2_with (first | ((with_reducible refine gate_callee (f := 21) rfl ?_); refine goesL_ (some 7) rfl rfl Try.func21 (by kernel_rfl) rfl #[.slice A0 l0.length c0] rfl aX ?_; (with_reducible refine (i_PermOk.calls _ _ l0 true _ ?side1 ?side2 A2.out).mono ?_); (case side1 => exact cX HR0.out); (case side2 => exact HC0.out); rintro e w6 ⟨rfl, hb⟩; refine ⟨_, rfl, ?_⟩; replace HB := aM (below_step (bX HB.out) hb); (try clear hb); (try clear hb2); (try clear hk); (try clear hi)) | ((with_reducible refine gate_dst (N := 11) rfl ?_); refine Kd.R_make (Kd.int .i64) _ 3 rfl (N := 11) rfl 25 _ _ rfl (l0.length : Int) rfl rfl Try.underlying25 (.int .i64 0) 8 info3 rfl (by decide) (by omega) 0 (ok := fun _ => True) (okp := fun _ => True) rfl (fun _ hk => hk) trivial (dX) (Nat.le_trans (Nat.mul_le_mul_right _ (dX : (l0.length : Int).toNat ≤ 35184372088832)) (by omega)) (Below.refl _ _) (Nat.le_refl _) ?_; intro v309 w7 ho8 hb hg_ hnew_; clear hg_ hnew_; (first | rw [← Ny308.out] at ho8 | (simp only [Int.reduceToNat] at ho8; rw [← Ny308.out] at ho8)); have HO310 := aM (Kd.R_lower ho8 (below_size (bX HB.out))); replace HB := aM (below_step (bX HB.out) hb); clear hb ho8))
 go_loopg [14] k (fun kq v14 w' => ∃ (x3_1 : List Int) (x14_1 : Int), v14 = .int .i64 x14_1 ∧ Aside0 (i_InversePerm.l0 kq x3_1 l0 (l0.length : Int) x14_1 = some r) ∧ Aside0 (kq ≤ k) ∧ Aside0 (Kd.R (Kd.int .i64) 3 w' w.heap.size (fun _ => True) v309 x3_1) ∧ Aside0 (Below w.heap.size w w'))
 case atStart => exact ⟨(y308), (0), vX, H', ⟨Nat.le_refl _⟩, ⟨rX HO310.out⟩, ⟨bX HB.out⟩⟩
 case round =>
 clear H'
 try clear c3
 try clear c4
 try clear c4b0
 try clear c4b1
 try clear c5
 try clear c5b0
 try clear c5b1
 obtain ⟨x3_1, x14_1, rfl, HA, HK1, HO_3, HB⟩ := hrel
 cases gk with
 | zero => exact absurd HA.out (by simp [i_InversePerm.l0])
 | succ k1 =>
 have H := HA.out
 clear HA
 simp only [i_InversePerm.l0] at H
 by_cases c9 : x14_1 < (l0.length : Int)
 {
 rw [if_pos c9] at H
 have c9b0 : decide (x14_1 < (l0.length : Int)) = true := decide_eq_true c9
 clear c9
 by_cases c10 : 0 ≤ x14_1
 {
 rw [if_pos c10] at H
 have c10b0 : decide (0 ≤ x14_1) = true := decide_eq_true c10
 clear c10
 by_cases c11 : x14_1 < (l0.length : Int)
 {
 rw [if_pos c11] at H
 have c11b0 : decide (x14_1 < (l0.length : Int)) = true := decide_eq_true c11
 clear c11
 by_cases c12 : 0 ≤ (rd l0 x14_1)
 {
 rw [if_pos c12] at H
 have c12b0 : decide (0 ≤ (rd l0 x14_1)) = true := decide_eq_true c12
 clear c12
 by_cases c13 : (rd l0 x14_1) < (x3_1.length : Int)
 {
 rw [if_pos c13] at H
 have c13b0 : decide ((rd l0 x14_1) < (x3_1.length : Int)) = true := decide_eq_true c13
 clear c13
 obtain ⟨y312, hy312⟩ : ∃ y_ : List Int, y_ = (x3_1.set ((rd l0 x14_1) : Int).toNat x14_1) := ⟨_, rfl⟩
 replace H : (i_InversePerm.l0 k1 y312 l0 (l0.length : Int) (wrap64 (x14_1 + 1))) = some r := by first | (rw [hy312]; with_reducible exact H) | (have H2_ := (Option.bind_some _ _).symm.trans H; rw [hy312]; with_reducible exact H2_) | (have H2_ := (Option.bind_some _ _).symm.trans H; with_reducible exact H2_) | with_reducible exact H | (rw [hy312]; exact H) | exact H
 have Ny312 := aM hy312
 clear hy312
 have H' := aM H
 clear H
 have p311 : 0 ≤ (x14_1 : Int) := dX
 have q311 : x14_1 < (l0.length : Int) := dX
 obtain ⟨ad311, e311, hx311_0⟩ := Kd.at_int HR0.out x14_1 p311 q311
 cases e311
 replace hx311_0 := (HB.out.cell (World.block_lt_of_cell? w _ hx311_0)).trans hx311_0
 replace p311 := eq_true p311
 replace q311 := eq_true q311
 have p14 : 0 ≤ ((rd l0 x14_1) : Int) := dX
 have q14 : ((rd l0 x14_1) : Int) < ((x3_1.length : Int) : Int) := dX
 obtain ⟨go14, co14, eo14, gb14, gl14, cl14, HG14⟩ := Kd.R_form HO_3.out (by omega)
 (first | cases eo14 | (injection eo14 with ea_ en_ ec_; (first | subst ea_ | (injection ea_ with ea_; subst ea_)); subst ec_; clear en_))
 have GB14 := aM gb14
 have GG14 := aM HG14
 clear gb14 gl14 HG14
 obtain ⟨hx14_0, hf14_0⟩ := Kd.R_celln 0 HO_3.out ((rd l0 x14_1) : Int) p14 q14
 replace p14 := eq_true p14
 replace q14 := eq_true q14
 have HP15 := Kd.R_putg HO_3.out ((rd l0 x14_1) : Int) x14_1
 go_wp2_with (first | ((with_reducible refine gate_store (t := 3) (p := 22) rfl ?_); refine store_event (t := 3) (p := 22) (v := ?vo_w16) (w1 := (wr.setCell ⟨go14, ((rd l0 x14_1) : Int).toNat, none⟩ (.int .i64 x14_1))) ?hg ?ho ?hn ?hr ?_; (case ho => rfl); (case hg => rfl); (case hn => rfl); (case hr => first | (go_simp; done) | (go_simp; rfl)); intro w16 hw; have hg : wr.grownBy w16 (some go14) := (by rw [hw]; exact HP15.2); have hp_ : Kd.R (Kd.int .i64) 3 w16 w.heap.size (fun _ => True) (.slice (some ⟨go14, 0, none⟩) x3_1.length co14) y312 := (by rw [hw, Ny312.out]; exact HP15.1); clear HP15; replace HO_3 := aM (hp_); replace HB := aM ((by rw [hw]; exact below_set (HB.out) GB14.out : Below w.heap.size w w16)); clear hg hw hp_))
 go_roundg k1
 case measure => have := HK1.out; omega
 case rel => exact ⟨(y312), (wrap64 (x14_1 + 1)), vX, H', ⟨by have := HK1.out; omega⟩, ⟨rX HO_3.out⟩, ⟨bX HB.out⟩⟩
 }
 {
 rw [if_neg c13] at H
 exact absurd H (by simp)
 }
 }
 {
 rw [if_neg c12] at H
 exact absurd H (by simp)
 }
 }
 {
 rw [if_neg c11] at H
 exact absurd H (by simp)
 }
 }
 {
 rw [if_neg c10] at H
 exact absurd H (by simp)
 }
 }
 {
 rw [if_neg c9] at H
 have c9b0 : decide (x14_1 < (l0.length : Int)) = false := decide_eq_false c9
 clear c9
 obtain rfl := Option.some.inj H
 go_wp2
 go_ret
 exact ⟨_, eX, by (with_reducible repeat (first|apply rA|apply rN|apply rD)); exact HO_3.out, bX HB.out⟩
 }
 }
 {
 rw [if_neg c5] at H
 exact absurd H (by simp)
 }
 }
 {
 rw [if_neg c4] at H
 exact absurd H (by simp)
 }
 }
 {
 replace c3 := Bool.eq_false_iff.mpr c3
 subst c3
 have H1 : (some ([] : List Int)) = some r := by rw [if_neg (show ¬ (false = true) by decide)] at H; exact H
 clear H
 have H := H1
 clear H1
 obtain rfl := Option.some.inj H
 go_enter Try.func22, Try.ntmps22
 go_wp2_with (first | ((with_reducible refine gate_callee (f := 21) rfl ?_); refine goesL_ (some 7) rfl rfl Try.func21 (by kernel_rfl) rfl #[.slice A0 l0.length c0] rfl aX ?_; (with_reducible refine (i_PermOk.calls _ _ l0 false _ ?side1 ?side2 A2.out).mono ?_); (case side1 => exact cX HR0.out); (case side2 => exact HC0.out); rintro e w17 ⟨rfl, hb⟩; refine ⟨_, rfl, ?_⟩; replace HB := aM (below_step (bX HB.out) hb); (try clear hb); (try clear hb2); (try clear hk); (try clear hi)))
 go_ret
 exact ⟨_, eX, by first | exact Kd.R_nil _ _ _ _ _ | exact Kd.N_nil _ _ _ _ _ | exact Kd.V_nil _ _ _ _ _ | exact Kd.Q_nil _ _ _ _ _ | exact Kd.S_nil _ _ _ _ _, bX HB.out⟩
 }

/-! ### i_ThenPerm: function 55 -/
mutual
def i_ThenPerm.j0 : Nat → List Int → List Int → Bool → Option (List Int)
 | 0, _, _, _ => none
 | k + 1, x0, x1, x22 => if x22 = true then (some ([] : List Int)) else (if 0 ≤ (x0.length : Int) then (if ((x0.length : Int) : Int).toNat ≤ 35184372088832 then (i_ThenPerm.l0 k x1 (List.replicate ((x0.length : Int) : Int).toNat 0) x0 (x0.length : Int) 0) else (none)) else (none))
def i_ThenPerm.l0 : Nat → List Int → List Int → List Int → Int → Int → Option (List Int)
 | 0, _, _, _, _, _ => none
 | k + 1, x1, x5, x26, x27, x28 => if x28 < x27 then (if 0 ≤ x28 then (if x28 < (x26.length : Int) then (if 0 ≤ (rd x26 x28) then (if (rd x26 x28) < (x1.length : Int) then (if x28 < (x5.length : Int) then (i_ThenPerm.l0 k x1 (x5.set (x28 : Int).toNat (rd x1 (rd x26 x28))) x26 x27 (wrap64 (x28 + 1))) else (none)) else (none)) else (none)) else (none)) else (none)) else (some x5)
end
def i_ThenPerm.f (k : Nat) (l0 : List Int) (l1 : List Int) : Option (List Int) := (i_PermOk.f l0).bind fun t313 => (if t313 = true then ((i_PermOk.f l1).bind fun t314 => (if t314 = true then (i_ThenPerm.j0 k l0 l1 ((l0.length : Int) != (l1.length : Int))) else (i_ThenPerm.j0 k l0 l1 true))) else (i_ThenPerm.j0 k l0 l1 true))
theorem i_ThenPerm.calls (k : Nat) (A0 : Option Addr) (c0 : Nat) (l0 : List Int) (A1 : Option Addr) (c1 : Nat) (l1 : List Int) (r : List Int) (w : World) (hr0 : Kd.C (Kd.int .i64) w A0 l0.length l0) (hc0 : l0.length ≤ c0) (hr1 : Kd.C (Kd.int .i64) w A1 l1.length l1) (hc1 : l1.length ≤ c1) (h : i_ThenPerm.f k l0 l1 = some r) :
  Calls Try.prog 55 #[.slice A0 l0.length c0, .slice A1 l1.length c1] w fun e w' => ∃ v0_ : Value, e = .returned (v0_) ∧ Kd.R (Kd.int .i64) 3 w' w.heap.size (fun _ => True) v0_ r ∧ Below w.heap.size w w' := by
 have HR0 := aM hr0
 have HC0 := aM hc0
 clear hr0 hc0
 have HR1 := aM hr1
 have HC1 := aM hc1
 clear hr1 hc1
 have HB := aM (Below.refl w.heap.size w)
 have H : ((i_PermOk.f l0).bind fun t313 => (if t313 = true then ((i_PermOk.f l1).bind fun t314 => (if t314 = true then (i_ThenPerm.j0 k l0 l1 ((l0.length : Int) != (l1.length : Int))) else (i_ThenPerm.j0 k l0 l1 true))) else (i_ThenPerm.j0 k l0 l1 true))) = some r := h
 clear h
 have HC3 := aM H
 clear H
 go_enter Try.func55, Try.ntmps55
 go_upto_region 1 with (fail)
 go_cut [22] (fun v22 wc => ∃ (kq : Nat) (x22_2 : Bool), v22 = .bool x22_2 ∧ Aside0 (i_ThenPerm.j0 kq l0 l1 x22_2 = some r) ∧ Aside0 (kq ≤ k) ∧ Aside0 (Below w.heap.size w wc))
 case first =>
  have H := HC3.out
  clear HC3
  replace H := oB H
  obtain ⟨t313, A40, H⟩ := H
  replace H : (if t313 = true then ((i_PermOk.f l1).bind fun t314 => (if t314 = true then (i_ThenPerm.j0 k l0 l1 ((l0.length : Int) != (l1.length : Int))) else (i_ThenPerm.j0 k l0 l1 true))) else (i_ThenPerm.j0 k l0 l1 true)) = some r := H
  have A4 := aM A40
  clear A40
  by_cases c5 : t313 = true
  {
  subst c5
  have H1 : ((i_PermOk.f l1).bind fun t314 => (if t314 = true then (i_ThenPerm.j0 k l0 l1 ((l0.length : Int) != (l1.length : Int))) else (i_ThenPerm.j0 k l0 l1 true))) = some r := by rw [if_pos rfl] at H; exact H
  clear H
  have H := H1
  clear H1
  replace H := oB H
  obtain ⟨t314, A60, H⟩ := H
  replace H : (if t314 = true then (i_ThenPerm.j0 k l0 l1 ((l0.length : Int) != (l1.length : Int))) else (i_ThenPerm.j0 k l0 l1 true)) = some r := H
  have A6 := aM A60
  clear A60
  by_cases c7 : t314 = true
  {
  subst c7
  have H1 : (i_ThenPerm.j0 k l0 l1 ((l0.length : Int) != (l1.length : Int))) = some r := by rw [if_pos rfl] at H; exact H
  clear H
  have H := H1
  clear H1
  have H' := aM H
  clear H
  go_wp2_with (first | ((with_reducible refine gate_callee (f := 21) rfl ?_); refine goesL_ (some 9) rfl rfl Try.func21 (by kernel_rfl) rfl #[.slice A0 l0.length c0] rfl aX ?_; (with_reducible refine (i_PermOk.calls _ _ l0 true _ ?side1 ?side2 A4.out).mono ?_); (case side1 => exact cX (Kd.C_below HR0.out HB.out)); (case side2 => exact HC0.out); rintro e w8 ⟨rfl, hb⟩; refine ⟨_, rfl, ?_⟩; replace HB := aM (below_step (bX HB.out) hb); (try clear hb); (try clear hb2); (try clear hk); (try clear hi)) | (go_at_call 21; (with_reducible refine (i_PermOk.calls _ _ l1 true _ ?side1 ?side2 A6.out).mono ?_); (case side1 => exact cX (Kd.C_below HR1.out HB.out)); (case side2 => exact HC1.out); rintro e w9 ⟨rfl, hb⟩; replace HB := aM (below_step (bX HB.out) hb); (try clear hb); (try clear hb2); (try clear hk); (try clear hi)))
  go_meet
  case rel => exact ⟨_, (((l0.length : Int) != (l1.length : Int))), vX, H', ⟨by first | omega | exact Nat.le_refl _⟩, ⟨bX HB.out⟩⟩
  }
  {
  replace c7 := Bool.eq_false_iff.mpr c7
  subst c7
  have H1 : (i_ThenPerm.j0 k l0 l1 true) = some r := by rw [if_neg (show ¬ (false = true) by decide)] at H; exact H
  clear H
  have H := H1
  clear H1
  have H' := aM H
  clear H
  go_wp2_with (first | ((with_reducible refine gate_callee (f := 21) rfl ?_); refine goesL_ (some 9) rfl rfl Try.func21 (by kernel_rfl) rfl #[.slice A0 l0.length c0] rfl aX ?_; (with_reducible refine (i_PermOk.calls _ _ l0 true _ ?side1 ?side2 A4.out).mono ?_); (case side1 => exact cX (Kd.C_below HR0.out HB.out)); (case side2 => exact HC0.out); rintro e w10 ⟨rfl, hb⟩; refine ⟨_, rfl, ?_⟩; replace HB := aM (below_step (bX HB.out) hb); (try clear hb); (try clear hb2); (try clear hk); (try clear hi)) | (go_at_call 21; (with_reducible refine (i_PermOk.calls _ _ l1 false _ ?side1 ?side2 A6.out).mono ?_); (case side1 => exact cX (Kd.C_below HR1.out HB.out)); (case side2 => exact HC1.out); rintro e w11 ⟨rfl, hb⟩; replace HB := aM (below_step (bX HB.out) hb); (try clear hb); (try clear hb2); (try clear hk); (try clear hi)))
  go_meet
  case rel => exact ⟨_, (true), vX, H', ⟨by first | omega | exact Nat.le_refl _⟩, ⟨bX HB.out⟩⟩
  }
  }
  {
  replace c5 := Bool.eq_false_iff.mpr c5
  subst c5
  have H1 : (i_ThenPerm.j0 k l0 l1 true) = some r := by rw [if_neg (show ¬ (false = true) by decide)] at H; exact H
  clear H
  have H := H1
  clear H1
  have H' := aM H
  clear H
  go_wp2_with (first | ((with_reducible refine gate_callee (f := 21) rfl ?_); refine goesL_ (some 9) rfl rfl Try.func21 (by kernel_rfl) rfl #[.slice A0 l0.length c0] rfl aX ?_; (with_reducible refine (i_PermOk.calls _ _ l0 false _ ?side1 ?side2 A4.out).mono ?_); (case side1 => exact cX (Kd.C_below HR0.out HB.out)); (case side2 => exact HC0.out); rintro e w12 ⟨rfl, hb⟩; refine ⟨_, rfl, ?_⟩; replace HB := aM (below_step (bX HB.out) hb); (try clear hb); (try clear hb2); (try clear hk); (try clear hi)))
  go_meet
  case rel => exact ⟨_, (true), vX, H', ⟨by first | omega | exact Nat.le_refl _⟩, ⟨bX HB.out⟩⟩
  }
 case rest =>
 clear HC3
 try clear c1
 try clear c5
 try clear c7
 obtain ⟨kq, x22_2, rfl, HA, HJ2, HB⟩ := hcut
 cases kq with
 | zero => exact absurd HA.out (by simp [i_ThenPerm.j0])
 | succ kj2 =>
 have H := HA.out
 clear HA
 simp only [i_ThenPerm.j0] at H
 by_cases c13 : x22_2 = true
 {
 subst c13
 have H1 : (some ([] : List Int)) = some r := by rw [if_pos rfl] at H; exact H
 clear H
 have H := H1
 clear H1
 obtain rfl := Option.some.inj H
 go_wp2
 go_ret
 exact ⟨_, eX, by first | exact Kd.R_nil _ _ _ _ _ | exact Kd.N_nil _ _ _ _ _ | exact Kd.V_nil _ _ _ _ _ | exact Kd.Q_nil _ _ _ _ _ | exact Kd.S_nil _ _ _ _ _, bX HB.out⟩
 }
 {
 replace c13 := Bool.eq_false_iff.mpr c13
 subst c13
 have H1 : (if 0 ≤ (l0.length : Int) then (if ((l0.length : Int) : Int).toNat ≤ 35184372088832 then (i_ThenPerm.l0 kj2 l1 (List.replicate ((l0.length : Int) : Int).toNat 0) l0 (l0.length : Int) 0) else (none)) else (none)) = some r := by rw [if_neg (show ¬ (false = true) by decide)] at H; exact H
 clear H
 have H := H1
 clear H1
 by_cases c14 : 0 ≤ (l0.length : Int)
 {
 rw [if_pos c14] at H
 have c14b0 := eq_true c14
 have c14b1 : decide (0 ≤ (l0.length : Int)) = true := decide_eq_true c14
 clear c14
 by_cases c15 : ((l0.length : Int) : Int).toNat ≤ 35184372088832
 {
 rw [if_pos c15] at H
 have c15b0 := eq_true c15
 have c15b1 : decide (((l0.length : Int) : Int).toNat ≤ 35184372088832) = true := decide_eq_true c15
 clear c15
 obtain ⟨y315, hy315⟩ : ∃ y_ : List Int, y_ = (List.replicate ((l0.length : Int) : Int).toNat 0) := ⟨_, rfl⟩
 replace H : (i_ThenPerm.l0 kj2 l1 y315 l0 (l0.length : Int) 0) = some r := by first | (rw [hy315]; with_reducible exact H) | (have H2_ := (Option.bind_some _ _).symm.trans H; rw [hy315]; with_reducible exact H2_) | (have H2_ := (Option.bind_some _ _).symm.trans H; with_reducible exact H2_) | with_reducible exact H | (rw [hy315]; exact H) | exact H
 have Ny315 := aM hy315
 clear hy315
 have H' := aM H
 clear H
 go_wp2_with (first | ((with_reducible refine gate_dst (N := 25) rfl ?_); (try (refine gate_guard (by rfl) ?_; dsimp only)); refine Kd.R_make (Kd.int .i64) _ 3 rfl (N := 25) rfl 25 _ _ rfl (l0.length : Int) rfl rfl Try.underlying25 (.int .i64 0) 8 info3 rfl (by decide) (by omega) 0 (ok := fun _ => True) (okp := fun _ => True) rfl (fun _ hk => hk) trivial (dX) (Nat.le_trans (Nat.mul_le_mul_right _ (dX : (l0.length : Int).toNat ≤ 35184372088832)) (by omega)) (Below.refl _ _) (Nat.le_refl _) ?_; intro v316 w16 ho17 hb hg_ hnew_; clear hg_ hnew_; (first | rw [← Ny315.out] at ho17 | (simp only [Int.reduceToNat] at ho17; rw [← Ny315.out] at ho17)); have HO317 := aM (Kd.R_lower ho17 (below_size (bX HB.out))); replace HB := aM (below_step (bX HB.out) hb); clear hb ho17))
 go_loopg [28] kj2 (fun kq v28 w' => ∃ (x5_2 : List Int) (x28_2 : Int), v28 = .int .i64 x28_2 ∧ Aside0 (i_ThenPerm.l0 kq l1 x5_2 l0 (l0.length : Int) x28_2 = some r) ∧ Aside0 (kq ≤ kj2) ∧ Aside0 (Kd.R (Kd.int .i64) 3 w' w.heap.size (fun _ => True) v316 x5_2) ∧ Aside0 (Below w.heap.size w w'))
 case atStart => exact ⟨(y315), (0), vX, H', ⟨Nat.le_refl _⟩, ⟨rX HO317.out⟩, ⟨bX HB.out⟩⟩
 case round =>
 clear H'
 try clear c1
 try clear c5
 try clear c7
 try clear c13
 try clear c14
 try clear c14b0
 try clear c14b1
 try clear c15
 try clear c15b0
 try clear c15b1
 obtain ⟨x5_2, x28_2, rfl, HA, HK2, HO_5, HB⟩ := hrel
 cases gk with
 | zero => exact absurd HA.out (by simp [i_ThenPerm.l0])
 | succ k2 =>
 have H := HA.out
 clear HA
 simp only [i_ThenPerm.l0] at H
 by_cases c18 : x28_2 < (l0.length : Int)
 {
 rw [if_pos c18] at H
 have c18b0 : decide (x28_2 < (l0.length : Int)) = true := decide_eq_true c18
 clear c18
 by_cases c19 : 0 ≤ x28_2
 {
 rw [if_pos c19] at H
 have c19b0 : decide (0 ≤ x28_2) = true := decide_eq_true c19
 clear c19
 by_cases c20 : x28_2 < (l0.length : Int)
 {
 rw [if_pos c20] at H
 have c20b0 : decide (x28_2 < (l0.length : Int)) = true := decide_eq_true c20
 clear c20
 by_cases c21 : 0 ≤ (rd l0 x28_2)
 {
 rw [if_pos c21] at H
 have c21b0 : decide (0 ≤ (rd l0 x28_2)) = true := decide_eq_true c21
 clear c21
 by_cases c22 : (rd l0 x28_2) < (l1.length : Int)
 {
 rw [if_pos c22] at H
 have c22b0 : decide ((rd l0 x28_2) < (l1.length : Int)) = true := decide_eq_true c22
 clear c22
 by_cases c23 : x28_2 < (x5_2.length : Int)
 {
 rw [if_pos c23] at H
 have c23b0 : decide (x28_2 < (x5_2.length : Int)) = true := decide_eq_true c23
 clear c23
 obtain ⟨y320, hy320⟩ : ∃ y_ : List Int, y_ = (x5_2.set (x28_2 : Int).toNat (rd l1 (rd l0 x28_2))) := ⟨_, rfl⟩
 replace H : (i_ThenPerm.l0 k2 l1 y320 l0 (l0.length : Int) (wrap64 (x28_2 + 1))) = some r := by first | (rw [hy320]; with_reducible exact H) | (have H2_ := (Option.bind_some _ _).symm.trans H; rw [hy320]; with_reducible exact H2_) | (have H2_ := (Option.bind_some _ _).symm.trans H; with_reducible exact H2_) | with_reducible exact H | (rw [hy320]; exact H) | exact H
 have Ny320 := aM hy320
 clear hy320
 have H' := aM H
 clear H
 have p318 : 0 ≤ (x28_2 : Int) := dX
 have q318 : x28_2 < (l0.length : Int) := dX
 obtain ⟨ad318, e318, hx318_0⟩ := Kd.at_int HR0.out x28_2 p318 q318
 cases e318
 replace hx318_0 := (HB.out.cell (World.block_lt_of_cell? w _ hx318_0)).trans hx318_0
 replace p318 := eq_true p318
 replace q318 := eq_true q318
 have p319 : 0 ≤ ((rd l0 x28_2) : Int) := dX
 have q319 : (rd l0 x28_2) < (l1.length : Int) := dX
 obtain ⟨ad319, e319, hx319_0⟩ := Kd.at_int HR1.out (rd l0 x28_2) p319 q319
 cases e319
 replace hx319_0 := (HB.out.cell (World.block_lt_of_cell? w _ hx319_0)).trans hx319_0
 replace p319 := eq_true p319
 replace q319 := eq_true q319
 have p24 : 0 ≤ (x28_2 : Int) := dX
 have q24 : (x28_2 : Int) < ((x5_2.length : Int) : Int) := dX
 obtain ⟨go24, co24, eo24, gb24, gl24, cl24, HG24⟩ := Kd.R_form HO_5.out (by omega)
 (first | cases eo24 | (injection eo24 with ea_ en_ ec_; (first | subst ea_ | (injection ea_ with ea_; subst ea_)); subst ec_; clear en_))
 have GB24 := aM gb24
 have GG24 := aM HG24
 clear gb24 gl24 HG24
 obtain ⟨hx24_0, hf24_0⟩ := Kd.R_celln 0 HO_5.out (x28_2 : Int) p24 q24
 replace p24 := eq_true p24
 replace q24 := eq_true q24
 have HP25 := Kd.R_putg HO_5.out (x28_2 : Int) (rd l1 (rd l0 x28_2))
 go_wp2_with (first | ((with_reducible refine gate_store (t := 3) (p := 39) rfl ?_); refine store_event (t := 3) (p := 39) (v := ?vo_w26) (w1 := (wr.setCell ⟨go24, (x28_2 : Int).toNat, none⟩ (.int .i64 (rd l1 (rd l0 x28_2))))) ?hg ?ho ?hn ?hr ?_; (case ho => rfl); (case hg => rfl); (case hn => rfl); (case hr => first | (go_simp; done) | (go_simp; rfl)); intro w26 hw; have hg : wr.grownBy w26 (some go24) := (by rw [hw]; exact HP25.2); have hp_ : Kd.R (Kd.int .i64) 3 w26 w.heap.size (fun _ => True) (.slice (some ⟨go24, 0, none⟩) x5_2.length co24) y320 := (by rw [hw, Ny320.out]; exact HP25.1); clear HP25; replace HO_5 := aM (hp_); replace HB := aM ((by rw [hw]; exact below_set (HB.out) GB24.out : Below w.heap.size w w26)); clear hg hw hp_))
 go_roundg k2
 case measure => have := HJ2.out; have := HK2.out; omega
 case rel => exact ⟨(y320), (wrap64 (x28_2 + 1)), vX, H', ⟨by have := HJ2.out; have := HK2.out; omega⟩, ⟨rX HO_5.out⟩, ⟨bX HB.out⟩⟩
 }
 {
 rw [if_neg c23] at H
 exact absurd H (by simp)
 }
 }
 {
 rw [if_neg c22] at H
 exact absurd H (by simp)
 }
 }
 {
 rw [if_neg c21] at H
 exact absurd H (by simp)
 }
 }
 {
 rw [if_neg c20] at H
 exact absurd H (by simp)
 }
 }
 {
 rw [if_neg c19] at H
 exact absurd H (by simp)
 }
 }
 {
 rw [if_neg c18] at H
 have c18b0 : decide (x28_2 < (l0.length : Int)) = false := decide_eq_false c18
 clear c18
 obtain rfl := Option.some.inj H
 go_wp2
 go_ret
 exact ⟨_, eX, by (with_reducible repeat (first|apply rA|apply rN|apply rD)); exact HO_5.out, bX HB.out⟩
 }
 }
 {
 rw [if_neg c15] at H
 exact absurd H (by simp)
 }
 }
 {
 rw [if_neg c14] at H
 exact absurd H (by simp)
 }
 }

/-! ### i_ShearSurface: function 47 -/
def i_ShearSurface.f (k : Nat) (l0_0 : List Int) (l0_1 : List Int) : Option (List Int × List Int × Bool) := (i_SurfaceOk.f k l0_0 l0_1).bind fun t323 => (if t323 = true then ((i_copyInts.f l0_0).bind fun t324 => ((i_InversePerm.f k l0_0).bind fun t327 => ((i_ThenPerm.f k t327 l0_1).bind fun t330 => (some (t324, t330, true))))) else (some (([] : List Int), ([] : List Int), false)))
def i_ShearSurface.T3 : Bool × List (List Nat × List Nat) := (true, [([], []), ([0], [0]), ([1], [1]), ([], []), ([3], [3]), ([4, 2], [4]), ([], []), ([6], [6]), ([5, 7, 5], [5, 7]), ([2, 8], [2, 8]), ([9, 8, 0, 1, 2, 3, 4, 5, 6, 7, 8, 9], [9]), ([10, 0, 1, 2, 3, 4, 5, 6, 7, 8, 9, 10], [])])
def i_ShearSurface.B3 : List Nat := [0, 1, 3, 0, 8, 31, 0, 64, 255, 511, 1023, 2047]
theorem i_ShearSurface.tab3 : rtab .any (opsOf Try.f47 3) = i_ShearSurface.T3 := by kernel_rfl
theorem i_ShearSurface.bits3 : waitsOk i_ShearSurface.T3.2 i_ShearSurface.B3 = true := by kernel_rfl
theorem i_ShearSurface.calls (k : Nat) (A0_0 : Option Addr) (c0_0 : Nat) (l0_0 : List Int) (A0_1 : Option Addr) (c0_1 : Nat) (l0_1 : List Int) (r1 : List Int) (r2 : List Int) (r3 : Bool) (w : World) (hr0_0 : Kd.C (Kd.int .i64) w A0_0 l0_0.length l0_0) (hc0_0 : l0_0.length ≤ c0_0) (hr0_1 : Kd.C (Kd.int .i64) w A0_1 l0_1.length l0_1) (hc0_1 : l0_1.length ≤ c0_1) (h : i_ShearSurface.f k l0_0 l0_1 = some (r1, r2, r3)) :
  Calls Try.prog 47 #[.agg #[.slice A0_0 l0_0.length c0_0, .slice A0_1 l0_1.length c0_1]] w fun e w' => ∃ v0_ v1_ : Value, e = .returned (.tuple #[.agg #[v0_, v1_], .bool r3]) ∧ Kd.R (Kd.int .i64) 3 w' w.heap.size (fun k_ => some k_ ≠ (v1_ : Value).ownBlock) v0_ r1 ∧ Kd.R (Kd.int .i64) 3 w' w.heap.size (fun k_ => some k_ ≠ (v0_ : Value).ownBlock) v1_ r2 ∧ Below w.heap.size w w' := by
 have hu27 := Try.underlying27
 have HR0_0 := aM hr0_0
 have HC0_0 := aM hc0_0
 clear hr0_0 hc0_0
 have HR0_1 := aM hr0_1
 have HC0_1 := aM hc0_1
 clear hr0_1 hc0_1
 have HB := aM (Below.refl w.heap.size w)
 have H : ((i_SurfaceOk.f k l0_0 l0_1).bind fun t323 => (if t323 = true then ((i_copyInts.f l0_0).bind fun t324 => ((i_InversePerm.f k l0_0).bind fun t327 => ((i_ThenPerm.f k t327 l0_1).bind fun t330 => (some (t324, t330, true))))) else (some (([] : List Int), ([] : List Int), false)))) = some (r1, r2, r3) := h
 clear h
 replace H := oB H
 obtain ⟨t323, A20, H⟩ := H
 replace H : (if t323 = true then ((i_copyInts.f l0_0).bind fun t324 => ((i_InversePerm.f k l0_0).bind fun t327 => ((i_ThenPerm.f k t327 l0_1).bind fun t330 => (some (t324, t330, true))))) else (some (([] : List Int), ([] : List Int), false))) = some (r1, r2, r3) := H
 have A2 := aM A20
 clear A20
 by_cases c3 : t323 = true
 {
 subst c3
 have H1 : ((i_copyInts.f l0_0).bind fun t324 => ((i_InversePerm.f k l0_0).bind fun t327 => ((i_ThenPerm.f k t327 l0_1).bind fun t330 => (some (t324, t330, true))))) = some (r1, r2, r3) := by rw [if_pos rfl] at H; exact H
 clear H
 have H := H1
 clear H1
 replace H := oB H
 obtain ⟨t324, A40, H⟩ := H
 replace H : ((i_InversePerm.f k l0_0).bind fun t327 => ((i_ThenPerm.f k t327 l0_1).bind fun t330 => (some (t324, t330, true)))) = some (r1, r2, r3) := H
 have A4 := aM A40
 clear A40
 replace H := oB H
 obtain ⟨t327, A50, H⟩ := H
 replace H : ((i_ThenPerm.f k t327 l0_1).bind fun t330 => (some (t324, t330, true))) = some (r1, r2, r3) := H
 have A5 := aM A50
 clear A50
 replace H := oB H
 obtain ⟨t330, A60, H⟩ := H
 replace H : (some (t324, t330, true)) = some (r1, r2, r3) := H
 have A6 := aM A60
 clear A60
 simp only [Option.some.injEq, Prod.mk.injEq] at H
 obtain ⟨rfl, rfl, rfl⟩ := H
 go_enter Try.func47, Try.ntmps47
 try go_wp2_with (first | ((with_reducible refine gate_dst (N := 1) rfl ?_); refine bEv (cs := #[.slice A0_0 l0_0.length c0_0, .slice A0_1 l0_1.length c0_1]) (t := 27) ?_; intro gb321 hg w7 hbox hb; have BK321 := aM (hbox); have GW321 := aM ((szX (below_size (bX HB.out)) hg : w.heap.size ≤ gb321)); have GE321 := aM ((szX (below_size (bX HB.out)) hg : w.heap.size ≤ gb321)); replace HB := aM (below_step (bX HB.out) hb); clear hb hbox hg) | ((with_reducible refine gate_dst (N := 2) rfl ?_); refine bEv (cs := #[.slice none 0 0, .slice none 0 0]) (t := 27) ?_; intro gb322 hg w8 hbox hb; have BK322 := aM (hbox); have GW322 := aM ((szX (below_size (bX1 HB.out GE321.out)) hg : w.heap.size ≤ gb322)); have GE322 := aM ((szX (below_size (bX1 HB.out GE321.out)) hg : w.heap.size ≤ gb322)); replace HB := aM (below_step (bX1 HB.out GE321.out) hb); have NB321_322 := aM (neX BK321.out hg); have NB322_321 := aM (nfX BK321.out hg); replace BK321 := aM (bbX BK321.out hb); clear hb hbox hg; have hnb9 := NB321_322.out; have hnc9 := NB322_321.out; have hcz10_0 := cz20 BK321.out; have hcz10_1 := cz21 BK321.out; have hfz10_0 := blk_frozen BK321.out 0; have hfz10_1 := blk_frozen BK321.out 1) | ((with_reducible refine gate_callee (f := 19) rfl ?_); refine goesL_ (some 5) rfl rfl Try.func19 (by kernel_rfl) rfl #[.agg #[.slice A0_0 l0_0.length c0_0, .slice A0_1 l0_1.length c0_1]] rfl aX ?_; (with_reducible refine (i_SurfaceOk.calls k _ _ l0_0 _ _ l0_1 true _ ?side1 ?side2 ?side3 ?side4 A2.out).mono ?_); (case side1 => exact cX (Kd.C_below HR0_0.out HB.out)); (case side2 => exact HC0_0.out); (case side3 => exact cX (Kd.C_below HR0_1.out HB.out)); (case side4 => exact HC0_1.out); rintro e w11 ⟨rfl, hb⟩; refine ⟨_, rfl, ?_⟩; replace BK321 := aM (bbX BK321.out hb); replace BK322 := aM (bbX BK322.out hb); replace HB := aM (below_step (bX2 HB.out GE321.out GE322.out) hb); (try clear hb); (try clear hb2); (try clear hk); (try clear hi)))
 replace BK321 := aM (blk_drew BK321.out)
 replace BK322 := aM (blk_drew BK322.out)
 replace HB := aM (below_drew1 HB.out)
 refine start_ (n := 12) (S := fun w' => w'.cell? ⟨gb321, 0, none⟩ = some (.slice A0_0 l0_0.length c0_0) ∧ w'.cell? ⟨gb321, 1, none⟩ = some (.slice A0_1 l0_1.length c0_1)) (ds := []) #[ff,ff,ff,ff,ff,ff,ff,ff,ff,ff,ff,ff] (by kernel_rfl) rfl rfl ⟨cz20 BK321.out, cz21 BK321.out⟩ (fun hHeld => ?_); refine with_tabW i_ShearSurface.tab3 i_ShearSurface.bits3 (fun HT_ HW_ => ?_)
 generalize w11.drew = w12 at BK321 BK322 HB hHeld ⊢
 refine pX 0 8 (fl 12 1) rfl rfl HT_.out ?_
 refine pX 3 11 (fl 12 9) rfl rfl HT_.out ?_
 refine pX 6 14 (fl 12 73) rfl rfl HT_.out ?_
 refine tX2 1 9 (fl 12 75) rfl rfl HT_.out HW_.out hHeld ?_
 refine tX2 4 12 (fl 12 91) rfl rfl HT_.out HW_.out hHeld ?_
 refine tX2 7 15 (fl 12 219) rfl rfl HT_.out HW_.out hHeld ?_
 refine one_ (i := 2) (N := some 10) #[tt,tt,tt,tt,tt,ff,tt,tt,ff,ff,ff,ff] rfl rfl (one_of HT_.out (by kernel_rfl)) (by decide) (fun K hK => ?_)
 refine goes_ Try.func46 (by kernel_rfl) rfl #[.slice A0_0 l0_0.length c0_0] (by rfl) rfl rfl aX ?_
 with_reducible refine (i_copyInts.calls _ _ l0_0 t324 _ ?side1 ?side2 A4.out).mono ?_
 (case side1 => exact cX (Kd.C_below HR0_0.out HB.out))
 (case side2 => exact HC0_0.out)
 rintro e w13 ⟨v325, rfl, ho0, hb⟩
 refine ⟨_, rfl, ?_⟩
 have HO326 := aM (Kd.R_lower ho0 (below_size (bX2 HB.out GE321.out GE322.out)))
 replace BK321 := aM (bbX BK321.out hb)
 replace BK322 := aM (bbX BK322.out hb)
 replace HB := aM (below_step (bX2 HB.out GE321.out GE322.out) hb)
 (try clear hb)
 (try clear hb2)
 (try clear hk)
 (try clear hi)
 (try clear ho0)
 refine hK.out _ _ ⟨cz20 BK321.out, cz21 BK321.out⟩ (fun hHeld => ?_)
 clear hK K
 refine norm_ (a' := ?_) ?_ ?_
 rotate_left
 {
 show Act.put _ (some 10) _ = _
 simp only [Act.put, zA, zB, zC, i64_w, i32_w]
 rfl
 }
 refine one_ (i := 5) (N := some 13) #[tt,tt,tt,tt,tt,tt,tt,tt,ff,ff,ff,ff] rfl rfl (one_of HT_.out (by kernel_rfl)) (by decide) (fun K hK => ?_)
 refine goes_ Try.func22 (by kernel_rfl) rfl #[.slice A0_0 l0_0.length c0_0] (by rfl) rfl rfl aX ?_
 with_reducible refine (i_InversePerm.calls k _ _ l0_0 t327 _ ?side1 ?side2 A5.out).mono ?_
 (case side1 => exact cX (Kd.C_below HR0_0.out HB.out))
 (case side2 => exact HC0_0.out)
 rintro e w14 ⟨v328, rfl, ho0, hb⟩
 refine ⟨_, rfl, ?_⟩
 have HO329 := aM (Kd.R_lower (Kd.R_new' ho0 (Kd.R_lt (rX HO326.out))) (below_size (bX2 HB.out GE321.out GE322.out)))
 replace HO326 := aM (Kd.R_elder' (rX HO326.out) (Kd.R_base ho0) hb)
 replace BK321 := aM (bbX BK321.out hb)
 replace BK322 := aM (bbX BK322.out hb)
 replace HB := aM (below_step (bX2 HB.out GE321.out GE322.out) hb)
 (try clear hb)
 (try clear hb2)
 (try clear hk)
 (try clear hi)
 (try clear ho0)
 obtain ⟨Ao15, co15, eo15⟩ := Kd.R_slice HO329.out
 (first | subst eo15 | (injection eo15 with f1_ f2_ f3_; have f4_ := f1_.symm; have f5_ := f3_.symm; clear f1_ f2_ f3_; subst f4_; subst f5_))
 refine hK.out _ _ ⟨cz20 BK321.out, cz21 BK321.out⟩ (fun hHeld => ?_)
 clear hK K
 refine norm_ (a' := ?_) ?_ ?_
 rotate_left
 {
 show Act.put _ (some 13) _ = _
 simp only [Act.put, zA, zB, zC, i64_w, i32_w]
 rfl
 }
 refine one_ (i := 8) (N := some 16) #[tt,tt,tt,tt,tt,tt,tt,tt,tt,ff,ff,ff] rfl rfl (one_of HT_.out (by kernel_rfl)) (by decide) (fun K hK => ?_)
 refine goes_ Try.func55 (by kernel_rfl) rfl #[.slice Ao15 t327.length co15, .slice A0_1 l0_1.length c0_1] (by rfl) rfl rfl aX ?_
 with_reducible refine (i_ThenPerm.calls k _ _ t327 _ _ l0_1 t330 _ ?side1 ?side2 ?side3 ?side4 A6.out).mono ?_
 (case side1 => exact cX (Kd.R_reads' HO329.out).2.2)
 (case side2 => exact (Kd.R_reads' HO329.out).2.1)
 (case side3 => exact cX (Kd.C_below HR0_1.out HB.out))
 (case side4 => exact HC0_1.out)
 rintro e w16 ⟨v331, rfl, ho0, hb⟩
 refine ⟨_, rfl, ?_⟩
 have HO332 := aM (Kd.R_lower (Kd.R_new' (Kd.R_new' ho0 (Kd.R_lt (rX HO326.out))) (Kd.R_lt (rX HO329.out))) (below_size (bX2 HB.out GE321.out GE322.out)))
 replace HO326 := aM (Kd.R_elder' (rX HO326.out) (Kd.R_base ho0) hb)
 replace HO329 := aM (Kd.R_elder' (rX HO329.out) (Kd.R_base ho0) hb)
 replace BK321 := aM (bbX BK321.out hb)
 replace BK322 := aM (bbX BK322.out hb)
 replace HB := aM (below_step (bX2 HB.out GE321.out GE322.out) hb)
 (try clear hb)
 (try clear hb2)
 (try clear hk)
 (try clear hi)
 (try clear ho0)
 obtain ⟨Ao17, co17, eo17⟩ := Kd.R_slice HO332.out
 (first | subst eo17 | (injection eo17 with f1_ f2_ f3_; have f4_ := f1_.symm; have f5_ := f3_.symm; clear f1_ f2_ f3_; subst f4_; subst f5_))
 obtain ⟨Ao18, co18, eo18⟩ := Kd.R_slice HO326.out
 (first | subst eo18 | (injection eo18 with f1_ f2_ f3_; have f4_ := f1_.symm; have f5_ := f3_.symm; clear f1_ f2_ f3_; subst f4_; subst f5_))
 refine hK.out _ _ ⟨cz20 BK321.out, cz21 BK321.out⟩ (fun hHeld => ?_)
 clear hK K
 refine norm_ (a' := ?_) ?_ ?_
 rotate_left
 {
 show Act.put _ (some 16) _ = _
 simp only [Act.put, zA, zB, zC, i64_w, i32_w]
 rfl
 }
 refine pX 9 17 (fl 12 1023) rfl rfl HT_.out ?_
 refine one_ (i := 10) (N := none) #[tt,tt,tt,tt,tt,tt,tt,tt,tt,tt,tt,ff] rfl rfl (one_of HT_.out (by kernel_rfl)) (by decide) (fun K hK => ?_)
 have hs19 : w16.cell? ⟨gb322, 0, none⟩ = some (.slice none 0 0) := cz20 BK322.out
 have hfs19 := blk_frozen BK322.out 0
 have hns19_0 := NB321_322.out
 have hms19_0 := NB322_321.out
 have hs20 : w16.cell? ⟨gb322, 1, none⟩ = some (.slice none 0 0) := cz21 BK322.out
 have hfs20 := blk_frozen BK322.out 1
 have hns20_0 := NB321_322.out
 have hms20_0 := NB322_321.out
 refine skip_ (w1 := ?_) (by rfl) rfl ?_ ?_
 rotate_left
 {
 go_simp
 rfl
 }
 refine hK.out _ _ ⟨((cell_far (p := ⟨gb322, _, none⟩) NB321_322.out _).trans (((cell_far (p := ⟨gb322, _, none⟩) NB321_322.out _).trans (hHeld.1)))), ((cell_far (p := ⟨gb322, _, none⟩) NB321_322.out _).trans (((cell_far (p := ⟨gb322, _, none⟩) NB321_322.out _).trans (hHeld.2))))⟩ (fun hHeld => ?_)
 clear hK K
 refine pX 11 3 (fl 12 4095) rfl rfl HT_.out ?_
 refine done_ (done_of HT_.out (by kernel_rfl)) ?_
 try go_wp2
 refine bodyPost_ret (results_ct rfl _ _ gb322 27 #[.slice Ao18 t324.length co18, .slice Ao17 t330.length co17] (0, 0) _ rfl (by (with_reducible repeat (first|refine kN ?_ _|refine kD ?_|refine kA ?_ _)); refine blk_put (cs := #[.slice Ao18 t324.length co18, .slice none 0 0]) ?_ 1 _ rfl; (with_reducible repeat (first|refine kN ?_ _|refine kD ?_|refine kA ?_ _)); refine blk_put (cs := #[.slice none 0 0, .slice none 0 0]) ?_ 0 _ rfl; (with_reducible repeat (first|refine kN ?_ _|refine kD ?_|refine kA ?_ _)); exact BK322.out) Try.underlying27 rfl (by kernel_rfl)) rfl ?_
 exact ⟨_, _, eX, by (with_reducible repeat (first|apply rA|apply rN|apply rD)); exact Kd.R_mono (Kd.R_far (p := ⟨gb322, 1, none⟩) (Kd.R_far (p := ⟨gb322, 0, none⟩) (Kd.R_types HO326.out BK322.out (by decide)) (fun _ hk => hk.2) (.slice Ao18 t324.length co18)) (fun _ hk => hk.2) (.slice Ao17 t330.length co17)) (fun _ hk => hk.1.2), by (with_reducible repeat (first|apply rA|apply rN|apply rD)); exact Kd.R_mono (Kd.R_far (p := ⟨gb322, 1, none⟩) (Kd.R_far (p := ⟨gb322, 0, none⟩) (Kd.R_types HO332.out BK322.out (by decide)) (fun _ hk => hk.2) (.slice Ao18 t324.length co18)) (fun _ hk => hk.2) (.slice Ao17 t330.length co17)) (fun _ hk => hk.1.1.2), bX2 HB.out GE321.out GE322.out⟩
 }
 {
 replace c3 := Bool.eq_false_iff.mpr c3
 subst c3
 have H1 : (some (([] : List Int), ([] : List Int), false)) = some (r1, r2, r3) := by rw [if_neg (show ¬ (false = true) by decide)] at H; exact H
 clear H
 have H := H1
 clear H1
 simp only [Option.some.injEq, Prod.mk.injEq] at H
 obtain ⟨rfl, rfl, rfl⟩ := H
 go_enter Try.func47, Try.ntmps47
 go_wp2_with (first | ((with_reducible refine gate_dst (N := 1) rfl ?_); refine bEv (cs := #[.slice A0_0 l0_0.length c0_0, .slice A0_1 l0_1.length c0_1]) (t := 27) ?_; intro gb321 hg w21 hbox hb; have BK321 := aM (hbox); have GW321 := aM ((szX (below_size (bX HB.out)) hg : w.heap.size ≤ gb321)); have GE321 := aM ((szX (below_size (bX HB.out)) hg : w.heap.size ≤ gb321)); replace HB := aM (below_step (bX HB.out) hb); clear hb hbox hg) | ((with_reducible refine gate_dst (N := 2) rfl ?_); refine bEv (cs := #[.slice none 0 0, .slice none 0 0]) (t := 27) ?_; intro gb322 hg w22 hbox hb; have BK322 := aM (hbox); have GW322 := aM ((szX (below_size (bX1 HB.out GE321.out)) hg : w.heap.size ≤ gb322)); have GE322 := aM ((szX (below_size (bX1 HB.out GE321.out)) hg : w.heap.size ≤ gb322)); replace HB := aM (below_step (bX1 HB.out GE321.out) hb); have NB321_322 := aM (neX BK321.out hg); have NB322_321 := aM (nfX BK321.out hg); replace BK321 := aM (bbX BK321.out hb); clear hb hbox hg; have hnb23 := NB321_322.out; have hnc23 := NB322_321.out; have hcz24_0 := cz20 BK321.out; have hcz24_1 := cz21 BK321.out; have hfz24_0 := blk_frozen BK321.out 0; have hfz24_1 := blk_frozen BK321.out 1) | ((with_reducible refine gate_callee (f := 19) rfl ?_); refine goesL_ (some 5) rfl rfl Try.func19 (by kernel_rfl) rfl #[.agg #[.slice A0_0 l0_0.length c0_0, .slice A0_1 l0_1.length c0_1]] rfl aX ?_; (with_reducible refine (i_SurfaceOk.calls k _ _ l0_0 _ _ l0_1 false _ ?side1 ?side2 ?side3 ?side4 A2.out).mono ?_); (case side1 => exact cX (Kd.C_below HR0_0.out HB.out)); (case side2 => exact HC0_0.out); (case side3 => exact cX (Kd.C_below HR0_1.out HB.out)); (case side4 => exact HC0_1.out); rintro e w25 ⟨rfl, hb⟩; refine ⟨_, rfl, ?_⟩; replace BK321 := aM (bbX BK321.out hb); replace BK322 := aM (bbX BK322.out hb); replace HB := aM (below_step (bX2 HB.out GE321.out GE322.out) hb); (try clear hb); (try clear hb2); (try clear hk); (try clear hi); have hcz26_0 := cz20 BK322.out; have hcz26_1 := cz21 BK322.out; have hfz26_0 := blk_frozen BK322.out 0; have hfz26_1 := blk_frozen BK322.out 1))
 refine bodyPost_ret (results_ct rfl _ _ gb322 27 #[.slice none 0 0, .slice none 0 0] (0, 0) _ rfl (by (with_reducible repeat (first|refine kN ?_ _|refine kD ?_|refine kA ?_ _)); refine blk_put (cs := #[.slice none 0 0, .slice none 0 0]) ?_ 1 _ rfl; (with_reducible repeat (first|refine kN ?_ _|refine kD ?_|refine kA ?_ _)); refine blk_put (cs := #[.slice none 0 0, .slice none 0 0]) ?_ 0 _ rfl; (with_reducible repeat (first|refine kN ?_ _|refine kD ?_|refine kA ?_ _)); exact BK322.out) Try.underlying27 rfl (by kernel_rfl)) rfl ?_
 exact ⟨_, _, eX, by first | exact Kd.R_nil _ _ _ _ _ | exact Kd.N_nil _ _ _ _ _ | exact Kd.V_nil _ _ _ _ _ | exact Kd.Q_nil _ _ _ _ _ | exact Kd.S_nil _ _ _ _ _, by first | exact Kd.R_nil _ _ _ _ _ | exact Kd.N_nil _ _ _ _ _ | exact Kd.V_nil _ _ _ _ _ | exact Kd.Q_nil _ _ _ _ _ | exact Kd.S_nil _ _ _ _ _, bX2 HB.out GE321.out GE322.out⟩
 }

/-! ### i_UnshearSurface: function 48 -/
def i_UnshearSurface.f (k : Nat) (l0_0 : List Int) (l0_1 : List Int) : Option (List Int × List Int × Bool) := (i_SurfaceOk.f k l0_0 l0_1).bind fun t335 => (if t335 = true then ((i_copyInts.f l0_0).bind fun t336 => ((i_ThenPerm.f k l0_0 l0_1).bind fun t339 => (some (t336, t339, true)))) else (some (([] : List Int), ([] : List Int), false)))
def i_UnshearSurface.T3 : Bool × List (List Nat × List Nat) := (true, [([], []), ([0], [0]), ([1], [1]), ([], []), ([3], [3]), ([], []), ([5], [5]), ([4, 6, 2], [4, 6]), ([2, 7], [2, 7]), ([8, 7, 0, 1, 2, 3, 4, 5, 6, 7, 8], [8]), ([9, 0, 1, 2, 3, 4, 5, 6, 7, 8, 9], [])])
def i_UnshearSurface.B3 : List Nat := [0, 1, 3, 0, 8, 0, 32, 127, 255, 511, 1023]
theorem i_UnshearSurface.tab3 : rtab .any (opsOf Try.f48 3) = i_UnshearSurface.T3 := by kernel_rfl
theorem i_UnshearSurface.bits3 : waitsOk i_UnshearSurface.T3.2 i_UnshearSurface.B3 = true := by kernel_rfl
theorem i_UnshearSurface.calls (k : Nat) (A0_0 : Option Addr) (c0_0 : Nat) (l0_0 : List Int) (A0_1 : Option Addr) (c0_1 : Nat) (l0_1 : List Int) (r1 : List Int) (r2 : List Int) (r3 : Bool) (w : World) (hr0_0 : Kd.C (Kd.int .i64) w A0_0 l0_0.length l0_0) (hc0_0 : l0_0.length ≤ c0_0) (hr0_1 : Kd.C (Kd.int .i64) w A0_1 l0_1.length l0_1) (hc0_1 : l0_1.length ≤ c0_1) (h : i_UnshearSurface.f k l0_0 l0_1 = some (r1, r2, r3)) :
  Calls Try.prog 48 #[.agg #[.slice A0_0 l0_0.length c0_0, .slice A0_1 l0_1.length c0_1]] w fun e w' => ∃ v0_ v1_ : Value, e = .returned (.tuple #[.agg #[v0_, v1_], .bool r3]) ∧ Kd.R (Kd.int .i64) 3 w' w.heap.size (fun k_ => some k_ ≠ (v1_ : Value).ownBlock) v0_ r1 ∧ Kd.R (Kd.int .i64) 3 w' w.heap.size (fun k_ => some k_ ≠ (v0_ : Value).ownBlock) v1_ r2 ∧ Below w.heap.size w w' := by
 have hu27 := Try.underlying27
 have HR0_0 := aM hr0_0
 have HC0_0 := aM hc0_0
 clear hr0_0 hc0_0
 have HR0_1 := aM hr0_1
 have HC0_1 := aM hc0_1
 clear hr0_1 hc0_1
 have HB := aM (Below.refl w.heap.size w)
 have H : ((i_SurfaceOk.f k l0_0 l0_1).bind fun t335 => (if t335 = true then ((i_copyInts.f l0_0).bind fun t336 => ((i_ThenPerm.f k l0_0 l0_1).bind fun t339 => (some (t336, t339, true)))) else (some (([] : List Int), ([] : List Int), false)))) = some (r1, r2, r3) := h
 clear h
 replace H := oB H
 obtain ⟨t335, A20, H⟩ := H
 replace H : (if t335 = true then ((i_copyInts.f l0_0).bind fun t336 => ((i_ThenPerm.f k l0_0 l0_1).bind fun t339 => (some (t336, t339, true)))) else (some (([] : List Int), ([] : List Int), false))) = some (r1, r2, r3) := H
 have A2 := aM A20
 clear A20
 by_cases c3 : t335 = true
 {
 subst c3
 have H1 : ((i_copyInts.f l0_0).bind fun t336 => ((i_ThenPerm.f k l0_0 l0_1).bind fun t339 => (some (t336, t339, true)))) = some (r1, r2, r3) := by rw [if_pos rfl] at H; exact H
 clear H
 have H := H1
 clear H1
 replace H := oB H
 obtain ⟨t336, A40, H⟩ := H
 replace H : ((i_ThenPerm.f k l0_0 l0_1).bind fun t339 => (some (t336, t339, true))) = some (r1, r2, r3) := H
 have A4 := aM A40
 clear A40
 replace H := oB H
 obtain ⟨t339, A50, H⟩ := H
 replace H : (some (t336, t339, true)) = some (r1, r2, r3) := H
 have A5 := aM A50
 clear A50
 simp only [Option.some.injEq, Prod.mk.injEq] at H
 obtain ⟨rfl, rfl, rfl⟩ := H
 go_enter Try.func48, Try.ntmps48
 try go_wp2_with (first | ((with_reducible refine gate_dst (N := 1) rfl ?_); refine bEv (cs := #[.slice A0_0 l0_0.length c0_0, .slice A0_1 l0_1.length c0_1]) (t := 27) ?_; intro gb333 hg w6 hbox hb; have BK333 := aM (hbox); have GW333 := aM ((szX (below_size (bX HB.out)) hg : w.heap.size ≤ gb333)); have GE333 := aM ((szX (below_size (bX HB.out)) hg : w.heap.size ≤ gb333)); replace HB := aM (below_step (bX HB.out) hb); clear hb hbox hg) | ((with_reducible refine gate_dst (N := 2) rfl ?_); refine bEv (cs := #[.slice none 0 0, .slice none 0 0]) (t := 27) ?_; intro gb334 hg w7 hbox hb; have BK334 := aM (hbox); have GW334 := aM ((szX (below_size (bX1 HB.out GE333.out)) hg : w.heap.size ≤ gb334)); have GE334 := aM ((szX (below_size (bX1 HB.out GE333.out)) hg : w.heap.size ≤ gb334)); replace HB := aM (below_step (bX1 HB.out GE333.out) hb); have NB333_334 := aM (neX BK333.out hg); have NB334_333 := aM (nfX BK333.out hg); replace BK333 := aM (bbX BK333.out hb); clear hb hbox hg; have hnb8 := NB333_334.out; have hnc8 := NB334_333.out; have hcz9_0 := cz20 BK333.out; have hcz9_1 := cz21 BK333.out; have hfz9_0 := blk_frozen BK333.out 0; have hfz9_1 := blk_frozen BK333.out 1) | ((with_reducible refine gate_callee (f := 19) rfl ?_); refine goesL_ (some 5) rfl rfl Try.func19 (by kernel_rfl) rfl #[.agg #[.slice A0_0 l0_0.length c0_0, .slice A0_1 l0_1.length c0_1]] rfl aX ?_; (with_reducible refine (i_SurfaceOk.calls k _ _ l0_0 _ _ l0_1 true _ ?side1 ?side2 ?side3 ?side4 A2.out).mono ?_); (case side1 => exact cX (Kd.C_below HR0_0.out HB.out)); (case side2 => exact HC0_0.out); (case side3 => exact cX (Kd.C_below HR0_1.out HB.out)); (case side4 => exact HC0_1.out); rintro e w10 ⟨rfl, hb⟩; refine ⟨_, rfl, ?_⟩; replace BK333 := aM (bbX BK333.out hb); replace BK334 := aM (bbX BK334.out hb); replace HB := aM (below_step (bX2 HB.out GE333.out GE334.out) hb); (try clear hb); (try clear hb2); (try clear hk); (try clear hi)))
 replace BK333 := aM (blk_drew BK333.out)
 replace BK334 := aM (blk_drew BK334.out)
 replace HB := aM (below_drew1 HB.out)
 refine start_ (n := 11) (S := fun w' => w'.cell? ⟨gb333, 0, none⟩ = some (.slice A0_0 l0_0.length c0_0) ∧ w'.cell? ⟨gb333, 1, none⟩ = some (.slice A0_1 l0_1.length c0_1)) (ds := []) #[ff,ff,ff,ff,ff,ff,ff,ff,ff,ff,ff] (by kernel_rfl) rfl rfl ⟨cz20 BK333.out, cz21 BK333.out⟩ (fun hHeld => ?_); refine with_tabW i_UnshearSurface.tab3 i_UnshearSurface.bits3 (fun HT_ HW_ => ?_)
 generalize w10.drew = w11 at BK333 BK334 HB hHeld ⊢
 refine pX 0 8 (fl 11 1) rfl rfl HT_.out ?_
 refine pX 3 11 (fl 11 9) rfl rfl HT_.out ?_
 refine pX 5 13 (fl 11 41) rfl rfl HT_.out ?_
 refine tX2 1 9 (fl 11 43) rfl rfl HT_.out HW_.out hHeld ?_
 refine tX2 4 12 (fl 11 59) rfl rfl HT_.out HW_.out hHeld ?_
 refine tX2 6 14 (fl 11 123) rfl rfl HT_.out HW_.out hHeld ?_
 refine one_ (i := 2) (N := some 10) #[tt,tt,tt,tt,tt,tt,tt,ff,ff,ff,ff] rfl rfl (one_of HT_.out (by kernel_rfl)) (by decide) (fun K hK => ?_)
 refine goes_ Try.func46 (by kernel_rfl) rfl #[.slice A0_0 l0_0.length c0_0] (by rfl) rfl rfl aX ?_
 with_reducible refine (i_copyInts.calls _ _ l0_0 t336 _ ?side1 ?side2 A4.out).mono ?_
 (case side1 => exact cX (Kd.C_below HR0_0.out HB.out))
 (case side2 => exact HC0_0.out)
 rintro e w12 ⟨v337, rfl, ho0, hb⟩
 refine ⟨_, rfl, ?_⟩
 have HO338 := aM (Kd.R_lower ho0 (below_size (bX2 HB.out GE333.out GE334.out)))
 replace BK333 := aM (bbX BK333.out hb)
 replace BK334 := aM (bbX BK334.out hb)
 replace HB := aM (below_step (bX2 HB.out GE333.out GE334.out) hb)
 (try clear hb)
 (try clear hb2)
 (try clear hk)
 (try clear hi)
 (try clear ho0)
 refine hK.out _ _ ⟨cz20 BK333.out, cz21 BK333.out⟩ (fun hHeld => ?_)
 clear hK K
 refine norm_ (a' := ?_) ?_ ?_
 rotate_left
 {
 show Act.put _ (some 10) _ = _
 simp only [Act.put, zA, zB, zC, i64_w, i32_w]
 rfl
 }
 refine one_ (i := 7) (N := some 15) #[tt,tt,tt,tt,tt,tt,tt,tt,ff,ff,ff] rfl rfl (one_of HT_.out (by kernel_rfl)) (by decide) (fun K hK => ?_)
 refine goes_ Try.func55 (by kernel_rfl) rfl #[.slice A0_0 l0_0.length c0_0, .slice A0_1 l0_1.length c0_1] (by rfl) rfl rfl aX ?_
 with_reducible refine (i_ThenPerm.calls k _ _ l0_0 _ _ l0_1 t339 _ ?side1 ?side2 ?side3 ?side4 A5.out).mono ?_
 (case side1 => exact cX (Kd.C_below HR0_0.out HB.out))
 (case side2 => exact HC0_0.out)
 (case side3 => exact cX (Kd.C_below HR0_1.out HB.out))
 (case side4 => exact HC0_1.out)
 rintro e w13 ⟨v340, rfl, ho0, hb⟩
 refine ⟨_, rfl, ?_⟩
 have HO341 := aM (Kd.R_lower (Kd.R_new' ho0 (Kd.R_lt (rX HO338.out))) (below_size (bX2 HB.out GE333.out GE334.out)))
 replace HO338 := aM (Kd.R_elder' (rX HO338.out) (Kd.R_base ho0) hb)
 replace BK333 := aM (bbX BK333.out hb)
 replace BK334 := aM (bbX BK334.out hb)
 replace HB := aM (below_step (bX2 HB.out GE333.out GE334.out) hb)
 (try clear hb)
 (try clear hb2)
 (try clear hk)
 (try clear hi)
 (try clear ho0)
 obtain ⟨Ao14, co14, eo14⟩ := Kd.R_slice HO341.out
 (first | subst eo14 | (injection eo14 with f1_ f2_ f3_; have f4_ := f1_.symm; have f5_ := f3_.symm; clear f1_ f2_ f3_; subst f4_; subst f5_))
 obtain ⟨Ao15, co15, eo15⟩ := Kd.R_slice HO338.out
 (first | subst eo15 | (injection eo15 with f1_ f2_ f3_; have f4_ := f1_.symm; have f5_ := f3_.symm; clear f1_ f2_ f3_; subst f4_; subst f5_))
 refine hK.out _ _ ⟨cz20 BK333.out, cz21 BK333.out⟩ (fun hHeld => ?_)
 clear hK K
 refine norm_ (a' := ?_) ?_ ?_
 rotate_left
 {
 show Act.put _ (some 15) _ = _
 simp only [Act.put, zA, zB, zC, i64_w, i32_w]
 rfl
 }
 refine pX 8 16 (fl 11 511) rfl rfl HT_.out ?_
 refine one_ (i := 9) (N := none) #[tt,tt,tt,tt,tt,tt,tt,tt,tt,tt,ff] rfl rfl (one_of HT_.out (by kernel_rfl)) (by decide) (fun K hK => ?_)
 have hs16 : w13.cell? ⟨gb334, 0, none⟩ = some (.slice none 0 0) := cz20 BK334.out
 have hfs16 := blk_frozen BK334.out 0
 have hns16_0 := NB333_334.out
 have hms16_0 := NB334_333.out
 have hs17 : w13.cell? ⟨gb334, 1, none⟩ = some (.slice none 0 0) := cz21 BK334.out
 have hfs17 := blk_frozen BK334.out 1
 have hns17_0 := NB333_334.out
 have hms17_0 := NB334_333.out
 refine skip_ (w1 := ?_) (by rfl) rfl ?_ ?_
 rotate_left
 {
 go_simp
 rfl
 }
 refine hK.out _ _ ⟨((cell_far (p := ⟨gb334, _, none⟩) NB333_334.out _).trans (((cell_far (p := ⟨gb334, _, none⟩) NB333_334.out _).trans (hHeld.1)))), ((cell_far (p := ⟨gb334, _, none⟩) NB333_334.out _).trans (((cell_far (p := ⟨gb334, _, none⟩) NB333_334.out _).trans (hHeld.2))))⟩ (fun hHeld => ?_)
 clear hK K
 refine pX 10 3 (fl 11 2047) rfl rfl HT_.out ?_
 refine done_ (done_of HT_.out (by kernel_rfl)) ?_
 try go_wp2
 refine bodyPost_ret (results_ct rfl _ _ gb334 27 #[.slice Ao15 t336.length co15, .slice Ao14 t339.length co14] (0, 0) _ rfl (by (with_reducible repeat (first|refine kN ?_ _|refine kD ?_|refine kA ?_ _)); refine blk_put (cs := #[.slice Ao15 t336.length co15, .slice none 0 0]) ?_ 1 _ rfl; (with_reducible repeat (first|refine kN ?_ _|refine kD ?_|refine kA ?_ _)); refine blk_put (cs := #[.slice none 0 0, .slice none 0 0]) ?_ 0 _ rfl; (with_reducible repeat (first|refine kN ?_ _|refine kD ?_|refine kA ?_ _)); exact BK334.out) Try.underlying27 rfl (by kernel_rfl)) rfl ?_
 exact ⟨_, _, eX, by (with_reducible repeat (first|apply rA|apply rN|apply rD)); exact Kd.R_mono (Kd.R_far (p := ⟨gb334, 1, none⟩) (Kd.R_far (p := ⟨gb334, 0, none⟩) (Kd.R_types HO338.out BK334.out (by decide)) (fun _ hk => hk.2) (.slice Ao15 t336.length co15)) (fun _ hk => hk.2) (.slice Ao14 t339.length co14)) (fun _ hk => hk.1.2), by (with_reducible repeat (first|apply rA|apply rN|apply rD)); exact Kd.R_mono (Kd.R_far (p := ⟨gb334, 1, none⟩) (Kd.R_far (p := ⟨gb334, 0, none⟩) (Kd.R_types HO341.out BK334.out (by decide)) (fun _ hk => hk.2) (.slice Ao15 t336.length co15)) (fun _ hk => hk.2) (.slice Ao14 t339.length co14)) (fun _ hk => hk.1.2), bX2 HB.out GE333.out GE334.out⟩
 }
 {
 replace c3 := Bool.eq_false_iff.mpr c3
 subst c3
 have H1 : (some (([] : List Int), ([] : List Int), false)) = some (r1, r2, r3) := by rw [if_neg (show ¬ (false = true) by decide)] at H; exact H
 clear H
 have H := H1
 clear H1
 simp only [Option.some.injEq, Prod.mk.injEq] at H
 obtain ⟨rfl, rfl, rfl⟩ := H
 go_enter Try.func48, Try.ntmps48
 go_wp2_with (first | ((with_reducible refine gate_dst (N := 1) rfl ?_); refine bEv (cs := #[.slice A0_0 l0_0.length c0_0, .slice A0_1 l0_1.length c0_1]) (t := 27) ?_; intro gb333 hg w18 hbox hb; have BK333 := aM (hbox); have GW333 := aM ((szX (below_size (bX HB.out)) hg : w.heap.size ≤ gb333)); have GE333 := aM ((szX (below_size (bX HB.out)) hg : w.heap.size ≤ gb333)); replace HB := aM (below_step (bX HB.out) hb); clear hb hbox hg) | ((with_reducible refine gate_dst (N := 2) rfl ?_); refine bEv (cs := #[.slice none 0 0, .slice none 0 0]) (t := 27) ?_; intro gb334 hg w19 hbox hb; have BK334 := aM (hbox); have GW334 := aM ((szX (below_size (bX1 HB.out GE333.out)) hg : w.heap.size ≤ gb334)); have GE334 := aM ((szX (below_size (bX1 HB.out GE333.out)) hg : w.heap.size ≤ gb334)); replace HB := aM (below_step (bX1 HB.out GE333.out) hb); have NB333_334 := aM (neX BK333.out hg); have NB334_333 := aM (nfX BK333.out hg); replace BK333 := aM (bbX BK333.out hb); clear hb hbox hg; have hnb20 := NB333_334.out; have hnc20 := NB334_333.out; have hcz21_0 := cz20 BK333.out; have hcz21_1 := cz21 BK333.out; have hfz21_0 := blk_frozen BK333.out 0; have hfz21_1 := blk_frozen BK333.out 1) | ((with_reducible refine gate_callee (f := 19) rfl ?_); refine goesL_ (some 5) rfl rfl Try.func19 (by kernel_rfl) rfl #[.agg #[.slice A0_0 l0_0.length c0_0, .slice A0_1 l0_1.length c0_1]] rfl aX ?_; (with_reducible refine (i_SurfaceOk.calls k _ _ l0_0 _ _ l0_1 false _ ?side1 ?side2 ?side3 ?side4 A2.out).mono ?_); (case side1 => exact cX (Kd.C_below HR0_0.out HB.out)); (case side2 => exact HC0_0.out); (case side3 => exact cX (Kd.C_below HR0_1.out HB.out)); (case side4 => exact HC0_1.out); rintro e w22 ⟨rfl, hb⟩; refine ⟨_, rfl, ?_⟩; replace BK333 := aM (bbX BK333.out hb); replace BK334 := aM (bbX BK334.out hb); replace HB := aM (below_step (bX2 HB.out GE333.out GE334.out) hb); (try clear hb); (try clear hb2); (try clear hk); (try clear hi); have hcz23_0 := cz20 BK334.out; have hcz23_1 := cz21 BK334.out; have hfz23_0 := blk_frozen BK334.out 0; have hfz23_1 := blk_frozen BK334.out 1))
 refine bodyPost_ret (results_ct rfl _ _ gb334 27 #[.slice none 0 0, .slice none 0 0] (0, 0) _ rfl (by (with_reducible repeat (first|refine kN ?_ _|refine kD ?_|refine kA ?_ _)); refine blk_put (cs := #[.slice none 0 0, .slice none 0 0]) ?_ 1 _ rfl; (with_reducible repeat (first|refine kN ?_ _|refine kD ?_|refine kA ?_ _)); refine blk_put (cs := #[.slice none 0 0, .slice none 0 0]) ?_ 0 _ rfl; (with_reducible repeat (first|refine kN ?_ _|refine kD ?_|refine kA ?_ _)); exact BK334.out) Try.underlying27 rfl (by kernel_rfl)) rfl ?_
 exact ⟨_, _, eX, by first | exact Kd.R_nil _ _ _ _ _ | exact Kd.N_nil _ _ _ _ _ | exact Kd.V_nil _ _ _ _ _ | exact Kd.Q_nil _ _ _ _ _ | exact Kd.S_nil _ _ _ _ _, by first | exact Kd.R_nil _ _ _ _ _ | exact Kd.N_nil _ _ _ _ _ | exact Kd.V_nil _ _ _ _ _ | exact Kd.Q_nil _ _ _ _ _ | exact Kd.S_nil _ _ _ _ _, bX2 HB.out GE333.out GE334.out⟩
 }

end Go.Proofs.Ytlbhjemkjkdndaa.S
