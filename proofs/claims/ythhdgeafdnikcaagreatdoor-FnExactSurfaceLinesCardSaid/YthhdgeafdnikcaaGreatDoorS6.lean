-- PRINTED by print.py (a twelfth state) out of the translation. Not trusted: Lean checks it.
import Derived.Test.YthhdgeafdnikcaaGreatDoorS0
import Derived.Test.YthhdgeafdnikcaaGreatDoorS5
namespace Go.Proofs.YthhdgeafdnikcaaGreatDoor.S
open Go.RowKit Go.Proofs.YthhdgeafdnikcaaGreatDoorW.PrintWords Go.Proofs.YthhdgeafdnikcaaGreatDoorW.PrintLast Go.Proofs.YthhdgeafdnikcaaGreatDoorW.PrintMore
attribute [local go_sem] max2_int min2_int max_two min_two max_three min_three max_four min_four   -- for this text's walks alone
set_option linter.unusedVariables false
set_option linter.unusedSimpArgs false

/-! ### spec_l04Down: function 90 -/
mutual
def spec_l04Down.l0 : Nat → List Int → List Int → Int → Int → Option (List Int)
 | 0, _, _, _, _ => none
 | k + 1, x3, x8, x9, x10 => if x10 < x9 then (if 0 ≤ x10 then (if x10 < (x8.length : Int) then (if x3.length < 17592186044416 then ((some (x3 ++ [0] : List Int)).bind fun y408 => (spec_l04Down.l1 k y408 (rd x8 x10) (wrap64 ((y408.length : Int) - 1)) x8 x9 x10)) else (none)) else (none)) else (none)) else (some x3)
def spec_l04Down.l1 : Nat → List Int → Int → Int → List Int → Int → Int → Option (List Int)
 | 0, _, _, _, _, _, _ => none
 | k + 1, x3, x5, x6, x8, x9, x10 => if x6 > 0 then (if 0 ≤ (wrap64 (x6 - 1)) then (if (wrap64 (x6 - 1)) < (x3.length : Int) then (if (rd x3 (wrap64 (x6 - 1))) < x5 then (if 0 ≤ x6 then (if x6 < (x3.length : Int) then (spec_l04Down.l1 k (x3.set (x6 : Int).toNat (rd x3 (wrap64 (x6 - 1)))) x5 (wrap64 (x6 - 1)) x8 x9 x10) else (none)) else (none)) else (if 0 ≤ x6 then (if x6 < (x3.length : Int) then (spec_l04Down.l0 k (x3.set (x6 : Int).toNat x5) x8 x9 (wrap64 (x10 + 1))) else (none)) else (none))) else (none)) else (none)) else (if 0 ≤ x6 then (if x6 < (x3.length : Int) then (spec_l04Down.l0 k (x3.set (x6 : Int).toNat x5) x8 x9 (wrap64 (x10 + 1))) else (none)) else (none))
end
def spec_l04Down.f (k : Nat) (l0 : List Int) : Option (List Int) := spec_l04Down.l0 k (([] : List Int)) l0 (l0.length : Int) 0
set_option maxHeartbeats 8000000 in
set_option maxRecDepth 100000 in
theorem spec_l04Down.calls (k : Nat) (A0 : Option Addr) (c0 : Nat) (l0 : List Int) (r : List Int) (w : World) (hr0 : Kd.C (Kd.int .i64) w A0 l0.length l0) (hc0 : l0.length ≤ c0) (h : spec_l04Down.f k l0 = some r) :
  Calls Tryz.prog 90 #[.slice A0 l0.length c0] w fun e w' => ∃ v0_ : Value, e = .returned (v0_) ∧ Kd.R (Kd.int .i64) 3 w' w.heap.size (fun _ => True) v0_ r ∧ Below w.heap.size w w' := by
 have HR0 := Aside0.mk hr0
 have HC0 := Aside0.mk hc0
 clear hr0 hc0
 have HB := Aside0.mk (Below.refl w.heap.size w)
 have H : (spec_l04Down.l0 k (([] : List Int)) l0 (l0.length : Int) 0) = some r := h
 clear h
 obtain ⟨y404, hy404⟩ : ∃ y_ : List Int, y_ = (([] : List Int)) := ⟨_, rfl⟩
 replace H : (spec_l04Down.l0 k y404 l0 (l0.length : Int) 0) = some r := by first | (rw [hy404]; with_reducible exact H) | (have H2_ := (Option.bind_some _ _).symm.trans H; rw [hy404]; with_reducible exact H2_) | (have H2_ := (Option.bind_some _ _).symm.trans H; with_reducible exact H2_) | with_reducible exact H | (rw [hy404]; exact H) | exact H
 have Ny404 := Aside0.mk hy404
 clear hy404
 have H' := Aside0.mk H
 clear H
 go_enter Tryz.func90, Tryz.ntmps90
 go_wp2_with (first | ((with_reducible refine gate_dst (N := 7) rfl ?_); refine Kd.R_lit (Kd.int .i64) _ 3 ?hg (N := 7) ?hd (xs := ([] : List Int)) (inner := []) (ok := fun _ => True) (okp := fun _ => True) ?hr ?hp (fun _ hk => hk) trivial (Below.refl _ _) (Nat.le_refl _) (by simp) ?_; (case hd => rfl); (case hg => rfl); (case hr => first | (go_simp; done) | (go_simp; rfl)); (case hp => exact (Reps.none _ _)); intro v405 w2 ho3 hb hg_ hnew_; clear hg_ hnew_; (first | rw [← Ny404.out] at ho3 | (simp only [Int.reduceToNat] at ho3; rw [← Ny404.out] at ho3)); have n0_ := Aside0.mk (Kd.R_lower ho3 (below_size (bX HB.out))); have n1_ := Aside0.mk (below_step (bX HB.out) hb); clear HB; have HO406 := n0_; have HB := n1_; clear n0_ n1_ hb ho3))
 go_loopg [3, 10] k (fun kq v3 v10 w' => ∃ (x3_1 : List Int) (x10_1 : Int), v10 = .int .i64 x10_1 ∧ Aside0 (spec_l04Down.l0 kq x3_1 l0 (l0.length : Int) x10_1 = some r) ∧ Aside0 (kq ≤ k) ∧ Aside0 (Kd.R (Kd.int .i64) 3 w' w.heap.size (fun _ => True) v3 x3_1) ∧ Aside0 (Below w.heap.size w w'))
 case atStart => exact ⟨(y404), (0), vX, H', ⟨Nat.le_refl _⟩, ⟨rX HO406.out⟩, ⟨bX HB.out⟩⟩
 case round =>
 clear H'
 try clear p2
 obtain ⟨x3_1, x10_1, rfl, HA, HK1, HO_3, HB⟩ := hrel
 cases gk with
 | zero => exact absurd HA.out (by simp [spec_l04Down.l0])
 | succ k1 =>
 have H := HA.out
 clear HA
 simp only [spec_l04Down.l0] at H
 by_cases c4 : x10_1 < (l0.length : Int)
 {
 rw [if_pos c4] at H
 have c4b0 : decide (x10_1 < (l0.length : Int)) = true := decide_eq_true c4
 clear c4
 by_cases c5 : 0 ≤ x10_1
 {
 rw [if_pos c5] at H
 have c5b0 : decide (0 ≤ x10_1) = true := decide_eq_true c5
 clear c5
 by_cases c6 : x10_1 < (l0.length : Int)
 {
 rw [if_pos c6] at H
 have c6b0 : decide (x10_1 < (l0.length : Int)) = true := decide_eq_true c6
 clear c6
 by_cases c7 : x3_1.length < 17592186044416
 {
 rw [if_pos c7] at H
 have LMc7 := Aside0.mk c7
 clear c7
 obtain ⟨y408, hy408⟩ : ∃ y_ : List Int, y_ = (x3_1 ++ [0]) := ⟨_, rfl⟩
 replace H : (spec_l04Down.l1 k1 y408 (rd l0 x10_1) (wrap64 ((y408.length : Int) - 1)) l0 (l0.length : Int) x10_1) = some r := by first | (rw [hy408]; with_reducible exact H) | (have H2_ := (Option.bind_some _ _).symm.trans H; rw [hy408]; with_reducible exact H2_) | (have H2_ := (Option.bind_some _ _).symm.trans H; with_reducible exact H2_) | with_reducible exact H | (rw [hy408]; exact H) | exact H
 have Ny408 := Aside0.mk hy408
 clear hy408
 have H' := Aside0.mk H
 clear H
 have p407 : 0 ≤ (x10_1 : Int) := dX
 have q407 : x10_1 < (l0.length : Int) := dX
 obtain ⟨ad407, e407, hx407_0⟩ := Kd.at_int HR0.out x10_1 p407 q407
 cases e407
 replace hx407_0 := (HB.out.cell (World.block_lt_of_cell? w _ hx407_0)).trans hx407_0
 replace p407 := eq_true p407
 replace q407 := eq_true q407
 go_wp2_with (first | ((with_reducible refine gate_builtin (b := .append) (xs := #[.tmp 14, .tmp 15]) rfl ?_); at_builtin; refine Kd.R_append (Kd.int .i64) (w0 := w) w.heap.size rfl (.tmp 14) (.tmp 15) 23 3 (.int .i64 0) 8 rfl Tryz.underlying23 info3 rfl (by decide) (by omega) u3 x3_1 0 [.int .i64 0] (fun _ => True) (fun _ => False) rfl rfl ?aP (fun _ hk => hk.elim) ?aF ?aO ?aB ?aS ?aL ?_; (case aP => exact rfl); (case aB => exact (bX HB.out)); (case aF => exact (fun _ _ => trivial)); (case aO => exact (rX HO_3.out)); (case aS => exact (below_size (bX HB.out))); (case aL => have := LMc7.out; omega); intro v409 w8 ho hb hg hat; rw [← Ny408.out] at ho; have n0_ := Aside0.mk (hb); have n1_ := Aside0.mk (ho); clear HB HO_3; have HB := n0_; have HO410 := n1_; clear n0_ n1_ ho hb hg hat; obtain ⟨Ao9, co9, eo9⟩ := Kd.R_slice HO410.out; subst eo9))
 go_loopg [6] k1 (fun kq v6 w' => ∃ (x3_2 : List Int) (x6_2 : Int), v6 = .int .i64 x6_2 ∧ Aside0 (spec_l04Down.l1 kq x3_2 (rd l0 x10_1) x6_2 l0 (l0.length : Int) x10_1 = some r) ∧ Aside0 (kq ≤ k1) ∧ Aside0 (Kd.R (Kd.int .i64) 3 w' w.heap.size (fun _ => True) (.slice Ao9 y408.length co9) x3_2) ∧ Aside0 (Below w.heap.size w w'))
 case atStart => exact ⟨(y408), (wrap64 ((y408.length : Int) - 1)), vX, H', ⟨Nat.le_refl _⟩, ⟨rX HO410.out⟩, ⟨bX HB.out⟩⟩
 case round =>
 clear H'
 try clear p2
 try clear c4
 try clear c4b0
 try clear p4
 try clear q4
 try clear hx4
 try clear c5
 try clear c5b0
 try clear c6
 try clear c6b0
 try clear p6
 try clear c7
 try clear c9
 try clear hx407_0
 try clear p2
 try clear p407
 try clear q407
 obtain ⟨x3_2, x6_2, rfl, HA, HK2, HO_3, HB⟩ := hrel
 have hl3_2 := (Kd.R_reads' HO_3.out).1
 rw [hl3_2] at HO_3
 (try simp only [hl3_2])
 cases gk with
 | zero => exact absurd HA.out (by simp [spec_l04Down.l1])
 | succ k2 =>
 have H := HA.out
 clear HA
 simp only [spec_l04Down.l1] at H
 by_cases c10 : x6_2 > 0
 {
 rw [if_pos c10] at H
 have c10b0 : decide (0 < x6_2) = true := decide_eq_true c10
 clear c10
 obtain ⟨ji11, hji11⟩ : ∃ j_ : Int, (wrap64 (x6_2 - 1)) = j_ := ⟨_, rfl⟩
 replace H : (if 0 ≤ (ji11) then (if (ji11) < (x3_2.length : Int) then (if (rd x3_2 (ji11)) < (rd l0 x10_1) then (if 0 ≤ x6_2 then (if x6_2 < (x3_2.length : Int) then (spec_l04Down.l1 k2 (x3_2.set (x6_2 : Int).toNat (rd x3_2 (ji11))) (rd l0 x10_1) ji11 l0 (l0.length : Int) x10_1) else (none)) else (none)) else (if 0 ≤ x6_2 then (if x6_2 < (x3_2.length : Int) then (spec_l04Down.l0 k2 (x3_2.set (x6_2 : Int).toNat (rd l0 x10_1)) l0 (l0.length : Int) (wrap64 (x10_1 + 1))) else (none)) else (none))) else (none)) else (none)) = some r := by first | (rw [hji11] at H; exact H) | (simp only [hji11] at H ⊢; exact H)
 have hji11w : (IntKind.i64.wrap (x6_2 - 1)) = ji11 := (i64_w _).trans hji11
 by_cases c12 : 0 ≤ (ji11)
 {
 rw [if_pos c12] at H
 have c12b0 : decide (0 ≤ (ji11)) = true := decide_eq_true c12
 clear c12
 by_cases c13 : (ji11) < (x3_2.length : Int)
 {
 rw [if_pos c13] at H
 have c13b0 : decide ((ji11) < (x3_2.length : Int)) = true := decide_eq_true c13
 clear c13
 by_cases c14 : (rd x3_2 (ji11)) < (rd l0 x10_1)
 {
 rw [if_pos c14] at H
 have c14b0 : decide ((rd x3_2 (ji11)) < (rd l0 x10_1)) = true := decide_eq_true c14
 clear c14
 by_cases c15 : 0 ≤ x6_2
 {
 rw [if_pos c15] at H
 have c15b0 : decide (0 ≤ x6_2) = true := decide_eq_true c15
 clear c15
 by_cases c16 : x6_2 < (x3_2.length : Int)
 {
 rw [if_pos c16] at H
 have c16b0 : decide (x6_2 < (x3_2.length : Int)) = true := decide_eq_true c16
 clear c16
 obtain ⟨y413, hy413⟩ : ∃ y_ : List Int, y_ = (x3_2.set (x6_2 : Int).toNat (rd x3_2 (ji11))) := ⟨_, rfl⟩
 replace H : (spec_l04Down.l1 k2 y413 (rd l0 x10_1) ji11 l0 (l0.length : Int) x10_1) = some r := by first | (rw [hy413]; with_reducible exact H) | (have H2_ := (Option.bind_some _ _).symm.trans H; rw [hy413]; with_reducible exact H2_) | (have H2_ := (Option.bind_some _ _).symm.trans H; with_reducible exact H2_) | with_reducible exact H | (rw [hy413]; exact H) | exact H
 have Ny413 := Aside0.mk hy413
 clear hy413
 have H' := Aside0.mk H
 clear H
 have p411 : 0 ≤ ((ji11) : Int) := dX
 have q411 : (ji11) < (x3_2.length : Int) := dX
 obtain ⟨ad411, e411, hx411_0⟩ := Kd.at_int (Kd.R_reads' HO_3.out).2.2 (ji11) p411 q411
 cases e411
 replace p411 := eq_true p411
 replace q411 := eq_true q411
 have p412 : 0 ≤ ((ji11) : Int) := dX
 have q412 : (ji11) < (x3_2.length : Int) := dX
 obtain ⟨ad412, e412, hx412_0⟩ := Kd.at_int (Kd.R_reads' HO_3.out).2.2 (ji11) p412 q412
 obtain rfl : ad411 = ad412 := (by injection e412)
 replace p412 := eq_true p412
 replace q412 := eq_true q412
 have p17 : 0 ≤ (x6_2 : Int) := dX
 have q17 : (x6_2 : Int) < ((x3_2.length : Int) : Int) := dX
 obtain ⟨go17, co17, eo17, gb17, gl17, cl17, HG17⟩ := Kd.R_form HO_3.out (by omega)
 (first | cases eo17 | (injection eo17 with ea_ en_ ec_; (first | subst ea_ | (injection ea_ with ea_; subst ea_)); subst ec_; clear en_))
 have GB17 := Aside0.mk gb17
 have GG17 := Aside0.mk HG17
 clear gb17 gl17 HG17
 (first | simp only [add_plain] at hx411_0 | skip)
 (first | simp only [add_plain] at hx412_0 | skip)
 obtain ⟨hx17_0, hf17_0⟩ := Kd.R_celln 0 HO_3.out (x6_2 : Int) p17 q17
 replace p17 := eq_true p17
 replace q17 := eq_true q17
 have HP18 := Kd.R_putg HO_3.out (x6_2 : Int) (rd x3_2 (ji11))
 go_wp2_with (first | ((with_reducible refine gate_store (t := 3) (p := 38) rfl ?_); refine store_event (t := 3) (p := 38) (v := ?vo_w19) (w1 := (wr.setCell ⟨go17, (x6_2 : Int).toNat, none⟩ (.int .i64 (rd x3_2 (ji11))))) ?hg ?ho ?hn ?hr ?_; (case ho => rfl); (case hg => rfl); (case hn => rfl); (case hr => first | (go_simp; done) | (go_simp; rfl)); intro w19 hw; have hg : wr.grownBy w19 (some go17) := (by rw [hw]; exact HP18.2); have hp_ : Kd.R (Kd.int .i64) 3 w19 w.heap.size (fun _ => True) (.slice (some ⟨go17, 0, none⟩) x3_2.length co9) y413 := (by rw [hw, Ny413.out]; exact HP18.1); clear HP18; have n0_ := Aside0.mk (hp_); have n1_ := Aside0.mk ((by rw [hw]; exact below_set (HB.out) GB17.out : Below w.heap.size w w19)); clear HO_3 HB; have HO_3 := n0_; have HB := n1_; clear n0_ n1_ hg hw hp_))
 (try simp only [← hl3_2])
 go_roundg k2
 case measure => have := HK1.out; have := HK2.out; omega
 case rel => exact ⟨(y413), (ji11), (by first | rfl | (simp; done) | (simp only [← hji11] <;> (first | rfl | simp)) | (simp [*]; done)), H', ⟨by have := HK1.out; have := HK2.out; omega⟩, ⟨by (try simp only [hl3_2]); (with_reducible repeat (first|apply rA|apply rN|apply rD)); exact HO_3.out⟩, ⟨bX HB.out⟩⟩
 }
 {
 rw [if_neg c16] at H
 exact absurd H (by simp)
 }
 }
 {
 rw [if_neg c15] at H
 exact absurd H (by simp)
 }
 }
 {
 rw [if_neg c14] at H
 have c14b0 : decide ((rd x3_2 (ji11)) < (rd l0 x10_1)) = false := decide_eq_false c14
 clear c14
 by_cases c20 : 0 ≤ x6_2
 {
 rw [if_pos c20] at H
 have c20b0 : decide (0 ≤ x6_2) = true := decide_eq_true c20
 clear c20
 by_cases c21 : x6_2 < (x3_2.length : Int)
 {
 rw [if_pos c21] at H
 have c21b0 : decide (x6_2 < (x3_2.length : Int)) = true := decide_eq_true c21
 clear c21
 obtain ⟨y414, hy414⟩ : ∃ y_ : List Int, y_ = (x3_2.set (x6_2 : Int).toNat (rd l0 x10_1)) := ⟨_, rfl⟩
 replace H : (spec_l04Down.l0 k2 y414 l0 (l0.length : Int) (wrap64 (x10_1 + 1))) = some r := by first | (rw [hy414]; with_reducible exact H) | (have H2_ := (Option.bind_some _ _).symm.trans H; rw [hy414]; with_reducible exact H2_) | (have H2_ := (Option.bind_some _ _).symm.trans H; with_reducible exact H2_) | with_reducible exact H | (rw [hy414]; exact H) | exact H
 have Ny414 := Aside0.mk hy414
 clear hy414
 have H' := Aside0.mk H
 clear H
 have p411 : 0 ≤ ((ji11) : Int) := dX
 have q411 : (ji11) < (x3_2.length : Int) := dX
 obtain ⟨ad411, e411, hx411_0⟩ := Kd.at_int (Kd.R_reads' HO_3.out).2.2 (ji11) p411 q411
 cases e411
 replace p411 := eq_true p411
 replace q411 := eq_true q411
 have p22 : 0 ≤ (x6_2 : Int) := dX
 have q22 : (x6_2 : Int) < ((x3_2.length : Int) : Int) := dX
 obtain ⟨go22, co22, eo22, gb22, gl22, cl22, HG22⟩ := Kd.R_form HO_3.out (by omega)
 (first | cases eo22 | (injection eo22 with ea_ en_ ec_; (first | subst ea_ | (injection ea_ with ea_; subst ea_)); subst ec_; clear en_))
 have GB22 := Aside0.mk gb22
 have GG22 := Aside0.mk HG22
 clear gb22 gl22 HG22
 (first | simp only [add_plain] at hx411_0 | skip)
 obtain ⟨hx22_0, hf22_0⟩ := Kd.R_celln 0 HO_3.out (x6_2 : Int) p22 q22
 replace p22 := eq_true p22
 replace q22 := eq_true q22
 have HP23 := Kd.R_putg HO_3.out (x6_2 : Int) (rd l0 x10_1)
 go_wp2_with (first | ((with_reducible refine gate_store (t := 3) (p := 44) rfl ?_); refine store_event (t := 3) (p := 44) (v := ?vo_w24) (w1 := (wr.setCell ⟨go22, (x6_2 : Int).toNat, none⟩ (.int .i64 (rd l0 x10_1)))) ?hg ?ho ?hn ?hr ?_; (case ho => rfl); (case hg => rfl); (case hn => rfl); (case hr => first | (go_simp; done) | (go_simp; rfl)); intro w24 hw; have hg : wr.grownBy w24 (some go22) := (by rw [hw]; exact HP23.2); have hp_ : Kd.R (Kd.int .i64) 3 w24 w.heap.size (fun _ => True) (.slice (some ⟨go22, 0, none⟩) x3_2.length co9) y414 := (by rw [hw, Ny414.out]; exact HP23.1); clear HP23; have n0_ := Aside0.mk (hp_); have n1_ := Aside0.mk ((by rw [hw]; exact below_set (HB.out) GB22.out : Below w.heap.size w w24)); clear HO_3 HB; have HO_3 := n0_; have HB := n1_; clear n0_ n1_ hg hw hp_))
 (try simp only [← hl3_2])
 go_roundg k2
 case measure => have := HK1.out; have := HK2.out; omega
 case rel => exact ⟨(y414), (wrap64 (x10_1 + 1)), vX, H', ⟨by have := HK1.out; have := HK2.out; omega⟩, ⟨by (try simp only [hl3_2]); (with_reducible repeat (first|apply rA|apply rN|apply rD)); exact HO_3.out⟩, ⟨bX HB.out⟩⟩
 }
 {
 rw [if_neg c21] at H
 exact absurd H (by simp)
 }
 }
 {
 rw [if_neg c20] at H
 exact absurd H (by simp)
 }
 }
 }
 {
 rw [if_neg c13] at H
 exact absurd H (by simp)
 }
 }
 {
 rw [if_neg c12] at H
 exact absurd H (by simp)
 }
 }
 {
 rw [if_neg c10] at H
 have c10b0 : decide (0 < x6_2) = false := decide_eq_false c10
 clear c10
 by_cases c25 : 0 ≤ x6_2
 {
 rw [if_pos c25] at H
 have c25b0 : decide (0 ≤ x6_2) = true := decide_eq_true c25
 clear c25
 by_cases c26 : x6_2 < (x3_2.length : Int)
 {
 rw [if_pos c26] at H
 have c26b0 : decide (x6_2 < (x3_2.length : Int)) = true := decide_eq_true c26
 clear c26
 obtain ⟨y415, hy415⟩ : ∃ y_ : List Int, y_ = (x3_2.set (x6_2 : Int).toNat (rd l0 x10_1)) := ⟨_, rfl⟩
 replace H : (spec_l04Down.l0 k2 y415 l0 (l0.length : Int) (wrap64 (x10_1 + 1))) = some r := by first | (rw [hy415]; with_reducible exact H) | (have H2_ := (Option.bind_some _ _).symm.trans H; rw [hy415]; with_reducible exact H2_) | (have H2_ := (Option.bind_some _ _).symm.trans H; with_reducible exact H2_) | with_reducible exact H | (rw [hy415]; exact H) | exact H
 have Ny415 := Aside0.mk hy415
 clear hy415
 have H' := Aside0.mk H
 clear H
 have p27 : 0 ≤ (x6_2 : Int) := dX
 have q27 : (x6_2 : Int) < ((x3_2.length : Int) : Int) := dX
 obtain ⟨go27, co27, eo27, gb27, gl27, cl27, HG27⟩ := Kd.R_form HO_3.out (by omega)
 (first | cases eo27 | (injection eo27 with ea_ en_ ec_; (first | subst ea_ | (injection ea_ with ea_; subst ea_)); subst ec_; clear en_))
 have GB27 := Aside0.mk gb27
 have GG27 := Aside0.mk HG27
 clear gb27 gl27 HG27
 obtain ⟨hx27_0, hf27_0⟩ := Kd.R_celln 0 HO_3.out (x6_2 : Int) p27 q27
 replace p27 := eq_true p27
 replace q27 := eq_true q27
 have HP28 := Kd.R_putg HO_3.out (x6_2 : Int) (rd l0 x10_1)
 go_wp2_with (first | ((with_reducible refine gate_store (t := 3) (p := 44) rfl ?_); refine store_event (t := 3) (p := 44) (v := ?vo_w29) (w1 := (wr.setCell ⟨go27, (x6_2 : Int).toNat, none⟩ (.int .i64 (rd l0 x10_1)))) ?hg ?ho ?hn ?hr ?_; (case ho => rfl); (case hg => rfl); (case hn => rfl); (case hr => first | (go_simp; done) | (go_simp; rfl)); intro w29 hw; have hg : wr.grownBy w29 (some go27) := (by rw [hw]; exact HP28.2); have hp_ : Kd.R (Kd.int .i64) 3 w29 w.heap.size (fun _ => True) (.slice (some ⟨go27, 0, none⟩) x3_2.length co9) y415 := (by rw [hw, Ny415.out]; exact HP28.1); clear HP28; have n0_ := Aside0.mk (hp_); have n1_ := Aside0.mk ((by rw [hw]; exact below_set (HB.out) GB27.out : Below w.heap.size w w29)); clear HO_3 HB; have HO_3 := n0_; have HB := n1_; clear n0_ n1_ hg hw hp_))
 (try simp only [← hl3_2])
 go_roundg k2
 case measure => have := HK1.out; have := HK2.out; omega
 case rel => exact ⟨(y415), (wrap64 (x10_1 + 1)), vX, H', ⟨by have := HK1.out; have := HK2.out; omega⟩, ⟨by (try simp only [hl3_2]); (with_reducible repeat (first|apply rA|apply rN|apply rD)); exact HO_3.out⟩, ⟨bX HB.out⟩⟩
 }
 {
 rw [if_neg c26] at H
 exact absurd H (by simp)
 }
 }
 {
 rw [if_neg c25] at H
 exact absurd H (by simp)
 }
 }
 }
 {
 rw [if_neg c7] at H
 exact absurd H (by simp)
 }
 }
 {
 rw [if_neg c6] at H
 exact absurd H (by simp)
 }
 }
 {
 rw [if_neg c5] at H
 exact absurd H (by simp)
 }
 }
 {
 rw [if_neg c4] at H
 have c4b0 : decide (x10_1 < (l0.length : Int)) = false := decide_eq_false c4
 clear c4
 obtain rfl := Option.some.inj H
 go_wp2
 go_ret
 exact ⟨_, eX, by (with_reducible repeat (first|apply rA|apply rN|apply rD)); exact HO_3.out, bX HB.out⟩
 }

/-! ### spec_l04Lengths: function 94 -/
def spec_l04Lengths.l0 : Nat → List Int → List (List Int) → Int → Int → Option (List Int)
 | 0, _, _, _, _ => none
 | k + 1, x3, x7, x8, x9 => if x9 < x8 then (if 0 ≤ x9 then (if x9 < (x7.length : Int) then (if x3.length < 17592186044416 then (spec_l04Lengths.l0 k (x3 ++ [((rd_L2 x7 x9).length : Int)]) x7 x8 (wrap64 (x9 + 1))) else (none)) else (none)) else (none)) else ((spec_l04Down.f k x3).bind fun t423 => (some t423))
def spec_l04Lengths.f (k : Nat) (l0 : List (List Int)) : Option (List Int) := spec_l04Lengths.l0 k (([] : List Int)) l0 (l0.length : Int) 0
set_option maxHeartbeats 8000000 in
set_option maxRecDepth 100000 in
theorem spec_l04Lengths.calls (k : Nat) (A0 : Option Addr) (c0 : Nat) (l0 : List (List Int)) (r : List Int) (w : World) (hr0 : Kd.C (Kd.slice 3 (Kd.int .i64)) w A0 l0.length l0) (hc0 : l0.length ≤ c0) (h : spec_l04Lengths.f k l0 = some r) :
  Calls Tryz.prog 94 #[.slice A0 l0.length c0] w fun e w' => ∃ v0_ : Value, e = .returned (v0_) ∧ Kd.R (Kd.int .i64) 3 w' w.heap.size (fun _ => True) v0_ r ∧ Below w.heap.size w w' := by
 have HR0 := Aside0.mk hr0
 have HC0 := Aside0.mk hc0
 clear hr0 hc0
 have HB := Aside0.mk (Below.refl w.heap.size w)
 have H : (spec_l04Lengths.l0 k (([] : List Int)) l0 (l0.length : Int) 0) = some r := h
 clear h
 obtain ⟨y416, hy416⟩ : ∃ y_ : List Int, y_ = (([] : List Int)) := ⟨_, rfl⟩
 replace H : (spec_l04Lengths.l0 k y416 l0 (l0.length : Int) 0) = some r := by first | (rw [hy416]; with_reducible exact H) | (have H2_ := (Option.bind_some _ _).symm.trans H; rw [hy416]; with_reducible exact H2_) | (have H2_ := (Option.bind_some _ _).symm.trans H; with_reducible exact H2_) | with_reducible exact H | (rw [hy416]; exact H) | exact H
 have Ny416 := Aside0.mk hy416
 clear hy416
 have H' := Aside0.mk H
 clear H
 go_enter Tryz.func94, Tryz.ntmps94
 go_wp2_with (first | ((with_reducible refine gate_dst (N := 6) rfl ?_); refine Kd.R_lit (Kd.int .i64) _ 3 ?hg (N := 6) ?hd (xs := ([] : List Int)) (inner := []) (ok := fun _ => True) (okp := fun _ => True) ?hr ?hp (fun _ hk => hk) trivial (Below.refl _ _) (Nat.le_refl _) (by simp) ?_; (case hd => rfl); (case hg => rfl); (case hr => first | (go_simp; done) | (go_simp; rfl)); (case hp => exact (Reps.none _ _)); intro v417 w2 ho3 hb hg_ hnew_; clear hg_ hnew_; (first | rw [← Ny416.out] at ho3 | (simp only [Int.reduceToNat] at ho3; rw [← Ny416.out] at ho3)); have n0_ := Aside0.mk (Kd.R_lower ho3 (below_size (bX HB.out))); have n1_ := Aside0.mk (below_step (bX HB.out) hb); clear HB; have HO418 := n0_; have HB := n1_; clear n0_ n1_ hb ho3))
 go_loopg [3, 9] k (fun kq v3 v9 w' => ∃ (x3_1 : List Int) (x9_1 : Int), v9 = .int .i64 x9_1 ∧ Aside0 (spec_l04Lengths.l0 kq x3_1 l0 (l0.length : Int) x9_1 = some r) ∧ Aside0 (kq ≤ k) ∧ Aside0 (Kd.R (Kd.int .i64) 3 w' w.heap.size (fun _ => True) v3 x3_1) ∧ Aside0 (Below w.heap.size w w'))
 case atStart => exact ⟨(y416), (0), vX, H', ⟨Nat.le_refl _⟩, ⟨rX HO418.out⟩, ⟨bX HB.out⟩⟩
 case round =>
 clear H'
 try clear p2
 obtain ⟨x3_1, x9_1, rfl, HA, HK1, HO_3, HB⟩ := hrel
 cases gk with
 | zero => exact absurd HA.out (by simp [spec_l04Lengths.l0])
 | succ k1 =>
 have H := HA.out
 clear HA
 simp only [spec_l04Lengths.l0] at H
 by_cases c4 : x9_1 < (l0.length : Int)
 {
 rw [if_pos c4] at H
 have c4b0 : decide (x9_1 < (l0.length : Int)) = true := decide_eq_true c4
 clear c4
 by_cases c5 : 0 ≤ x9_1
 {
 rw [if_pos c5] at H
 have c5b0 : decide (0 ≤ x9_1) = true := decide_eq_true c5
 clear c5
 by_cases c6 : x9_1 < (l0.length : Int)
 {
 rw [if_pos c6] at H
 have c6b0 : decide (x9_1 < (l0.length : Int)) = true := decide_eq_true c6
 clear c6
 by_cases c7 : x3_1.length < 17592186044416
 {
 rw [if_pos c7] at H
 have LMc7 := Aside0.mk c7
 clear c7
 obtain ⟨y420, hy420⟩ : ∃ y_ : List Int, y_ = (x3_1 ++ [((rd_L2 l0 x9_1).length : Int)]) := ⟨_, rfl⟩
 replace H : (spec_l04Lengths.l0 k1 y420 l0 (l0.length : Int) (wrap64 (x9_1 + 1))) = some r := by first | (rw [hy420]; with_reducible exact H) | (have H2_ := (Option.bind_some _ _).symm.trans H; rw [hy420]; with_reducible exact H2_) | (have H2_ := (Option.bind_some _ _).symm.trans H; with_reducible exact H2_) | with_reducible exact H | (rw [hy420]; exact H) | exact H
 have Ny420 := Aside0.mk hy420
 clear hy420
 have H' := Aside0.mk H
 clear H
 have p419 : 0 ≤ (x9_1 : Int) := dX
 have q419 : x9_1 < (l0.length : Int) := dX
 obtain ⟨ad419, A419_0, c419_0, e419, hx419_0, hl419_0, hi419_0⟩ := at_L2 HR0.out x9_1 p419 q419
 cases e419
 replace hx419_0 := (HB.out.cell (World.block_lt_of_cell? w _ hx419_0)).trans hx419_0
 have HR419_0 := Aside0.mk hi419_0
 have HC419_0 := Aside0.mk hl419_0
 clear hi419_0 hl419_0
 replace p419 := eq_true p419
 replace q419 := eq_true q419
 go_wp2_with (first | ((with_reducible refine gate_builtin (b := .append) (xs := #[.tmp 13, .tmp 16]) rfl ?_); at_builtin; refine Kd.R_append (Kd.int .i64) (w0 := w) w.heap.size rfl (.tmp 13) (.tmp 16) 23 3 (.int .i64 0) 8 rfl Tryz.underlying23 info3 rfl (by decide) (by omega) u3 x3_1 ((rd_L2 l0 x9_1).length : Int) [.int .i64 ((rd_L2 l0 x9_1).length : Int)] (fun _ => True) (fun _ => False) rfl rfl ?aP (fun _ hk => hk.elim) ?aF ?aO ?aB ?aS ?aL ?_; (case aP => exact rfl); (case aB => exact (bX HB.out)); (case aF => exact (fun _ _ => trivial)); (case aO => exact (rX HO_3.out)); (case aS => exact (below_size (bX HB.out))); (case aL => have := LMc7.out; omega); intro v421 w8 ho hb hg hat; rw [← Ny420.out] at ho; have n0_ := Aside0.mk (hb); have n1_ := Aside0.mk (ho); clear HB HO_3; have HB := n0_; have HO422 := n1_; clear n0_ n1_ ho hb hg hat))
 go_roundg k1
 case measure => have := HK1.out; omega
 case rel => exact ⟨(y420), (wrap64 (x9_1 + 1)), vX, H', ⟨by have := HK1.out; omega⟩, ⟨rX HO422.out⟩, ⟨bX HB.out⟩⟩
 }
 {
 rw [if_neg c7] at H
 exact absurd H (by simp)
 }
 }
 {
 rw [if_neg c6] at H
 exact absurd H (by simp)
 }
 }
 {
 rw [if_neg c5] at H
 exact absurd H (by simp)
 }
 }
 {
 rw [if_neg c4] at H
 have c4b0 : decide (x9_1 < (l0.length : Int)) = false := decide_eq_false c4
 clear c4
 replace H := Option.bind_eq_some_iff.mp H
 obtain ⟨t423, A90, H⟩ := H
 replace H : (some t423) = some r := H
 have A9 := Aside0.mk A90
 clear A90
 obtain rfl := Option.some.inj H
 obtain ⟨Ao10, co10, eo10⟩ := Kd.R_slice HO_3.out
 subst eo10
 go_wp2_with (first | ((with_reducible refine gate_callee (f := 90) rfl ?_); refine goesL_ (some 20) rfl rfl Tryz.func90 (by kernel_rfl) rfl #[.slice Ao10 x3_1.length co10] rfl aX ?_; (with_reducible refine (spec_l04Down.calls k1 _ _ x3_1 t423 _ ?side1 ?side2 A9.out).mono ?_); (case side1 => exact cX (Kd.R_reads' HO_3.out).2.2); (case side2 => exact (Kd.R_reads' HO_3.out).2.1); rintro e w11 ⟨v424, rfl, ho0, hb⟩; refine ⟨_, rfl, ?_⟩; have n0_ := Aside0.mk (Kd.R_elder' (rX HO_3.out) (Kd.R_base ho0) hb); have n1_ := Aside0.mk (Kd.R_lower (Kd.R_new' ho0 (Kd.R_lt (rX HO_3.out))) (below_size (bX HB.out))); have n2_ := Aside0.mk (below_step (bX HB.out) hb); clear HO_3 HB; have HO_3 := n0_; have HO425 := n1_; have HB := n2_; clear n0_ n1_ n2_; (try clear hb); (try clear hb2); (try clear hk); (try clear hi); (try clear ho0)))
 go_ret
 exact ⟨_, eX, by (with_reducible repeat (first|apply rA|apply rN|apply rD)); exact Kd.R_mono HO425.out (fun _ hk => trivial), bX HB.out⟩
 }

/-! ### spec_CyclesOf: function 127 -/
mutual
def spec_CyclesOf.l0 : Nat → List Int → List (List Int) → List Bool → Int → Int → Option ((List (List Int)))
 | 0, _, _, _, _, _ => none
 | k + 1, x0, x3, x4, x16, x17 => if x17 < x16 then (spec_CyclesOf.l1 k x0 x3 x4 (([] : List Int)) x17 x16 x17) else (some x3)
def spec_CyclesOf.l1 : Nat → List Int → List (List Int) → List Bool → List Int → Int → Int → Int → Option ((List (List Int)))
 | 0, _, _, _, _, _, _, _ => none
 | k + 1, x0, x3, x4, x6, x7, x16, x17 => if 0 ≤ x7 then (if x7 < (x4.length : Int) then (if rdOf false x4 x7 = true then (if (x6.length : Int) > 0 then (if x3.length < 5864062014805 then (spec_CyclesOf.l0 k x0 (x3 ++ [x6]) x4 x16 (wrap64 (x17 + 1))) else (none)) else (spec_CyclesOf.l0 k x0 x3 x4 x16 (wrap64 (x17 + 1)))) else (if x6.length < 17592186044416 then (if x7 < (x0.length : Int) then (spec_CyclesOf.l1 k x0 x3 (x4.set (x7 : Int).toNat true) (x6 ++ [x7]) (rd x0 x7) x16 x17) else (none)) else (none))) else (none)) else (none)
end
def spec_CyclesOf.f (k : Nat) (l0 : List Int) : Option ((List (List Int))) := (spec_PermOk.f l0).bind fun t426 => (if t426 = true then (if 0 ≤ (l0.length : Int) then (if ((l0.length : Int) : Int).toNat ≤ 281474976710656 then (spec_CyclesOf.l0 k l0 (([] : List (List Int))) (List.replicate ((l0.length : Int) : Int).toNat false) (l0.length : Int) 0) else (none)) else (none)) else (some ([] : List (List Int))))
set_option maxHeartbeats 8000000 in
set_option maxRecDepth 100000 in
theorem spec_CyclesOf.calls (k : Nat) (A0 : Option Addr) (c0 : Nat) (l0 : List Int) (r : List (List Int)) (w : World) (hr0 : Kd.C (Kd.int .i64) w A0 l0.length l0) (hc0 : l0.length ≤ c0) (h : spec_CyclesOf.f k l0 = some r) :
  Calls Tryz.prog 127 #[.slice A0 l0.length c0] w fun e w' => ∃ v0_ : Value, e = .returned (v0_) ∧ Kd.S (Kd.slice 3 (Kd.int .i64)) 23 w' w.heap.size (fun _ => True) v0_ r ∧ Below w.heap.size w w' := by
 have HR0 := Aside0.mk hr0
 have HC0 := Aside0.mk hc0
 clear hr0 hc0
 have HB := Aside0.mk (Below.refl w.heap.size w)
 have H : ((spec_PermOk.f l0).bind fun t426 => (if t426 = true then (if 0 ≤ (l0.length : Int) then (if ((l0.length : Int) : Int).toNat ≤ 281474976710656 then (spec_CyclesOf.l0 k l0 (([] : List (List Int))) (List.replicate ((l0.length : Int) : Int).toNat false) (l0.length : Int) 0) else (none)) else (none)) else (some ([] : List (List Int))))) = some r := h
 clear h
 replace H := Option.bind_eq_some_iff.mp H
 obtain ⟨t426, A20, H⟩ := H
 replace H : (if t426 = true then (if 0 ≤ (l0.length : Int) then (if ((l0.length : Int) : Int).toNat ≤ 281474976710656 then (spec_CyclesOf.l0 k l0 (([] : List (List Int))) (List.replicate ((l0.length : Int) : Int).toNat false) (l0.length : Int) 0) else (none)) else (none)) else (some ([] : List (List Int)))) = some r := H
 have A2 := Aside0.mk A20
 clear A20
 by_cases c3 : t426 = true
 {
 subst c3
 have H1 : (if 0 ≤ (l0.length : Int) then (if ((l0.length : Int) : Int).toNat ≤ 281474976710656 then (spec_CyclesOf.l0 k l0 (([] : List (List Int))) (List.replicate ((l0.length : Int) : Int).toNat false) (l0.length : Int) 0) else (none)) else (none)) = some r := by rw [if_pos rfl] at H; exact H
 clear H
 have H := H1
 clear H1
 obtain ⟨y427, hy427⟩ : ∃ y_ : List (List Int), y_ = (([] : List (List Int))) := ⟨_, rfl⟩
 replace H : (if 0 ≤ (l0.length : Int) then (if ((l0.length : Int) : Int).toNat ≤ 281474976710656 then (spec_CyclesOf.l0 k l0 y427 (List.replicate ((l0.length : Int) : Int).toNat false) (l0.length : Int) 0) else (none)) else (none)) = some r := by first | (rw [hy427]; with_reducible exact H) | (have H2_ := (Option.bind_some _ _).symm.trans H; rw [hy427]; with_reducible exact H2_) | (have H2_ := (Option.bind_some _ _).symm.trans H; with_reducible exact H2_) | with_reducible exact H | (rw [hy427]; exact H) | exact H
 have Ny427 := Aside0.mk hy427
 clear hy427
 by_cases c4 : 0 ≤ (l0.length : Int)
 {
 rw [if_pos c4] at H
 have c4b0 := eq_true c4
 have c4b1 : decide (0 ≤ (l0.length : Int)) = true := decide_eq_true c4
 clear c4
 by_cases c5 : ((l0.length : Int) : Int).toNat ≤ 281474976710656
 {
 rw [if_pos c5] at H
 have c5b0 := eq_true c5
 have c5b1 : decide (((l0.length : Int) : Int).toNat ≤ 281474976710656) = true := decide_eq_true c5
 clear c5
 obtain ⟨y430, hy430⟩ : ∃ y_ : List Bool, y_ = (List.replicate ((l0.length : Int) : Int).toNat false) := ⟨_, rfl⟩
 replace H : (spec_CyclesOf.l0 k l0 y427 y430 (l0.length : Int) 0) = some r := by first | (rw [hy430]; with_reducible exact H) | (have H2_ := (Option.bind_some _ _).symm.trans H; rw [hy430]; with_reducible exact H2_) | (have H2_ := (Option.bind_some _ _).symm.trans H; with_reducible exact H2_) | with_reducible exact H | (rw [hy430]; exact H) | exact H
 have Ny430 := Aside0.mk hy430
 clear hy430
 have H' := Aside0.mk H
 clear H
 go_enter Tryz.func127, Tryz.ntmps127
 go_wp2_with (first | ((with_reducible refine gate_callee (f := 120) rfl ?_); refine goesL_ (some 9) rfl rfl Tryz.func120 (by kernel_rfl) rfl #[.slice A0 l0.length c0] rfl aX ?_; (with_reducible refine (spec_PermOk.calls _ _ l0 true _ ?side1 ?side2 A2.out).mono ?_); (case side1 => exact cX HR0.out); (case side2 => exact HC0.out); rintro e w' ⟨rfl, ⟨nd, rfl⟩⟩; refine ⟨_, rfl, ?_⟩) | ((with_reducible refine gate_dst (N := 11) rfl ?_); refine Kd.S_lit (Kd.slice 3 (Kd.int .i64)) _ 23 ?hg (N := 11) ?hd (xs := ([] : List (List Int))) (inner := []) (ok := fun _ => True) (okp := fun _ => True) ?hr ?hp (fun _ hk => hk) trivial (Below.refl _ _) (Nat.le_refl _) (by simp) ?_; (case hd => rfl); (case hg => rfl); (case hr => first | (go_simp; done) | (go_simp; rfl)); (case hp => exact (Reps.none _ _)); intro v428 w6 ho7 hb hg_ hnew_; clear hg_ hnew_; (first | rw [← Ny427.out] at ho7 | (simp only [Int.reduceToNat] at ho7; rw [← Ny427.out] at ho7)); have n0_ := Aside0.mk (Kd.S_lower ho7 (below_size (bX HB.out))); have n1_ := Aside0.mk (below_step (bX HB.out) hb); clear HB; have HO429 := n0_; have HB := n1_; clear n0_ n1_ hb ho7) | ((with_reducible refine gate_dst (N := 14) rfl ?_); refine Kd.R_make Kd.bool _ 4 rfl (N := 14) rfl 82 _ _ rfl (l0.length : Int) rfl rfl Tryz.underlying82 (.bool false) 1 info4 rfl (by decide) (by omega) false (ok := fun _ => True) (okp := fun _ => True) rfl (fun _ hk => hk) trivial (dX) (Nat.le_trans (Nat.mul_le_mul_right _ (dX : (l0.length : Int).toNat ≤ 281474976710656)) (by omega)) (Below.refl _ _) (Nat.le_refl _) ?_; intro v431 w8 ho9 hb hg_ hnew_; clear hg_ hnew_; (first | rw [← Ny430.out] at ho9 | (simp only [Int.reduceToNat] at ho9; rw [← Ny430.out] at ho9)); have n0_ := Aside0.mk (Kd.S_below (by (with_reducible repeat (first | apply Kd.S_alloc | apply Kd.S_drewN | apply Kd.S_drew)); exact HO429.out) hb); have n1_ := Aside0.mk (Kd.R_lower ho9 (below_size (bX HB.out))); have n2_ := Aside0.mk (below_step (bX HB.out) hb); clear HO429 HB; have HO429 := n0_; have HO432 := n1_; have HB := n2_; clear n0_ n1_ n2_ hb ho9))
 go_loopg [3, 17] k (fun kq v3 v17 w' => ∃ (x3_1 : List (List Int)) (x4_1 : List Bool) (x17_1 : Int), v17 = .int .i64 x17_1 ∧ Aside0 (spec_CyclesOf.l0 kq l0 x3_1 x4_1 (l0.length : Int) x17_1 = some r) ∧ Aside0 (kq ≤ k) ∧ Aside0 (Kd.S (Kd.slice 3 (Kd.int .i64)) 23 w' w.heap.size (fun _ => True) v3 x3_1) ∧ Aside0 (Kd.R Kd.bool 4 w' w.heap.size (fun _ => True) v431 x4_1) ∧ Aside0 (Below w.heap.size w w'))
 case atStart => exact ⟨(y427), (y430), (0), vX, H', ⟨Nat.le_refl _⟩, ⟨by (with_reducible repeat (first | apply Kd.S_alloc | apply Kd.S_drewN | apply Kd.S_drew)); exact HO429.out⟩, ⟨rX HO432.out⟩, ⟨bX HB.out⟩⟩
 case round =>
 clear H'
 try clear c1
 try clear p2
 try clear c3
 try clear c4
 try clear c4b0
 try clear c4b1
 try clear c5
 try clear c5b0
 try clear c5b1
 obtain ⟨x3_1, x4_1, x17_1, rfl, HA, HK1, HO_3, HO_4, HB⟩ := hrel
 cases gk with
 | zero => exact absurd HA.out (by simp [spec_CyclesOf.l0])
 | succ k1 =>
 have H := HA.out
 clear HA
 simp only [spec_CyclesOf.l0] at H
 by_cases c10 : x17_1 < (l0.length : Int)
 {
 rw [if_pos c10] at H
 have c10b0 : decide (x17_1 < (l0.length : Int)) = true := decide_eq_true c10
 clear c10
 obtain ⟨y433, hy433⟩ : ∃ y_ : List Int, y_ = (([] : List Int)) := ⟨_, rfl⟩
 replace H : (spec_CyclesOf.l1 k1 l0 x3_1 x4_1 y433 x17_1 (l0.length : Int) x17_1) = some r := by first | (rw [hy433]; with_reducible exact H) | (have H2_ := (Option.bind_some _ _).symm.trans H; rw [hy433]; with_reducible exact H2_) | (have H2_ := (Option.bind_some _ _).symm.trans H; with_reducible exact H2_) | with_reducible exact H | (rw [hy433]; exact H) | exact H
 have Ny433 := Aside0.mk hy433
 clear hy433
 have H' := Aside0.mk H
 clear H
 go_wp2_with (first | ((with_reducible refine gate_dst (N := 20) rfl ?_); refine Kd.R_lit (Kd.int .i64) _ 3 ?hg (N := 20) ?hd (xs := ([] : List Int)) (inner := []) (ok := fun _ => True) (okp := fun _ => True) ?hr ?hp (fun _ hk => hk) trivial (Below.refl _ _) (Nat.le_refl _) (by simp) ?_; (case hd => rfl); (case hg => rfl); (case hr => first | (go_simp; done) | (go_simp; rfl)); (case hp => exact (Reps.none _ _)); intro v434 w11 ho12 hb hg_ hnew_; clear hg_ hnew_; (first | rw [← Ny433.out] at ho12 | (simp only [Int.reduceToNat] at ho12; rw [← Ny433.out] at ho12)); have n0_ := Aside0.mk (Kd.S_elder' (by (with_reducible repeat (first | apply Kd.S_alloc | apply Kd.S_drewN | apply Kd.S_drew)); exact HO_3.out) (Kd.R_base ho12) hb); have n1_ := Aside0.mk (Kd.R_below (rX HO_4.out) hb); have n2_ := Aside0.mk (Kd.R_lower ho12 (below_size (bX HB.out))); have n3_ := Aside0.mk (below_step (bX HB.out) hb); clear HO_3 HO_4 HB; have HO_3 := n0_; have HO_4 := n1_; have HO435 := n2_; have HB := n3_; clear n0_ n1_ n2_ n3_ hb ho12))
 go_loopg [6, 7] k1 (fun kq v6 v7 w' => ∃ (x4_2 : List Bool) (x6_2 : List Int) (x7_2 : Int), v7 = .int .i64 x7_2 ∧ Aside0 (spec_CyclesOf.l1 kq l0 x3_1 x4_2 x6_2 x7_2 (l0.length : Int) x17_1 = some r) ∧ Aside0 (kq ≤ k1) ∧ Aside0 (Kd.S (Kd.slice 3 (Kd.int .i64)) 23 w' w.heap.size (fun k_ => some k_ ≠ (v6 : Value).ownBlock) u3 x3_1) ∧ Aside0 (Kd.R Kd.bool 4 w' w.heap.size (fun _ => True) v431 x4_2) ∧ Aside0 (Kd.R (Kd.int .i64) 3 w' w.heap.size (fun _ => True) v6 x6_2) ∧ Aside0 (Below w.heap.size w w'))
 case atStart => exact ⟨(x4_1), (y433), (x17_1), vX, H', ⟨Nat.le_refl _⟩, ⟨by (with_reducible repeat (first | apply Kd.S_alloc | apply Kd.S_drewN | apply Kd.S_drew)); exact Kd.S_mono HO_3.out (fun _ hk => hk.2)⟩, ⟨rX HO_4.out⟩, ⟨rX HO435.out⟩, ⟨bX HB.out⟩⟩
 case round =>
 clear H'
 try clear c1
 try clear p2
 try clear c3
 try clear c4
 try clear c4b0
 try clear c4b1
 try clear c5
 try clear c5b0
 try clear c5b1
 try clear c10
 try clear c10b0
 try clear c12
 try clear p2
 obtain ⟨x4_2, x6_2, x7_2, rfl, HA, HK2, HO_3, HO_4, HO_6, HB⟩ := hrel
 cases gk with
 | zero => exact absurd HA.out (by simp [spec_CyclesOf.l1])
 | succ k2 =>
 have H := HA.out
 clear HA
 simp only [spec_CyclesOf.l1] at H
 by_cases c13 : 0 ≤ x7_2
 {
 rw [if_pos c13] at H
 have c13b0 : decide (0 ≤ x7_2) = true := decide_eq_true c13
 clear c13
 by_cases c14 : x7_2 < (x4_2.length : Int)
 {
 rw [if_pos c14] at H
 have c14b0 : decide (x7_2 < (x4_2.length : Int)) = true := decide_eq_true c14
 clear c14
 obtain ⟨bq15, hbq15⟩ : ∃ b_ : Bool, b_ = (rdOf false x4_2 x7_2) := ⟨_, rfl⟩
 replace H : (if bq15 = true then (if (x6_2.length : Int) > 0 then (if x3_1.length < 5864062014805 then (spec_CyclesOf.l0 k2 l0 (x3_1 ++ [x6_2]) x4_2 (l0.length : Int) (wrap64 (x17_1 + 1))) else (none)) else (spec_CyclesOf.l0 k2 l0 x3_1 x4_2 (l0.length : Int) (wrap64 (x17_1 + 1)))) else (if x6_2.length < 17592186044416 then (if x7_2 < (l0.length : Int) then (spec_CyclesOf.l1 k2 l0 x3_1 (x4_2.set (x7_2 : Int).toNat true) (x6_2 ++ [x7_2]) (rd l0 x7_2) (l0.length : Int) x17_1) else (none)) else (none))) = some r := by rw [← hbq15] at H; exact H
 have Nbq15 := Aside0.mk hbq15
 clear hbq15
 by_cases c16 : bq15 = true
 {
 subst c16
 have H1 : (if (x6_2.length : Int) > 0 then (if x3_1.length < 5864062014805 then (spec_CyclesOf.l0 k2 l0 (x3_1 ++ [x6_2]) x4_2 (l0.length : Int) (wrap64 (x17_1 + 1))) else (none)) else (spec_CyclesOf.l0 k2 l0 x3_1 x4_2 (l0.length : Int) (wrap64 (x17_1 + 1)))) = some r := by rw [if_pos rfl] at H; exact H
 clear H
 have H := H1
 clear H1
 by_cases c17 : (x6_2.length : Int) > 0
 {
 rw [if_pos c17] at H
 have c17b0 : decide (0 < (x6_2.length : Int)) = true := decide_eq_true c17
 have c17b1 : decide (0 < x6_2.length) = true := decide_eq_true (by omega)
 clear c17
 by_cases c18 : x3_1.length < 5864062014805
 {
 rw [if_pos c18] at H
 have LMc18 := Aside0.mk c18
 clear c18
 obtain ⟨y437, hy437⟩ : ∃ y_ : List (List Int), y_ = (x3_1 ++ [x6_2]) := ⟨_, rfl⟩
 replace H : (spec_CyclesOf.l0 k2 l0 y437 x4_2 (l0.length : Int) (wrap64 (x17_1 + 1))) = some r := by first | (rw [hy437]; with_reducible exact H) | (have H2_ := (Option.bind_some _ _).symm.trans H; rw [hy437]; with_reducible exact H2_) | (have H2_ := (Option.bind_some _ _).symm.trans H; with_reducible exact H2_) | with_reducible exact H | (rw [hy437]; exact H) | exact H
 have Ny437 := Aside0.mk hy437
 clear hy437
 have H' := Aside0.mk H
 clear H
 obtain ⟨Ao19, co19, eo19⟩ := Kd.R_slice HO_4.out
 subst eo19
 have p436 : 0 ≤ (x7_2 : Int) := dX
 have q436 : x7_2 < (x4_2.length : Int) := dX
 obtain ⟨ad436, e436, hx436_0⟩ := Kd.at_bool (Kd.R_reads' HO_4.out).2.2 x7_2 p436 q436
 (try rw [← Nbq15.out] at hx436_0)
 cases e436
 replace p436 := eq_true p436
 replace q436 := eq_true q436
 obtain ⟨Ao20, co20, eo20⟩ := Kd.R_slice HO_6.out
 subst eo20
 go_wp2_with (first | ((with_reducible refine gate_builtin (b := .append) (xs := #[.tmp 41, .tmp 43]) rfl ?_); at_builtin; refine Kd.S_append (Kd.slice 3 (Kd.int .i64)) (w0 := w) w.heap.size rfl (.tmp 41) (.tmp 43) 57 23 (.slice none 0 0) 24 rfl Tryz.underlying57 info23 rfl (by decide) (by omega) u3 x3_1 x6_2 [.slice Ao20 x6_2.length co20] (fun _ => True) (fun k_ => some k_ = (.slice Ao20 x6_2.length co20 : Value).ownBlock) rfl rfl ?aP (fun k_ hk_ => ((Kd.R_mono (ok' := fun k_ => ((fun _ => True)) k_ ∧ some k_ ≠ (u3 : Value).ownBlock) (Kd.R_apart' (HO_6.out) (Kd.S_typed HO_3.out) (by decide)) (fun k_ hk => ⟨trivial, hk.2⟩))).1 k_ hk_.symm) ?aF ?aO ?aB ?aS ?aL ?_; (case aP => exact Kd.M_row (Kd.R_mono (Kd.R_tight rfl (Kd.R_mono (ok' := fun k_ => ((fun _ => True)) k_ ∧ some k_ ≠ (u3 : Value).ownBlock) (Kd.R_apart' (HO_6.out) (Kd.S_typed HO_3.out) (by decide)) (fun k_ hk => ⟨trivial, hk.2⟩))) (fun _ h_ => h_))); (case aB => exact (bX HB.out)); (case aF => exact (fun _ _ => trivial)); (case aO => exact (by (with_reducible repeat (first | apply Kd.S_alloc | apply Kd.S_drewN | apply Kd.S_drew)); exact Kd.S_mono HO_3.out (fun k_ hk => ⟨trivial, fun e_ => hk e_⟩))); (case aS => exact (below_size (bX HB.out))); (case aL => have := LMc18.out; omega); intro v438 w21 ho hb hg hat; rw [← Ny437.out] at ho; have n0_ := Aside0.mk (Kd.R_over' (rX HO_4.out) (Kd.S_typed (by (with_reducible repeat (first | apply Kd.S_alloc | apply Kd.S_drewN | apply Kd.S_drew)); exact HO_3.out)) (by decide) hg); have n1_ := Aside0.mk (hb); have n2_ := Aside0.mk (ho); clear HO_4 HB HO_3 HO_6; have HO_4 := n0_; have HB := n1_; have HO439 := n2_; clear n0_ n1_ n2_ ho hb hg hat))
 go_roundg k2
 case measure => have := HK1.out; have := HK2.out; omega
 case rel => exact ⟨(y437), (x4_2), (wrap64 (x17_1 + 1)), vX, H', ⟨by have := HK1.out; have := HK2.out; omega⟩, ⟨by (with_reducible repeat (first | apply Kd.S_alloc | apply Kd.S_drewN | apply Kd.S_drew)); exact HO439.out⟩, ⟨rX HO_4.out⟩, ⟨bX HB.out⟩⟩
 }
 {
 rw [if_neg c18] at H
 exact absurd H (by simp)
 }
 }
 {
 rw [if_neg c17] at H
 have c17b0 : decide (0 < (x6_2.length : Int)) = false := decide_eq_false c17
 have c17b1 : decide (0 < x6_2.length) = false := decide_eq_false (by omega)
 clear c17
 have H' := Aside0.mk H
 clear H
 obtain ⟨Ao22, co22, eo22⟩ := Kd.R_slice HO_4.out
 subst eo22
 have p436 : 0 ≤ (x7_2 : Int) := dX
 have q436 : x7_2 < (x4_2.length : Int) := dX
 obtain ⟨ad436, e436, hx436_0⟩ := Kd.at_bool (Kd.R_reads' HO_4.out).2.2 x7_2 p436 q436
 (try rw [← Nbq15.out] at hx436_0)
 cases e436
 replace p436 := eq_true p436
 replace q436 := eq_true q436
 obtain ⟨Ao23, co23, eo23⟩ := Kd.R_slice HO_6.out
 subst eo23
 go_wp2
 go_roundg k2
 case measure => have := HK1.out; have := HK2.out; omega
 case rel => exact ⟨(x3_1), (x4_2), (wrap64 (x17_1 + 1)), vX, H', ⟨by have := HK1.out; have := HK2.out; omega⟩, ⟨by (with_reducible repeat (first | apply Kd.S_alloc | apply Kd.S_drewN | apply Kd.S_drew)); exact Kd.S_mono HO_3.out (fun _ hk => trivial)⟩, ⟨rX HO_4.out⟩, ⟨bX HB.out⟩⟩
 }
 }
 {
 replace c16 := Bool.eq_false_iff.mpr c16
 subst c16
 have H1 : (if x6_2.length < 17592186044416 then (if x7_2 < (l0.length : Int) then (spec_CyclesOf.l1 k2 l0 x3_1 (x4_2.set (x7_2 : Int).toNat true) (x6_2 ++ [x7_2]) (rd l0 x7_2) (l0.length : Int) x17_1) else (none)) else (none)) = some r := by rw [if_neg (show ¬ (false = true) by decide)] at H; exact H
 clear H
 have H := H1
 clear H1
 obtain ⟨y440, hy440⟩ : ∃ y_ : List Bool, y_ = (x4_2.set (x7_2 : Int).toNat true) := ⟨_, rfl⟩
 replace H : (if x6_2.length < 17592186044416 then (if x7_2 < (l0.length : Int) then (spec_CyclesOf.l1 k2 l0 x3_1 y440 (x6_2 ++ [x7_2]) (rd l0 x7_2) (l0.length : Int) x17_1) else (none)) else (none)) = some r := by first | (rw [hy440]; with_reducible exact H) | (have H2_ := (Option.bind_some _ _).symm.trans H; rw [hy440]; with_reducible exact H2_) | (have H2_ := (Option.bind_some _ _).symm.trans H; with_reducible exact H2_) | with_reducible exact H | (rw [hy440]; exact H) | exact H
 have Ny440 := Aside0.mk hy440
 clear hy440
 by_cases c25 : x6_2.length < 17592186044416
 {
 rw [if_pos c25] at H
 have LMc25 := Aside0.mk c25
 clear c25
 obtain ⟨y441, hy441⟩ : ∃ y_ : List Int, y_ = (x6_2 ++ [x7_2]) := ⟨_, rfl⟩
 replace H : (if x7_2 < (l0.length : Int) then (spec_CyclesOf.l1 k2 l0 x3_1 y440 y441 (rd l0 x7_2) (l0.length : Int) x17_1) else (none)) = some r := by first | (rw [hy441]; with_reducible exact H) | (have H2_ := (Option.bind_some _ _).symm.trans H; rw [hy441]; with_reducible exact H2_) | (have H2_ := (Option.bind_some _ _).symm.trans H; with_reducible exact H2_) | with_reducible exact H | (rw [hy441]; exact H) | exact H
 have Ny441 := Aside0.mk hy441
 clear hy441
 by_cases c26 : x7_2 < (l0.length : Int)
 {
 rw [if_pos c26] at H
 have c26b0 : decide (x7_2 < (l0.length : Int)) = true := decide_eq_true c26
 clear c26
 have H' := Aside0.mk H
 clear H
 obtain ⟨Ao27, co27, eo27⟩ := Kd.R_slice HO_4.out
 subst eo27
 have p436 : 0 ≤ (x7_2 : Int) := dX
 have q436 : x7_2 < (x4_2.length : Int) := dX
 obtain ⟨ad436, e436, hx436_0⟩ := Kd.at_bool (Kd.R_reads' HO_4.out).2.2 x7_2 p436 q436
 (try rw [← Nbq15.out] at hx436_0)
 cases e436
 replace p436 := eq_true p436
 replace q436 := eq_true q436
 have p24 : 0 ≤ (x7_2 : Int) := dX
 have q24 : (x7_2 : Int) < ((x4_2.length : Int) : Int) := dX
 obtain ⟨go24, co24, eo24, gb24, gl24, cl24, HG24⟩ := Kd.R_form HO_4.out (by omega)
 (first | cases eo24 | (injection eo24 with ea_ en_ ec_; (first | subst ea_ | (injection ea_ with ea_; subst ea_)); subst ec_; clear en_))
 have GB24 := Aside0.mk gb24
 have GG24 := Aside0.mk HG24
 clear gb24 gl24 HG24
 (first | simp only [add_plain] at hx436_0 | skip)
 obtain ⟨hx24_0, hf24_0⟩ := Kd.R_celln false HO_4.out (x7_2 : Int) p24 q24
 replace p24 := eq_true p24
 replace q24 := eq_true q24
 have HP28 := Kd.R_putg HO_4.out (x7_2 : Int) true
 go_wp2_with (first | ((with_reducible refine gate_store (t := 4) (p := 33) rfl ?_); refine store_event (t := 4) (p := 33) (v := ?vo_w29) (w1 := (wr.setCell ⟨go24, (x7_2 : Int).toNat, none⟩ (.bool true))) ?hg ?ho ?hn ?hr ?_; (case ho => rfl); (case hg => rfl); (case hn => rfl); (case hr => first | (go_simp; done) | (go_simp; rfl)); intro w29 hw; have hg : wr.grownBy w29 (some go24) := (by rw [hw]; exact HP28.2); have hp_ : Kd.R Kd.bool 4 w29 w.heap.size (fun _ => True) (.slice (some ⟨go24, 0, none⟩) x4_2.length co27) y440 := (by rw [hw, Ny440.out]; exact HP28.1); clear HP28; have n0_ := Aside0.mk (Kd.S_over' (v := (.slice (some ⟨go24, 0, none⟩) x4_2.length co27)) (by (with_reducible repeat (first | apply Kd.S_alloc | apply Kd.S_drewN | apply Kd.S_drew)); exact HO_3.out) (Kd.R_typed HO_4.out) (by decide) hg); have n1_ := Aside0.mk (hp_); have n2_ := Aside0.mk (Kd.R_over' (v := (.slice (some ⟨go24, 0, none⟩) x4_2.length co27)) (rX HO_6.out) (Kd.R_typed HO_4.out) (by decide) hg); have n3_ := Aside0.mk ((by rw [hw]; exact below_set (HB.out) GB24.out : Below w.heap.size w w29)); clear HO_3 HO_4 HO_6 HB; have HO_3 := n0_; have HO_4 := n1_; have HO_6 := n2_; have HB := n3_; clear n0_ n1_ n2_ n3_ hg hw hp_) | ((with_reducible refine gate_builtin (b := .append) (xs := #[.tmp 34, .tmp 36]) rfl ?_); at_builtin; refine Kd.R_append (Kd.int .i64) (w0 := w) w.heap.size rfl (.tmp 34) (.tmp 36) 23 3 (.int .i64 0) 8 rfl Tryz.underlying23 info3 rfl (by decide) (by omega) u6 x6_2 x7_2 [.int .i64 x7_2] (fun _ => True) (fun _ => False) rfl rfl ?aP (fun _ hk => hk.elim) ?aF ?aO ?aB ?aS ?aL ?_; (case aP => exact rfl); (case aB => exact (bX HB.out)); (case aF => exact (fun _ _ => trivial)); (case aO => exact (rX HO_6.out)); (case aS => exact (below_size (bX HB.out))); (case aL => have := LMc25.out; omega); intro v442 w30 ho hb hg hat; rw [← Ny441.out] at ho; have n0_ := Aside0.mk (Kd.S_after (ok := (fun _ => True)) (by (with_reducible repeat (first | apply Kd.S_alloc | apply Kd.S_drewN | apply Kd.S_drew)); exact Kd.S_mono HO_3.out (fun _ hk => ⟨trivial, hk⟩)) hg hat); have n1_ := Aside0.mk (Kd.R_over' (rX HO_4.out) (Kd.R_typed (rX HO_6.out)) (by decide) hg); have n2_ := Aside0.mk (hb); have n3_ := Aside0.mk (ho); clear HO_3 HO_4 HB HO_6; have HO_3 := n0_; have HO_4 := n1_; have HB := n2_; have HO443 := n3_; clear n0_ n1_ n2_ n3_ ho hb hg hat; have p444 : 0 ≤ (x7_2 : Int) := dX; have q444 : x7_2 < (l0.length : Int) := dX; obtain ⟨ad444, e444, hx444_0⟩ := Kd.at_int HR0.out x7_2 p444 q444; cases e444; replace hx444_0 := (HB.out.cell (World.block_lt_of_cell? w _ hx444_0)).trans hx444_0; replace p444 := eq_true p444; replace q444 := eq_true q444))
 go_roundg k2
 case measure => have := HK1.out; have := HK2.out; omega
 case rel => exact ⟨(y440), (y441), (rd l0 x7_2), vX, H', ⟨by have := HK1.out; have := HK2.out; omega⟩, ⟨by (with_reducible repeat (first | apply Kd.S_alloc | apply Kd.S_drewN | apply Kd.S_drew)); exact Kd.S_mono HO_3.out (fun _ hk => hk.2)⟩, ⟨rX HO_4.out⟩, ⟨rX HO443.out⟩, ⟨bX HB.out⟩⟩
 }
 {
 rw [if_neg c26] at H
 exact absurd H (by simp)
 }
 }
 {
 rw [if_neg c25] at H
 exact absurd H (by simp)
 }
 }
 }
 {
 rw [if_neg c14] at H
 exact absurd H (by simp)
 }
 }
 {
 rw [if_neg c13] at H
 exact absurd H (by simp)
 }
 }
 {
 rw [if_neg c10] at H
 have c10b0 : decide (x17_1 < (l0.length : Int)) = false := decide_eq_false c10
 clear c10
 obtain rfl := Option.some.inj H
 go_wp2
 go_ret
 exact ⟨_, eX, by (with_reducible repeat (first | apply Kd.S_alloc | apply Kd.S_drewN | apply Kd.S_drew)); exact HO_3.out, bX HB.out⟩
 }
 }
 {
 rw [if_neg c5] at H
 exact absurd H (by simp)
 }
 }
 {
 rw [if_neg c4] at H
 exact absurd H (by simp)
 }
 }
 {
 replace c3 := Bool.eq_false_iff.mpr c3
 subst c3
 have H1 : (some ([] : List (List Int))) = some r := by rw [if_neg (show ¬ (false = true) by decide)] at H; exact H
 clear H
 have H := H1
 clear H1
 obtain rfl := Option.some.inj H
 go_enter Tryz.func127, Tryz.ntmps127
 go_wp2_with (first | ((with_reducible refine gate_callee (f := 120) rfl ?_); refine goesL_ (some 9) rfl rfl Tryz.func120 (by kernel_rfl) rfl #[.slice A0 l0.length c0] rfl aX ?_; (with_reducible refine (spec_PermOk.calls _ _ l0 false _ ?side1 ?side2 A2.out).mono ?_); (case side1 => exact cX HR0.out); (case side2 => exact HC0.out); rintro e w' ⟨rfl, ⟨nd, rfl⟩⟩; refine ⟨_, rfl, ?_⟩))
 go_ret
 exact ⟨_, eX, by first | exact Kd.S_nil _ _ _ _ _ | exact Kd.N_nil _ _ _ _ _ | exact Kd.V_nil _ _ _ _ _ | exact Kd.Q_nil _ _ _ _ _ | exact Kd.R_nil _ _ _ _ _, bX HB.out⟩
 }

/-! ### spec_l02Then: function 69 -/
def spec_l02Then.l0 : Nat → List Int → List Int → List Int → Int → Int → Option (List Int)
 | 0, _, _, _, _, _ => none
 | k + 1, x1, x5, x9, x10, x11 => if x11 < x10 then (if 0 ≤ x11 then (if x11 < (x9.length : Int) then (if 0 ≤ (rd x9 x11) then (if (rd x9 x11) < (x1.length : Int) then (if x5.length < 17592186044416 then (spec_l02Then.l0 k x1 (x5 ++ [rd x1 (rd x9 x11)]) x9 x10 (wrap64 (x11 + 1))) else (none)) else (none)) else (none)) else (none)) else (none)) else (some x5)
def spec_l02Then.f (k : Nat) (l0 : List Int) (l1 : List Int) : Option (List Int) := spec_l02Then.l0 k l1 (([] : List Int)) l0 (l0.length : Int) 0
set_option maxHeartbeats 8000000 in
set_option maxRecDepth 100000 in
theorem spec_l02Then.calls (k : Nat) (A0 : Option Addr) (c0 : Nat) (l0 : List Int) (A1 : Option Addr) (c1 : Nat) (l1 : List Int) (r : List Int) (w : World) (hr0 : Kd.C (Kd.int .i64) w A0 l0.length l0) (hc0 : l0.length ≤ c0) (hr1 : Kd.C (Kd.int .i64) w A1 l1.length l1) (hc1 : l1.length ≤ c1) (h : spec_l02Then.f k l0 l1 = some r) :
  Calls Tryz.prog 69 #[.slice A0 l0.length c0, .slice A1 l1.length c1] w fun e w' => ∃ v0_ : Value, e = .returned (v0_) ∧ Kd.R (Kd.int .i64) 3 w' w.heap.size (fun _ => True) v0_ r ∧ Below w.heap.size w w' := by
 have HR0 := Aside0.mk hr0
 have HC0 := Aside0.mk hc0
 clear hr0 hc0
 have HR1 := Aside0.mk hr1
 have HC1 := Aside0.mk hc1
 clear hr1 hc1
 have HB := Aside0.mk (Below.refl w.heap.size w)
 have H : (spec_l02Then.l0 k l1 (([] : List Int)) l0 (l0.length : Int) 0) = some r := h
 clear h
 obtain ⟨y445, hy445⟩ : ∃ y_ : List Int, y_ = (([] : List Int)) := ⟨_, rfl⟩
 replace H : (spec_l02Then.l0 k l1 y445 l0 (l0.length : Int) 0) = some r := by first | (rw [hy445]; with_reducible exact H) | (have H2_ := (Option.bind_some _ _).symm.trans H; rw [hy445]; with_reducible exact H2_) | (have H2_ := (Option.bind_some _ _).symm.trans H; with_reducible exact H2_) | with_reducible exact H | (rw [hy445]; exact H) | exact H
 have Ny445 := Aside0.mk hy445
 clear hy445
 have H' := Aside0.mk H
 clear H
 go_enter Tryz.func69, Tryz.ntmps69
 go_wp2_with (first | ((with_reducible refine gate_dst (N := 8) rfl ?_); refine Kd.R_lit (Kd.int .i64) _ 3 ?hg (N := 8) ?hd (xs := ([] : List Int)) (inner := []) (ok := fun _ => True) (okp := fun _ => True) ?hr ?hp (fun _ hk => hk) trivial (Below.refl _ _) (Nat.le_refl _) (by simp) ?_; (case hd => rfl); (case hg => rfl); (case hr => first | (go_simp; done) | (go_simp; rfl)); (case hp => exact (Reps.none _ _)); intro v446 w3 ho4 hb hg_ hnew_; clear hg_ hnew_; (first | rw [← Ny445.out] at ho4 | (simp only [Int.reduceToNat] at ho4; rw [← Ny445.out] at ho4)); have n0_ := Aside0.mk (Kd.R_lower ho4 (below_size (bX HB.out))); have n1_ := Aside0.mk (below_step (bX HB.out) hb); clear HB; have HO447 := n0_; have HB := n1_; clear n0_ n1_ hb ho4))
 go_loopg [5, 11] k (fun kq v5 v11 w' => ∃ (x5_1 : List Int) (x11_1 : Int), v11 = .int .i64 x11_1 ∧ Aside0 (spec_l02Then.l0 kq l1 x5_1 l0 (l0.length : Int) x11_1 = some r) ∧ Aside0 (kq ≤ k) ∧ Aside0 (Kd.R (Kd.int .i64) 3 w' w.heap.size (fun _ => True) v5 x5_1) ∧ Aside0 (Below w.heap.size w w'))
 case atStart => exact ⟨(y445), (0), vX, H', ⟨Nat.le_refl _⟩, ⟨rX HO447.out⟩, ⟨bX HB.out⟩⟩
 case round =>
 clear H'
 try clear c1
 try clear p2
 obtain ⟨x5_1, x11_1, rfl, HA, HK1, HO_5, HB⟩ := hrel
 cases gk with
 | zero => exact absurd HA.out (by simp [spec_l02Then.l0])
 | succ k1 =>
 have H := HA.out
 clear HA
 simp only [spec_l02Then.l0] at H
 by_cases c5 : x11_1 < (l0.length : Int)
 {
 rw [if_pos c5] at H
 have c5b0 : decide (x11_1 < (l0.length : Int)) = true := decide_eq_true c5
 clear c5
 by_cases c6 : 0 ≤ x11_1
 {
 rw [if_pos c6] at H
 have c6b0 : decide (0 ≤ x11_1) = true := decide_eq_true c6
 clear c6
 by_cases c7 : x11_1 < (l0.length : Int)
 {
 rw [if_pos c7] at H
 have c7b0 : decide (x11_1 < (l0.length : Int)) = true := decide_eq_true c7
 clear c7
 by_cases c8 : 0 ≤ (rd l0 x11_1)
 {
 rw [if_pos c8] at H
 have c8b0 : decide (0 ≤ (rd l0 x11_1)) = true := decide_eq_true c8
 clear c8
 by_cases c9 : (rd l0 x11_1) < (l1.length : Int)
 {
 rw [if_pos c9] at H
 have c9b0 : decide ((rd l0 x11_1) < (l1.length : Int)) = true := decide_eq_true c9
 clear c9
 by_cases c10 : x5_1.length < 17592186044416
 {
 rw [if_pos c10] at H
 have LMc10 := Aside0.mk c10
 clear c10
 obtain ⟨y450, hy450⟩ : ∃ y_ : List Int, y_ = (x5_1 ++ [rd l1 (rd l0 x11_1)]) := ⟨_, rfl⟩
 replace H : (spec_l02Then.l0 k1 l1 y450 l0 (l0.length : Int) (wrap64 (x11_1 + 1))) = some r := by first | (rw [hy450]; with_reducible exact H) | (have H2_ := (Option.bind_some _ _).symm.trans H; rw [hy450]; with_reducible exact H2_) | (have H2_ := (Option.bind_some _ _).symm.trans H; with_reducible exact H2_) | with_reducible exact H | (rw [hy450]; exact H) | exact H
 have Ny450 := Aside0.mk hy450
 clear hy450
 have H' := Aside0.mk H
 clear H
 have p448 : 0 ≤ (x11_1 : Int) := dX
 have q448 : x11_1 < (l0.length : Int) := dX
 obtain ⟨ad448, e448, hx448_0⟩ := Kd.at_int HR0.out x11_1 p448 q448
 cases e448
 replace hx448_0 := (HB.out.cell (World.block_lt_of_cell? w _ hx448_0)).trans hx448_0
 replace p448 := eq_true p448
 replace q448 := eq_true q448
 have p449 : 0 ≤ ((rd l0 x11_1) : Int) := dX
 have q449 : (rd l0 x11_1) < (l1.length : Int) := dX
 obtain ⟨ad449, e449, hx449_0⟩ := Kd.at_int HR1.out (rd l0 x11_1) p449 q449
 cases e449
 replace hx449_0 := (HB.out.cell (World.block_lt_of_cell? w _ hx449_0)).trans hx449_0
 replace p449 := eq_true p449
 replace q449 := eq_true q449
 go_wp2_with (first | ((with_reducible refine gate_builtin (b := .append) (xs := #[.tmp 15, .tmp 20]) rfl ?_); at_builtin; refine Kd.R_append (Kd.int .i64) (w0 := w) w.heap.size rfl (.tmp 15) (.tmp 20) 23 3 (.int .i64 0) 8 rfl Tryz.underlying23 info3 rfl (by decide) (by omega) u5 x5_1 (rd l1 (rd l0 x11_1)) [.int .i64 (rd l1 (rd l0 x11_1))] (fun _ => True) (fun _ => False) rfl rfl ?aP (fun _ hk => hk.elim) ?aF ?aO ?aB ?aS ?aL ?_; (case aP => exact rfl); (case aB => exact (bX HB.out)); (case aF => exact (fun _ _ => trivial)); (case aO => exact (rX HO_5.out)); (case aS => exact (below_size (bX HB.out))); (case aL => have := LMc10.out; omega); intro v451 w11 ho hb hg hat; rw [← Ny450.out] at ho; have n0_ := Aside0.mk (hb); have n1_ := Aside0.mk (ho); clear HB HO_5; have HB := n0_; have HO452 := n1_; clear n0_ n1_ ho hb hg hat))
 go_roundg k1
 case measure => have := HK1.out; omega
 case rel => exact ⟨(y450), (wrap64 (x11_1 + 1)), vX, H', ⟨by have := HK1.out; omega⟩, ⟨rX HO452.out⟩, ⟨bX HB.out⟩⟩
 }
 {
 rw [if_neg c10] at H
 exact absurd H (by simp)
 }
 }
 {
 rw [if_neg c9] at H
 exact absurd H (by simp)
 }
 }
 {
 rw [if_neg c8] at H
 exact absurd H (by simp)
 }
 }
 {
 rw [if_neg c7] at H
 exact absurd H (by simp)
 }
 }
 {
 rw [if_neg c6] at H
 exact absurd H (by simp)
 }
 }
 {
 rw [if_neg c5] at H
 have c5b0 : decide (x11_1 < (l0.length : Int)) = false := decide_eq_false c5
 clear c5
 obtain rfl := Option.some.inj H
 go_wp2
 go_ret
 exact ⟨_, eX, by (with_reducible repeat (first|apply rA|apply rN|apply rD)); exact HO_5.out, bX HB.out⟩
 }

/-! ### spec_l02Inverse: function 70 -/
def spec_l02Inverse.l0 : Nat → List Int → List Int → Int → Int → Option (List Int)
 | 0, _, _, _, _ => none
 | k + 1, x3, x9, x10, x11 => if x11 < x10 then (if 0 ≤ x11 then (if x11 < (x9.length : Int) then (if 0 ≤ (rd x9 x11) then (if (rd x9 x11) < (x3.length : Int) then (spec_l02Inverse.l0 k (x3.set ((rd x9 x11) : Int).toNat x11) x9 x10 (wrap64 (x11 + 1))) else (none)) else (none)) else (none)) else (none)) else (some x3)
def spec_l02Inverse.f (k : Nat) (l0 : List Int) : Option (List Int) := if 0 ≤ (l0.length : Int) then (if ((l0.length : Int) : Int).toNat ≤ 35184372088832 then (spec_l02Inverse.l0 k (List.replicate ((l0.length : Int) : Int).toNat 0) l0 (l0.length : Int) 0) else (none)) else (none)
set_option maxHeartbeats 8000000 in
set_option maxRecDepth 100000 in
theorem spec_l02Inverse.calls (k : Nat) (A0 : Option Addr) (c0 : Nat) (l0 : List Int) (r : List Int) (w : World) (hr0 : Kd.C (Kd.int .i64) w A0 l0.length l0) (hc0 : l0.length ≤ c0) (h : spec_l02Inverse.f k l0 = some r) :
  Calls Tryz.prog 70 #[.slice A0 l0.length c0] w fun e w' => ∃ v0_ : Value, e = .returned (v0_) ∧ Kd.R (Kd.int .i64) 3 w' w.heap.size (fun _ => True) v0_ r ∧ Below w.heap.size w w' := by
 have HR0 := Aside0.mk hr0
 have HC0 := Aside0.mk hc0
 clear hr0 hc0
 have HB := Aside0.mk (Below.refl w.heap.size w)
 have H : (if 0 ≤ (l0.length : Int) then (if ((l0.length : Int) : Int).toNat ≤ 35184372088832 then (spec_l02Inverse.l0 k (List.replicate ((l0.length : Int) : Int).toNat 0) l0 (l0.length : Int) 0) else (none)) else (none)) = some r := h
 clear h
 by_cases c2 : 0 ≤ (l0.length : Int)
 {
 rw [if_pos c2] at H
 have c2b0 := eq_true c2
 have c2b1 : decide (0 ≤ (l0.length : Int)) = true := decide_eq_true c2
 clear c2
 by_cases c3 : ((l0.length : Int) : Int).toNat ≤ 35184372088832
 {
 rw [if_pos c3] at H
 have c3b0 := eq_true c3
 have c3b1 : decide (((l0.length : Int) : Int).toNat ≤ 35184372088832) = true := decide_eq_true c3
 clear c3
 obtain ⟨y453, hy453⟩ : ∃ y_ : List Int, y_ = (List.replicate ((l0.length : Int) : Int).toNat 0) := ⟨_, rfl⟩
 replace H : (spec_l02Inverse.l0 k y453 l0 (l0.length : Int) 0) = some r := by first | (rw [hy453]; with_reducible exact H) | (have H2_ := (Option.bind_some _ _).symm.trans H; rw [hy453]; with_reducible exact H2_) | (have H2_ := (Option.bind_some _ _).symm.trans H; with_reducible exact H2_) | with_reducible exact H | (rw [hy453]; exact H) | exact H
 have Ny453 := Aside0.mk hy453
 clear hy453
 have H' := Aside0.mk H
 clear H
 go_enter Tryz.func70, Tryz.ntmps70
 go_wp2_with (first | ((with_reducible refine gate_dst (N := 8) rfl ?_); refine Kd.R_make (Kd.int .i64) _ 3 rfl (N := 8) rfl 23 _ _ rfl (l0.length : Int) rfl rfl Tryz.underlying23 (.int .i64 0) 8 info3 rfl (by decide) (by omega) 0 (ok := fun _ => True) (okp := fun _ => True) rfl (fun _ hk => hk) trivial (dX) (Nat.le_trans (Nat.mul_le_mul_right _ (dX : (l0.length : Int).toNat ≤ 35184372088832)) (by omega)) (Below.refl _ _) (Nat.le_refl _) ?_; intro v454 w4 ho5 hb hg_ hnew_; clear hg_ hnew_; (first | rw [← Ny453.out] at ho5 | (simp only [Int.reduceToNat] at ho5; rw [← Ny453.out] at ho5)); have n0_ := Aside0.mk (Kd.R_lower ho5 (below_size (bX HB.out))); have n1_ := Aside0.mk (below_step (bX HB.out) hb); clear HB; have HO455 := n0_; have HB := n1_; clear n0_ n1_ hb ho5))
 go_loopg [11] k (fun kq v11 w' => ∃ (x3_1 : List Int) (x11_1 : Int), v11 = .int .i64 x11_1 ∧ Aside0 (spec_l02Inverse.l0 kq x3_1 l0 (l0.length : Int) x11_1 = some r) ∧ Aside0 (kq ≤ k) ∧ Aside0 (Kd.R (Kd.int .i64) 3 w' w.heap.size (fun _ => True) v454 x3_1) ∧ Aside0 (Below w.heap.size w w'))
 case atStart => exact ⟨(y453), (0), vX, H', ⟨Nat.le_refl _⟩, ⟨rX HO455.out⟩, ⟨bX HB.out⟩⟩
 case round =>
 clear H'
 try clear c2
 try clear c2b0
 try clear c2b1
 try clear p2
 try clear c3
 try clear c3b0
 try clear c3b1
 obtain ⟨x3_1, x11_1, rfl, HA, HK1, HO_3, HB⟩ := hrel
 cases gk with
 | zero => exact absurd HA.out (by simp [spec_l02Inverse.l0])
 | succ k1 =>
 have H := HA.out
 clear HA
 simp only [spec_l02Inverse.l0] at H
 by_cases c6 : x11_1 < (l0.length : Int)
 {
 rw [if_pos c6] at H
 have c6b0 : decide (x11_1 < (l0.length : Int)) = true := decide_eq_true c6
 clear c6
 by_cases c7 : 0 ≤ x11_1
 {
 rw [if_pos c7] at H
 have c7b0 : decide (0 ≤ x11_1) = true := decide_eq_true c7
 clear c7
 by_cases c8 : x11_1 < (l0.length : Int)
 {
 rw [if_pos c8] at H
 have c8b0 : decide (x11_1 < (l0.length : Int)) = true := decide_eq_true c8
 clear c8
 by_cases c9 : 0 ≤ (rd l0 x11_1)
 {
 rw [if_pos c9] at H
 have c9b0 : decide (0 ≤ (rd l0 x11_1)) = true := decide_eq_true c9
 clear c9
 by_cases c10 : (rd l0 x11_1) < (x3_1.length : Int)
 {
 rw [if_pos c10] at H
 have c10b0 : decide ((rd l0 x11_1) < (x3_1.length : Int)) = true := decide_eq_true c10
 clear c10
 obtain ⟨y457, hy457⟩ : ∃ y_ : List Int, y_ = (x3_1.set ((rd l0 x11_1) : Int).toNat x11_1) := ⟨_, rfl⟩
 replace H : (spec_l02Inverse.l0 k1 y457 l0 (l0.length : Int) (wrap64 (x11_1 + 1))) = some r := by first | (rw [hy457]; with_reducible exact H) | (have H2_ := (Option.bind_some _ _).symm.trans H; rw [hy457]; with_reducible exact H2_) | (have H2_ := (Option.bind_some _ _).symm.trans H; with_reducible exact H2_) | with_reducible exact H | (rw [hy457]; exact H) | exact H
 have Ny457 := Aside0.mk hy457
 clear hy457
 have H' := Aside0.mk H
 clear H
 have p456 : 0 ≤ (x11_1 : Int) := dX
 have q456 : x11_1 < (l0.length : Int) := dX
 obtain ⟨ad456, e456, hx456_0⟩ := Kd.at_int HR0.out x11_1 p456 q456
 cases e456
 replace hx456_0 := (HB.out.cell (World.block_lt_of_cell? w _ hx456_0)).trans hx456_0
 replace p456 := eq_true p456
 replace q456 := eq_true q456
 have p11 : 0 ≤ ((rd l0 x11_1) : Int) := dX
 have q11 : ((rd l0 x11_1) : Int) < ((x3_1.length : Int) : Int) := dX
 obtain ⟨go11, co11, eo11, gb11, gl11, cl11, HG11⟩ := Kd.R_form HO_3.out (by omega)
 (first | cases eo11 | (injection eo11 with ea_ en_ ec_; (first | subst ea_ | (injection ea_ with ea_; subst ea_)); subst ec_; clear en_))
 have GB11 := Aside0.mk gb11
 have GG11 := Aside0.mk HG11
 clear gb11 gl11 HG11
 obtain ⟨hx11_0, hf11_0⟩ := Kd.R_celln 0 HO_3.out ((rd l0 x11_1) : Int) p11 q11
 replace p11 := eq_true p11
 replace q11 := eq_true q11
 have HP12 := Kd.R_putg HO_3.out ((rd l0 x11_1) : Int) x11_1
 go_wp2_with (first | ((with_reducible refine gate_store (t := 3) (p := 19) rfl ?_); refine store_event (t := 3) (p := 19) (v := ?vo_w13) (w1 := (wr.setCell ⟨go11, ((rd l0 x11_1) : Int).toNat, none⟩ (.int .i64 x11_1))) ?hg ?ho ?hn ?hr ?_; (case ho => rfl); (case hg => rfl); (case hn => rfl); (case hr => first | (go_simp; done) | (go_simp; rfl)); intro w13 hw; have hg : wr.grownBy w13 (some go11) := (by rw [hw]; exact HP12.2); have hp_ : Kd.R (Kd.int .i64) 3 w13 w.heap.size (fun _ => True) (.slice (some ⟨go11, 0, none⟩) x3_1.length co11) y457 := (by rw [hw, Ny457.out]; exact HP12.1); clear HP12; have n0_ := Aside0.mk (hp_); have n1_ := Aside0.mk ((by rw [hw]; exact below_set (HB.out) GB11.out : Below w.heap.size w w13)); clear HO_3 HB; have HO_3 := n0_; have HB := n1_; clear n0_ n1_ hg hw hp_))
 go_roundg k1
 case measure => have := HK1.out; omega
 case rel => exact ⟨(y457), (wrap64 (x11_1 + 1)), vX, H', ⟨by have := HK1.out; omega⟩, ⟨rX HO_3.out⟩, ⟨bX HB.out⟩⟩
 }
 {
 rw [if_neg c10] at H
 exact absurd H (by simp)
 }
 }
 {
 rw [if_neg c9] at H
 exact absurd H (by simp)
 }
 }
 {
 rw [if_neg c8] at H
 exact absurd H (by simp)
 }
 }
 {
 rw [if_neg c7] at H
 exact absurd H (by simp)
 }
 }
 {
 rw [if_neg c6] at H
 have c6b0 : decide (x11_1 < (l0.length : Int)) = false := decide_eq_false c6
 clear c6
 obtain rfl := Option.some.inj H
 go_wp2
 go_ret
 exact ⟨_, eX, by (with_reducible repeat (first|apply rA|apply rN|apply rD)); exact HO_3.out, bX HB.out⟩
 }
 }
 {
 rw [if_neg c3] at H
 exact absurd H (by simp)
 }
 }
 {
 rw [if_neg c2] at H
 exact absurd H (by simp)
 }

/-! ### spec_l04Around: function 128 -/
def spec_l04Around.f (k : Nat) (l0_0 : List Int) (l0_1 : List Int) : Option (List Int) := (spec_l02Then.f k l0_0 l0_1).bind fun t459 => ((spec_l02Inverse.f k l0_0).bind fun t462 => ((spec_l02Inverse.f k l0_1).bind fun t465 => ((spec_l02Then.f k t462 t465).bind fun t468 => ((spec_l02Then.f k t459 t468).bind fun t471 => (some t471)))))
def spec_l04Around.T2 : Bool × List (List Nat × List Nat) := (true, [([], []), ([0], [0]), ([1], [1]), ([], []), ([3], [3]), ([4, 2], [4]), ([2, 5, 5], [2, 5]), ([6, 6, 0, 1, 2, 3, 4, 5, 6], [6])])
def spec_l04Around.B2 : List Nat := [0, 1, 3, 0, 8, 31, 63, 127]
theorem spec_l04Around.tab2 : rtab .any (opsOf Tryz.f128 2) = spec_l04Around.T2 := by kernel_rfl
theorem spec_l04Around.bits2 : waitsOk spec_l04Around.T2.2 spec_l04Around.B2 = true := by kernel_rfl
set_option maxHeartbeats 8000000 in
set_option maxRecDepth 100000 in
theorem spec_l04Around.calls (k : Nat) (A0_0 : Option Addr) (c0_0 : Nat) (l0_0 : List Int) (A0_1 : Option Addr) (c0_1 : Nat) (l0_1 : List Int) (r : List Int) (w : World) (hr0_0 : Kd.C (Kd.int .i64) w A0_0 l0_0.length l0_0) (hc0_0 : l0_0.length ≤ c0_0) (hr0_1 : Kd.C (Kd.int .i64) w A0_1 l0_1.length l0_1) (hc0_1 : l0_1.length ≤ c0_1) (h : spec_l04Around.f k l0_0 l0_1 = some r) :
  Calls Tryz.prog 128 #[.agg #[.slice A0_0 l0_0.length c0_0, .slice A0_1 l0_1.length c0_1]] w fun e w' => ∃ v0_ : Value, e = .returned (v0_) ∧ Kd.R (Kd.int .i64) 3 w' w.heap.size (fun _ => True) v0_ r ∧ Below w.heap.size w w' := by
 have hu25 := Tryz.underlying25
 have HR0_0 := Aside0.mk hr0_0
 have HC0_0 := Aside0.mk hc0_0
 clear hr0_0 hc0_0
 have HR0_1 := Aside0.mk hr0_1
 have HC0_1 := Aside0.mk hc0_1
 clear hr0_1 hc0_1
 have HB := Aside0.mk (Below.refl w.heap.size w)
 have H : ((spec_l02Then.f k l0_0 l0_1).bind fun t459 => ((spec_l02Inverse.f k l0_0).bind fun t462 => ((spec_l02Inverse.f k l0_1).bind fun t465 => ((spec_l02Then.f k t462 t465).bind fun t468 => ((spec_l02Then.f k t459 t468).bind fun t471 => (some t471)))))) = some r := h
 clear h
 replace H := Option.bind_eq_some_iff.mp H
 obtain ⟨t459, A20, H⟩ := H
 replace H : ((spec_l02Inverse.f k l0_0).bind fun t462 => ((spec_l02Inverse.f k l0_1).bind fun t465 => ((spec_l02Then.f k t462 t465).bind fun t468 => ((spec_l02Then.f k t459 t468).bind fun t471 => (some t471))))) = some r := H
 have A2 := Aside0.mk A20
 clear A20
 replace H := Option.bind_eq_some_iff.mp H
 obtain ⟨t462, A30, H⟩ := H
 replace H : ((spec_l02Inverse.f k l0_1).bind fun t465 => ((spec_l02Then.f k t462 t465).bind fun t468 => ((spec_l02Then.f k t459 t468).bind fun t471 => (some t471)))) = some r := H
 have A3 := Aside0.mk A30
 clear A30
 replace H := Option.bind_eq_some_iff.mp H
 obtain ⟨t465, A40, H⟩ := H
 replace H : ((spec_l02Then.f k t462 t465).bind fun t468 => ((spec_l02Then.f k t459 t468).bind fun t471 => (some t471))) = some r := H
 have A4 := Aside0.mk A40
 clear A40
 replace H := Option.bind_eq_some_iff.mp H
 obtain ⟨t468, A50, H⟩ := H
 replace H : ((spec_l02Then.f k t459 t468).bind fun t471 => (some t471)) = some r := H
 have A5 := Aside0.mk A50
 clear A50
 replace H := Option.bind_eq_some_iff.mp H
 obtain ⟨t471, A60, H⟩ := H
 replace H : (some t471) = some r := H
 have A6 := Aside0.mk A60
 clear A60
 obtain rfl := Option.some.inj H
 go_enter Tryz.func128, Tryz.ntmps128
 try go_wp2_with (first | ((with_reducible refine gate_dst (N := 1) rfl ?_); refine box_event ?hg (N := 1) ?hd (cs := #[.slice A0_0 l0_0.length c0_0, .slice A0_1 l0_1.length c0_1]) (t := 25) ?hr ?_; (case hd => rfl); (case hg => rfl); (case hr => first | (go_simp; done) | (go_simp; rfl)); intro gb458 hg w7 hbox hb; have n0_ := Aside0.mk (below_step (bX HB.out) hb); have n1_ := Aside0.mk (hbox); have n2_ := Aside0.mk ((szX (below_size (bX HB.out)) hg : w.heap.size ≤ gb458)); have n3_ := Aside0.mk ((szX (below_size (bX HB.out)) hg : w.heap.size ≤ gb458)); clear HB; have HB := n0_; have BK458 := n1_; have GW458 := n2_; have GE458 := n3_; clear n0_ n1_ n2_ n3_ hb hbox hg; have hcz8_0 := cz20 BK458.out; have hcz8_1 := cz21 BK458.out; have hfz8_0 := blk_frozen BK458.out 0; have hfz8_1 := blk_frozen BK458.out 1) | ((with_reducible refine gate_callee (f := 69) rfl ?_); refine goesL_ (some 9) rfl rfl Tryz.func69 (by kernel_rfl) rfl #[.slice A0_0 l0_0.length c0_0, .slice A0_1 l0_1.length c0_1] rfl aX ?_; (with_reducible refine (spec_l02Then.calls k _ _ l0_0 _ _ l0_1 t459 _ ?side1 ?side2 ?side3 ?side4 A2.out).mono ?_); (case side1 => exact cX (Kd.C_below HR0_0.out HB.out)); (case side2 => exact HC0_0.out); (case side3 => exact cX (Kd.C_below HR0_1.out HB.out)); (case side4 => exact HC0_1.out); rintro e w9 ⟨v460, rfl, ho0, hb⟩; refine ⟨_, rfl, ?_⟩; have n0_ := Aside0.mk (Kd.R_lower ho0 (below_size (bX1 HB.out GE458.out))); have n1_ := Aside0.mk (bbX BK458.out hb); have n2_ := Aside0.mk (below_step (bX1 HB.out GE458.out) hb); clear BK458 HB; have HO461 := n0_; have BK458 := n1_; have HB := n2_; clear n0_ n1_ n2_; (try clear hb); (try clear hb2); (try clear hk); (try clear hi); (try clear ho0)))
 have n0_ := Aside0.mk (Kd.R_drew HO461.out)
 have n1_ := Aside0.mk (blk_drew BK458.out)
 have n2_ := Aside0.mk (below_drew1 HB.out)
 clear HO461 BK458 HB
 have HO461 := n0_
 have BK458 := n1_
 have HB := n2_
 clear n0_ n1_ n2_
 refine start_ (n := 8) (S := fun w' => w'.cell? ⟨gb458, 0, none⟩ = some (.slice A0_0 l0_0.length c0_0) ∧ w'.cell? ⟨gb458, 1, none⟩ = some (.slice A0_1 l0_1.length c0_1)) (ds := []) #[ff,ff,ff,ff,ff,ff,ff,ff] (by kernel_rfl) rfl rfl ⟨cz20 BK458.out, cz21 BK458.out⟩ (fun hHeld => ?_); refine with_tabW spec_l04Around.tab2 spec_l04Around.bits2 (fun HT_ HW_ => ?_)
 generalize w9.drew = w10 at HO461 BK458 HB hHeld ⊢
 refine pX 0 10 (fl 8 1) rfl rfl HT_.out ?_
 refine pX 3 13 (fl 8 9) rfl rfl HT_.out ?_
 refine tX2 1 11 (fl 8 11) rfl rfl HT_.out HW_.out hHeld ?_
 refine tX2 4 14 (fl 8 27) rfl rfl HT_.out HW_.out hHeld ?_
 refine one_ (i := 2) (N := some 12) #[tt,tt,tt,tt,tt,ff,ff,ff] rfl rfl (one_of HT_.out (by kernel_rfl)) (by decide) (fun K hK => ?_)
 refine goes_ Tryz.func70 (by kernel_rfl) rfl #[.slice A0_0 l0_0.length c0_0] (by rfl) rfl rfl aX ?_
 with_reducible refine (spec_l02Inverse.calls k _ _ l0_0 t462 _ ?side1 ?side2 A3.out).mono ?_
 (case side1 => exact cX (Kd.C_below HR0_0.out HB.out))
 (case side2 => exact HC0_0.out)
 rintro e w11 ⟨v463, rfl, ho0, hb⟩
 refine ⟨_, rfl, ?_⟩
 have n0_ := Aside0.mk (Kd.R_elder' (rX HO461.out) (Kd.R_base ho0) hb)
 have n1_ := Aside0.mk (Kd.R_lower (Kd.R_new' ho0 (Kd.R_lt (rX HO461.out))) (below_size (bX1 HB.out GE458.out)))
 have n2_ := Aside0.mk (bbX BK458.out hb)
 have n3_ := Aside0.mk (below_step (bX1 HB.out GE458.out) hb)
 clear HO461 BK458 HB
 have HO461 := n0_
 have HO464 := n1_
 have BK458 := n2_
 have HB := n3_
 clear n0_ n1_ n2_ n3_
 (try clear hb)
 (try clear hb2)
 (try clear hk)
 (try clear hi)
 (try clear ho0)
 refine hK.out _ _ ⟨cz20 BK458.out, cz21 BK458.out⟩ (fun hHeld => ?_)
 clear hK K
 refine norm_ (a' := ?_) ?_ ?_
 rotate_left
 {
 show Act.put _ (some 12) _ = _
 simp only [Act.put, zA, zB, zC, i64_w, i32_w]
 rfl
 }
 refine one_ (i := 5) (N := some 15) #[tt,tt,tt,tt,tt,tt,ff,ff] rfl rfl (one_of HT_.out (by kernel_rfl)) (by decide) (fun K hK => ?_)
 refine goes_ Tryz.func70 (by kernel_rfl) rfl #[.slice A0_1 l0_1.length c0_1] (by rfl) rfl rfl aX ?_
 with_reducible refine (spec_l02Inverse.calls k _ _ l0_1 t465 _ ?side1 ?side2 A4.out).mono ?_
 (case side1 => exact cX (Kd.C_below HR0_1.out HB.out))
 (case side2 => exact HC0_1.out)
 rintro e w12 ⟨v466, rfl, ho0, hb⟩
 refine ⟨_, rfl, ?_⟩
 have n0_ := Aside0.mk (Kd.R_elder' (rX HO461.out) (Kd.R_base ho0) hb)
 have n1_ := Aside0.mk (Kd.R_elder' (rX HO464.out) (Kd.R_base ho0) hb)
 have n2_ := Aside0.mk (Kd.R_lower (Kd.R_new' (Kd.R_new' ho0 (Kd.R_lt (rX HO461.out))) (Kd.R_lt (rX HO464.out))) (below_size (bX1 HB.out GE458.out)))
 have n3_ := Aside0.mk (bbX BK458.out hb)
 have n4_ := Aside0.mk (below_step (bX1 HB.out GE458.out) hb)
 clear HO461 HO464 BK458 HB
 have HO461 := n0_
 have HO464 := n1_
 have HO467 := n2_
 have BK458 := n3_
 have HB := n4_
 clear n0_ n1_ n2_ n3_ n4_
 (try clear hb)
 (try clear hb2)
 (try clear hk)
 (try clear hi)
 (try clear ho0)
 obtain ⟨Ao13, co13, eo13⟩ := Kd.R_slice HO464.out
 (first | subst eo13 | (injection eo13 with f1_ f2_ f3_; have f4_ := f1_.symm; have f5_ := f3_.symm; clear f1_ f2_ f3_; subst f4_; subst f5_))
 obtain ⟨Ao14, co14, eo14⟩ := Kd.R_slice HO467.out
 (first | subst eo14 | (injection eo14 with f1_ f2_ f3_; have f4_ := f1_.symm; have f5_ := f3_.symm; clear f1_ f2_ f3_; subst f4_; subst f5_))
 refine hK.out _ _ ⟨cz20 BK458.out, cz21 BK458.out⟩ (fun hHeld => ?_)
 clear hK K
 refine norm_ (a' := ?_) ?_ ?_
 rotate_left
 {
 show Act.put _ (some 15) _ = _
 simp only [Act.put, zA, zB, zC, i64_w, i32_w]
 rfl
 }
 refine one_ (i := 6) (N := some 16) #[tt,tt,tt,tt,tt,tt,tt,ff] rfl rfl (one_of HT_.out (by kernel_rfl)) (by decide) (fun K hK => ?_)
 refine goes_ Tryz.func69 (by kernel_rfl) rfl #[.slice Ao13 t462.length co13, .slice Ao14 t465.length co14] (by rfl) rfl rfl aX ?_
 with_reducible refine (spec_l02Then.calls k _ _ t462 _ _ t465 t468 _ ?side1 ?side2 ?side3 ?side4 A5.out).mono ?_
 (case side1 => exact cX (Kd.R_reads' HO464.out).2.2)
 (case side2 => exact (Kd.R_reads' HO464.out).2.1)
 (case side3 => exact cX (Kd.R_reads' HO467.out).2.2)
 (case side4 => exact (Kd.R_reads' HO467.out).2.1)
 rintro e w15 ⟨v469, rfl, ho0, hb⟩
 refine ⟨_, rfl, ?_⟩
 have n0_ := Aside0.mk (Kd.R_elder' (rX HO461.out) (Kd.R_base ho0) hb)
 have n1_ := Aside0.mk (Kd.R_elder' (rX HO464.out) (Kd.R_base ho0) hb)
 have n2_ := Aside0.mk (Kd.R_elder' (rX HO467.out) (Kd.R_base ho0) hb)
 have n3_ := Aside0.mk (Kd.R_lower (Kd.R_new' (Kd.R_new' (Kd.R_new' ho0 (Kd.R_lt (rX HO461.out))) (Kd.R_lt (rX HO464.out))) (Kd.R_lt (rX HO467.out))) (below_size (bX1 HB.out GE458.out)))
 have n4_ := Aside0.mk (bbX BK458.out hb)
 have n5_ := Aside0.mk (below_step (bX1 HB.out GE458.out) hb)
 clear HO461 HO464 HO467 BK458 HB
 have HO461 := n0_
 have HO464 := n1_
 have HO467 := n2_
 have HO470 := n3_
 have BK458 := n4_
 have HB := n5_
 clear n0_ n1_ n2_ n3_ n4_ n5_
 (try clear hb)
 (try clear hb2)
 (try clear hk)
 (try clear hi)
 (try clear ho0)
 refine hK.out _ _ ⟨cz20 BK458.out, cz21 BK458.out⟩ (fun hHeld => ?_)
 clear hK K
 refine norm_ (a' := ?_) ?_ ?_
 rotate_left
 {
 show Act.put _ (some 16) _ = _
 simp only [Act.put, zA, zB, zC, i64_w, i32_w]
 rfl
 }
 refine pX 7 4 (fl 8 255) rfl rfl HT_.out ?_
 refine done_ (done_of HT_.out (by kernel_rfl)) ?_
 obtain ⟨Ao16, co16, eo16⟩ := Kd.R_slice HO461.out
 subst eo16
 obtain ⟨Ao17, co17, eo17⟩ := Kd.R_slice HO470.out
 subst eo17
 try go_wp2_with (first | ((with_reducible refine gate_callee (f := 69) rfl ?_); refine goesL_ (some 19) rfl rfl Tryz.func69 (by kernel_rfl) rfl #[.slice Ao16 t459.length co16, .slice Ao17 t468.length co17] rfl aX ?_; (with_reducible refine (spec_l02Then.calls k _ _ t459 _ _ t468 t471 _ ?side1 ?side2 ?side3 ?side4 A6.out).mono ?_); (case side1 => exact cX (Kd.R_reads' HO461.out).2.2); (case side2 => exact (Kd.R_reads' HO461.out).2.1); (case side3 => exact cX (Kd.R_reads' HO470.out).2.2); (case side4 => exact (Kd.R_reads' HO470.out).2.1); rintro e w18 ⟨v472, rfl, ho0, hb⟩; refine ⟨_, rfl, ?_⟩; have n0_ := Aside0.mk (Kd.R_elder' (rX HO461.out) (Kd.R_base ho0) hb); have n1_ := Aside0.mk (Kd.R_elder' (rX HO464.out) (Kd.R_base ho0) hb); have n2_ := Aside0.mk (Kd.R_elder' (rX HO467.out) (Kd.R_base ho0) hb); have n3_ := Aside0.mk (Kd.R_elder' (rX HO470.out) (Kd.R_base ho0) hb); have n4_ := Aside0.mk (Kd.R_lower (Kd.R_new' (Kd.R_new' (Kd.R_new' (Kd.R_new' ho0 (Kd.R_lt (rX HO461.out))) (Kd.R_lt (rX HO464.out))) (Kd.R_lt (rX HO467.out))) (Kd.R_lt (rX HO470.out))) (below_size (bX1 HB.out GE458.out))); have n5_ := Aside0.mk (bbX BK458.out hb); have n6_ := Aside0.mk (below_step (bX1 HB.out GE458.out) hb); clear HO461 HO464 HO467 HO470 BK458 HB; have HO461 := n0_; have HO464 := n1_; have HO467 := n2_; have HO470 := n3_; have HO473 := n4_; have BK458 := n5_; have HB := n6_; clear n0_ n1_ n2_ n3_ n4_ n5_ n6_; (try clear hb); (try clear hb2); (try clear hk); (try clear hi); (try clear ho0)))
 go_ret
 exact ⟨_, eX, by (with_reducible repeat (first|apply rA|apply rN|apply rD)); exact Kd.R_mono HO473.out (fun _ hk => trivial), bX1 HB.out GE458.out⟩

/-! ### spec_CornersOf: function 95 -/
def spec_CornersOf.f (k : Nat) (l0_0 : List Int) (l0_1 : List Int) : Option ((List (List Int))) := (spec_SurfaceOk.f k l0_0 l0_1).bind fun t475 => (if t475 = true then ((spec_l04Around.f k l0_0 l0_1).bind fun t476 => ((spec_CyclesOf.f k t476).bind fun t479 => (some t479))) else (some ([] : List (List Int))))
set_option maxHeartbeats 8000000 in
set_option maxRecDepth 100000 in
theorem spec_CornersOf.calls (k : Nat) (A0_0 : Option Addr) (c0_0 : Nat) (l0_0 : List Int) (A0_1 : Option Addr) (c0_1 : Nat) (l0_1 : List Int) (r : List (List Int)) (w : World) (hr0_0 : Kd.C (Kd.int .i64) w A0_0 l0_0.length l0_0) (hc0_0 : l0_0.length ≤ c0_0) (hr0_1 : Kd.C (Kd.int .i64) w A0_1 l0_1.length l0_1) (hc0_1 : l0_1.length ≤ c0_1) (h : spec_CornersOf.f k l0_0 l0_1 = some r) :
  Calls Tryz.prog 95 #[.agg #[.slice A0_0 l0_0.length c0_0, .slice A0_1 l0_1.length c0_1]] w fun e w' => ∃ v0_ : Value, e = .returned (v0_) ∧ Kd.S (Kd.slice 3 (Kd.int .i64)) 23 w' w.heap.size (fun _ => True) v0_ r ∧ Below w.heap.size w w' := by
 have hu25 := Tryz.underlying25
 have HR0_0 := Aside0.mk hr0_0
 have HC0_0 := Aside0.mk hc0_0
 clear hr0_0 hc0_0
 have HR0_1 := Aside0.mk hr0_1
 have HC0_1 := Aside0.mk hc0_1
 clear hr0_1 hc0_1
 have HB := Aside0.mk (Below.refl w.heap.size w)
 have H : ((spec_SurfaceOk.f k l0_0 l0_1).bind fun t475 => (if t475 = true then ((spec_l04Around.f k l0_0 l0_1).bind fun t476 => ((spec_CyclesOf.f k t476).bind fun t479 => (some t479))) else (some ([] : List (List Int))))) = some r := h
 clear h
 replace H := Option.bind_eq_some_iff.mp H
 obtain ⟨t475, A20, H⟩ := H
 replace H : (if t475 = true then ((spec_l04Around.f k l0_0 l0_1).bind fun t476 => ((spec_CyclesOf.f k t476).bind fun t479 => (some t479))) else (some ([] : List (List Int)))) = some r := H
 have A2 := Aside0.mk A20
 clear A20
 by_cases c3 : t475 = true
 {
 subst c3
 have H1 : ((spec_l04Around.f k l0_0 l0_1).bind fun t476 => ((spec_CyclesOf.f k t476).bind fun t479 => (some t479))) = some r := by rw [if_pos rfl] at H; exact H
 clear H
 have H := H1
 clear H1
 replace H := Option.bind_eq_some_iff.mp H
 obtain ⟨t476, A40, H⟩ := H
 replace H : ((spec_CyclesOf.f k t476).bind fun t479 => (some t479)) = some r := H
 have A4 := Aside0.mk A40
 clear A40
 replace H := Option.bind_eq_some_iff.mp H
 obtain ⟨t479, A50, H⟩ := H
 replace H : (some t479) = some r := H
 have A5 := Aside0.mk A50
 clear A50
 obtain rfl := Option.some.inj H
 go_enter Tryz.func95, Tryz.ntmps95
 go_wp2_with (first | ((with_reducible refine gate_dst (N := 1) rfl ?_); refine box_event ?hg (N := 1) ?hd (cs := #[.slice A0_0 l0_0.length c0_0, .slice A0_1 l0_1.length c0_1]) (t := 25) ?hr ?_; (case hd => rfl); (case hg => rfl); (case hr => first | (go_simp; done) | (go_simp; rfl)); intro gb474 hg w6 hbox hb; have n0_ := Aside0.mk (below_step (bX HB.out) hb); have n1_ := Aside0.mk (hbox); have n2_ := Aside0.mk ((szX (below_size (bX HB.out)) hg : w.heap.size ≤ gb474)); have n3_ := Aside0.mk ((szX (below_size (bX HB.out)) hg : w.heap.size ≤ gb474)); clear HB; have HB := n0_; have BK474 := n1_; have GW474 := n2_; have GE474 := n3_; clear n0_ n1_ n2_ n3_ hb hbox hg; have hcz7_0 := cz20 BK474.out; have hcz7_1 := cz21 BK474.out; have hfz7_0 := blk_frozen BK474.out 0; have hfz7_1 := blk_frozen BK474.out 1) | ((with_reducible refine gate_callee (f := 50) rfl ?_); refine goesL_ (some 4) rfl rfl Tryz.func50 (by kernel_rfl) rfl #[.agg #[.slice A0_0 l0_0.length c0_0, .slice A0_1 l0_1.length c0_1]] rfl aX ?_; (with_reducible refine (spec_SurfaceOk.calls k _ _ l0_0 _ _ l0_1 true _ ?side1 ?side2 ?side3 ?side4 A2.out).mono ?_); (case side1 => exact cX (Kd.C_below HR0_0.out HB.out)); (case side2 => exact HC0_0.out); (case side3 => exact cX (Kd.C_below HR0_1.out HB.out)); (case side4 => exact HC0_1.out); rintro e w8 ⟨rfl, hb⟩; refine ⟨_, rfl, ?_⟩; have n0_ := Aside0.mk (bbX BK474.out hb); have n1_ := Aside0.mk (below_step (bX1 HB.out GE474.out) hb); clear BK474 HB; have BK474 := n0_; have HB := n1_; clear n0_ n1_; (try clear hb); (try clear hb2); (try clear hk); (try clear hi); have hcz9_0 := cz20 BK474.out; have hcz9_1 := cz21 BK474.out; have hfz9_0 := blk_frozen BK474.out 0; have hfz9_1 := blk_frozen BK474.out 1) | ((with_reducible refine gate_callee (f := 128) rfl ?_); refine goesL_ (some 7) rfl rfl Tryz.func128 (by kernel_rfl) rfl #[.agg #[.slice A0_0 l0_0.length c0_0, .slice A0_1 l0_1.length c0_1]] rfl aX ?_; (with_reducible refine (spec_l04Around.calls k _ _ l0_0 _ _ l0_1 t476 _ ?side1 ?side2 ?side3 ?side4 A4.out).mono ?_); (case side1 => exact cX (Kd.C_below HR0_0.out HB.out)); (case side2 => exact HC0_0.out); (case side3 => exact cX (Kd.C_below HR0_1.out HB.out)); (case side4 => exact HC0_1.out); rintro e w10 ⟨v477, rfl, ho0, hb⟩; refine ⟨_, rfl, ?_⟩; have n0_ := Aside0.mk (Kd.R_lower ho0 (below_size (bX1 HB.out GE474.out))); have n1_ := Aside0.mk (bbX BK474.out hb); have n2_ := Aside0.mk (below_step (bX1 HB.out GE474.out) hb); clear BK474 HB; have HO478 := n0_; have BK474 := n1_; have HB := n2_; clear n0_ n1_ n2_; (try clear hb); (try clear hb2); (try clear hk); (try clear hi); (try clear ho0); obtain ⟨Ao11, co11, eo11⟩ := Kd.R_slice HO478.out; subst eo11) | ((with_reducible refine gate_callee (f := 127) rfl ?_); refine goesL_ (some 8) rfl rfl Tryz.func127 (by kernel_rfl) rfl #[.slice Ao11 t476.length co11] rfl aX ?_; (with_reducible refine (spec_CyclesOf.calls k _ _ t476 t479 _ ?side1 ?side2 A5.out).mono ?_); (case side1 => exact cX (Kd.R_reads' HO478.out).2.2); (case side2 => exact (Kd.R_reads' HO478.out).2.1); rintro e w12 ⟨v480, rfl, ho0, hb⟩; refine ⟨_, rfl, ?_⟩; have n0_ := Aside0.mk (Kd.R_below (rX HO478.out) hb); have n1_ := Aside0.mk (Kd.S_lower (Kd.S_new' ho0 (Kd.R_lt (rX HO478.out))) (below_size (bX1 HB.out GE474.out))); have n2_ := Aside0.mk (bbX BK474.out hb); have n3_ := Aside0.mk (below_step (bX1 HB.out GE474.out) hb); clear HO478 BK474 HB; have HO478 := n0_; have HO481 := n1_; have BK474 := n2_; have HB := n3_; clear n0_ n1_ n2_ n3_; (try clear hb); (try clear hb2); (try clear hk); (try clear hi); (try clear ho0)))
 go_ret
 exact ⟨_, eX, by (with_reducible repeat (first | apply Kd.S_alloc | apply Kd.S_drewN | apply Kd.S_drew)); exact Kd.S_mono HO481.out (fun _ hk => trivial), bX1 HB.out GE474.out⟩
 }
 {
 replace c3 := Bool.eq_false_iff.mpr c3
 subst c3
 have H1 : (some ([] : List (List Int))) = some r := by rw [if_neg (show ¬ (false = true) by decide)] at H; exact H
 clear H
 have H := H1
 clear H1
 obtain rfl := Option.some.inj H
 go_enter Tryz.func95, Tryz.ntmps95
 go_wp2_with (first | ((with_reducible refine gate_dst (N := 1) rfl ?_); refine box_event ?hg (N := 1) ?hd (cs := #[.slice A0_0 l0_0.length c0_0, .slice A0_1 l0_1.length c0_1]) (t := 25) ?hr ?_; (case hd => rfl); (case hg => rfl); (case hr => first | (go_simp; done) | (go_simp; rfl)); intro gb474 hg w13 hbox hb; have n0_ := Aside0.mk (below_step (bX HB.out) hb); have n1_ := Aside0.mk (hbox); have n2_ := Aside0.mk ((szX (below_size (bX HB.out)) hg : w.heap.size ≤ gb474)); have n3_ := Aside0.mk ((szX (below_size (bX HB.out)) hg : w.heap.size ≤ gb474)); clear HB; have HB := n0_; have BK474 := n1_; have GW474 := n2_; have GE474 := n3_; clear n0_ n1_ n2_ n3_ hb hbox hg; have hcz14_0 := cz20 BK474.out; have hcz14_1 := cz21 BK474.out; have hfz14_0 := blk_frozen BK474.out 0; have hfz14_1 := blk_frozen BK474.out 1) | ((with_reducible refine gate_callee (f := 50) rfl ?_); refine goesL_ (some 4) rfl rfl Tryz.func50 (by kernel_rfl) rfl #[.agg #[.slice A0_0 l0_0.length c0_0, .slice A0_1 l0_1.length c0_1]] rfl aX ?_; (with_reducible refine (spec_SurfaceOk.calls k _ _ l0_0 _ _ l0_1 false _ ?side1 ?side2 ?side3 ?side4 A2.out).mono ?_); (case side1 => exact cX (Kd.C_below HR0_0.out HB.out)); (case side2 => exact HC0_0.out); (case side3 => exact cX (Kd.C_below HR0_1.out HB.out)); (case side4 => exact HC0_1.out); rintro e w15 ⟨rfl, hb⟩; refine ⟨_, rfl, ?_⟩; have n0_ := Aside0.mk (bbX BK474.out hb); have n1_ := Aside0.mk (below_step (bX1 HB.out GE474.out) hb); clear BK474 HB; have BK474 := n0_; have HB := n1_; clear n0_ n1_; (try clear hb); (try clear hb2); (try clear hk); (try clear hi)))
 go_ret
 exact ⟨_, eX, by first | exact Kd.S_nil _ _ _ _ _ | exact Kd.N_nil _ _ _ _ _ | exact Kd.V_nil _ _ _ _ _ | exact Kd.Q_nil _ _ _ _ _ | exact Kd.R_nil _ _ _ _ _, bX1 HB.out GE474.out⟩
 }

/-! ### spec_AnglesOf: function 61 -/
def spec_AnglesOf.f (k : Nat) (l0_0 : List Int) (l0_1 : List Int) : Option (List Int) := (spec_CornersOf.f k l0_0 l0_1).bind fun t483 => ((spec_l04Lengths.f k t483).bind fun t486 => (some t486))
set_option maxHeartbeats 8000000 in
set_option maxRecDepth 100000 in
theorem spec_AnglesOf.calls (k : Nat) (A0_0 : Option Addr) (c0_0 : Nat) (l0_0 : List Int) (A0_1 : Option Addr) (c0_1 : Nat) (l0_1 : List Int) (r : List Int) (w : World) (hr0_0 : Kd.C (Kd.int .i64) w A0_0 l0_0.length l0_0) (hc0_0 : l0_0.length ≤ c0_0) (hr0_1 : Kd.C (Kd.int .i64) w A0_1 l0_1.length l0_1) (hc0_1 : l0_1.length ≤ c0_1) (h : spec_AnglesOf.f k l0_0 l0_1 = some r) :
  Calls Tryz.prog 61 #[.agg #[.slice A0_0 l0_0.length c0_0, .slice A0_1 l0_1.length c0_1]] w fun e w' => ∃ v0_ : Value, e = .returned (v0_) ∧ Kd.R (Kd.int .i64) 3 w' w.heap.size (fun _ => True) v0_ r ∧ Below w.heap.size w w' := by
 have hu25 := Tryz.underlying25
 have HR0_0 := Aside0.mk hr0_0
 have HC0_0 := Aside0.mk hc0_0
 clear hr0_0 hc0_0
 have HR0_1 := Aside0.mk hr0_1
 have HC0_1 := Aside0.mk hc0_1
 clear hr0_1 hc0_1
 have HB := Aside0.mk (Below.refl w.heap.size w)
 have H : ((spec_CornersOf.f k l0_0 l0_1).bind fun t483 => ((spec_l04Lengths.f k t483).bind fun t486 => (some t486))) = some r := h
 clear h
 replace H := Option.bind_eq_some_iff.mp H
 obtain ⟨t483, A20, H⟩ := H
 replace H : ((spec_l04Lengths.f k t483).bind fun t486 => (some t486)) = some r := H
 have A2 := Aside0.mk A20
 clear A20
 replace H := Option.bind_eq_some_iff.mp H
 obtain ⟨t486, A30, H⟩ := H
 replace H : (some t486) = some r := H
 have A3 := Aside0.mk A30
 clear A30
 obtain rfl := Option.some.inj H
 go_enter Tryz.func61, Tryz.ntmps61
 go_wp2_with (first | ((with_reducible refine gate_dst (N := 1) rfl ?_); refine box_event ?hg (N := 1) ?hd (cs := #[.slice A0_0 l0_0.length c0_0, .slice A0_1 l0_1.length c0_1]) (t := 25) ?hr ?_; (case hd => rfl); (case hg => rfl); (case hr => first | (go_simp; done) | (go_simp; rfl)); intro gb482 hg w4 hbox hb; have n0_ := Aside0.mk (below_step (bX HB.out) hb); have n1_ := Aside0.mk (hbox); have n2_ := Aside0.mk ((szX (below_size (bX HB.out)) hg : w.heap.size ≤ gb482)); have n3_ := Aside0.mk ((szX (below_size (bX HB.out)) hg : w.heap.size ≤ gb482)); clear HB; have HB := n0_; have BK482 := n1_; have GW482 := n2_; have GE482 := n3_; clear n0_ n1_ n2_ n3_ hb hbox hg; have hcz5_0 := cz20 BK482.out; have hcz5_1 := cz21 BK482.out; have hfz5_0 := blk_frozen BK482.out 0; have hfz5_1 := blk_frozen BK482.out 1) | ((with_reducible refine gate_callee (f := 95) rfl ?_); refine goesL_ (some 4) rfl rfl Tryz.func95 (by kernel_rfl) rfl #[.agg #[.slice A0_0 l0_0.length c0_0, .slice A0_1 l0_1.length c0_1]] rfl aX ?_; (with_reducible refine (spec_CornersOf.calls k _ _ l0_0 _ _ l0_1 t483 _ ?side1 ?side2 ?side3 ?side4 A2.out).mono ?_); (case side1 => exact cX (Kd.C_below HR0_0.out HB.out)); (case side2 => exact HC0_0.out); (case side3 => exact cX (Kd.C_below HR0_1.out HB.out)); (case side4 => exact HC0_1.out); rintro e w6 ⟨v484, rfl, ho0, hb⟩; refine ⟨_, rfl, ?_⟩; have n0_ := Aside0.mk (Kd.S_lower ho0 (below_size (bX1 HB.out GE482.out))); have n1_ := Aside0.mk (bbX BK482.out hb); have n2_ := Aside0.mk (below_step (bX1 HB.out GE482.out) hb); clear BK482 HB; have HO485 := n0_; have BK482 := n1_; have HB := n2_; clear n0_ n1_ n2_; (try clear hb); (try clear hb2); (try clear hk); (try clear hi); (try clear ho0); obtain ⟨Ao7, co7, eo7⟩ := Kd.S_slice HO485.out; subst eo7) | ((with_reducible refine gate_callee (f := 94) rfl ?_); refine goesL_ (some 5) rfl rfl Tryz.func94 (by kernel_rfl) rfl #[.slice Ao7 t483.length co7] rfl aX ?_; (with_reducible refine (spec_l04Lengths.calls k _ _ t483 t486 _ ?side1 ?side2 A3.out).mono ?_); (case side1 => repeat (first | exact (Kd.S_reads' HO485.out).2.2 | (with_reducible refine Kd.C_alloc ?_ _) | (with_reducible refine Kd.C_drewN ?_ _) | (with_reducible refine Kd.C_drew ?_))); (case side2 => exact (Kd.S_reads' HO485.out).2.1); rintro e w8 ⟨v487, rfl, ho0, hb⟩; refine ⟨_, rfl, ?_⟩; have n0_ := Aside0.mk (Kd.S_elder' (by (with_reducible repeat (first | apply Kd.S_alloc | apply Kd.S_drewN | apply Kd.S_drew)); exact HO485.out) (Kd.R_base ho0) hb); have n1_ := Aside0.mk (Kd.R_lower ho0 (below_size (bX1 HB.out GE482.out))); have n2_ := Aside0.mk (bbX BK482.out hb); have n3_ := Aside0.mk (below_step (bX1 HB.out GE482.out) hb); clear HO485 BK482 HB; have HO485 := n0_; have HO488 := n1_; have BK482 := n2_; have HB := n3_; clear n0_ n1_ n2_ n3_; (try clear hb); (try clear hb2); (try clear hk); (try clear hi); (try clear ho0)))
 go_ret
 exact ⟨_, eX, by (with_reducible repeat (first|apply rA|apply rN|apply rD)); exact HO488.out, bX1 HB.out GE482.out⟩

/-! ### spec_GenusOf: function 62 -/
def spec_GenusOf.f (k : Nat) (l0_0 : List Int) (l0_1 : List Int) : Option (Int) := (spec_SurfaceOk.f k l0_0 l0_1).bind fun t490 => (if t490 = true then ((spec_CornersOf.f k l0_0 l0_1).bind fun t491 => (some (wrap64 (1 + (wrap64 (Int.tdiv (wrap64 ((l0_0.length : Int) - (t491.length : Int))) 2)))))) else (some (-1)))
def spec_GenusOf.T3 : Bool × List (List Nat × List Nat) := (true, [([], []), ([0], [0]), ([1], [1]), ([], []), ([3], [3]), ([4], [4]), ([2, 5], [2, 5]), ([6], [6]), ([7], [7]), ([8, 4, 0, 1, 2, 3, 4, 5, 6, 7, 8], [8])])
def spec_GenusOf.B3 : List Nat := [0, 1, 3, 0, 8, 24, 63, 127, 255, 511]
theorem spec_GenusOf.tab3 : rtab .any (opsOf Tryz.f62 3) = spec_GenusOf.T3 := by kernel_rfl
theorem spec_GenusOf.bits3 : waitsOk spec_GenusOf.T3.2 spec_GenusOf.B3 = true := by kernel_rfl
set_option maxHeartbeats 8000000 in
set_option maxRecDepth 100000 in
theorem spec_GenusOf.calls (k : Nat) (A0_0 : Option Addr) (c0_0 : Nat) (l0_0 : List Int) (A0_1 : Option Addr) (c0_1 : Nat) (l0_1 : List Int) (r : Int) (w : World) (hr0_0 : Kd.C (Kd.int .i64) w A0_0 l0_0.length l0_0) (hc0_0 : l0_0.length ≤ c0_0) (hr0_1 : Kd.C (Kd.int .i64) w A0_1 l0_1.length l0_1) (hc0_1 : l0_1.length ≤ c0_1) (h : spec_GenusOf.f k l0_0 l0_1 = some r) :
  Calls Tryz.prog 62 #[.agg #[.slice A0_0 l0_0.length c0_0, .slice A0_1 l0_1.length c0_1]] w fun e w' => e = .returned (.int .i64 r) ∧ Below w.heap.size w w' := by
 have hu25 := Tryz.underlying25
 have HR0_0 := Aside0.mk hr0_0
 have HC0_0 := Aside0.mk hc0_0
 clear hr0_0 hc0_0
 have HR0_1 := Aside0.mk hr0_1
 have HC0_1 := Aside0.mk hc0_1
 clear hr0_1 hc0_1
 have HB := Aside0.mk (Below.refl w.heap.size w)
 have H : ((spec_SurfaceOk.f k l0_0 l0_1).bind fun t490 => (if t490 = true then ((spec_CornersOf.f k l0_0 l0_1).bind fun t491 => (some (wrap64 (1 + (wrap64 (Int.tdiv (wrap64 ((l0_0.length : Int) - (t491.length : Int))) 2)))))) else (some (-1)))) = some r := h
 clear h
 replace H := Option.bind_eq_some_iff.mp H
 obtain ⟨t490, A20, H⟩ := H
 replace H : (if t490 = true then ((spec_CornersOf.f k l0_0 l0_1).bind fun t491 => (some (wrap64 (1 + (wrap64 (Int.tdiv (wrap64 ((l0_0.length : Int) - (t491.length : Int))) 2)))))) else (some (-1))) = some r := H
 have A2 := Aside0.mk A20
 clear A20
 by_cases c3 : t490 = true
 {
 subst c3
 have H1 : ((spec_CornersOf.f k l0_0 l0_1).bind fun t491 => (some (wrap64 (1 + (wrap64 (Int.tdiv (wrap64 ((l0_0.length : Int) - (t491.length : Int))) 2)))))) = some r := by rw [if_pos rfl] at H; exact H
 clear H
 have H := H1
 clear H1
 replace H := Option.bind_eq_some_iff.mp H
 obtain ⟨t491, A40, H⟩ := H
 replace H : (some (wrap64 (1 + (wrap64 (Int.tdiv (wrap64 ((l0_0.length : Int) - (t491.length : Int))) 2))))) = some r := H
 have A4 := Aside0.mk A40
 clear A40
 obtain rfl := Option.some.inj H
 go_enter Tryz.func62, Tryz.ntmps62
 try go_wp2_with (first | ((with_reducible refine gate_dst (N := 1) rfl ?_); refine box_event ?hg (N := 1) ?hd (cs := #[.slice A0_0 l0_0.length c0_0, .slice A0_1 l0_1.length c0_1]) (t := 25) ?hr ?_; (case hd => rfl); (case hg => rfl); (case hr => first | (go_simp; done) | (go_simp; rfl)); intro gb489 hg w5 hbox hb; have n0_ := Aside0.mk (below_step (bX HB.out) hb); have n1_ := Aside0.mk (hbox); have n2_ := Aside0.mk ((szX (below_size (bX HB.out)) hg : w.heap.size ≤ gb489)); have n3_ := Aside0.mk ((szX (below_size (bX HB.out)) hg : w.heap.size ≤ gb489)); clear HB; have HB := n0_; have BK489 := n1_; have GW489 := n2_; have GE489 := n3_; clear n0_ n1_ n2_ n3_ hb hbox hg; have hcz6_0 := cz20 BK489.out; have hcz6_1 := cz21 BK489.out; have hfz6_0 := blk_frozen BK489.out 0; have hfz6_1 := blk_frozen BK489.out 1) | ((with_reducible refine gate_callee (f := 50) rfl ?_); refine goesL_ (some 4) rfl rfl Tryz.func50 (by kernel_rfl) rfl #[.agg #[.slice A0_0 l0_0.length c0_0, .slice A0_1 l0_1.length c0_1]] rfl aX ?_; (with_reducible refine (spec_SurfaceOk.calls k _ _ l0_0 _ _ l0_1 true _ ?side1 ?side2 ?side3 ?side4 A2.out).mono ?_); (case side1 => exact cX (Kd.C_below HR0_0.out HB.out)); (case side2 => exact HC0_0.out); (case side3 => exact cX (Kd.C_below HR0_1.out HB.out)); (case side4 => exact HC0_1.out); rintro e w7 ⟨rfl, hb⟩; refine ⟨_, rfl, ?_⟩; have n0_ := Aside0.mk (bbX BK489.out hb); have n1_ := Aside0.mk (below_step (bX1 HB.out GE489.out) hb); clear BK489 HB; have BK489 := n0_; have HB := n1_; clear n0_ n1_; (try clear hb); (try clear hb2); (try clear hk); (try clear hi)))
 have n0_ := Aside0.mk (blk_drew BK489.out)
 have n1_ := Aside0.mk (below_drew1 HB.out)
 clear BK489 HB
 have BK489 := n0_
 have HB := n1_
 clear n0_ n1_
 refine start_ (n := 10) (S := fun w' => w'.cell? ⟨gb489, 0, none⟩ = some (.slice A0_0 l0_0.length c0_0) ∧ w'.cell? ⟨gb489, 1, none⟩ = some (.slice A0_1 l0_1.length c0_1)) (ds := []) #[ff,ff,ff,ff,ff,ff,ff,ff,ff,ff] (by kernel_rfl) rfl rfl ⟨cz20 BK489.out, cz21 BK489.out⟩ (fun hHeld => ?_); refine with_tabW spec_GenusOf.tab3 spec_GenusOf.bits3 (fun HT_ HW_ => ?_)
 generalize w7.drew = w8 at BK489 HB hHeld ⊢
 refine pX 0 6 (fl 10 1) rfl rfl HT_.out ?_
 refine tX2 1 7 (fl 10 3) rfl rfl HT_.out HW_.out hHeld ?_
 refine pX 2 8 (fl 10 7) rfl rfl HT_.out ?_
 refine tX2 3 9 (fl 10 15) rfl rfl HT_.out HW_.out hHeld ?_
 refine one_ (i := 4) (N := some 10) #[tt,tt,tt,tt,tt,ff,ff,ff,ff,ff] rfl rfl (one_of HT_.out (by kernel_rfl)) (by decide) (fun K hK => ?_)
 refine goes_ Tryz.func95 (by kernel_rfl) rfl #[.agg #[.slice A0_0 l0_0.length c0_0, .slice A0_1 l0_1.length c0_1]] (by rfl) rfl rfl aX ?_
 with_reducible refine (spec_CornersOf.calls k _ _ l0_0 _ _ l0_1 t491 _ ?side1 ?side2 ?side3 ?side4 A4.out).mono ?_
 (case side1 => exact cX (Kd.C_below HR0_0.out HB.out))
 (case side2 => exact HC0_0.out)
 (case side3 => exact cX (Kd.C_below HR0_1.out HB.out))
 (case side4 => exact HC0_1.out)
 rintro e w9 ⟨v492, rfl, ho0, hb⟩
 refine ⟨_, rfl, ?_⟩
 have n0_ := Aside0.mk (Kd.S_lower ho0 (below_size (bX1 HB.out GE489.out)))
 have n1_ := Aside0.mk (bbX BK489.out hb)
 have n2_ := Aside0.mk (below_step (bX1 HB.out GE489.out) hb)
 clear BK489 HB
 have HO493 := n0_
 have BK489 := n1_
 have HB := n2_
 clear n0_ n1_ n2_
 (try clear hb)
 (try clear hb2)
 (try clear hk)
 (try clear hi)
 (try clear ho0)
 obtain ⟨Ao10, co10, eo10⟩ := Kd.S_slice HO493.out
 (first | subst eo10 | (injection eo10 with f1_ f2_ f3_; have f4_ := f1_.symm; have f5_ := f3_.symm; clear f1_ f2_ f3_; subst f4_; subst f5_))
 refine hK.out _ _ ⟨cz20 BK489.out, cz21 BK489.out⟩ (fun hHeld => ?_)
 clear hK K
 refine norm_ (a' := ?_) ?_ ?_
 rotate_left
 {
 show Act.put _ (some 10) _ = _
 simp only [Act.put, zA, zB, zC, i64_w, i32_w]
 rfl
 }
 refine pX 5 11 (fl 10 63) rfl rfl HT_.out ?_
 refine pX 6 12 (fl 10 127) rfl rfl HT_.out ?_
 refine pX 7 13 (fl 10 255) rfl rfl HT_.out ?_
 refine pX 8 14 (fl 10 511) rfl rfl HT_.out ?_
 refine pX 9 2 (fl 10 1023) rfl rfl HT_.out ?_
 refine done_ (done_of HT_.out (by kernel_rfl)) ?_
 try go_wp2
 go_ret
 exact ⟨eX, bX1 HB.out GE489.out⟩
 }
 {
 replace c3 := Bool.eq_false_iff.mpr c3
 subst c3
 have H1 : (some (-1)) = some r := by rw [if_neg (show ¬ (false = true) by decide)] at H; exact H
 clear H
 have H := H1
 clear H1
 obtain rfl := Option.some.inj H
 go_enter Tryz.func62, Tryz.ntmps62
 go_wp2_with (first | ((with_reducible refine gate_dst (N := 1) rfl ?_); refine box_event ?hg (N := 1) ?hd (cs := #[.slice A0_0 l0_0.length c0_0, .slice A0_1 l0_1.length c0_1]) (t := 25) ?hr ?_; (case hd => rfl); (case hg => rfl); (case hr => first | (go_simp; done) | (go_simp; rfl)); intro gb489 hg w11 hbox hb; have n0_ := Aside0.mk (below_step (bX HB.out) hb); have n1_ := Aside0.mk (hbox); have n2_ := Aside0.mk ((szX (below_size (bX HB.out)) hg : w.heap.size ≤ gb489)); have n3_ := Aside0.mk ((szX (below_size (bX HB.out)) hg : w.heap.size ≤ gb489)); clear HB; have HB := n0_; have BK489 := n1_; have GW489 := n2_; have GE489 := n3_; clear n0_ n1_ n2_ n3_ hb hbox hg; have hcz12_0 := cz20 BK489.out; have hcz12_1 := cz21 BK489.out; have hfz12_0 := blk_frozen BK489.out 0; have hfz12_1 := blk_frozen BK489.out 1) | ((with_reducible refine gate_callee (f := 50) rfl ?_); refine goesL_ (some 4) rfl rfl Tryz.func50 (by kernel_rfl) rfl #[.agg #[.slice A0_0 l0_0.length c0_0, .slice A0_1 l0_1.length c0_1]] rfl aX ?_; (with_reducible refine (spec_SurfaceOk.calls k _ _ l0_0 _ _ l0_1 false _ ?side1 ?side2 ?side3 ?side4 A2.out).mono ?_); (case side1 => exact cX (Kd.C_below HR0_0.out HB.out)); (case side2 => exact HC0_0.out); (case side3 => exact cX (Kd.C_below HR0_1.out HB.out)); (case side4 => exact HC0_1.out); rintro e w13 ⟨rfl, hb⟩; refine ⟨_, rfl, ?_⟩; have n0_ := Aside0.mk (bbX BK489.out hb); have n1_ := Aside0.mk (below_step (bX1 HB.out GE489.out) hb); clear BK489 HB; have BK489 := n0_; have HB := n1_; clear n0_ n1_; (try clear hb); (try clear hb2); (try clear hk); (try clear hi)))
 go_ret
 exact ⟨eX, bX1 HB.out GE489.out⟩
 }

/-! ### spec_StratumOf: function 63 -/
def spec_StratumOf.l0 : Nat → List Int → List Int → Int → Int → Option (List Int)
 | 0, _, _, _, _ => none
 | k + 1, x3, x8, x9, x10 => if x10 < x9 then (if 0 ≤ x10 then (if x10 < (x8.length : Int) then (if (rd x8 x10) > 1 then (if x3.length < 17592186044416 then (spec_StratumOf.l0 k (x3 ++ [wrap64 ((rd x8 x10) - 1)]) x8 x9 (wrap64 (x10 + 1))) else (none)) else (spec_StratumOf.l0 k x3 x8 x9 (wrap64 (x10 + 1)))) else (none)) else (none)) else (some x3)
def spec_StratumOf.f (k : Nat) (l0_0 : List Int) (l0_1 : List Int) : Option (List Int) := (spec_AnglesOf.f k l0_0 l0_1).bind fun t498 => (spec_StratumOf.l0 k (([] : List Int)) t498 (t498.length : Int) 0)
set_option maxHeartbeats 8000000 in
set_option maxRecDepth 100000 in
theorem spec_StratumOf.calls (k : Nat) (A0_0 : Option Addr) (c0_0 : Nat) (l0_0 : List Int) (A0_1 : Option Addr) (c0_1 : Nat) (l0_1 : List Int) (r : List Int) (w : World) (hr0_0 : Kd.C (Kd.int .i64) w A0_0 l0_0.length l0_0) (hc0_0 : l0_0.length ≤ c0_0) (hr0_1 : Kd.C (Kd.int .i64) w A0_1 l0_1.length l0_1) (hc0_1 : l0_1.length ≤ c0_1) (h : spec_StratumOf.f k l0_0 l0_1 = some r) :
  Calls Tryz.prog 63 #[.agg #[.slice A0_0 l0_0.length c0_0, .slice A0_1 l0_1.length c0_1]] w fun e w' => ∃ v0_ : Value, e = .returned (v0_) ∧ Kd.R (Kd.int .i64) 3 w' w.heap.size (fun _ => True) v0_ r ∧ Below w.heap.size w w' := by
 have hu25 := Tryz.underlying25
 have HR0_0 := Aside0.mk hr0_0
 have HC0_0 := Aside0.mk hc0_0
 clear hr0_0 hc0_0
 have HR0_1 := Aside0.mk hr0_1
 have HC0_1 := Aside0.mk hc0_1
 clear hr0_1 hc0_1
 have HB := Aside0.mk (Below.refl w.heap.size w)
 have H : ((spec_AnglesOf.f k l0_0 l0_1).bind fun t498 => (spec_StratumOf.l0 k (([] : List Int)) t498 (t498.length : Int) 0)) = some r := h
 clear h
 obtain ⟨y495, hy495⟩ : ∃ y_ : List Int, y_ = (([] : List Int)) := ⟨_, rfl⟩
 replace H : ((spec_AnglesOf.f k l0_0 l0_1).bind fun t498 => (spec_StratumOf.l0 k y495 t498 (t498.length : Int) 0)) = some r := by first | (rw [hy495]; with_reducible exact H) | (have H2_ := (Option.bind_some _ _).symm.trans H; rw [hy495]; with_reducible exact H2_) | (have H2_ := (Option.bind_some _ _).symm.trans H; with_reducible exact H2_) | with_reducible exact H | (rw [hy495]; exact H) | exact H
 have Ny495 := Aside0.mk hy495
 clear hy495
 replace H := Option.bind_eq_some_iff.mp H
 obtain ⟨t498, A20, H⟩ := H
 replace H : (spec_StratumOf.l0 k y495 t498 (t498.length : Int) 0) = some r := H
 have A2 := Aside0.mk A20
 clear A20
 have H' := Aside0.mk H
 clear H
 go_enter Tryz.func63, Tryz.ntmps63
 go_wp2_with (first | ((with_reducible refine gate_dst (N := 1) rfl ?_); refine box_event ?hg (N := 1) ?hd (cs := #[.slice A0_0 l0_0.length c0_0, .slice A0_1 l0_1.length c0_1]) (t := 25) ?hr ?_; (case hd => rfl); (case hg => rfl); (case hr => first | (go_simp; done) | (go_simp; rfl)); intro gb494 hg w3 hbox hb; have n0_ := Aside0.mk (below_step (bX HB.out) hb); have n1_ := Aside0.mk (hbox); have n2_ := Aside0.mk ((szX (below_size (bX HB.out)) hg : w.heap.size ≤ gb494)); have n3_ := Aside0.mk ((szX (below_size (bX HB.out)) hg : w.heap.size ≤ gb494)); clear HB; have HB := n0_; have BK494 := n1_; have GW494 := n2_; have GE494 := n3_; clear n0_ n1_ n2_ n3_ hb hbox hg) | ((with_reducible refine gate_dst (N := 6) rfl ?_); refine Kd.R_lit (Kd.int .i64) _ 3 ?hg (N := 6) ?hd (xs := ([] : List Int)) (inner := []) (ok := fun _ => True) (okp := fun _ => True) ?hr ?hp (fun _ hk => hk) trivial (Below.refl _ _) (Nat.le_refl _) (by simp) ?_; (case hd => rfl); (case hg => rfl); (case hr => first | (go_simp; done) | (go_simp; rfl)); (case hp => exact (Reps.none _ _)); intro v496 w4 ho5 hb hg_ hnew_; clear hg_ hnew_; (first | rw [← Ny495.out] at ho5 | (simp only [Int.reduceToNat] at ho5; rw [← Ny495.out] at ho5)); have n0_ := Aside0.mk (Kd.R_lower ho5 (below_size (bX1 HB.out GE494.out))); have n1_ := Aside0.mk (bbX BK494.out hb); have n2_ := Aside0.mk (below_step (bX1 HB.out GE494.out) hb); clear BK494 HB; have HO497 := n0_; have BK494 := n1_; have HB := n2_; clear n0_ n1_ n2_ hb ho5; have hcz6_0 := cz20 BK494.out; have hcz6_1 := cz21 BK494.out; have hfz6_0 := blk_frozen BK494.out 0; have hfz6_1 := blk_frozen BK494.out 1) | ((with_reducible refine gate_callee (f := 61) rfl ?_); refine goesL_ (some 8) rfl rfl Tryz.func61 (by kernel_rfl) rfl #[.agg #[.slice A0_0 l0_0.length c0_0, .slice A0_1 l0_1.length c0_1]] rfl aX ?_; (with_reducible refine (spec_AnglesOf.calls k _ _ l0_0 _ _ l0_1 t498 _ ?side1 ?side2 ?side3 ?side4 A2.out).mono ?_); (case side1 => exact cX (Kd.C_below HR0_0.out HB.out)); (case side2 => exact HC0_0.out); (case side3 => exact cX (Kd.C_below HR0_1.out HB.out)); (case side4 => exact HC0_1.out); rintro e w7 ⟨v499, rfl, ho0, hb⟩; refine ⟨_, rfl, ?_⟩; have n0_ := Aside0.mk (Kd.R_elder' (rX HO497.out) (Kd.R_base ho0) hb); have n1_ := Aside0.mk (Kd.R_lower (Kd.R_new' ho0 (Kd.R_lt (rX HO497.out))) (below_size (bX1 HB.out GE494.out))); have n2_ := Aside0.mk (bbX BK494.out hb); have n3_ := Aside0.mk (below_step (bX1 HB.out GE494.out) hb); clear HO497 BK494 HB; have HO497 := n0_; have HO500 := n1_; have BK494 := n2_; have HB := n3_; clear n0_ n1_ n2_ n3_; (try clear hb); (try clear hb2); (try clear hk); (try clear hi); (try clear ho0); obtain ⟨Ao8, co8, eo8⟩ := Kd.R_slice HO500.out; subst eo8))
 go_loopg [3, 10] k (fun kq v3 v10 w' => ∃ (x3_1 : List Int) (x10_1 : Int), v10 = .int .i64 x10_1 ∧ Aside0 (spec_StratumOf.l0 kq x3_1 t498 (t498.length : Int) x10_1 = some r) ∧ Aside0 (kq ≤ k) ∧ Aside0 (Kd.R (Kd.int .i64) 3 w' w.heap.size (fun k_ => some k_ ≠ ((.slice Ao8 t498.length co8) : Value).ownBlock) v3 x3_1) ∧ Aside0 (Kd.R (Kd.int .i64) 3 w' w.heap.size (fun k_ => some k_ ≠ (v3 : Value).ownBlock) (.slice Ao8 t498.length co8) t498) ∧ Aside0 (w'.heap[gb494]? = some (.cells #[(.slice A0_0 l0_0.length c0_0), (.slice A0_1 l0_1.length c0_1)] 25 (0, 0))) ∧ Aside0 (Below w.heap.size w w'))
 case atStart => exact ⟨(y495), (0), vX, H', ⟨Nat.le_refl _⟩, ⟨rM HO497.out (fun _ hk => hk.2)⟩, ⟨rM HO500.out (fun _ hk => hk.2)⟩, ⟨kX BK494.out⟩, ⟨bX1 HB.out GE494.out⟩⟩
 case round =>
 clear H'
 try clear p2
 try clear c6
 try clear hcz6_0
 try clear hcz6_1
 try clear hfz6_0
 try clear hfz6_1
 obtain ⟨x3_1, x10_1, rfl, HA, HK1, HO_3, HO_8, BK494, HB⟩ := hrel
 cases gk with
 | zero => exact absurd HA.out (by simp [spec_StratumOf.l0])
 | succ k1 =>
 have H := HA.out
 clear HA
 simp only [spec_StratumOf.l0] at H
 by_cases c9 : x10_1 < (t498.length : Int)
 {
 rw [if_pos c9] at H
 have c9b0 : decide (x10_1 < (t498.length : Int)) = true := decide_eq_true c9
 clear c9
 by_cases c10 : 0 ≤ x10_1
 {
 rw [if_pos c10] at H
 have c10b0 : decide (0 ≤ x10_1) = true := decide_eq_true c10
 clear c10
 by_cases c11 : x10_1 < (t498.length : Int)
 {
 rw [if_pos c11] at H
 have c11b0 : decide (x10_1 < (t498.length : Int)) = true := decide_eq_true c11
 clear c11
 by_cases c12 : (rd t498 x10_1) > 1
 {
 rw [if_pos c12] at H
 have c12b0 : decide (1 < (rd t498 x10_1)) = true := decide_eq_true c12
 clear c12
 by_cases c13 : x3_1.length < 17592186044416
 {
 rw [if_pos c13] at H
 have LMc13 := Aside0.mk c13
 clear c13
 obtain ⟨y502, hy502⟩ : ∃ y_ : List Int, y_ = (x3_1 ++ [wrap64 ((rd t498 x10_1) - 1)]) := ⟨_, rfl⟩
 replace H : (spec_StratumOf.l0 k1 y502 t498 (t498.length : Int) (wrap64 (x10_1 + 1))) = some r := by first | (rw [hy502]; with_reducible exact H) | (have H2_ := (Option.bind_some _ _).symm.trans H; rw [hy502]; with_reducible exact H2_) | (have H2_ := (Option.bind_some _ _).symm.trans H; with_reducible exact H2_) | with_reducible exact H | (rw [hy502]; exact H) | exact H
 have Ny502 := Aside0.mk hy502
 clear hy502
 have H' := Aside0.mk H
 clear H
 have p501 : 0 ≤ (x10_1 : Int) := dX
 have q501 : x10_1 < (t498.length : Int) := dX
 obtain ⟨ad501, e501, hx501_0⟩ := Kd.at_int (Kd.R_reads' HO_8.out).2.2 x10_1 p501 q501
 cases e501
 replace p501 := eq_true p501
 replace q501 := eq_true q501
 go_wp2_with (first | ((with_reducible refine gate_builtin (b := .append) (xs := #[.tmp 16, .tmp 19]) rfl ?_); at_builtin; refine Kd.R_append (Kd.int .i64) (w0 := w) w.heap.size rfl (.tmp 16) (.tmp 19) 23 3 (.int .i64 0) 8 rfl Tryz.underlying23 info3 rfl (by decide) (by omega) u3 x3_1 (wrap64 ((rd t498 x10_1) - 1)) [.int .i64 (wrap64 ((rd t498 x10_1) - 1))] (fun k_ => some k_ ≠ (.slice (some ad501) t498.length co8 : Value).ownBlock) (fun _ => False) rfl rfl ?aP (fun _ hk => hk.elim) ?aF ?aO ?aB ?aS ?aL ?_; (case aP => exact rfl); (case aB => exact (bX1 HB.out GE494.out)); (case aF => exact (fun k_ hk => Kd.fresh' (Kd.R_lt (rX HO_8.out)) k_ hk)); (case aO => exact (rX HO_3.out)); (case aS => exact (below_size (bX1 HB.out GE494.out))); (case aL => have := LMc13.out; omega); intro v503 w14 ho hb hg hat; rw [← Ny502.out] at ho; have n0_ := Aside0.mk (Kd.R_after (ok := (fun _ => True)) (rM HO_8.out (fun _ hk => ⟨trivial, hk⟩)) hg hat); have n1_ := Aside0.mk (bgX BK494.out hg (Kd.R_ne HO_3.out BK494.out (by decide))); have n2_ := Aside0.mk (hb); have n3_ := Aside0.mk (ho); clear HO_8 BK494 HB HO_3; have HO_8 := n0_; have BK494 := n1_; have HB := n2_; have HO504 := n3_; clear n0_ n1_ n2_ n3_ ho hb hg hat))
 go_roundg k1
 case measure => have := HK1.out; omega
 case rel => exact ⟨(y502), (wrap64 (x10_1 + 1)), vX, H', ⟨by have := HK1.out; omega⟩, ⟨rX HO504.out⟩, ⟨rM HO_8.out (fun _ hk => hk.2)⟩, ⟨kX BK494.out⟩, ⟨bX1 HB.out GE494.out⟩⟩
 }
 {
 rw [if_neg c13] at H
 exact absurd H (by simp)
 }
 }
 {
 rw [if_neg c12] at H
 have c12b0 : decide (1 < (rd t498 x10_1)) = false := decide_eq_false c12
 clear c12
 have H' := Aside0.mk H
 clear H
 have p501 : 0 ≤ (x10_1 : Int) := dX
 have q501 : x10_1 < (t498.length : Int) := dX
 obtain ⟨ad501, e501, hx501_0⟩ := Kd.at_int (Kd.R_reads' HO_8.out).2.2 x10_1 p501 q501
 cases e501
 replace p501 := eq_true p501
 replace q501 := eq_true q501
 go_wp2
 go_roundg k1
 case measure => have := HK1.out; omega
 case rel => exact ⟨(x3_1), (wrap64 (x10_1 + 1)), vX, H', ⟨by have := HK1.out; omega⟩, ⟨rX HO_3.out⟩, ⟨rX HO_8.out⟩, ⟨kX BK494.out⟩, ⟨bX1 HB.out GE494.out⟩⟩
 }
 }
 {
 rw [if_neg c11] at H
 exact absurd H (by simp)
 }
 }
 {
 rw [if_neg c10] at H
 exact absurd H (by simp)
 }
 }
 {
 rw [if_neg c9] at H
 have c9b0 : decide (x10_1 < (t498.length : Int)) = false := decide_eq_false c9
 clear c9
 obtain rfl := Option.some.inj H
 go_wp2
 go_ret
 exact ⟨_, eX, by (with_reducible repeat (first|apply rA|apply rN|apply rD)); exact Kd.R_mono HO_3.out (fun _ hk => trivial), bX1 HB.out GE494.out⟩
 }

/-! ### spec_l02Rename: function 131 -/
def spec_l02Rename.l0 : Nat → List Int → List Int → List Int → Int → Int → Option (List Int)
 | 0, _, _, _, _, _ => none
 | k + 1, x1, x5, x11, x12, x13 => if x13 < x12 then (if 0 ≤ x13 then (if x13 < (x11.length : Int) then (if x13 < (x1.length : Int) then (if 0 ≤ (rd x11 x13) then (if (rd x11 x13) < (x1.length : Int) then (if 0 ≤ (rd x1 x13) then (if (rd x1 x13) < (x5.length : Int) then (spec_l02Rename.l0 k x1 (x5.set ((rd x1 x13) : Int).toNat (rd x1 (rd x11 x13))) x11 x12 (wrap64 (x13 + 1))) else (none)) else (none)) else (none)) else (none)) else (none)) else (none)) else (none)) else (some x5)
def spec_l02Rename.f (k : Nat) (l0 : List Int) (l1 : List Int) : Option (List Int) := if 0 ≤ (l0.length : Int) then (if ((l0.length : Int) : Int).toNat ≤ 35184372088832 then (spec_l02Rename.l0 k l1 (List.replicate ((l0.length : Int) : Int).toNat 0) l0 (l0.length : Int) 0) else (none)) else (none)
def spec_l02Rename.T5 : Bool × List (List Nat × List Nat) := (true, [([], []), ([], []), ([], []), ([1, 2], [1, 2]), ([3], [3]), ([], []), ([], []), ([5, 6], [5, 6]), ([7], [7]), ([0, 4, 0, 1, 2, 3, 4, 5, 6, 7, 8], [0, 4]), ([9, 8, 0, 1, 2, 3, 4, 5, 6, 7, 8], [8, 9])])
def spec_l02Rename.B5 : List Nat := [0, 0, 0, 6, 14, 0, 0, 96, 224, 511, 1023]
theorem spec_l02Rename.tab5 : rtab .any (opsOf Tryz.f131 5) = spec_l02Rename.T5 := by kernel_rfl
theorem spec_l02Rename.bits5 : waitsOk spec_l02Rename.T5.2 spec_l02Rename.B5 = true := by kernel_rfl
set_option maxHeartbeats 8000000 in
set_option maxRecDepth 100000 in
theorem spec_l02Rename.calls (k : Nat) (A0 : Option Addr) (c0 : Nat) (l0 : List Int) (A1 : Option Addr) (c1 : Nat) (l1 : List Int) (r : List Int) (w : World) (hr0 : Kd.C (Kd.int .i64) w A0 l0.length l0) (hc0 : l0.length ≤ c0) (hr1 : Kd.C (Kd.int .i64) w A1 l1.length l1) (hc1 : l1.length ≤ c1) (h : spec_l02Rename.f k l0 l1 = some r) :
  Calls Tryz.prog 131 #[.slice A0 l0.length c0, .slice A1 l1.length c1] w fun e w' => ∃ v0_ : Value, e = .returned (v0_) ∧ Kd.R (Kd.int .i64) 3 w' w.heap.size (fun _ => True) v0_ r ∧ Below w.heap.size w w' := by
 have HR0 := Aside0.mk hr0
 have HC0 := Aside0.mk hc0
 clear hr0 hc0
 have HR1 := Aside0.mk hr1
 have HC1 := Aside0.mk hc1
 clear hr1 hc1
 have HB := Aside0.mk (Below.refl w.heap.size w)
 have H : (if 0 ≤ (l0.length : Int) then (if ((l0.length : Int) : Int).toNat ≤ 35184372088832 then (spec_l02Rename.l0 k l1 (List.replicate ((l0.length : Int) : Int).toNat 0) l0 (l0.length : Int) 0) else (none)) else (none)) = some r := h
 clear h
 by_cases c3 : 0 ≤ (l0.length : Int)
 {
 rw [if_pos c3] at H
 have c3b0 := eq_true c3
 have c3b1 : decide (0 ≤ (l0.length : Int)) = true := decide_eq_true c3
 clear c3
 by_cases c4 : ((l0.length : Int) : Int).toNat ≤ 35184372088832
 {
 rw [if_pos c4] at H
 have c4b0 := eq_true c4
 have c4b1 : decide (((l0.length : Int) : Int).toNat ≤ 35184372088832) = true := decide_eq_true c4
 clear c4
 obtain ⟨y505, hy505⟩ : ∃ y_ : List Int, y_ = (List.replicate ((l0.length : Int) : Int).toNat 0) := ⟨_, rfl⟩
 replace H : (spec_l02Rename.l0 k l1 y505 l0 (l0.length : Int) 0) = some r := by first | (rw [hy505]; with_reducible exact H) | (have H2_ := (Option.bind_some _ _).symm.trans H; rw [hy505]; with_reducible exact H2_) | (have H2_ := (Option.bind_some _ _).symm.trans H; with_reducible exact H2_) | with_reducible exact H | (rw [hy505]; exact H) | exact H
 have Ny505 := Aside0.mk hy505
 clear hy505
 have H' := Aside0.mk H
 clear H
 go_enter Tryz.func131, Tryz.ntmps131
 go_wp2_with (first | ((with_reducible refine gate_dst (N := 10) rfl ?_); refine Kd.R_make (Kd.int .i64) _ 3 rfl (N := 10) rfl 23 _ _ rfl (l0.length : Int) rfl rfl Tryz.underlying23 (.int .i64 0) 8 info3 rfl (by decide) (by omega) 0 (ok := fun _ => True) (okp := fun _ => True) rfl (fun _ hk => hk) trivial (dX) (Nat.le_trans (Nat.mul_le_mul_right _ (dX : (l0.length : Int).toNat ≤ 35184372088832)) (by omega)) (Below.refl _ _) (Nat.le_refl _) ?_; intro v506 w5 ho6 hb hg_ hnew_; clear hg_ hnew_; (first | rw [← Ny505.out] at ho6 | (simp only [Int.reduceToNat] at ho6; rw [← Ny505.out] at ho6)); have n0_ := Aside0.mk (Kd.R_lower ho6 (below_size (bX HB.out))); have n1_ := Aside0.mk (below_step (bX HB.out) hb); clear HB; have HO507 := n0_; have HB := n1_; clear n0_ n1_ hb ho6))
 go_loopg [13] k (fun kq v13 w' => ∃ (x5_1 : List Int) (x13_1 : Int), v13 = .int .i64 x13_1 ∧ Aside0 (spec_l02Rename.l0 kq l1 x5_1 l0 (l0.length : Int) x13_1 = some r) ∧ Aside0 (kq ≤ k) ∧ Aside0 (Kd.R (Kd.int .i64) 3 w' w.heap.size (fun _ => True) v506 x5_1) ∧ Aside0 (Below w.heap.size w w'))
 case atStart => exact ⟨(y505), (0), vX, H', ⟨Nat.le_refl _⟩, ⟨rX HO507.out⟩, ⟨bX HB.out⟩⟩
 case round =>
 clear H'
 try clear c1
 try clear p2
 try clear c3
 try clear c3b0
 try clear c3b1
 try clear c4
 try clear c4b0
 try clear c4b1
 obtain ⟨x5_1, x13_1, rfl, HA, HK1, HO_5, HB⟩ := hrel
 cases gk with
 | zero => exact absurd HA.out (by simp [spec_l02Rename.l0])
 | succ k1 =>
 have H := HA.out
 clear HA
 simp only [spec_l02Rename.l0] at H
 by_cases c7 : x13_1 < (l0.length : Int)
 {
 rw [if_pos c7] at H
 have c7b0 : decide (x13_1 < (l0.length : Int)) = true := decide_eq_true c7
 clear c7
 by_cases c8 : 0 ≤ x13_1
 {
 rw [if_pos c8] at H
 have c8b0 : decide (0 ≤ x13_1) = true := decide_eq_true c8
 clear c8
 by_cases c9 : x13_1 < (l0.length : Int)
 {
 rw [if_pos c9] at H
 have c9b0 : decide (x13_1 < (l0.length : Int)) = true := decide_eq_true c9
 clear c9
 by_cases c10 : x13_1 < (l1.length : Int)
 {
 rw [if_pos c10] at H
 have c10b0 : decide (x13_1 < (l1.length : Int)) = true := decide_eq_true c10
 clear c10
 by_cases c11 : 0 ≤ (rd l0 x13_1)
 {
 rw [if_pos c11] at H
 have c11b0 : decide (0 ≤ (rd l0 x13_1)) = true := decide_eq_true c11
 clear c11
 by_cases c12 : (rd l0 x13_1) < (l1.length : Int)
 {
 rw [if_pos c12] at H
 have c12b0 : decide ((rd l0 x13_1) < (l1.length : Int)) = true := decide_eq_true c12
 clear c12
 by_cases c13 : 0 ≤ (rd l1 x13_1)
 {
 rw [if_pos c13] at H
 have c13b0 : decide (0 ≤ (rd l1 x13_1)) = true := decide_eq_true c13
 clear c13
 by_cases c14 : (rd l1 x13_1) < (x5_1.length : Int)
 {
 rw [if_pos c14] at H
 have c14b0 : decide ((rd l1 x13_1) < (x5_1.length : Int)) = true := decide_eq_true c14
 clear c14
 obtain ⟨y511, hy511⟩ : ∃ y_ : List Int, y_ = (x5_1.set ((rd l1 x13_1) : Int).toNat (rd l1 (rd l0 x13_1))) := ⟨_, rfl⟩
 replace H : (spec_l02Rename.l0 k1 l1 y511 l0 (l0.length : Int) (wrap64 (x13_1 + 1))) = some r := by first | (rw [hy511]; with_reducible exact H) | (have H2_ := (Option.bind_some _ _).symm.trans H; rw [hy511]; with_reducible exact H2_) | (have H2_ := (Option.bind_some _ _).symm.trans H; with_reducible exact H2_) | with_reducible exact H | (rw [hy511]; exact H) | exact H
 have Ny511 := Aside0.mk hy511
 clear hy511
 have H' := Aside0.mk H
 clear H
 have p508 : 0 ≤ (x13_1 : Int) := dX
 have q508 : x13_1 < (l0.length : Int) := dX
 obtain ⟨ad508, e508, hx508_0⟩ := Kd.at_int HR0.out x13_1 p508 q508
 cases e508
 replace hx508_0 := (HB.out.cell (World.block_lt_of_cell? w _ hx508_0)).trans hx508_0
 replace p508 := eq_true p508
 replace q508 := eq_true q508
 try go_wp2
 have n0_ := Aside0.mk (Kd.R_drew HO_5.out)
 have n1_ := Aside0.mk (below_drew1 HB.out)
 clear HO_5 HB
 have HO_5 := n0_
 have HB := n1_
 clear n0_ n1_
 have p509 : 0 ≤ (x13_1 : Int) := dX
 have q509 : x13_1 < (l1.length : Int) := dX
 obtain ⟨ad509, e509, hx509_0⟩ := Kd.at_int HR1.out x13_1 p509 q509
 have hw509_0 := hx509_0
 cases e509
 replace hx509_0 := (HB.out.cell (World.block_lt_of_cell? w _ hx509_0)).trans hx509_0
 replace p509 := eq_true p509
 replace q509 := eq_true q509
 have p510 : 0 ≤ ((rd l0 x13_1) : Int) := dX
 have q510 : (rd l0 x13_1) < (l1.length : Int) := dX
 obtain ⟨ad510, e510, hx510_0⟩ := Kd.at_int HR1.out (rd l0 x13_1) p510 q510
 have hw510_0 := hx510_0
 obtain rfl : ad509 = ad510 := (by injection e510)
 replace hx510_0 := (HB.out.cell (World.block_lt_of_cell? w _ hx510_0)).trans hx510_0
 replace p510 := eq_true p510
 replace q510 := eq_true q510
 have p15 : 0 ≤ ((rd l1 x13_1) : Int) := dX
 have q15 : ((rd l1 x13_1) : Int) < ((x5_1.length : Int) : Int) := dX
 obtain ⟨go15, co15, eo15, gb15, gl15, cl15, HG15⟩ := Kd.R_form HO_5.out (by omega)
 (first | cases eo15 | (injection eo15 with ea_ en_ ec_; (first | subst ea_ | (injection ea_ with ea_; subst ea_)); subst ec_; clear en_))
 have GB15 := Aside0.mk gb15
 have GG15 := Aside0.mk HG15
 clear gb15 gl15 HG15
 obtain ⟨hx15_0, hf15_0⟩ := Kd.R_celln 0 HO_5.out ((rd l1 x13_1) : Int) p15 q15
 replace p15 := eq_true p15
 replace q15 := eq_true q15
 have HP17 := Kd.R_putn HO_5.out ((rd l1 x13_1) : Int) (rd l1 (rd l0 x13_1))
 rw [← Ny511.out] at HP17
 have HQ17 := Aside0.mk HP17
 clear HP17
 refine start_ (n := 11) (S := fun w' => w'.cell? (ad509.add (x13_1).toNat) = some (.int .i64 (rd l1 x13_1)) ∧ w'.cell? (ad509.add ((rd l0 x13_1)).toNat) = some (.int .i64 (rd l1 (rd l0 x13_1)))) (ds := [10]) #[ff,ff,ff,ff,ff,ff,ff,ff,ff,ff,ff] (by kernel_rfl) rfl rfl ⟨((HB.out.cell (World.block_lt_of_cell? w _ hw509_0)).trans hw509_0), ((HB.out.cell (World.block_lt_of_cell? w _ hw510_0)).trans hw510_0)⟩ (fun hHeld => ?_); refine with_tabW spec_l02Rename.tab5 spec_l02Rename.bits5 (fun HT_ HW_ => ?_)
 generalize wr.drew = w16 at HO_5 HB GG15 HQ17 hf15_0 hx15_0 hx509_0 hx510_0 hHeld ⊢
 refine pX 0 18 (fl 11 1) rfl rfl HT_.out ?_
 refine pX 1 19 (fl 11 3) rfl rfl HT_.out ?_
 refine pX 2 20 (fl 11 7) rfl rfl HT_.out ?_
 refine pX 3 21 (fl 11 15) rfl rfl HT_.out ?_
 refine pX 5 23 (fl 11 47) rfl rfl HT_.out ?_
 refine pX 6 24 (fl 11 111) rfl rfl HT_.out ?_
 refine pX 7 25 (fl 11 239) rfl rfl HT_.out ?_
 refine tX2 4 22 (fl 11 255) rfl rfl HT_.out HW_.out hHeld ?_
 refine tX2 8 26 (fl 11 511) rfl rfl HT_.out HW_.out hHeld ?_
 refine pX 9 27 (fl 11 1023) rfl rfl HT_.out ?_
 refine last_ (i := 10) (N := none) #[tt,tt,tt,tt,tt,tt,tt,tt,tt,tt,tt] rfl rfl (one_of HT_.out (by kernel_rfl)) (by decide) (fun K hK => ?_)
 refine skip_ (w1 := ?_) (by rfl) rfl ?_ ?_
 rotate_left
 {
 go_simp
 rfl
 }
 refine hK.out _ _ ?_
 clear hK K
 refine done_ (done_of HT_.out (by kernel_rfl)) ?_
 try go_wp2
 go_roundg k1
 case measure => have := HK1.out; omega
 case rel => exact ⟨(y511), (wrap64 (x13_1 + 1)), vX, H', ⟨by have := HK1.out; omega⟩, ⟨rX HQ17.out⟩, ⟨bX1 HB.out GB15.out⟩⟩
 }
 {
 rw [if_neg c14] at H
 exact absurd H (by simp)
 }
 }
 {
 rw [if_neg c13] at H
 exact absurd H (by simp)
 }
 }
 {
 rw [if_neg c12] at H
 exact absurd H (by simp)
 }
 }
 {
 rw [if_neg c11] at H
 exact absurd H (by simp)
 }
 }
 {
 rw [if_neg c10] at H
 exact absurd H (by simp)
 }
 }
 {
 rw [if_neg c9] at H
 exact absurd H (by simp)
 }
 }
 {
 rw [if_neg c8] at H
 exact absurd H (by simp)
 }
 }
 {
 rw [if_neg c7] at H
 have c7b0 : decide (x13_1 < (l0.length : Int)) = false := decide_eq_false c7
 clear c7
 obtain rfl := Option.some.inj H
 go_wp2
 go_ret
 exact ⟨_, eX, by (with_reducible repeat (first|apply rA|apply rN|apply rD)); exact HO_5.out, bX HB.out⟩
 }
 }
 {
 rw [if_neg c4] at H
 exact absurd H (by simp)
 }
 }
 {
 rw [if_neg c3] at H
 exact absurd H (by simp)
 }

/-! ### spec_l03Rename: function 98 -/
def spec_l03Rename.f (k : Nat) (l0_0 : List Int) (l0_1 : List Int) (l1 : List Int) : Option (List Int × List Int) := (spec_l02Rename.f k l0_0 l1).bind fun t514 => ((spec_l02Rename.f k l0_1 l1).bind fun t517 => (some (t514, t517)))
def spec_l03Rename.T1 : Bool × List (List Nat × List Nat) := (true, [([], []), ([0], [0]), ([], []), ([1, 2], [1, 2]), ([], []), ([4], [4]), ([], []), ([5, 6, 3], [5, 6]), ([3, 7], [3, 7]), ([8, 7, 0, 1, 2, 3, 4, 5, 6, 7, 8], [8])])
def spec_l03Rename.B1 : List Nat := [0, 1, 0, 7, 0, 16, 0, 127, 255, 511]
theorem spec_l03Rename.tab1 : rtab .any (opsOf Tryz.f98 1) = spec_l03Rename.T1 := by kernel_rfl
theorem spec_l03Rename.bits1 : waitsOk spec_l03Rename.T1.2 spec_l03Rename.B1 = true := by kernel_rfl
set_option maxHeartbeats 8000000 in
set_option maxRecDepth 100000 in
theorem spec_l03Rename.calls (k : Nat) (A0_0 : Option Addr) (c0_0 : Nat) (l0_0 : List Int) (A0_1 : Option Addr) (c0_1 : Nat) (l0_1 : List Int) (A1 : Option Addr) (c1 : Nat) (l1 : List Int) (r1 : List Int) (r2 : List Int) (w : World) (hr0_0 : Kd.C (Kd.int .i64) w A0_0 l0_0.length l0_0) (hc0_0 : l0_0.length ≤ c0_0) (hr0_1 : Kd.C (Kd.int .i64) w A0_1 l0_1.length l0_1) (hc0_1 : l0_1.length ≤ c0_1) (hr1 : Kd.C (Kd.int .i64) w A1 l1.length l1) (hc1 : l1.length ≤ c1) (h : spec_l03Rename.f k l0_0 l0_1 l1 = some (r1, r2)) :
  Calls Tryz.prog 98 #[.agg #[.slice A0_0 l0_0.length c0_0, .slice A0_1 l0_1.length c0_1], .slice A1 l1.length c1] w fun e w' => ∃ v0_ v1_ : Value, e = .returned (.agg #[v0_, v1_]) ∧ Kd.R (Kd.int .i64) 3 w' w.heap.size (fun k_ => some k_ ≠ (v1_ : Value).ownBlock) v0_ r1 ∧ Kd.R (Kd.int .i64) 3 w' w.heap.size (fun k_ => some k_ ≠ (v0_ : Value).ownBlock) v1_ r2 ∧ Below w.heap.size w w' := by
 have hu25 := Tryz.underlying25
 have HR0_0 := Aside0.mk hr0_0
 have HC0_0 := Aside0.mk hc0_0
 clear hr0_0 hc0_0
 have HR0_1 := Aside0.mk hr0_1
 have HC0_1 := Aside0.mk hc0_1
 clear hr0_1 hc0_1
 have HR1 := Aside0.mk hr1
 have HC1 := Aside0.mk hc1
 clear hr1 hc1
 have HB := Aside0.mk (Below.refl w.heap.size w)
 have H : ((spec_l02Rename.f k l0_0 l1).bind fun t514 => ((spec_l02Rename.f k l0_1 l1).bind fun t517 => (some (t514, t517)))) = some (r1, r2) := h
 clear h
 replace H := Option.bind_eq_some_iff.mp H
 obtain ⟨t514, A30, H⟩ := H
 replace H : ((spec_l02Rename.f k l0_1 l1).bind fun t517 => (some (t514, t517))) = some (r1, r2) := H
 have A3 := Aside0.mk A30
 clear A30
 replace H := Option.bind_eq_some_iff.mp H
 obtain ⟨t517, A40, H⟩ := H
 replace H : (some (t514, t517)) = some (r1, r2) := H
 have A4 := Aside0.mk A40
 clear A40
 simp only [Option.some.injEq, Prod.mk.injEq] at H
 obtain ⟨rfl, rfl⟩ := H
 go_enter Tryz.func98, Tryz.ntmps98
 try go_wp2_with (first | ((with_reducible refine gate_dst (N := 2) rfl ?_); refine box_event ?hg (N := 2) ?hd (cs := #[.slice A0_0 l0_0.length c0_0, .slice A0_1 l0_1.length c0_1]) (t := 25) ?hr ?_; (case hd => rfl); (case hg => rfl); (case hr => first | (go_simp; done) | (go_simp; rfl)); intro gb512 hg w5 hbox hb; have n0_ := Aside0.mk (below_step (bX HB.out) hb); have n1_ := Aside0.mk (hbox); have n2_ := Aside0.mk ((szX (below_size (bX HB.out)) hg : w.heap.size ≤ gb512)); have n3_ := Aside0.mk ((szX (below_size (bX HB.out)) hg : w.heap.size ≤ gb512)); clear HB; have HB := n0_; have BK512 := n1_; have GW512 := n2_; have GE512 := n3_; clear n0_ n1_ n2_ n3_ hb hbox hg) | ((with_reducible refine gate_dst (N := 4) rfl ?_); refine box_event ?hg (N := 4) ?hd (cs := #[.slice none 0 0, .slice none 0 0]) (t := 25) ?hr ?_; (case hd => rfl); (case hg => rfl); (case hr => first | (go_simp; done) | (go_simp; rfl)); intro gb513 hg w6 hbox hb; have n0_ := Aside0.mk (bbX BK512.out hb); have n1_ := Aside0.mk (below_step (bX1 HB.out GE512.out) hb); have n2_ := Aside0.mk (hbox); have n3_ := Aside0.mk ((szX (below_size (bX1 HB.out GE512.out)) hg : w.heap.size ≤ gb513)); have n4_ := Aside0.mk ((szX (below_size (bX1 HB.out GE512.out)) hg : w.heap.size ≤ gb513)); have n5_ := Aside0.mk (neX BK512.out hg); have n6_ := Aside0.mk (nfX BK512.out hg); clear BK512 HB; have BK512 := n0_; have HB := n1_; have BK513 := n2_; have GW513 := n3_; have GE513 := n4_; have NB512_513 := n5_; have NB513_512 := n6_; clear n0_ n1_ n2_ n3_ n4_ n5_ n6_ hb hbox hg))
 have n0_ := Aside0.mk (blk_drew BK512.out)
 have n1_ := Aside0.mk (blk_drew BK513.out)
 have n2_ := Aside0.mk (below_drew1 HB.out)
 clear BK512 BK513 HB
 have BK512 := n0_
 have BK513 := n1_
 have HB := n2_
 clear n0_ n1_ n2_
 refine start_ (n := 10) (S := fun w' => w'.cell? ⟨gb512, 0, none⟩ = some (.slice A0_0 l0_0.length c0_0) ∧ w'.cell? ⟨gb512, 1, none⟩ = some (.slice A0_1 l0_1.length c0_1)) (ds := []) #[ff,ff,ff,ff,ff,ff,ff,ff,ff,ff] (by kernel_rfl) rfl rfl ⟨cz20 BK512.out, cz21 BK512.out⟩ (fun hHeld => ?_); refine with_tabW spec_l03Rename.tab1 spec_l03Rename.bits1 (fun HT_ HW_ => ?_)
 generalize w6.drew = w7 at BK512 BK513 HB hHeld ⊢
 refine pX 0 5 (fl 10 1) rfl rfl HT_.out ?_
 refine pX 2 7 (fl 10 5) rfl rfl HT_.out ?_
 refine pX 4 9 (fl 10 21) rfl rfl HT_.out ?_
 refine pX 6 11 (fl 10 85) rfl rfl HT_.out ?_
 refine tX2 1 6 (fl 10 87) rfl rfl HT_.out HW_.out hHeld ?_
 refine tX2 5 10 (fl 10 119) rfl rfl HT_.out HW_.out hHeld ?_
 refine one_ (i := 3) (N := some 8) #[tt,tt,tt,tt,tt,tt,tt,ff,ff,ff] rfl rfl (one_of HT_.out (by kernel_rfl)) (by decide) (fun K hK => ?_)
 refine goes_ Tryz.func131 (by kernel_rfl) rfl #[.slice A0_0 l0_0.length c0_0, .slice A1 l1.length c1] (by rfl) rfl rfl aX ?_
 with_reducible refine (spec_l02Rename.calls k _ _ l0_0 _ _ l1 t514 _ ?side1 ?side2 ?side3 ?side4 A3.out).mono ?_
 (case side1 => exact cX (Kd.C_below HR0_0.out HB.out))
 (case side2 => exact HC0_0.out)
 (case side3 => exact cX (Kd.C_below HR1.out HB.out))
 (case side4 => exact HC1.out)
 rintro e w8 ⟨v515, rfl, ho0, hb⟩
 refine ⟨_, rfl, ?_⟩
 have n0_ := Aside0.mk (Kd.R_lower ho0 (below_size (bX2 HB.out GE512.out GE513.out)))
 have n1_ := Aside0.mk (bbX BK512.out hb)
 have n2_ := Aside0.mk (bbX BK513.out hb)
 have n3_ := Aside0.mk (below_step (bX2 HB.out GE512.out GE513.out) hb)
 clear BK512 BK513 HB
 have HO516 := n0_
 have BK512 := n1_
 have BK513 := n2_
 have HB := n3_
 clear n0_ n1_ n2_ n3_
 (try clear hb)
 (try clear hb2)
 (try clear hk)
 (try clear hi)
 (try clear ho0)
 refine hK.out _ _ ⟨cz20 BK512.out, cz21 BK512.out⟩ (fun hHeld => ?_)
 clear hK K
 refine norm_ (a' := ?_) ?_ ?_
 rotate_left
 {
 show Act.put _ (some 8) _ = _
 simp only [Act.put, zA, zB, zC, i64_w, i32_w]
 rfl
 }
 refine one_ (i := 7) (N := some 12) #[tt,tt,tt,tt,tt,tt,tt,tt,ff,ff] rfl rfl (one_of HT_.out (by kernel_rfl)) (by decide) (fun K hK => ?_)
 refine goes_ Tryz.func131 (by kernel_rfl) rfl #[.slice A0_1 l0_1.length c0_1, .slice A1 l1.length c1] (by rfl) rfl rfl aX ?_
 with_reducible refine (spec_l02Rename.calls k _ _ l0_1 _ _ l1 t517 _ ?side1 ?side2 ?side3 ?side4 A4.out).mono ?_
 (case side1 => exact cX (Kd.C_below HR0_1.out HB.out))
 (case side2 => exact HC0_1.out)
 (case side3 => exact cX (Kd.C_below HR1.out HB.out))
 (case side4 => exact HC1.out)
 rintro e w9 ⟨v518, rfl, ho0, hb⟩
 refine ⟨_, rfl, ?_⟩
 have n0_ := Aside0.mk (Kd.R_elder' (rX HO516.out) (Kd.R_base ho0) hb)
 have n1_ := Aside0.mk (Kd.R_lower (Kd.R_new' ho0 (Kd.R_lt (rX HO516.out))) (below_size (bX2 HB.out GE512.out GE513.out)))
 have n2_ := Aside0.mk (bbX BK512.out hb)
 have n3_ := Aside0.mk (bbX BK513.out hb)
 have n4_ := Aside0.mk (below_step (bX2 HB.out GE512.out GE513.out) hb)
 clear HO516 BK512 BK513 HB
 have HO516 := n0_
 have HO519 := n1_
 have BK512 := n2_
 have BK513 := n3_
 have HB := n4_
 clear n0_ n1_ n2_ n3_ n4_
 (try clear hb)
 (try clear hb2)
 (try clear hk)
 (try clear hi)
 (try clear ho0)
 obtain ⟨Ao10, co10, eo10⟩ := Kd.R_slice HO519.out
 (first | subst eo10 | (injection eo10 with f1_ f2_ f3_; have f4_ := f1_.symm; have f5_ := f3_.symm; clear f1_ f2_ f3_; subst f4_; subst f5_))
 obtain ⟨Ao11, co11, eo11⟩ := Kd.R_slice HO516.out
 (first | subst eo11 | (injection eo11 with f1_ f2_ f3_; have f4_ := f1_.symm; have f5_ := f3_.symm; clear f1_ f2_ f3_; subst f4_; subst f5_))
 refine hK.out _ _ ⟨cz20 BK512.out, cz21 BK512.out⟩ (fun hHeld => ?_)
 clear hK K
 refine norm_ (a' := ?_) ?_ ?_
 rotate_left
 {
 show Act.put _ (some 12) _ = _
 simp only [Act.put, zA, zB, zC, i64_w, i32_w]
 rfl
 }
 refine pX 8 13 (fl 10 511) rfl rfl HT_.out ?_
 refine one_ (i := 9) (N := none) #[tt,tt,tt,tt,tt,tt,tt,tt,tt,tt] rfl rfl (one_of HT_.out (by kernel_rfl)) (by decide) (fun K hK => ?_)
 have hs12 : w9.cell? ⟨gb513, 0, none⟩ = some (.slice none 0 0) := cz20 BK513.out
 have hfs12 := blk_frozen BK513.out 0
 have hns12_0 := NB512_513.out
 have hms12_0 := NB513_512.out
 have hs13 : w9.cell? ⟨gb513, 1, none⟩ = some (.slice none 0 0) := cz21 BK513.out
 have hfs13 := blk_frozen BK513.out 1
 have hns13_0 := NB512_513.out
 have hms13_0 := NB513_512.out
 refine skip_ (w1 := ?_) (by rfl) rfl ?_ ?_
 rotate_left
 {
 go_simp
 rfl
 }
 refine hK.out _ _ ⟨((cell_far (p := ⟨gb513, _, none⟩) NB512_513.out _).trans (((cell_far (p := ⟨gb513, _, none⟩) NB512_513.out _).trans (hHeld.1)))), ((cell_far (p := ⟨gb513, _, none⟩) NB512_513.out _).trans (((cell_far (p := ⟨gb513, _, none⟩) NB512_513.out _).trans (hHeld.2))))⟩ (fun hHeld => ?_)
 clear hK K
 refine done_ (done_of HT_.out (by kernel_rfl)) ?_
 try go_wp2
 refine bodyPost_ret (results_cell_row rfl _ _ gb513 25 #[.slice Ao11 t514.length co11, .slice Ao10 t517.length co10] (0, 0) _ rfl (by (with_reducible repeat (first|refine kN ?_ _|refine kD ?_|refine kA ?_ _)); refine blk_put (cs := #[.slice Ao11 t514.length co11, .slice none 0 0]) ?_ 1 _ rfl; (with_reducible repeat (first|refine kN ?_ _|refine kD ?_|refine kA ?_ _)); refine blk_put (cs := #[.slice none 0 0, .slice none 0 0]) ?_ 0 _ rfl; (with_reducible repeat (first|refine kN ?_ _|refine kD ?_|refine kA ?_ _)); exact BK513.out) Tryz.underlying25 rfl (by kernel_rfl)) rfl ?_
 exact ⟨_, _, eX, by (with_reducible repeat (first|apply rA|apply rN|apply rD)); exact Kd.R_mono (Kd.R_far (p := ⟨gb513, 1, none⟩) (Kd.R_far (p := ⟨gb513, 0, none⟩) (Kd.R_types HO516.out BK513.out (by decide)) (fun _ hk => hk.2) (.slice Ao11 t514.length co11)) (fun _ hk => hk.2) (.slice Ao10 t517.length co10)) (fun _ hk => hk.1.2), by (with_reducible repeat (first|apply rA|apply rN|apply rD)); exact Kd.R_mono (Kd.R_far (p := ⟨gb513, 1, none⟩) (Kd.R_far (p := ⟨gb513, 0, none⟩) (Kd.R_types HO519.out BK513.out (by decide)) (fun _ hk => hk.2) (.slice Ao11 t514.length co11)) (fun _ hk => hk.2) (.slice Ao10 t517.length co10)) (fun _ hk => hk.1.2), bX2 HB.out GE512.out GE513.out⟩

/-! ### spec_l03Names: function 99 -/
def spec_l03Names.f (k : Nat) (l0_0 : List Int) (l0_1 : List Int) (a1 : Int) : Option (List Int) := (spec_l02Reach.f k l0_0 l0_1 a1).bind fun t521 => ((spec_l02Inverse.f k t521).bind fun t524 => (some t524))
set_option maxHeartbeats 8000000 in
set_option maxRecDepth 100000 in
theorem spec_l03Names.calls (k : Nat) (A0_0 : Option Addr) (c0_0 : Nat) (l0_0 : List Int) (A0_1 : Option Addr) (c0_1 : Nat) (l0_1 : List Int) (a1 : Int) (r : List Int) (w : World) (hr0_0 : Kd.C (Kd.int .i64) w A0_0 l0_0.length l0_0) (hc0_0 : l0_0.length ≤ c0_0) (hr0_1 : Kd.C (Kd.int .i64) w A0_1 l0_1.length l0_1) (hc0_1 : l0_1.length ≤ c0_1) (h : spec_l03Names.f k l0_0 l0_1 a1 = some r) :
  Calls Tryz.prog 99 #[.agg #[.slice A0_0 l0_0.length c0_0, .slice A0_1 l0_1.length c0_1], .int .i64 a1] w fun e w' => ∃ v0_ : Value, e = .returned (v0_) ∧ Kd.R (Kd.int .i64) 3 w' w.heap.size (fun _ => True) v0_ r ∧ Below w.heap.size w w' := by
 have hu25 := Tryz.underlying25
 have HR0_0 := Aside0.mk hr0_0
 have HC0_0 := Aside0.mk hc0_0
 clear hr0_0 hc0_0
 have HR0_1 := Aside0.mk hr0_1
 have HC0_1 := Aside0.mk hc0_1
 clear hr0_1 hc0_1
 have HB := Aside0.mk (Below.refl w.heap.size w)
 have H : ((spec_l02Reach.f k l0_0 l0_1 a1).bind fun t521 => ((spec_l02Inverse.f k t521).bind fun t524 => (some t524))) = some r := h
 clear h
 replace H := Option.bind_eq_some_iff.mp H
 obtain ⟨t521, A30, H⟩ := H
 replace H : ((spec_l02Inverse.f k t521).bind fun t524 => (some t524)) = some r := H
 have A3 := Aside0.mk A30
 clear A30
 replace H := Option.bind_eq_some_iff.mp H
 obtain ⟨t524, A40, H⟩ := H
 replace H : (some t524) = some r := H
 have A4 := Aside0.mk A40
 clear A40
 obtain rfl := Option.some.inj H
 go_enter Tryz.func99, Tryz.ntmps99
 go_wp2_with (first | ((with_reducible refine gate_dst (N := 2) rfl ?_); refine box_event ?hg (N := 2) ?hd (cs := #[.slice A0_0 l0_0.length c0_0, .slice A0_1 l0_1.length c0_1]) (t := 25) ?hr ?_; (case hd => rfl); (case hg => rfl); (case hr => first | (go_simp; done) | (go_simp; rfl)); intro gb520 hg w5 hbox hb; have n0_ := Aside0.mk (below_step (bX HB.out) hb); have n1_ := Aside0.mk (hbox); have n2_ := Aside0.mk ((szX (below_size (bX HB.out)) hg : w.heap.size ≤ gb520)); have n3_ := Aside0.mk ((szX (below_size (bX HB.out)) hg : w.heap.size ≤ gb520)); clear HB; have HB := n0_; have BK520 := n1_; have GW520 := n2_; have GE520 := n3_; clear n0_ n1_ n2_ n3_ hb hbox hg; have hcz6_0 := cz20 BK520.out; have hcz6_1 := cz21 BK520.out; have hfz6_0 := blk_frozen BK520.out 0; have hfz6_1 := blk_frozen BK520.out 1) | ((with_reducible refine gate_callee (f := 121) rfl ?_); refine goesL_ (some 10) rfl rfl Tryz.func121 (by kernel_rfl) rfl #[.slice A0_0 l0_0.length c0_0, .slice A0_1 l0_1.length c0_1, .int .i64 a1] rfl aX ?_; (with_reducible refine (spec_l02Reach.calls k _ _ l0_0 _ _ l0_1 a1 t521 _ ?side1 ?side2 ?side3 ?side4 A3.out).mono ?_); (case side1 => exact cX (Kd.C_below HR0_0.out HB.out)); (case side2 => exact HC0_0.out); (case side3 => exact cX (Kd.C_below HR0_1.out HB.out)); (case side4 => exact HC0_1.out); rintro e w7 ⟨v522, rfl, ho0, hb⟩; refine ⟨_, rfl, ?_⟩; have n0_ := Aside0.mk (Kd.R_lower ho0 (below_size (bX1 HB.out GE520.out))); have n1_ := Aside0.mk (bbX BK520.out hb); have n2_ := Aside0.mk (below_step (bX1 HB.out GE520.out) hb); clear BK520 HB; have HO523 := n0_; have BK520 := n1_; have HB := n2_; clear n0_ n1_ n2_; (try clear hb); (try clear hb2); (try clear hk); (try clear hi); (try clear ho0); obtain ⟨Ao8, co8, eo8⟩ := Kd.R_slice HO523.out; subst eo8) | ((with_reducible refine gate_callee (f := 70) rfl ?_); refine goesL_ (some 11) rfl rfl Tryz.func70 (by kernel_rfl) rfl #[.slice Ao8 t521.length co8] rfl aX ?_; (with_reducible refine (spec_l02Inverse.calls k _ _ t521 t524 _ ?side1 ?side2 A4.out).mono ?_); (case side1 => exact cX (Kd.R_reads' HO523.out).2.2); (case side2 => exact (Kd.R_reads' HO523.out).2.1); rintro e w9 ⟨v525, rfl, ho0, hb⟩; refine ⟨_, rfl, ?_⟩; have n0_ := Aside0.mk (Kd.R_elder' (rX HO523.out) (Kd.R_base ho0) hb); have n1_ := Aside0.mk (Kd.R_lower (Kd.R_new' ho0 (Kd.R_lt (rX HO523.out))) (below_size (bX1 HB.out GE520.out))); have n2_ := Aside0.mk (bbX BK520.out hb); have n3_ := Aside0.mk (below_step (bX1 HB.out GE520.out) hb); clear HO523 BK520 HB; have HO523 := n0_; have HO526 := n1_; have BK520 := n2_; have HB := n3_; clear n0_ n1_ n2_ n3_; (try clear hb); (try clear hb2); (try clear hk); (try clear hi); (try clear ho0)))
 go_ret
 exact ⟨_, eX, by (with_reducible repeat (first|apply rA|apply rN|apply rD)); exact Kd.R_mono HO526.out (fun _ hk => trivial), bX1 HB.out GE520.out⟩

/-! ### spec_SameList: function 130 -/
def spec_SameList.l0 : Nat → List Int → List Int → Int → Int → Option (Bool)
 | 0, _, _, _, _ => none
 | k + 1, x1, x12, x13, x14 => if x14 < x13 then (if 0 ≤ x14 then (if x14 < (x12.length : Int) then (if x14 < (x1.length : Int) then (if (rd x12 x14) = (rd x1 x14) then (spec_SameList.l0 k x1 x12 x13 (wrap64 (x14 + 1))) else (some false)) else (none)) else (none)) else (none)) else (some true)
def spec_SameList.f (k : Nat) (l0 : List Int) (l1 : List Int) : Option (Bool) := if (l0.length : Int) = (l1.length : Int) then (spec_SameList.l0 k l1 l0 (l0.length : Int) 0) else (some false)
set_option maxHeartbeats 8000000 in
set_option maxRecDepth 100000 in
theorem spec_SameList.calls (k : Nat) (A0 : Option Addr) (c0 : Nat) (l0 : List Int) (A1 : Option Addr) (c1 : Nat) (l1 : List Int) (r : Bool) (w : World) (hr0 : Kd.C (Kd.int .i64) w A0 l0.length l0) (hc0 : l0.length ≤ c0) (hr1 : Kd.C (Kd.int .i64) w A1 l1.length l1) (hc1 : l1.length ≤ c1) (h : spec_SameList.f k l0 l1 = some r) :
  Calls Tryz.prog 130 #[.slice A0 l0.length c0, .slice A1 l1.length c1] w fun e w' => e = .returned (.bool r) ∧ Drawn0 w w' := by
 have HR0 := Aside0.mk hr0
 have HC0 := Aside0.mk hc0
 clear hr0 hc0
 have HR1 := Aside0.mk hr1
 have HC1 := Aside0.mk hc1
 clear hr1 hc1
 have H : (if (l0.length : Int) = (l1.length : Int) then (spec_SameList.l0 k l1 l0 (l0.length : Int) 0) else (some false)) = some r := h
 clear h
 by_cases c3 : (l0.length : Int) = (l1.length : Int)
 {
 rw [if_pos c3] at H
 have c3b0 : ((l0.length : Int) == (l1.length : Int)) = true := beq_iff_eq.mpr c3
 have c3b1 : ((l0.length : Int) != (l1.length : Int)) = false := bne_eq_false_iff_eq.mpr c3
 have c3b2 : (l0.length == l1.length) = true := by first | simpa using c3 | (simp at c3 ⊢; omega)
 clear c3
 have H' := Aside0.mk H
 clear H
 go_enter Tryz.func130, Tryz.ntmps130
 go_wp2
 go_loopg [14] k (fun kq v14 w' => ∃ (x14_1 : Int), v14 = .int .i64 x14_1 ∧ Aside0 (spec_SameList.l0 kq l1 l0 (l0.length : Int) x14_1 = some r) ∧ Aside0 (kq ≤ k) ∧ Drawn0 w w')
 case atStart => exact ⟨(0), vX, H', ⟨Nat.le_refl _⟩, by repeat (first | exact Drawn0.refl _ | apply Drawn0.step)⟩
 case round =>
 clear H'
 try clear c1
 try clear p2
 try clear c3
 try clear c3b0
 try clear c3b1
 try clear c3b2
 obtain ⟨x14_1, rfl, HA, HK1, ⟨m1, rfl⟩⟩ := hrel
 cases gk with
 | zero => exact absurd HA.out (by simp [spec_SameList.l0])
 | succ k1 =>
 have H := HA.out
 clear HA
 simp only [spec_SameList.l0] at H
 by_cases c4 : x14_1 < (l0.length : Int)
 {
 rw [if_pos c4] at H
 have c4b0 : decide (x14_1 < (l0.length : Int)) = true := decide_eq_true c4
 clear c4
 by_cases c5 : 0 ≤ x14_1
 {
 rw [if_pos c5] at H
 have c5b0 : decide (0 ≤ x14_1) = true := decide_eq_true c5
 clear c5
 by_cases c6 : x14_1 < (l0.length : Int)
 {
 rw [if_pos c6] at H
 have c6b0 : decide (x14_1 < (l0.length : Int)) = true := decide_eq_true c6
 clear c6
 by_cases c7 : x14_1 < (l1.length : Int)
 {
 rw [if_pos c7] at H
 have c7b0 : decide (x14_1 < (l1.length : Int)) = true := decide_eq_true c7
 clear c7
 by_cases c8 : (rd l0 x14_1) = (rd l1 x14_1)
 {
 rw [if_pos c8] at H
 have c8b0 : ((rd l0 x14_1) == (rd l1 x14_1)) = true := beq_iff_eq.mpr c8
 have c8b1 : ((rd l0 x14_1) != (rd l1 x14_1)) = false := bne_eq_false_iff_eq.mpr c8
 clear c8
 have H' := Aside0.mk H
 clear H
 have p527 : 0 ≤ (x14_1 : Int) := dX
 have q527 : x14_1 < (l0.length : Int) := dX
 obtain ⟨ad527, e527, hx527_0⟩ := Kd.at_int HR0.out x14_1 p527 q527
 cases e527
 replace p527 := eq_true p527
 replace q527 := eq_true q527
 have p528 : 0 ≤ (x14_1 : Int) := dX
 have q528 : x14_1 < (l1.length : Int) := dX
 obtain ⟨ad528, e528, hx528_0⟩ := Kd.at_int HR1.out x14_1 p528 q528
 cases e528
 replace p528 := eq_true p528
 replace q528 := eq_true q528
 go_wp2
 go_roundg k1
 case measure => have := HK1.out; omega
 case rel => exact ⟨(wrap64 (x14_1 + 1)), vX, H', ⟨by have := HK1.out; omega⟩, by repeat (first | exact Drawn0.refl _ | apply Drawn0.step)⟩
 }
 {
 rw [if_neg c8] at H
 have c8b0 : ((rd l0 x14_1) == (rd l1 x14_1)) = false := beq_eq_false_iff_ne.mpr c8
 have c8b1 : ((rd l0 x14_1) != (rd l1 x14_1)) = true := bne_iff_ne.mpr c8
 obtain rfl := Option.some.inj H
 have p527 : 0 ≤ (x14_1 : Int) := dX
 have q527 : x14_1 < (l0.length : Int) := dX
 obtain ⟨ad527, e527, hx527_0⟩ := Kd.at_int HR0.out x14_1 p527 q527
 cases e527
 replace p527 := eq_true p527
 replace q527 := eq_true q527
 have p528 : 0 ≤ (x14_1 : Int) := dX
 have q528 : x14_1 < (l1.length : Int) := dX
 obtain ⟨ad528, e528, hx528_0⟩ := Kd.at_int HR1.out x14_1 p528 q528
 cases e528
 replace p528 := eq_true p528
 replace q528 := eq_true q528
 go_wp2
 go_ret
 exact ⟨by first | rfl | (simp; done) | (simp [*]; done), by repeat (first | exact Drawn0.refl _ | apply Drawn0.step)⟩
 }
 }
 {
 rw [if_neg c7] at H
 exact absurd H (by simp)
 }
 }
 {
 rw [if_neg c6] at H
 exact absurd H (by simp)
 }
 }
 {
 rw [if_neg c5] at H
 exact absurd H (by simp)
 }
 }
 {
 rw [if_neg c4] at H
 have c4b0 : decide (x14_1 < (l0.length : Int)) = false := decide_eq_false c4
 clear c4
 obtain rfl := Option.some.inj H
 go_wp2
 go_ret
 exact ⟨by first | rfl | (simp; done) | (simp [*]; done), by repeat (first | exact Drawn0.refl _ | apply Drawn0.step)⟩
 }
 }
 {
 rw [if_neg c3] at H
 have c3b0 : ((l0.length : Int) == (l1.length : Int)) = false := beq_eq_false_iff_ne.mpr c3
 have c3b1 : ((l0.length : Int) != (l1.length : Int)) = true := bne_iff_ne.mpr c3
 have c3b2 : (l0.length == l1.length) = false := by first | simpa using c3 | (simp at c3 ⊢; omega)
 obtain rfl := Option.some.inj H
 go_enter Tryz.func130, Tryz.ntmps130
 go_wp2
 go_ret
 exact ⟨by first | rfl | (simp; done) | (simp [*]; done), by repeat (first | exact Drawn0.refl _ | apply Drawn0.step)⟩
 }

end Go.Proofs.YthhdgeafdnikcaaGreatDoor.S
