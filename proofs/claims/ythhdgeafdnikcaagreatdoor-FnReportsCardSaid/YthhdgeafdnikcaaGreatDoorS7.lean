-- PRINTED by print.py (a twelfth state) out of the translation. Not trusted: Lean checks it.
import Derived.Test.YthhdgeafdnikcaaGreatDoorS0
import Derived.Test.YthhdgeafdnikcaaGreatDoorS2
import Derived.Test.YthhdgeafdnikcaaGreatDoorS3
import Derived.Test.YthhdgeafdnikcaaGreatDoorS6
namespace Go.Proofs.YthhdgeafdnikcaaGreatDoor.S
open Go.RowKit Go.Proofs.YthhdgeafdnikcaaGreatDoorW.PrintWords Go.Proofs.YthhdgeafdnikcaaGreatDoorW.PrintLast Go.Proofs.YthhdgeafdnikcaaGreatDoorW.PrintMore
attribute [local go_sem] max2_int min2_int max_two min_two max_three min_three max_four min_four   -- for this text's walks alone
set_option linter.unusedVariables false
set_option linter.unusedSimpArgs false

/-! ### impl_CylindersOf: function 8 -/
/-! by hand -/
/-! @INFO:38@ -/
/-- What the walk of CylindersOf tells of a world: the rows, the groups, the surface's box. -/
def CylF (w W : World) (E : Nat → Prop) (g : Nat) (A0 A1 : Option Addr) (c0 c1 n0 n1 : Nat) (A4 : Option Addr) (c4 : Nat) (t : List (List Int)) (A5 : Option Addr) (c5 : Nat) (x5 : List Int) : Prop :=
  Kd.S (Kd.slice 3 (Kd.int .i64)) 23 W w.heap.size (fun k_ => some k_ ≠ ((.slice A5 x5.length c5) : Value).ownBlock ∧ E k_) (.slice A4 t.length c4) t ∧
  Kd.R (Kd.int .i64) 3 W w.heap.size E (.slice A5 x5.length c5) x5 ∧
  W.heap[g]? = some (.cells #[(.slice A0 n0 c0), (.slice A1 n1 c1)] 25 (0, 0)) ∧ Below w.heap.size w W
theorem CylF.below {w W W1 : World} {E : Nat → Prop} {g : Nat} {A0 A1 : Option Addr} {c0 c1 n0 n1 : Nat} {A4 : Option Addr} {c4 : Nat} {t : List (List Int)} {A5 : Option Addr} {c5 : Nat} {x5 : List Int} (h : CylF w W E g A0 A1 c0 c1 n0 n1 A4 c4 t A5 c5 x5) (hb : Below W.heap.size W W1) : CylF w W1 E g A0 A1 c0 c1 n0 n1 A4 c4 t A5 c5 x5 :=
  ⟨Kd.S_below h.1 hb, Kd.R_below h.2.1 hb, blk_below h.2.2.1 hb, below_step h.2.2.2 hb⟩
theorem CylF.elder {w W : World} {g : Nat} {A0 A1 : Option Addr} {c0 c1 n0 n1 : Nat} {A4 : Option Addr} {c4 : Nat} {t : List (List Int)} {A5 : Option Addr} {c5 : Nat} {x5 : List Int} (h : CylF w W (fun _ => True) g A0 A1 c0 c1 n0 n1 A4 c4 t A5 c5 x5) : CylF w W (fun k => k ≠ W.heap.size) g A0 A1 c0 c1 n0 n1 A4 c4 t A5 c5 x5 :=
  ⟨Kd.S_mono (Kd.S_elderB h.1 _ (Nat.le_refl _)) (fun _ hk => ⟨hk.1.1, hk.2⟩), Kd.R_mono (Kd.R_elderB h.2.1 _ (Nat.le_refl _)) (fun _ hk => hk.2), h.2.2.1, h.2.2.2⟩
theorem CylF.put {w W : World} {s : Nat} {g : Nat} {A0 A1 : Option Addr} {c0 c1 n0 n1 : Nat} {A4 : Option Addr} {c4 : Nat} {t : List (List Int)} {A5 : Option Addr} {c5 : Nat} {x5 : List Int} (h : CylF w W (fun k => k ≠ s) g A0 A1 c0 c1 n0 n1 A4 c4 t A5 c5 x5) (hs : w.heap.size ≤ s) (hg : g ≠ s) (u : Value) : CylF w (W.setCell ⟨s, 0, none⟩ u) (fun _ => True) g A0 A1 c0 c1 n0 n1 A4 c4 t A5 c5 x5 :=
  ⟨Kd.S_mono (Kd.S_far (p := ⟨s, 0, none⟩) h.1 (fun _ hk => hk.2) u) (fun _ hk => ⟨hk.1, trivial⟩), Kd.R_mono (Kd.R_far (p := ⟨s, 0, none⟩) h.2.1 (fun _ hk => hk) u) (fun _ _ => trivial), blk_far h.2.2.1 hg u, below_set h.2.2.2 hs⟩
mutual
def impl_CylindersOf.l0 : Nat → List (List Int) → List Int → Int → Int → List Int → List Int → Option ((List (S38)) × Bool)
 | 0, _, _, _, _, _, _ => none
 | k + 1, x4, x5, x30, x31, x539000, x539001 => if x31 < x30 then (if 0 ≤ x31 then (if x31 < (x5.length : Int) then (impl_CylindersOf.l0 k x4 (x5.set (x31 : Int).toNat x31) x30 (wrap64 (x31 + 1)) x539000 x539001) else (none)) else (none)) else (impl_CylindersOf.l1 k x4 x5 x4 (x4.length : Int) 0 x539000 x539001)
def impl_CylindersOf.l1 : Nat → List (List Int) → List Int → List (List Int) → Int → Int → List Int → List Int → Option ((List (S38)) × Bool)
 | 0, _, _, _, _, _, _, _ => none
 | k + 1, x4, x5, x39, x40, x41, x539000, x539001 => if x41 < x40 then (if 0 ≤ x41 then (if x41 < (x39.length : Int) then (if 0 < ((rd_L2 x39 x41).length : Int) then ((impl_RowAbove.f k x539000 x539001 (rd (rd_L2 x39 x41) 0)).bind fun t549 => (if t549 < 0 then (impl_CylindersOf.l1 k x4 x5 x39 x40 (wrap64 (x41 + 1)) x539000 x539001) else ((slices_IndexFunc_int_int.f x4 t549).bind fun t550 => (if x41 < (x5.length : Int) then (if 0 ≤ t550 then (if t550 < (x5.length : Int) then (impl_CylindersOf.l2 k x4 x5 (rd x5 x41) (rd x5 t550) x39 x40 x41 (x5.length : Int) 0 x539000 x539001) else (none)) else (none)) else (none))))) else (none)) else (none)) else (none)) else (impl_CylindersOf.l3 k x5 (([] : List (S38))) x4 (x4.length : Int) 0)
def impl_CylindersOf.l2 : Nat → List (List Int) → List Int → Int → Int → List (List Int) → Int → Int → Int → Int → List Int → List Int → Option ((List (S38)) × Bool)
 | 0, _, _, _, _, _, _, _, _, _, _, _ => none
 | k + 1, x4, x5, x11, x12, x39, x40, x41, x65, x66, x539000, x539001 => if x66 < x65 then (if 0 ≤ x66 then (if x66 < (x5.length : Int) then (if (rd x5 x66) = x11 then (impl_CylindersOf.l2 k x4 (x5.set (x66 : Int).toNat (mn x11 x12)) x11 x12 x39 x40 x41 x65 (wrap64 (x66 + 1)) x539000 x539001) else (if (rd x5 x66) = x12 then (impl_CylindersOf.l2 k x4 (x5.set (x66 : Int).toNat (mn x11 x12)) x11 x12 x39 x40 x41 x65 (wrap64 (x66 + 1)) x539000 x539001) else (impl_CylindersOf.l2 k x4 x5 x11 x12 x39 x40 x41 x65 (wrap64 (x66 + 1)) x539000 x539001))) else (none)) else (none)) else (impl_CylindersOf.l1 k x4 x5 x39 x40 (wrap64 (x41 + 1)) x539000 x539001)
def impl_CylindersOf.l3 : Nat → List Int → List (S38) → List (List Int) → Int → Int → Option ((List (S38)) × Bool)
 | 0, _, _, _, _, _ => none
 | k + 1, x5, x14, x92, x93, x94 => if x94 < x93 then (if 0 ≤ x94 then (if x94 < (x92.length : Int) then (if x94 < (x5.length : Int) then (if (rd x5 x94) = x94 then (impl_CylindersOf.l4 k x5 x14 x94 x92 x93 x94 x5 (x5.length : Int) 0 ((rd_L2 x92 x94).length : Int) 0) else (impl_CylindersOf.l3 k x5 x14 x92 x93 (wrap64 (x94 + 1)))) else (none)) else (none)) else (none)) else (some (x14, true))
def impl_CylindersOf.l4 : Nat → List Int → List (S38) → Int → List (List Int) → Int → Int → List Int → Int → Int → Int → Int → Option ((List (S38)) × Bool)
 | 0, _, _, _, _, _, _, _, _, _, _, _ => none
 | k + 1, x5, x14, x15, x92, x93, x94, x108, x109, x110, x563000, x563001 => if x110 < x109 then (if 0 ≤ x110 then (if x110 < (x108.length : Int) then (if (rd x108 x110) = x15 then (impl_CylindersOf.l4 k x5 x14 x15 x92 x93 x94 x108 x109 (wrap64 (x110 + 1)) x563000 (wrap64 (x563001 + 1))) else (impl_CylindersOf.l4 k x5 x14 x15 x92 x93 x94 x108 x109 (wrap64 (x110 + 1)) x563000 x563001)) else (none)) else (none)) else (if x14.length < 8796093022208 then (impl_CylindersOf.l3 k x5 (x14 ++ [(⟨x563000, x563001⟩ : S38)]) x92 x93 (wrap64 (x94 + 1))) else (none))
end
def impl_CylindersOf.f (k : Nat) (l0_0 : List Int) (l0_1 : List Int) : Option ((List (S38)) × Bool) := (impl_SurfaceOk.f k l0_0 l0_1).bind fun t539 => (if t539 = true then ((impl_CyclesOf.f k l0_0).bind fun t540 => (if 0 ≤ (t540.length : Int) then (if ((t540.length : Int) : Int).toNat ≤ 35184372088832 then ((some (List.replicate ((t540.length : Int) : Int).toNat 0 : List Int)).bind fun y543 => (impl_CylindersOf.l0 k t540 y543 (y543.length : Int) 0 l0_0 l0_1)) else (none)) else (none))) else (some (([] : List (S38)), false)))
set_option maxHeartbeats 8000000 in
set_option maxRecDepth 100000 in
theorem impl_CylindersOf.calls (k : Nat) (A0_0 : Option Addr) (c0_0 : Nat) (l0_0 : List Int) (A0_1 : Option Addr) (c0_1 : Nat) (l0_1 : List Int) (r1 : List (S38)) (r2 : Bool) (w : World) (hr0_0 : Kd.C (Kd.int .i64) w A0_0 l0_0.length l0_0) (hc0_0 : l0_0.length ≤ c0_0) (hr0_1 : Kd.C (Kd.int .i64) w A0_1 l0_1.length l0_1) (hc0_1 : l0_1.length ≤ c0_1) (h : impl_CylindersOf.f k l0_0 l0_1 = some (r1, r2)) :
  Calls Tryz.prog 8 #[.agg #[.slice A0_0 l0_0.length c0_0, .slice A0_1 l0_1.length c0_1]] w fun e w' => ∃ v0_ : Value, e = .returned (.tuple #[v0_, .bool r2]) ∧ Kd.R k38 38 w' w.heap.size (fun _ => True) v0_ r1 ∧ Below w.heap.size w w' := by
 have hu25 := Tryz.underlying25
 have hu38 := Tryz.underlying38
 have HR0_0 := Aside0.mk hr0_0
 have HC0_0 := Aside0.mk hc0_0
 clear hr0_0 hc0_0
 have HR0_1 := Aside0.mk hr0_1
 have HC0_1 := Aside0.mk hc0_1
 clear hr0_1 hc0_1
 have HB := Aside0.mk (Below.refl w.heap.size w)
 have H : ((impl_SurfaceOk.f k l0_0 l0_1).bind fun t539 => (if t539 = true then ((impl_CyclesOf.f k l0_0).bind fun t540 => (if 0 ≤ (t540.length : Int) then (if ((t540.length : Int) : Int).toNat ≤ 35184372088832 then ((some (List.replicate ((t540.length : Int) : Int).toNat 0 : List Int)).bind fun y543 => (impl_CylindersOf.l0 k t540 y543 (y543.length : Int) 0 l0_0 l0_1)) else (none)) else (none))) else (some (([] : List (S38)), false)))) = some (r1, r2) := h
 clear h
 replace H := Option.bind_eq_some_iff.mp H
 obtain ⟨t539, A20, H⟩ := H
 replace H : (if t539 = true then ((impl_CyclesOf.f k l0_0).bind fun t540 => (if 0 ≤ (t540.length : Int) then (if ((t540.length : Int) : Int).toNat ≤ 35184372088832 then ((some (List.replicate ((t540.length : Int) : Int).toNat 0 : List Int)).bind fun y543 => (impl_CylindersOf.l0 k t540 y543 (y543.length : Int) 0 l0_0 l0_1)) else (none)) else (none))) else (some (([] : List (S38)), false))) = some (r1, r2) := H
 have A2 := Aside0.mk A20
 clear A20
 by_cases c3 : t539 = true
 {
 subst c3
 have H1 : ((impl_CyclesOf.f k l0_0).bind fun t540 => (if 0 ≤ (t540.length : Int) then (if ((t540.length : Int) : Int).toNat ≤ 35184372088832 then ((some (List.replicate ((t540.length : Int) : Int).toNat 0 : List Int)).bind fun y543 => (impl_CylindersOf.l0 k t540 y543 (y543.length : Int) 0 l0_0 l0_1)) else (none)) else (none))) = some (r1, r2) := by rw [if_pos rfl] at H; exact H
 clear H
 have H := H1
 clear H1
 replace H := Option.bind_eq_some_iff.mp H
 obtain ⟨t540, A40, H⟩ := H
 replace H : (if 0 ≤ (t540.length : Int) then (if ((t540.length : Int) : Int).toNat ≤ 35184372088832 then ((some (List.replicate ((t540.length : Int) : Int).toNat 0 : List Int)).bind fun y543 => (impl_CylindersOf.l0 k t540 y543 (y543.length : Int) 0 l0_0 l0_1)) else (none)) else (none)) = some (r1, r2) := H
 have A4 := Aside0.mk A40
 clear A40
 by_cases c5 : 0 ≤ (t540.length : Int)
 {
 rw [if_pos c5] at H
 have c5b0 := eq_true c5
 have c5b1 : decide (0 ≤ (t540.length : Int)) = true := decide_eq_true c5
 clear c5
 by_cases c6 : ((t540.length : Int) : Int).toNat ≤ 35184372088832
 {
 rw [if_pos c6] at H
 have c6b0 := eq_true c6
 have c6b1 : decide (((t540.length : Int) : Int).toNat ≤ 35184372088832) = true := decide_eq_true c6
 clear c6
 obtain ⟨y543, hy543⟩ : ∃ y_ : List Int, y_ = (List.replicate ((t540.length : Int) : Int).toNat 0) := ⟨_, rfl⟩
 replace H : (impl_CylindersOf.l0 k t540 y543 (y543.length : Int) 0 l0_0 l0_1) = some (r1, r2) := by first | (rw [hy543]; with_reducible exact H) | (have H2_ := (Option.bind_some _ _).symm.trans H; rw [hy543]; with_reducible exact H2_) | (have H2_ := (Option.bind_some _ _).symm.trans H; with_reducible exact H2_) | with_reducible exact H | (rw [hy543]; exact H) | exact H
 have Ny543 := Aside0.mk hy543
 clear hy543
 have H' := Aside0.mk H
 clear H
 go_enter Tryz.func8, Tryz.ntmps8
 go_wp2_with (first | ((with_reducible refine gate_dst (N := 1) rfl ?_); refine box_event ?hg (N := 1) ?hd (cs := #[.slice A0_0 l0_0.length c0_0, .slice A0_1 l0_1.length c0_1]) (t := 25) ?hr ?_; (case hd => rfl); (case hg => rfl); (case hr => first | (go_simp; done) | (go_simp; rfl)); intro gb538 hg w7 hbox hb; have n0_ := Aside0.mk (below_step (by repeat (first | (with_reducible first | exact HB.out|apply bA|apply bN|apply bD) | exact HB.out)) hb); have n1_ := Aside0.mk (hbox); have n2_ := Aside0.mk ((by rw [hg]; exact (below_size (by repeat (first | (with_reducible first | exact HB.out|apply bA|apply bN|apply bD) | exact HB.out))) : w.heap.size ≤ gb538)); have n3_ := Aside0.mk ((by rw [hg]; exact (below_size (by repeat (first | (with_reducible first | exact HB.out|apply bA|apply bN|apply bD) | exact HB.out))) : w.heap.size ≤ gb538)); clear HB; have HB := n0_; have BK538 := n1_; have GW538 := n2_; have GE538 := n3_; clear n0_ n1_ n2_ n3_; clear hb hbox hg; have hcz8_0 : w7.cell? ⟨gb538, 0, none⟩ = some (.slice A0_0 l0_0.length c0_0) := (blk_cell BK538.out 0).trans rfl; have hcz8_1 : w7.cell? ⟨gb538, 1, none⟩ = some (.slice A0_1 l0_1.length c0_1) := (blk_cell BK538.out 1).trans rfl; have hfz8_0 := blk_frozen BK538.out 0; have hfz8_1 := blk_frozen BK538.out 1) | ((with_reducible refine gate_callee (f := 31) rfl ?_); refine goesL_ (some 21) rfl rfl Tryz.func31 (by kernel_rfl) rfl #[.agg #[.slice A0_0 l0_0.length c0_0, .slice A0_1 l0_1.length c0_1]] rfl (by (try simp only [zE,zF,zG]); first|done|rfl|(simp only [zH,zI]; rfl)) ?_; (with_reducible refine (impl_SurfaceOk.calls k _ _ l0_0 _ _ l0_1 true _ ?side1 ?side2 ?side3 ?side4 A2.out).mono ?_); (case side1 => repeat (first | exact (Kd.C_below HR0_0.out HB.out) | (with_reducible refine Kd.C_alloc ?_ _) | (with_reducible refine Kd.C_drewN ?_ _) | (with_reducible refine Kd.C_drew ?_))); (case side2 => exact HC0_0.out); (case side3 => repeat (first | exact (Kd.C_below HR0_1.out HB.out) | (with_reducible refine Kd.C_alloc ?_ _) | (with_reducible refine Kd.C_drewN ?_ _) | (with_reducible refine Kd.C_drew ?_))); (case side4 => exact HC0_1.out); rintro e w9 ⟨rfl, hb⟩; refine ⟨_, rfl, ?_⟩; have n0_ := Aside0.mk (blk_below (g := gb538) (o := .cells #[.slice A0_0 l0_0.length c0_0, .slice A0_1 l0_1.length c0_1] 25 (0, 0)) (by (with_reducible repeat (first|refine kN ?_ _|refine kD ?_|refine kA ?_ _)); exact BK538.out) hb); have n1_ := Aside0.mk (below_step (by repeat (first | (with_reducible first | exact HB.out|apply bA|apply bN|apply bD | refine below_set ?_ GE538.out) | exact HB.out)) hb); clear BK538; clear HB; have BK538 := n0_; have HB := n1_; clear n0_ n1_; (try clear hb); (try clear hb2); (try clear hk); (try clear hi); have hcz10_0 : w9.cell? ⟨gb538, 0, none⟩ = some (.slice A0_0 l0_0.length c0_0) := (blk_cell BK538.out 0).trans rfl; have hcz10_1 : w9.cell? ⟨gb538, 1, none⟩ = some (.slice A0_1 l0_1.length c0_1) := (blk_cell BK538.out 1).trans rfl; have hfz10_0 := blk_frozen BK538.out 0; have hfz10_1 := blk_frozen BK538.out 1) | ((with_reducible refine gate_callee (f := 35) rfl ?_); refine goesL_ (some 25) rfl rfl Tryz.func35 (by kernel_rfl) rfl #[.slice A0_0 l0_0.length c0_0] rfl (by (try simp only [zE,zF,zG]); first|done|rfl|(simp only [zH,zI]; rfl)) ?_; (with_reducible refine (impl_CyclesOf.calls k _ _ l0_0 t540 _ ?side1 ?side2 A4.out).mono ?_); (case side1 => repeat (first | exact (Kd.C_below HR0_0.out HB.out) | (with_reducible refine Kd.C_alloc ?_ _) | (with_reducible refine Kd.C_drewN ?_ _) | (with_reducible refine Kd.C_drew ?_))); (case side2 => exact HC0_0.out); rintro e w11 ⟨v541, rfl, ho0, hb⟩; refine ⟨_, rfl, ?_⟩; have n0_ := Aside0.mk (Kd.S_lower ho0 (below_size (by repeat (first | (with_reducible first | exact HB.out|apply bA|apply bN|apply bD | refine below_set ?_ GE538.out) | exact HB.out)))); have n1_ := Aside0.mk (blk_below (g := gb538) (o := .cells #[.slice A0_0 l0_0.length c0_0, .slice A0_1 l0_1.length c0_1] 25 (0, 0)) (by (with_reducible repeat (first|refine kN ?_ _|refine kD ?_|refine kA ?_ _)); exact BK538.out) hb); have n2_ := Aside0.mk (below_step (by repeat (first | (with_reducible first | exact HB.out|apply bA|apply bN|apply bD | refine below_set ?_ GE538.out) | exact HB.out)) hb); clear BK538; clear HB; have HO542 := n0_; have BK538 := n1_; have HB := n2_; clear n0_ n1_ n2_; (try clear hb); (try clear hb2); (try clear hk); (try clear hi); (try clear ho0); obtain ⟨Ao12, co12, eo12⟩ := Kd.S_slice HO542.out; subst eo12) | ((with_reducible refine gate_dst (N := 28) rfl ?_); refine Kd.R_make (Kd.int .i64) _ 3 rfl (N := 28) rfl 23 _ _ rfl (t540.length : Int) rfl rfl Tryz.underlying23 (.int .i64 0) 8 info3 rfl (by decide) (by omega) 0 (ok := fun _ => True) (okp := fun _ => True) rfl (fun _ hk => hk) trivial (of_decide_eq_true (by first | (with_reducible assumption) | assumption)) (Nat.le_trans (Nat.mul_le_mul_right _ (of_decide_eq_true (by first | (with_reducible assumption) | assumption) : (t540.length : Int).toNat ≤ 35184372088832)) (by omega)) (Below.refl _ _) (Nat.le_refl _) ?_; intro v544 w13 ho14 hb hg_ hnew_; clear hg_ hnew_; (first | rw [← Ny543.out] at ho14 | (simp only [Int.reduceToNat] at ho14; rw [← Ny543.out] at ho14)); have n0_ := Aside0.mk (Kd.S_elder' (by (with_reducible repeat (first | apply Kd.S_alloc | apply Kd.S_drewN | apply Kd.S_drew)); exact HO542.out) (Kd.R_base ho14) hb); have n1_ := Aside0.mk (Kd.R_lower ho14 (below_size (by repeat (first | (with_reducible first | exact HB.out|apply bA|apply bN|apply bD | refine below_set ?_ GE538.out) | exact HB.out)))); have n2_ := Aside0.mk (blk_below (g := gb538) (o := .cells #[.slice A0_0 l0_0.length c0_0, .slice A0_1 l0_1.length c0_1] 25 (0, 0)) (by (with_reducible repeat (first|refine kN ?_ _|refine kD ?_|refine kA ?_ _)); exact BK538.out) hb); have n3_ := Aside0.mk (below_step (by repeat (first | (with_reducible first | exact HB.out|apply bA|apply bN|apply bD | refine below_set ?_ GE538.out) | exact HB.out)) hb); clear HO542; clear BK538; clear HB; have HO542 := n0_; have HO545 := n1_; have BK538 := n2_; have HB := n3_; clear n0_ n1_ n2_ n3_; clear hb ho14; obtain ⟨Ao15, co15, eo15⟩ := Kd.R_slice HO545.out; subst eo15))
 go_loopg [31] k (fun kq v31 w' => ∃ (x5_1 : List Int) (x31_1 : Int), v31 = .int .i64 x31_1 ∧ Aside0 (impl_CylindersOf.l0 kq t540 x5_1 (y543.length : Int) x31_1 l0_0 l0_1 = some (r1, r2)) ∧ Aside0 (kq ≤ k) ∧ Aside0 (Kd.S (Kd.slice 3 (Kd.int .i64)) 23 w' w.heap.size (fun k_ => some k_ ≠ ((.slice Ao15 y543.length co15) : Value).ownBlock) (.slice Ao12 t540.length co12) t540) ∧ Aside0 (Kd.R (Kd.int .i64) 3 w' w.heap.size (fun _ => True) (.slice Ao15 y543.length co15) x5_1) ∧ Aside0 (w'.heap[gb538]? = some (.cells #[(.slice A0_0 l0_0.length c0_0), (.slice A0_1 l0_1.length c0_1)] 25 (0, 0))) ∧ Aside0 (Below w.heap.size w w'))
 case atStart => exact ⟨(y543), (0), (by first | rfl | (simp; done) | (simp [*]; done)), H', ⟨Nat.le_refl _⟩, ⟨by (with_reducible repeat (first | apply Kd.S_alloc | apply Kd.S_drewN | apply Kd.S_drew)); exact Kd.S_mono HO542.out (fun _ hk => hk.2)⟩, ⟨by (with_reducible repeat (first|apply rA|apply rN|apply rD)); exact HO545.out⟩, ⟨by (with_reducible repeat (first|refine kN ?_ _|refine kD ?_|refine kA ?_ _)); exact BK538.out⟩, ⟨by repeat (first | (with_reducible first | exact HB.out|apply bA|apply bN|apply bD | refine below_set ?_ GE538.out) | exact HB.out)⟩⟩
 case round =>
 clear H'
 try clear p2
 try clear c3
 try clear c5
 try clear c5b0
 try clear c5b1
 try clear c6
 try clear c6b0
 try clear c6b1
 try clear c8
 try clear hcz10_0
 try clear hcz10_1
 try clear hcz8_0
 try clear hcz8_1
 try clear hfz10_0
 try clear hfz10_1
 try clear hfz8_0
 try clear hfz8_1
 obtain ⟨x5_1, x31_1, rfl, HA, HK1, HO_4, HO_5, BK538, HB⟩ := hrel
 have hl5_1 := (Kd.R_reads' HO_5.out).1
 rw [hl5_1] at HO_5
 (try simp only [hl5_1])
 (try simp only [hl5_1] at BK538)
 (try simp only [hl5_1] at HO_4)
 cases gk with
 | zero => exact absurd HA.out (by simp [impl_CylindersOf.l0])
 | succ k1 =>
 have H := HA.out
 clear HA
 simp only [impl_CylindersOf.l0] at H
 by_cases c16 : x31_1 < (y543.length : Int)
 {
 rw [if_pos c16] at H
 have c16b0 : decide (x31_1 < (y543.length : Int)) = true := decide_eq_true c16
 clear c16
 by_cases c17 : 0 ≤ x31_1
 {
 rw [if_pos c17] at H
 have c17b0 : decide (0 ≤ x31_1) = true := decide_eq_true c17
 clear c17
 by_cases c18 : x31_1 < (x5_1.length : Int)
 {
 rw [if_pos c18] at H
 have c18b0 : decide (x31_1 < (x5_1.length : Int)) = true := decide_eq_true c18
 clear c18
 obtain ⟨y546, hy546⟩ : ∃ y_ : List Int, y_ = (x5_1.set (x31_1 : Int).toNat x31_1) := ⟨_, rfl⟩
 replace H : (impl_CylindersOf.l0 k1 t540 y546 (y543.length : Int) (wrap64 (x31_1 + 1)) l0_0 l0_1) = some (r1, r2) := by first | (rw [hy546]; with_reducible exact H) | (have H2_ := (Option.bind_some _ _).symm.trans H; rw [hy546]; with_reducible exact H2_) | (have H2_ := (Option.bind_some _ _).symm.trans H; with_reducible exact H2_) | with_reducible exact H | (rw [hy546]; exact H) | exact H
 have Ny546 := Aside0.mk hy546
 clear hy546
 have H' := Aside0.mk H
 clear H
 have p19 : 0 ≤ (x31_1 : Int) := of_decide_eq_true (by first | (with_reducible assumption) | assumption)
 have q19 : (x31_1 : Int) < ((x5_1.length : Int) : Int) := of_decide_eq_true (by first | (with_reducible assumption) | assumption)
 obtain ⟨go19, co19, eo19, gb19, gl19, cl19, HG19⟩ := Kd.R_form HO_5.out (by omega)
 (first | cases eo19 | (injection eo19 with ea_ en_ ec_; (first | subst ea_ | (injection ea_ with ea_; subst ea_)); subst ec_; clear en_))
 have GB19 := Aside0.mk gb19
 have GG19 := Aside0.mk HG19
 clear gb19 gl19 HG19
 obtain ⟨hx19_0, hf19_0⟩ := Kd.R_celln 0 HO_5.out (x31_1 : Int) p19 q19
 replace p19 := eq_true p19
 replace q19 := eq_true q19
 have HP20 := Kd.R_putg HO_5.out (x31_1 : Int) x31_1
 go_wp2_with (first | ((with_reducible refine gate_store (t := 3) (p := 37) rfl ?_); refine store_event (t := 3) (p := 37) (v := ?vo_w21) (w1 := (wr.setCell ⟨go19, (x31_1 : Int).toNat, none⟩ (.int .i64 x31_1))) ?hg ?ho ?hn ?hr ?_; (case ho => rfl); (case hg => rfl); (case hn => rfl); (case hr => first | (go_simp; done) | (go_simp; rfl)); intro w21 hw; have hg : wr.grownBy w21 (some go19) := (by rw [hw]; exact HP20.2); have hp_ : Kd.R (Kd.int .i64) 3 w21 w.heap.size (fun _ => True) (.slice (some ⟨go19, 0, none⟩) x5_1.length co15) y546 := (by rw [hw, Ny546.out]; exact HP20.1); clear HP20; have n0_ := Aside0.mk (Kd.S_after (v := (.slice (some ⟨go19, 0, none⟩) x5_1.length co15)) (v1 := (.slice (some ⟨go19, 0, none⟩) x5_1.length co15)) (ok := (fun _ => True)) (by (with_reducible repeat (first | apply Kd.S_alloc | apply Kd.S_drewN | apply Kd.S_drew)); exact Kd.S_mono HO_4.out (fun _ hk => ⟨trivial, hk⟩)) hg (.inl rfl)); have n1_ := Aside0.mk (hp_); have n2_ := Aside0.mk (blk_grown (g := gb538) (o := .cells #[.slice A0_0 l0_0.length c0_0, .slice A0_1 l0_1.length c0_1] 25 (0, 0)) (by (with_reducible repeat (first|refine kN ?_ _|refine kD ?_|refine kA ?_ _)); exact BK538.out) hg (Kd.R_ne HO_5.out BK538.out (by decide))); have n3_ := Aside0.mk ((by rw [hw]; exact below_set (HB.out) GB19.out : Below w.heap.size w w21)); clear HO_4; clear HO_5; clear BK538; clear HB; have HO_4 := n0_; have HO_5 := n1_; have BK538 := n2_; have HB := n3_; clear n0_ n1_ n2_ n3_; clear hg hw hp_))
 (try simp only [← hl5_1])
 go_roundg k1
 case measure => have := HK1.out; omega
 case rel => exact ⟨(y546), (wrap64 (x31_1 + 1)), (by first | rfl | (simp; done) | (simp [*]; done)), H', ⟨by have := HK1.out; omega⟩, ⟨by (try simp only [hl5_1]); (with_reducible repeat (first | apply Kd.S_alloc | apply Kd.S_drewN | apply Kd.S_drew)); exact Kd.S_mono HO_4.out (fun _ hk => hk.2)⟩, ⟨by (try simp only [hl5_1]); (with_reducible repeat (first|apply rA|apply rN|apply rD)); exact HO_5.out⟩, ⟨by (try simp only [hl5_1]); (with_reducible repeat (first|refine kN ?_ _|refine kD ?_|refine kA ?_ _)); exact BK538.out⟩, ⟨by repeat (first | (with_reducible first | exact HB.out|apply bA|apply bN|apply bD | refine below_set ?_ GE538.out) | exact HB.out)⟩⟩
 }
 {
 rw [if_neg c18] at H
 exact absurd H (by simp)
 }
 }
 {
 rw [if_neg c17] at H
 exact absurd H (by simp)
 }
 }
 {
 rw [if_neg c16] at H
 have c16b0 : decide (x31_1 < (y543.length : Int)) = false := decide_eq_false c16
 (try rw [hl5_1] at c16b0)
 clear c16
 have H' := Aside0.mk H
 clear H
 go_wp2
 go_loopg [41] k1 (fun kq v41 w' => ∃ (x5_2 : List Int) (x41_2 : Int), v41 = .int .i64 x41_2 ∧ Aside0 (impl_CylindersOf.l1 kq t540 x5_2 t540 (t540.length : Int) x41_2 l0_0 l0_1 = some (r1, r2)) ∧ Aside0 (kq ≤ k1) ∧ Aside0 (Kd.S (Kd.slice 3 (Kd.int .i64)) 23 w' w.heap.size (fun k_ => some k_ ≠ ((.slice Ao15 x5_1.length co15) : Value).ownBlock) (.slice Ao12 t540.length co12) t540) ∧ Aside0 (Kd.R (Kd.int .i64) 3 w' w.heap.size (fun _ => True) (.slice Ao15 x5_1.length co15) x5_2) ∧ Aside0 (Kd.S (Kd.slice 3 (Kd.int .i64)) 23 w' w.heap.size (fun k_ => some k_ ≠ ((.slice Ao15 x5_1.length co15) : Value).ownBlock) (.slice Ao12 t540.length co12) t540) ∧ Aside0 (w'.heap[gb538]? = some (.cells #[(.slice A0_0 l0_0.length c0_0), (.slice A0_1 l0_1.length c0_1)] 25 (0, 0))) ∧ Aside0 (Below w.heap.size w w'))
 case atStart => exact ⟨(x5_1), (0), (by first | rfl | (simp; done) | (simp [*]; done)), H', ⟨Nat.le_refl _⟩, ⟨by (try simp only [hl5_1]); (with_reducible repeat (first | apply Kd.S_alloc | apply Kd.S_drewN | apply Kd.S_drew)); exact HO_4.out⟩, ⟨by (try simp only [hl5_1]); (with_reducible repeat (first|apply rA|apply rN|apply rD)); exact HO_5.out⟩, ⟨by (try simp only [hl5_1]); (with_reducible repeat (first | apply Kd.S_alloc | apply Kd.S_drewN | apply Kd.S_drew)); exact HO_4.out⟩, ⟨by (try simp only [hl5_1]); (with_reducible repeat (first|refine kN ?_ _|refine kD ?_|refine kA ?_ _)); exact BK538.out⟩, ⟨by repeat (first | (with_reducible first | exact HB.out|apply bA|apply bN|apply bD | refine below_set ?_ GE538.out) | exact HB.out)⟩⟩
 case round =>
 clear H'
 try clear c1
 try clear p1
 try clear q1
 try clear hx1
 try clear hf1
 try clear p2
 try clear c3
 try clear c5
 try clear c5b0
 try clear c5b1
 try clear c6
 try clear c6b0
 try clear c6b1
 try clear p6
 try clear c8
 try clear c16
 try clear c16b0
 try clear c17
 try clear c17b0
 try clear c18
 try clear c18b0
 try clear p19
 try clear q19
 try clear hx19
 try clear hf19
 try clear hcz10_0
 try clear hcz10_1
 try clear hcz8_0
 try clear hcz8_1
 try clear hfz10_0
 try clear hfz10_1
 try clear hfz8_0
 try clear hfz8_1
 try clear hx19_0
 try clear p19
 try clear p2
 try clear q19
 obtain ⟨x5_2, x41_2, rfl, HA, HK2, HO_4, HO_5, HO_39, BK538, HB⟩ := hrel
 have hl5_2 := (Kd.R_reads' HO_5.out).1
 rw [hl5_2] at HO_5
 (try simp only [hl5_2])
 (try simp only [hl5_2] at BK538)
 (try simp only [hl5_2] at HO_4)
 (try simp only [hl5_2] at HO_39)
 cases gk with
 | zero => exact absurd HA.out (by simp [impl_CylindersOf.l1])
 | succ k2 =>
 have H := HA.out
 clear HA
 simp only [impl_CylindersOf.l1] at H
 by_cases c22 : x41_2 < (t540.length : Int)
 {
 rw [if_pos c22] at H
 have c22b0 : decide (x41_2 < (t540.length : Int)) = true := decide_eq_true c22
 clear c22
 by_cases c23 : 0 ≤ x41_2
 {
 rw [if_pos c23] at H
 have c23b0 : decide (0 ≤ x41_2) = true := decide_eq_true c23
 clear c23
 by_cases c24 : x41_2 < (t540.length : Int)
 {
 rw [if_pos c24] at H
 have c24b0 : decide (x41_2 < (t540.length : Int)) = true := decide_eq_true c24
 clear c24
 by_cases c25 : 0 < ((rd_L2 t540 x41_2).length : Int)
 {
 rw [if_pos c25] at H
 have c25b0 : decide (0 < ((rd_L2 t540 x41_2).length : Int)) = true := decide_eq_true c25
 have c25b1 : decide (0 < (rd_L2 t540 x41_2).length) = true := decide_eq_true (by omega)
 clear c25
 replace H := Option.bind_eq_some_iff.mp H
 obtain ⟨t549, A260, H⟩ := H
 replace H : (if t549 < 0 then (impl_CylindersOf.l1 k2 t540 x5_2 t540 (t540.length : Int) (wrap64 (x41_2 + 1)) l0_0 l0_1) else ((slices_IndexFunc_int_int.f t540 t549).bind fun t550 => (if x41_2 < (x5_2.length : Int) then (if 0 ≤ t550 then (if t550 < (x5_2.length : Int) then (impl_CylindersOf.l2 k2 t540 x5_2 (rd x5_2 x41_2) (rd x5_2 t550) t540 (t540.length : Int) x41_2 (x5_2.length : Int) 0 l0_0 l0_1) else (none)) else (none)) else (none)))) = some (r1, r2) := H
 have A26 := Aside0.mk A260
 clear A260
 by_cases c27 : t549 < 0
 {
 rw [if_pos c27] at H
 have c27b0 : decide (t549 < 0) = true := decide_eq_true c27
 clear c27
 have H' := Aside0.mk H
 clear H
 have p547 : 0 ≤ (x41_2 : Int) := of_decide_eq_true (by first | (with_reducible assumption) | assumption)
 have q547 : x41_2 < (t540.length : Int) := of_decide_eq_true (by first | (with_reducible assumption) | assumption)
 obtain ⟨ad547, A547_0, c547_0, e547, hx547_0, hl547_0, hi547_0⟩ := at_L2 (Kd.S_reads' HO_39.out).2.2 x41_2 p547 q547
 cases e547
 obtain ⟨ce547, hce547, hMe547, hcc547⟩ := Kd.S_get HO_39.out [] x41_2 p547 (by first | exact q547 | exact of_decide_eq_true (by first | (with_reducible assumption) | assumption) | (have e_ := (Kd.S_reads' HO_39.out).1; omega))
 obtain ⟨ve547_0, rfl, ge547_0⟩ := hMe547
 have hv547_0 := hcc547 0 _ rfl
 rw [Nat.add_zero, show ((Kd.slice 3 (Kd.int .i64))).sz = 1 from rfl, Nat.mul_one] at hv547_0
 replace hv547_0 := Option.some.inj (hv547_0.symm.trans hx547_0)
 rw [hv547_0] at ge547_0
 have HL547_0 := Aside0.mk (show Kd.R (Kd.int .i64) 3 _ _ _ _ (rd_L2 t540 x41_2) from ge547_0)
 clear hv547_0 ge547_0
 clear hcc547 hce547
 have HR547_0 := Aside0.mk hi547_0
 have HC547_0 := Aside0.mk hl547_0
 clear hi547_0 hl547_0
 replace p547 := eq_true p547
 replace q547 := eq_true q547
 try go_wp2
 have n0_ := Aside0.mk (Kd.S_drew HO_4.out)
 have n1_ := Aside0.mk (Kd.R_drew HO_5.out)
 have n2_ := Aside0.mk (Kd.S_drew HO_39.out)
 have n3_ := Aside0.mk (Kd.R_drew HL547_0.out)
 have n4_ := Aside0.mk (blk_drew BK538.out)
 have n5_ := Aside0.mk (Kd.C_drew HR547_0.out)
 have n6_ := Aside0.mk (below_drew1 HB.out)
 clear HO_4
 clear HO_5
 clear HO_39
 clear HL547_0
 clear BK538
 clear HR547_0
 clear HB
 have HO_4 := n0_
 have HO_5 := n1_
 have HO_39 := n2_
 have HL547_0 := n3_
 have BK538 := n4_
 have HR547_0 := n5_
 have HB := n6_
 clear n0_ n1_ n2_ n3_ n4_ n5_ n6_
 have p548 : 0 ≤ (0 : Int) := (by omega)
 have q548 : 0 < ((rd_L2 t540 x41_2).length : Int) := of_decide_eq_true (by first | (with_reducible assumption) | assumption)
 obtain ⟨ad548, e548, hx548_0⟩ := Kd.at_int (by repeat (first | (with_reducible exact HR547_0.out) | (with_reducible refine Kd.C_alloc ?_ _) | (with_reducible refine Kd.C_drewN ?_ _) | (with_reducible refine Kd.C_drew ?_) | exact HR547_0.out)) 0 p548 q548
 cases e548
 have qi548 : (0 < (rd_L2 t540 x41_2).length) = True := eq_true (by omega)
 (try rw [show ((0 : Int)).toNat = 0 from rfl] at hx548_0)
 (try rw [Addr.add_zero'] at hx548_0)
 replace p548 := eq_true p548
 replace q548 := eq_true q548
 refine start_ (n := 7) (S := fun w' => w'.cell? ⟨gb538, 0, none⟩ = some (.slice A0_0 l0_0.length c0_0) ∧ w'.cell? ⟨gb538, 1, none⟩ = some (.slice A0_1 l0_1.length c0_1) ∧ w'.cell? ad548 = some (.int .i64 (rd (rd_L2 t540 x41_2) 0))) (ds := []) #[false, false, false, false, false, false, false] (by kernel_rfl) rfl rfl ⟨(blk_cell BK538.out 0).trans rfl, (blk_cell BK538.out 1).trans rfl, hx548_0⟩ (fun hHeld => ?_)
 generalize wr.drew = w28 at HO_4 HO_5 HO_39 HL547_0 BK538 HR547_0 HB hx548_0 hHeld ⊢
 refine pure_ (i := 1) (N := some 47) (v := ?_) (a' := ?_) #[false, true, false, false, false, false, false] rfl rfl (by kernel_rfl) (fun _ _ _ h => h) (Or.inl ⟨by rfl, ?_⟩) ?_ ?_
 rotate_left
 {
 intro w'
 go_simp
 with_reducible rfl
 }
 rotate_left
 {
 simp only [Act.put, zA, zB, zC, i64_w, i32_w]
 rfl
 }
 refine pure_ (i := 2) (N := some 48) (v := ?_) (a' := ?_) #[false, true, true, false, false, false, false] rfl rfl (by kernel_rfl) (fun _ _ _ h => h) (Or.inl ⟨by rfl, ?_⟩) ?_ ?_
 rotate_left
 {
 intro w'
 go_simp
 with_reducible rfl
 }
 rotate_left
 {
 simp only [Act.put, zA, zB, zC, i64_w, i32_w]
 rfl
 }
 refine take_ (i := 0) (N := some 46) (v := ?_) (a' := ?_) #[true, true, true, false, false, false, false] rfl rfl (by kernel_rfl) (fun _ _ _ h => h) (Or.inl ⟨by rfl, ?_⟩) hHeld ?_ ?_
 rotate_left
 {
 rintro w' ⟨s0, s1, s2⟩
 go_simp
 with_reducible rfl
 }
 rotate_left
 {
 simp only [Act.put, zA, zB, zC, i64_w, i32_w]
 rfl
 }
 refine take_ (i := 3) (N := some 49) (v := ?_) (a' := ?_) #[true, true, true, true, false, false, false] rfl rfl (by kernel_rfl) (fun _ _ _ h => h) (Or.inl ⟨by rfl, ?_⟩) hHeld ?_ ?_
 rotate_left
 {
 rintro w' ⟨s0, s1, s2⟩
 go_simp
 with_reducible rfl
 }
 rotate_left
 {
 simp only [Act.put, zA, zB, zC, i64_w, i32_w]
 rfl
 }
 have CF0 : CylF w w28 (fun _ => True) gb538 A0_0 A0_1 c0_0 c0_1 l0_0.length l0_1.length (some ad547) co12 t540 Ao15 co15 x5_2 := ⟨Kd.S_mono HO_4.out (fun _ hk => ⟨hk, trivial⟩), HO_5.out, BK538.out, HB.out⟩
 have hlt548 := World.block_lt_of_cell? _ _ hHeld.2.2
 refine join_ (σ := Nat) 1 #[true, true, true, true, true, true, false] (fun s => [(50, .int .i64 t549), (9, .pointer (some ⟨s, 0, none⟩))]) (fun s w' => CylF w w' (fun k => k ≠ s) gb538 A0_0 A0_1 c0_0 c0_1 l0_0.length l0_1.length (some ad547) co12 t540 Ao15 co15 x5_2 ∧ w'.heap[s]? = some (.cells #[.int .i64 0] 3 (0, 0)) ∧ w.heap.size ≤ s ∧ gb538 ≠ s ∧ ad548.block ≠ s ∧ (w'.cell? ⟨gb538, 0, none⟩ = some (.slice A0_0 l0_0.length c0_0) ∧ w'.cell? ⟨gb538, 1, none⟩ = some (.slice A0_1 l0_1.length c0_1) ∧ w'.cell? ad548 = some (.int .i64 (rd (rd_L2 t540 x41_2) 0)))) ?_ ?split
 case split =>
  intro hcont
  refine two_ (i := 4) (j := 5) (Ni := some 50) (Nj := some 9) #[true, true, true, true, true, false, false] #[true, true, true, true, false, true, false] rfl rfl rfl rfl (by kernel_rfl) (by decide) (by decide) (fun K hK => ?_) (fun K hK => ?_)
  {
  refine goes_ Tryz.func36 (by kernel_rfl) rfl #[.agg #[.slice A0_0 l0_0.length c0_0, .slice A0_1 l0_1.length c0_1], .int .i64 (rd (rd_L2 t540 x41_2) 0)] (by rfl) rfl rfl (by (try simp only [zE,zF,zG]); first|done|rfl|(simp only [zH,zI]; rfl)) ?_
  with_reducible refine (impl_RowAbove.calls k2 _ _ l0_0 _ _ l0_1 (rd (rd_L2 t540 x41_2) 0) t549 _ ?side1 ?side2 ?side3 ?side4 A26.out).mono ?_
  (case side1 => repeat (first | exact (Kd.C_below HR0_0.out HB.out) | (with_reducible refine Kd.C_alloc ?_ _) | (with_reducible refine Kd.C_drewN ?_ _) | (with_reducible refine Kd.C_drew ?_)))
  (case side2 => exact HC0_0.out)
  (case side3 => repeat (first | exact (Kd.C_below HR0_1.out HB.out) | (with_reducible refine Kd.C_alloc ?_ _) | (with_reducible refine Kd.C_drewN ?_ _) | (with_reducible refine Kd.C_drew ?_)))
  (case side4 => exact HC0_1.out)
  rintro e wA_ ⟨rfl, hb⟩
  refine ⟨_, rfl, ?_⟩
  have hs0_ : wA_.cell? ⟨gb538, 0, none⟩ = some (.slice A0_0 l0_0.length c0_0) ∧ wA_.cell? ⟨gb538, 1, none⟩ = some (.slice A0_1 l0_1.length c0_1) ∧ wA_.cell? ad548 = some (.int .i64 (rd (rd_L2 t540 x41_2) 0)) := ⟨(hb.cell (World.block_lt_of_cell? _ _ hHeld.1)).trans hHeld.1, (hb.cell (World.block_lt_of_cell? _ _ hHeld.2.1)).trans hHeld.2.1, (hb.cell (World.block_lt_of_cell? _ _ hHeld.2.2)).trans hHeld.2.2⟩
  have CF1 := CF0.below hb
  refine hK.out _ _ hs0_ (fun hHeld => ?_)
  clear hK K
  refine one_ (i := 5) (N := some 9) #[true, true, true, true, true, true, false] rfl rfl (by kernel_rfl) (by decide) (fun K hK => ?_)
  refine value_ (v := .pointer (some ⟨wA_.heap.size, 0, none⟩)) (w1 := wA_.alloc (.cells #[.int .i64 0] 3)) (by rfl) rfl (by first | (go_simp; done) | (go_simp; rfl)) ?_
  have hba : Below wA_.heap.size wA_ (wA_.alloc (.cells #[.int .i64 0] 3)) := below_alloc (Below.refl _ _) _
  refine hK.out _ _ ⟨(hba.cell (World.block_lt_of_cell? _ _ hHeld.1)).trans hHeld.1, (hba.cell (World.block_lt_of_cell? _ _ hHeld.2.1)).trans hHeld.2.1, (hba.cell (World.block_lt_of_cell? _ _ hHeld.2.2)).trans hHeld.2.2⟩ (fun hHeld => ?_)
  exact hcont wA_.heap.size _ ⟨CF1.elder.below hba, blk_new _ _, below_size CF1.2.2.2, Nat.ne_of_lt (blk_lt CF1.2.2.1), Nat.ne_of_lt (World.block_lt_of_cell? _ _ hs0_.2.2), hHeld⟩
  }
  {
  refine value_ (v := .pointer (some ⟨w28.heap.size, 0, none⟩)) (w1 := w28.alloc (.cells #[.int .i64 0] 3)) (by rfl) rfl (by first | (go_simp; done) | (go_simp; rfl)) ?_
  have hba : Below w28.heap.size w28 (w28.alloc (.cells #[.int .i64 0] 3)) := below_alloc (Below.refl _ _) _
  have CF1 := CF0.elder.below hba
  have hbx := blk_new w28 (.cells #[.int .i64 0] 3 (0, 0))
  refine hK.out _ _ ⟨(hba.cell (World.block_lt_of_cell? _ _ hHeld.1)).trans hHeld.1, (hba.cell (World.block_lt_of_cell? _ _ hHeld.2.1)).trans hHeld.2.1, (hba.cell (World.block_lt_of_cell? _ _ hHeld.2.2)).trans hHeld.2.2⟩ (fun hHeld => ?_)
  clear hK K
  refine one_ (i := 4) (N := some 50) #[true, true, true, true, true, true, false] rfl rfl (by kernel_rfl) (by decide) (fun K hK => ?_)
  refine goes_ Tryz.func36 (by kernel_rfl) rfl #[.agg #[.slice A0_0 l0_0.length c0_0, .slice A0_1 l0_1.length c0_1], .int .i64 (rd (rd_L2 t540 x41_2) 0)] (by rfl) rfl rfl (by (try simp only [zE,zF,zG]); first|done|rfl|(simp only [zH,zI]; rfl)) ?_
  with_reducible refine (impl_RowAbove.calls k2 _ _ l0_0 _ _ l0_1 (rd (rd_L2 t540 x41_2) 0) t549 _ ?side1 ?side2 ?side3 ?side4 A26.out).mono ?_
  (case side1 => repeat (first | exact (Kd.C_below HR0_0.out (below_step HB.out hba)) | (with_reducible refine Kd.C_alloc ?_ _) | (with_reducible refine Kd.C_drewN ?_ _) | (with_reducible refine Kd.C_drew ?_)))
  (case side2 => exact HC0_0.out)
  (case side3 => repeat (first | exact (Kd.C_below HR0_1.out (below_step HB.out hba)) | (with_reducible refine Kd.C_alloc ?_ _) | (with_reducible refine Kd.C_drewN ?_ _) | (with_reducible refine Kd.C_drew ?_)))
  (case side4 => exact HC0_1.out)
  rintro e wA_ ⟨rfl, hb⟩
  refine ⟨_, rfl, ?_⟩
  refine hK.out _ _ ⟨(hb.cell (World.block_lt_of_cell? _ _ hHeld.1)).trans hHeld.1, (hb.cell (World.block_lt_of_cell? _ _ hHeld.2.1)).trans hHeld.2.1, (hb.cell (World.block_lt_of_cell? _ _ hHeld.2.2)).trans hHeld.2.2⟩ (fun hHeld => ?_)
  refine norm_ (a' := putAll _ [(50, .int .i64 t549), (9, .pointer (some ⟨w28.heap.size, 0, none⟩))]) ?_ (hcont w28.heap.size _ ⟨CF1.below hb, blk_below hbx hb, below_size CF0.2.2.2, Nat.ne_of_lt (blk_lt CF0.2.2.1), Nat.ne_of_lt hlt548, hHeld⟩)
  simp only [putAll, Act.put, zA, zB, zC]
  try rfl
  }
 rintro gx wB_ ⟨CF2, hbx, hsx, hnx, hnr, hHeld⟩
 refine norm_ (a' := ?_) ?_ ?_
 rotate_left
 {
 simp only [putAll, Act.put, zA, zB, zC]
 rfl
 }
 refine one_ (i := 6) (N := none) #[true, true, true, true, true, true, true] rfl rfl (by kernel_rfl) (by decide) (fun K hK => ?_)
 have hcx0 : wB_.cell? ⟨gx, 0, none⟩ = some (.int .i64 0) := (blk_cell hbx 0).trans rfl
 have hfx0 := blk_frozen hbx 0
 refine skip_ (w1 := wB_.setCell ⟨gx, 0, none⟩ (.int .i64 t549)) (by rfl) rfl (by first | (go_simp; done) | (go_simp; rfl)) ?_
 have CF3 := CF2.put hsx hnx (.int .i64 t549)
 have BX : Aside0 ((wB_.setCell ⟨gx, 0, none⟩ (.int .i64 t549)).heap[gx]? = some (.cells #[.int .i64 t549] 3 (0, 0))) := ⟨blk_put (cs := #[.int .i64 0]) hbx 0 _ rfl⟩
 have hrow : (wB_.setCell ⟨gx, 0, none⟩ (.int .i64 t549)).cell? ad548 = some (.int .i64 (rd (rd_L2 t540 x41_2) 0)) := (World.cell?_setCell_far _ _ _ _ (Ne.symm hnr)).trans hHeld.2.2
 refine hK.out _ _ ⟨(blk_cell CF3.2.2.1 0).trans rfl, (blk_cell CF3.2.2.1 1).trans rfl, hrow⟩ (fun hHeld => ?_)
 clear hK K hcx0 hfx0 hrow
 generalize wB_.setCell ⟨gx, 0, none⟩ (.int .i64 t549) = wC_ at CF3 BX hHeld ⊢
 clear HO_4 HO_5 HO_39 HL547_0 BK538 HR547_0 HB CF0 CF2 hbx
 have HO_4 := Aside0.mk (Kd.S_mono CF3.1 (fun k_ hk => hk.1))
 have HO_39 := HO_4
 have HO_5 := Aside0.mk CF3.2.1
 have BK538 := Aside0.mk CF3.2.2.1
 have HB := Aside0.mk CF3.2.2.2
 have hcx : wC_.cell? ⟨gx, 0, none⟩ = some (.int .i64 t549) := (blk_cell BX.out 0).trans rfl
 clear CF3
 refine done_ (by kernel_rfl) ?_
 try go_wp2
 (try simp only [← hl5_2])
 go_roundg k2
 case measure => have := HK1.out; have := HK2.out; omega
 case rel => exact ⟨(x5_2), (wrap64 (x41_2 + 1)), (by first | rfl | (simp; done) | (simp [*]; done)), H', ⟨by have := HK1.out; have := HK2.out; omega⟩, ⟨by (try simp only [hl5_1]); (try simp only [hl5_2]); (with_reducible repeat (first | apply Kd.S_alloc | apply Kd.S_drewN | apply Kd.S_drew)); exact HO_4.out⟩, ⟨by (try simp only [hl5_1]); (try simp only [hl5_2]); (with_reducible repeat (first|apply rA|apply rN|apply rD)); exact HO_5.out⟩, ⟨by (try simp only [hl5_1]); (try simp only [hl5_2]); (with_reducible repeat (first | apply Kd.S_alloc | apply Kd.S_drewN | apply Kd.S_drew)); exact HO_39.out⟩, ⟨by (try simp only [hl5_1]); (try simp only [hl5_2]); (with_reducible repeat (first|refine kN ?_ _|refine kD ?_|refine kA ?_ _)); exact BK538.out⟩, ⟨by repeat (first | (with_reducible first | exact HB.out|apply bA|apply bN|apply bD | refine below_set ?_ GE538.out) | exact HB.out)⟩⟩
 }
 {
 rw [if_neg c27] at H
 have c27b0 : decide (t549 < 0) = false := decide_eq_false c27
 clear c27
 replace H := Option.bind_eq_some_iff.mp H
 obtain ⟨t550, A300, H⟩ := H
 replace H : (if x41_2 < (x5_2.length : Int) then (if 0 ≤ t550 then (if t550 < (x5_2.length : Int) then (impl_CylindersOf.l2 k2 t540 x5_2 (rd x5_2 x41_2) (rd x5_2 t550) t540 (t540.length : Int) x41_2 (x5_2.length : Int) 0 l0_0 l0_1) else (none)) else (none)) else (none)) = some (r1, r2) := H
 have A30 := Aside0.mk A300
 clear A300
 by_cases c31 : x41_2 < (x5_2.length : Int)
 {
 rw [if_pos c31] at H
 have c31b0 : decide (x41_2 < (x5_2.length : Int)) = true := decide_eq_true c31
 clear c31
 by_cases c32 : 0 ≤ t550
 {
 rw [if_pos c32] at H
 have c32b0 : decide (0 ≤ t550) = true := decide_eq_true c32
 clear c32
 by_cases c33 : t550 < (x5_2.length : Int)
 {
 rw [if_pos c33] at H
 have c33b0 : decide (t550 < (x5_2.length : Int)) = true := decide_eq_true c33
 clear c33
 have H' := Aside0.mk H
 clear H
 have p547 : 0 ≤ (x41_2 : Int) := of_decide_eq_true (by first | (with_reducible assumption) | assumption)
 have q547 : x41_2 < (t540.length : Int) := of_decide_eq_true (by first | (with_reducible assumption) | assumption)
 obtain ⟨ad547, A547_0, c547_0, e547, hx547_0, hl547_0, hi547_0⟩ := at_L2 (Kd.S_reads' HO_39.out).2.2 x41_2 p547 q547
 cases e547
 obtain ⟨ce547, hce547, hMe547, hcc547⟩ := Kd.S_get HO_39.out [] x41_2 p547 (by first | exact q547 | exact of_decide_eq_true (by first | (with_reducible assumption) | assumption) | (have e_ := (Kd.S_reads' HO_39.out).1; omega))
 obtain ⟨ve547_0, rfl, ge547_0⟩ := hMe547
 have hv547_0 := hcc547 0 _ rfl
 rw [Nat.add_zero, show ((Kd.slice 3 (Kd.int .i64))).sz = 1 from rfl, Nat.mul_one] at hv547_0
 replace hv547_0 := Option.some.inj (hv547_0.symm.trans hx547_0)
 rw [hv547_0] at ge547_0
 have HL547_0 := Aside0.mk (show Kd.R (Kd.int .i64) 3 _ _ _ _ (rd_L2 t540 x41_2) from ge547_0)
 clear hv547_0 ge547_0
 clear hcc547 hce547
 have HR547_0 := Aside0.mk hi547_0
 have HC547_0 := Aside0.mk hl547_0
 clear hi547_0 hl547_0
 replace p547 := eq_true p547
 replace q547 := eq_true q547
 try go_wp2
 have n0_ := Aside0.mk (Kd.S_drew HO_4.out)
 have n1_ := Aside0.mk (Kd.R_drew HO_5.out)
 have n2_ := Aside0.mk (Kd.S_drew HO_39.out)
 have n3_ := Aside0.mk (Kd.R_drew HL547_0.out)
 have n4_ := Aside0.mk (blk_drew BK538.out)
 have n5_ := Aside0.mk (Kd.C_drew HR547_0.out)
 have n6_ := Aside0.mk (below_drew1 HB.out)
 clear HO_4
 clear HO_5
 clear HO_39
 clear HL547_0
 clear BK538
 clear HR547_0
 clear HB
 have HO_4 := n0_
 have HO_5 := n1_
 have HO_39 := n2_
 have HL547_0 := n3_
 have BK538 := n4_
 have HR547_0 := n5_
 have HB := n6_
 clear n0_ n1_ n2_ n3_ n4_ n5_ n6_
 have p548 : 0 ≤ (0 : Int) := (by omega)
 have q548 : 0 < ((rd_L2 t540 x41_2).length : Int) := of_decide_eq_true (by first | (with_reducible assumption) | assumption)
 obtain ⟨ad548, e548, hx548_0⟩ := Kd.at_int (by repeat (first | (with_reducible exact HR547_0.out) | (with_reducible refine Kd.C_alloc ?_ _) | (with_reducible refine Kd.C_drewN ?_ _) | (with_reducible refine Kd.C_drew ?_) | exact HR547_0.out)) 0 p548 q548
 cases e548
 have qi548 : (0 < (rd_L2 t540 x41_2).length) = True := eq_true (by omega)
 (try rw [show ((0 : Int)).toNat = 0 from rfl] at hx548_0)
 (try rw [Addr.add_zero'] at hx548_0)
 replace p548 := eq_true p548
 replace q548 := eq_true q548
 refine start_ (n := 7) (S := fun w' => w'.cell? ⟨gb538, 0, none⟩ = some (.slice A0_0 l0_0.length c0_0) ∧ w'.cell? ⟨gb538, 1, none⟩ = some (.slice A0_1 l0_1.length c0_1) ∧ w'.cell? ad548 = some (.int .i64 (rd (rd_L2 t540 x41_2) 0))) (ds := []) #[false, false, false, false, false, false, false] (by kernel_rfl) rfl rfl ⟨(blk_cell BK538.out 0).trans rfl, (blk_cell BK538.out 1).trans rfl, hx548_0⟩ (fun hHeld => ?_)
 generalize wr.drew = w34 at HO_4 HO_5 HO_39 HL547_0 BK538 HR547_0 HB hx548_0 hHeld ⊢
 refine pure_ (i := 1) (N := some 47) (v := ?_) (a' := ?_) #[false, true, false, false, false, false, false] rfl rfl (by kernel_rfl) (fun _ _ _ h => h) (Or.inl ⟨by rfl, ?_⟩) ?_ ?_
 rotate_left
 {
 intro w'
 go_simp
 with_reducible rfl
 }
 rotate_left
 {
 simp only [Act.put, zA, zB, zC, i64_w, i32_w]
 rfl
 }
 refine pure_ (i := 2) (N := some 48) (v := ?_) (a' := ?_) #[false, true, true, false, false, false, false] rfl rfl (by kernel_rfl) (fun _ _ _ h => h) (Or.inl ⟨by rfl, ?_⟩) ?_ ?_
 rotate_left
 {
 intro w'
 go_simp
 with_reducible rfl
 }
 rotate_left
 {
 simp only [Act.put, zA, zB, zC, i64_w, i32_w]
 rfl
 }
 refine take_ (i := 0) (N := some 46) (v := ?_) (a' := ?_) #[true, true, true, false, false, false, false] rfl rfl (by kernel_rfl) (fun _ _ _ h => h) (Or.inl ⟨by rfl, ?_⟩) hHeld ?_ ?_
 rotate_left
 {
 rintro w' ⟨s0, s1, s2⟩
 go_simp
 with_reducible rfl
 }
 rotate_left
 {
 simp only [Act.put, zA, zB, zC, i64_w, i32_w]
 rfl
 }
 refine take_ (i := 3) (N := some 49) (v := ?_) (a' := ?_) #[true, true, true, true, false, false, false] rfl rfl (by kernel_rfl) (fun _ _ _ h => h) (Or.inl ⟨by rfl, ?_⟩) hHeld ?_ ?_
 rotate_left
 {
 rintro w' ⟨s0, s1, s2⟩
 go_simp
 with_reducible rfl
 }
 rotate_left
 {
 simp only [Act.put, zA, zB, zC, i64_w, i32_w]
 rfl
 }
 have CF0 : CylF w w34 (fun _ => True) gb538 A0_0 A0_1 c0_0 c0_1 l0_0.length l0_1.length (some ad547) co12 t540 Ao15 co15 x5_2 := ⟨Kd.S_mono HO_4.out (fun _ hk => ⟨hk, trivial⟩), HO_5.out, BK538.out, HB.out⟩
 have hlt548 := World.block_lt_of_cell? _ _ hHeld.2.2
 refine join_ (σ := Nat) 1 #[true, true, true, true, true, true, false] (fun s => [(50, .int .i64 t549), (9, .pointer (some ⟨s, 0, none⟩))]) (fun s w' => CylF w w' (fun k => k ≠ s) gb538 A0_0 A0_1 c0_0 c0_1 l0_0.length l0_1.length (some ad547) co12 t540 Ao15 co15 x5_2 ∧ w'.heap[s]? = some (.cells #[.int .i64 0] 3 (0, 0)) ∧ w.heap.size ≤ s ∧ gb538 ≠ s ∧ ad548.block ≠ s ∧ (w'.cell? ⟨gb538, 0, none⟩ = some (.slice A0_0 l0_0.length c0_0) ∧ w'.cell? ⟨gb538, 1, none⟩ = some (.slice A0_1 l0_1.length c0_1) ∧ w'.cell? ad548 = some (.int .i64 (rd (rd_L2 t540 x41_2) 0)))) ?_ ?split
 case split =>
  intro hcont
  refine two_ (i := 4) (j := 5) (Ni := some 50) (Nj := some 9) #[true, true, true, true, true, false, false] #[true, true, true, true, false, true, false] rfl rfl rfl rfl (by kernel_rfl) (by decide) (by decide) (fun K hK => ?_) (fun K hK => ?_)
  {
  refine goes_ Tryz.func36 (by kernel_rfl) rfl #[.agg #[.slice A0_0 l0_0.length c0_0, .slice A0_1 l0_1.length c0_1], .int .i64 (rd (rd_L2 t540 x41_2) 0)] (by rfl) rfl rfl (by (try simp only [zE,zF,zG]); first|done|rfl|(simp only [zH,zI]; rfl)) ?_
  with_reducible refine (impl_RowAbove.calls k2 _ _ l0_0 _ _ l0_1 (rd (rd_L2 t540 x41_2) 0) t549 _ ?side1 ?side2 ?side3 ?side4 A26.out).mono ?_
  (case side1 => repeat (first | exact (Kd.C_below HR0_0.out HB.out) | (with_reducible refine Kd.C_alloc ?_ _) | (with_reducible refine Kd.C_drewN ?_ _) | (with_reducible refine Kd.C_drew ?_)))
  (case side2 => exact HC0_0.out)
  (case side3 => repeat (first | exact (Kd.C_below HR0_1.out HB.out) | (with_reducible refine Kd.C_alloc ?_ _) | (with_reducible refine Kd.C_drewN ?_ _) | (with_reducible refine Kd.C_drew ?_)))
  (case side4 => exact HC0_1.out)
  rintro e wA_ ⟨rfl, hb⟩
  refine ⟨_, rfl, ?_⟩
  have hs0_ : wA_.cell? ⟨gb538, 0, none⟩ = some (.slice A0_0 l0_0.length c0_0) ∧ wA_.cell? ⟨gb538, 1, none⟩ = some (.slice A0_1 l0_1.length c0_1) ∧ wA_.cell? ad548 = some (.int .i64 (rd (rd_L2 t540 x41_2) 0)) := ⟨(hb.cell (World.block_lt_of_cell? _ _ hHeld.1)).trans hHeld.1, (hb.cell (World.block_lt_of_cell? _ _ hHeld.2.1)).trans hHeld.2.1, (hb.cell (World.block_lt_of_cell? _ _ hHeld.2.2)).trans hHeld.2.2⟩
  have CF1 := CF0.below hb
  refine hK.out _ _ hs0_ (fun hHeld => ?_)
  clear hK K
  refine one_ (i := 5) (N := some 9) #[true, true, true, true, true, true, false] rfl rfl (by kernel_rfl) (by decide) (fun K hK => ?_)
  refine value_ (v := .pointer (some ⟨wA_.heap.size, 0, none⟩)) (w1 := wA_.alloc (.cells #[.int .i64 0] 3)) (by rfl) rfl (by first | (go_simp; done) | (go_simp; rfl)) ?_
  have hba : Below wA_.heap.size wA_ (wA_.alloc (.cells #[.int .i64 0] 3)) := below_alloc (Below.refl _ _) _
  refine hK.out _ _ ⟨(hba.cell (World.block_lt_of_cell? _ _ hHeld.1)).trans hHeld.1, (hba.cell (World.block_lt_of_cell? _ _ hHeld.2.1)).trans hHeld.2.1, (hba.cell (World.block_lt_of_cell? _ _ hHeld.2.2)).trans hHeld.2.2⟩ (fun hHeld => ?_)
  exact hcont wA_.heap.size _ ⟨CF1.elder.below hba, blk_new _ _, below_size CF1.2.2.2, Nat.ne_of_lt (blk_lt CF1.2.2.1), Nat.ne_of_lt (World.block_lt_of_cell? _ _ hs0_.2.2), hHeld⟩
  }
  {
  refine value_ (v := .pointer (some ⟨w34.heap.size, 0, none⟩)) (w1 := w34.alloc (.cells #[.int .i64 0] 3)) (by rfl) rfl (by first | (go_simp; done) | (go_simp; rfl)) ?_
  have hba : Below w34.heap.size w34 (w34.alloc (.cells #[.int .i64 0] 3)) := below_alloc (Below.refl _ _) _
  have CF1 := CF0.elder.below hba
  have hbx := blk_new w34 (.cells #[.int .i64 0] 3 (0, 0))
  refine hK.out _ _ ⟨(hba.cell (World.block_lt_of_cell? _ _ hHeld.1)).trans hHeld.1, (hba.cell (World.block_lt_of_cell? _ _ hHeld.2.1)).trans hHeld.2.1, (hba.cell (World.block_lt_of_cell? _ _ hHeld.2.2)).trans hHeld.2.2⟩ (fun hHeld => ?_)
  clear hK K
  refine one_ (i := 4) (N := some 50) #[true, true, true, true, true, true, false] rfl rfl (by kernel_rfl) (by decide) (fun K hK => ?_)
  refine goes_ Tryz.func36 (by kernel_rfl) rfl #[.agg #[.slice A0_0 l0_0.length c0_0, .slice A0_1 l0_1.length c0_1], .int .i64 (rd (rd_L2 t540 x41_2) 0)] (by rfl) rfl rfl (by (try simp only [zE,zF,zG]); first|done|rfl|(simp only [zH,zI]; rfl)) ?_
  with_reducible refine (impl_RowAbove.calls k2 _ _ l0_0 _ _ l0_1 (rd (rd_L2 t540 x41_2) 0) t549 _ ?side1 ?side2 ?side3 ?side4 A26.out).mono ?_
  (case side1 => repeat (first | exact (Kd.C_below HR0_0.out (below_step HB.out hba)) | (with_reducible refine Kd.C_alloc ?_ _) | (with_reducible refine Kd.C_drewN ?_ _) | (with_reducible refine Kd.C_drew ?_)))
  (case side2 => exact HC0_0.out)
  (case side3 => repeat (first | exact (Kd.C_below HR0_1.out (below_step HB.out hba)) | (with_reducible refine Kd.C_alloc ?_ _) | (with_reducible refine Kd.C_drewN ?_ _) | (with_reducible refine Kd.C_drew ?_)))
  (case side4 => exact HC0_1.out)
  rintro e wA_ ⟨rfl, hb⟩
  refine ⟨_, rfl, ?_⟩
  refine hK.out _ _ ⟨(hb.cell (World.block_lt_of_cell? _ _ hHeld.1)).trans hHeld.1, (hb.cell (World.block_lt_of_cell? _ _ hHeld.2.1)).trans hHeld.2.1, (hb.cell (World.block_lt_of_cell? _ _ hHeld.2.2)).trans hHeld.2.2⟩ (fun hHeld => ?_)
  refine norm_ (a' := putAll _ [(50, .int .i64 t549), (9, .pointer (some ⟨w34.heap.size, 0, none⟩))]) ?_ (hcont w34.heap.size _ ⟨CF1.below hb, blk_below hbx hb, below_size CF0.2.2.2, Nat.ne_of_lt (blk_lt CF0.2.2.1), Nat.ne_of_lt hlt548, hHeld⟩)
  simp only [putAll, Act.put, zA, zB, zC]
  try rfl
  }
 rintro gx wB_ ⟨CF2, hbx, hsx, hnx, hnr, hHeld⟩
 refine norm_ (a' := ?_) ?_ ?_
 rotate_left
 {
 simp only [putAll, Act.put, zA, zB, zC]
 rfl
 }
 refine one_ (i := 6) (N := none) #[true, true, true, true, true, true, true] rfl rfl (by kernel_rfl) (by decide) (fun K hK => ?_)
 have hcx0 : wB_.cell? ⟨gx, 0, none⟩ = some (.int .i64 0) := (blk_cell hbx 0).trans rfl
 have hfx0 := blk_frozen hbx 0
 refine skip_ (w1 := wB_.setCell ⟨gx, 0, none⟩ (.int .i64 t549)) (by rfl) rfl (by first | (go_simp; done) | (go_simp; rfl)) ?_
 have CF3 := CF2.put hsx hnx (.int .i64 t549)
 have BX : Aside0 ((wB_.setCell ⟨gx, 0, none⟩ (.int .i64 t549)).heap[gx]? = some (.cells #[.int .i64 t549] 3 (0, 0))) := ⟨blk_put (cs := #[.int .i64 0]) hbx 0 _ rfl⟩
 have hrow : (wB_.setCell ⟨gx, 0, none⟩ (.int .i64 t549)).cell? ad548 = some (.int .i64 (rd (rd_L2 t540 x41_2) 0)) := (World.cell?_setCell_far _ _ _ _ (Ne.symm hnr)).trans hHeld.2.2
 refine hK.out _ _ ⟨(blk_cell CF3.2.2.1 0).trans rfl, (blk_cell CF3.2.2.1 1).trans rfl, hrow⟩ (fun hHeld => ?_)
 clear hK K hcx0 hfx0 hrow
 generalize wB_.setCell ⟨gx, 0, none⟩ (.int .i64 t549) = wC_ at CF3 BX hHeld ⊢
 clear HO_4 HO_5 HO_39 HL547_0 BK538 HR547_0 HB CF0 CF2 hbx
 have HO_4 := Aside0.mk (Kd.S_mono CF3.1 (fun k_ hk => hk.1))
 have HO_39 := HO_4
 have HO_5 := Aside0.mk CF3.2.1
 have BK538 := Aside0.mk CF3.2.2.1
 have HB := Aside0.mk CF3.2.2.2
 have hcx : wC_.cell? ⟨gx, 0, none⟩ = some (.int .i64 t549) := (blk_cell BX.out 0).trans rfl
 clear CF3
 have hpos5 : 0 < x5_2.length := by have h1_ := of_decide_eq_true c33b0; have h2_ := of_decide_eq_true c32b0; omega
 obtain ⟨go40, co40, eo40, gb40, gl40, cl40, HG40⟩ := Kd.R_form HO_5.out hpos5
 (first | cases eo40 | (injection eo40 with ea_ en_ ec_; (first | subst ea_ | (injection ea_ with ea_; subst ea_)); subst ec_; clear en_))
 clear gb40 gl40 HG40 hpos5
 refine done_ (by kernel_rfl) ?_
 try go_wp2_with (first | ((with_reducible refine gate_callee (f := 37) rfl ?_); refine goesL_ (some 55) rfl rfl Tryz.func37 (by kernel_rfl) rfl #[.slice (some ad547) t540.length co12, .func (.func 38) #[] #[.pointer (some ⟨gx, 0, none⟩)]] rfl (by (try simp only [zE,zF,zG]); first|done|rfl|(simp only [zH,zI]; rfl)) ?_; (with_reducible refine (slices_IndexFunc_int_int.calls gx _ _ t540 t549 t550 _ ?side1 ?side2 BX.out A30.out).mono ?_); (case side1 => repeat (first | exact (Kd.S_reads' HO_4.out).2.2 | (with_reducible refine Kd.C_alloc ?_ _) | (with_reducible refine Kd.C_drewN ?_ _) | (with_reducible refine Kd.C_drew ?_))); (case side2 => exact (Kd.S_reads' HO_4.out).2.1); rintro e w' ⟨rfl, ⟨nd, rfl⟩⟩; refine ⟨_, rfl, ?_⟩; have p551 : 0 ≤ (x41_2 : Int) := of_decide_eq_true (by first | (with_reducible assumption) | assumption); have q551 : x41_2 < (x5_2.length : Int) := of_decide_eq_true (by first | (with_reducible assumption) | assumption); obtain ⟨ad551, e551, hx551_0⟩ := Kd.at_int (Kd.R_reads' HO_5.out).2.2 x41_2 p551 q551; cases e551; (try simp only [add_plain] at hx551_0); replace p551 := eq_true p551; replace q551 := eq_true q551; have p552 : 0 ≤ (t550 : Int) := of_decide_eq_true (by first | (with_reducible assumption) | assumption); have q552 : t550 < (x5_2.length : Int) := of_decide_eq_true (by first | (with_reducible assumption) | assumption); obtain ⟨ad552, e552, hx552_0⟩ := Kd.at_int (Kd.R_reads' HO_5.out).2.2 t550 p552 q552; cases e552; (try simp only [add_plain] at hx552_0); replace p552 := eq_true p552; replace q552 := eq_true q552))
 go_loopg [66] k2 (fun kq v66 w' => ∃ (x5_3 : List Int) (x66_3 : Int), v66 = .int .i64 x66_3 ∧ Aside0 (impl_CylindersOf.l2 kq t540 x5_3 (rd x5_2 x41_2) (rd x5_2 t550) t540 (t540.length : Int) x41_2 (x5_2.length : Int) x66_3 l0_0 l0_1 = some (r1, r2)) ∧ Aside0 (kq ≤ k2) ∧ Aside0 (Kd.S (Kd.slice 3 (Kd.int .i64)) 23 w' w.heap.size (fun k_ => some k_ ≠ ((.slice (some ⟨go40, 0, none⟩) x5_2.length co15) : Value).ownBlock) (.slice (some ad547) t540.length co12) t540) ∧ Aside0 (Kd.R (Kd.int .i64) 3 w' w.heap.size (fun _ => True) (.slice (some ⟨go40, 0, none⟩) x5_2.length co15) x5_3) ∧ Aside0 (Kd.S (Kd.slice 3 (Kd.int .i64)) 23 w' w.heap.size (fun k_ => some k_ ≠ ((.slice (some ⟨go40, 0, none⟩) x5_2.length co15) : Value).ownBlock) (.slice (some ad547) t540.length co12) t540) ∧ Aside0 (w'.heap[gb538]? = some (.cells #[(.slice A0_0 l0_0.length c0_0), (.slice A0_1 l0_1.length c0_1)] 25 (0, 0))) ∧ Aside0 (Below w.heap.size w w'))
 case atStart => exact ⟨(x5_2), (0), (by first | rfl | (simp; done) | (simp [*]; done)), H', ⟨Nat.le_refl _⟩, ⟨by (try simp only [hl5_1]); (try simp only [hl5_2]); (with_reducible repeat (first | apply Kd.S_alloc | apply Kd.S_drewN | apply Kd.S_drew)); exact HO_4.out⟩, ⟨by (try simp only [hl5_1]); (try simp only [hl5_2]); (with_reducible repeat (first|apply rA|apply rN|apply rD)); exact HO_5.out⟩, ⟨by (try simp only [hl5_1]); (try simp only [hl5_2]); (with_reducible repeat (first | apply Kd.S_alloc | apply Kd.S_drewN | apply Kd.S_drew)); exact HO_39.out⟩, ⟨by (try simp only [hl5_1]); (try simp only [hl5_2]); (with_reducible repeat (first|refine kN ?_ _|refine kD ?_|refine kA ?_ _)); exact BK538.out⟩, ⟨by repeat (first | (with_reducible first | exact HB.out|apply bA|apply bN|apply bD | refine below_set ?_ GE538.out) | exact HB.out)⟩⟩
 case round =>
 clear H'
 try clear c1
 try clear p1
 try clear q1
 try clear hx1
 try clear hf1
 try clear c2
 try clear p2
 try clear c3
 try clear c5
 try clear c5b0
 try clear c5b1
 try clear p5
 try clear q5
 try clear hx5
 try clear qi5
 try clear c6
 try clear c6b0
 try clear c6b1
 try clear p6
 try clear c8
 try clear c16
 try clear c16b0
 try clear c17
 try clear c17b0
 try clear c18
 try clear c18b0
 try clear p19
 try clear q19
 try clear hx19
 try clear hf19
 try clear c22
 try clear c22b0
 try clear c23
 try clear c23b0
 try clear c24
 try clear c24b0
 try clear c25
 try clear c25b0
 try clear c25b1
 try clear c27
 try clear c27b0
 try clear c31
 try clear c31b0
 try clear c32
 try clear c32b0
 try clear c33
 try clear c33b0
 try clear c35
 try clear hcz10_0
 try clear hcz10_1
 try clear hcz8_0
 try clear hcz8_1
 try clear hfz10_0
 try clear hfz10_1
 try clear hfz8_0
 try clear hfz8_1
 try clear hx19_0
 try clear hx547_0
 try clear hx548_0
 try clear hx551_0
 try clear hx552_0
 try clear p1
 try clear p19
 try clear p2
 try clear p547
 try clear p548
 try clear p551
 try clear p552
 try clear p6
 try clear q1
 try clear q19
 try clear q547
 try clear q548
 try clear q551
 try clear q552
 obtain ⟨x5_3, x66_3, rfl, HA, HK3, HO_4, HO_5, HO_39, BK538, HB⟩ := hrel
 have hl5_3 := (Kd.R_reads' HO_5.out).1
 rw [hl5_3] at HO_5
 (try simp only [hl5_3])
 (try simp only [hl5_3] at BK538)
 (try simp only [hl5_3] at HO_4)
 (try simp only [hl5_3] at HO_39)
 cases gk with
 | zero => exact absurd HA.out (by simp [impl_CylindersOf.l2])
 | succ k3 =>
 have H := HA.out
 clear HA
 simp only [impl_CylindersOf.l2] at H
 by_cases c36 : x66_3 < (x5_2.length : Int)
 {
 rw [if_pos c36] at H
 have c36b0 : decide (x66_3 < (x5_2.length : Int)) = true := decide_eq_true c36
 clear c36
 by_cases c37 : 0 ≤ x66_3
 {
 rw [if_pos c37] at H
 have c37b0 : decide (0 ≤ x66_3) = true := decide_eq_true c37
 clear c37
 by_cases c38 : x66_3 < (x5_3.length : Int)
 {
 rw [if_pos c38] at H
 have c38b0 : decide (x66_3 < (x5_3.length : Int)) = true := decide_eq_true c38
 clear c38
 by_cases c39 : (rd x5_3 x66_3) = (rd x5_2 x41_2)
 {
 rw [if_pos c39] at H
 have c39b0 : ((rd x5_3 x66_3) == (rd x5_2 x41_2)) = true := beq_iff_eq.mpr c39
 have c39b1 : ((rd x5_3 x66_3) != (rd x5_2 x41_2)) = false := bne_eq_false_iff_eq.mpr c39
 clear c39
 obtain ⟨ji40, hji40⟩ : ∃ j_ : Int, (mn (rd x5_2 x41_2) (rd x5_2 t550)) = j_ := ⟨_, rfl⟩
 replace H : (impl_CylindersOf.l2 k3 t540 (x5_3.set (x66_3 : Int).toNat (ji40)) (rd x5_2 x41_2) (rd x5_2 t550) t540 (t540.length : Int) x41_2 (x5_2.length : Int) (wrap64 (x66_3 + 1)) l0_0 l0_1) = some (r1, r2) := by first | (rw [hji40] at H; exact H) | (simp only [hji40] at H ⊢; exact H)
 have hji40_ : (if (rd x5_2 t550) < (rd x5_2 x41_2) then (rd x5_2 t550) else (rd x5_2 x41_2)) = ji40 := hji40
 have hjm40 : min (rd x5_2 x41_2) (rd x5_2 t550) = ji40 := by rw [← hji40_]; split <;> omega
 obtain ⟨y554, hy554⟩ : ∃ y_ : List Int, y_ = (x5_3.set (x66_3 : Int).toNat (ji40)) := ⟨_, rfl⟩
 replace H : (impl_CylindersOf.l2 k3 t540 y554 (rd x5_2 x41_2) (rd x5_2 t550) t540 (t540.length : Int) x41_2 (x5_2.length : Int) (wrap64 (x66_3 + 1)) l0_0 l0_1) = some (r1, r2) := by first | (rw [hy554]; with_reducible exact H) | (have H2_ := (Option.bind_some _ _).symm.trans H; rw [hy554]; with_reducible exact H2_) | (have H2_ := (Option.bind_some _ _).symm.trans H; with_reducible exact H2_) | with_reducible exact H | (rw [hy554]; exact H) | exact H
 have Ny554 := Aside0.mk hy554
 clear hy554
 have H' := Aside0.mk H
 clear H
 have p553 : 0 ≤ (x66_3 : Int) := of_decide_eq_true (by first | (with_reducible assumption) | assumption)
 have q553 : x66_3 < (x5_3.length : Int) := of_decide_eq_true (by first | (with_reducible assumption) | assumption)
 obtain ⟨ad553, e553, hx553_0⟩ := Kd.at_int (Kd.R_reads' HO_5.out).2.2 x66_3 p553 q553
 cases e553
 (try simp only [add_plain] at hx553_0)
 replace p553 := eq_true p553
 replace q553 := eq_true q553
 have p41 : 0 ≤ (x66_3 : Int) := of_decide_eq_true (by first | (with_reducible assumption) | assumption)
 have q41 : (x66_3 : Int) < ((x5_3.length : Int) : Int) := of_decide_eq_true (by first | (with_reducible assumption) | assumption)
 obtain ⟨go41, co41, eo41, gb41, gl41, cl41, HG41⟩ := Kd.R_form HO_5.out (by omega)
 injection eo41 with ea_ en_ ec_; injection ea_ with ea_; injection ea_ with ea_; subst ea_; subst ec_; clear en_
 have GB41 := Aside0.mk gb41
 have GG41 := Aside0.mk HG41
 clear gb41 gl41 HG41
 (first | simp only [add_plain] at hx551_0 | skip)
 (first | simp only [add_plain] at hx552_0 | skip)
 (first | simp only [add_plain] at hx553_0 | skip)
 obtain ⟨hx41_0, hf41_0⟩ := Kd.R_celln 0 HO_5.out (x66_3 : Int) p41 q41
 replace p41 := eq_true p41
 replace q41 := eq_true q41
 have HP42 := Kd.R_putg HO_5.out (x66_3 : Int) ji40
 go_wp2_with (first | ((with_reducible refine gate_store (t := 3) (p := 88) rfl ?_); refine store_event (t := 3) (p := 88) (v := ?vo_w43) (w1 := (wr.setCell ⟨go40, (x66_3 : Int).toNat, none⟩ (.int .i64 ji40))) ?hg ?ho ?hn ?hr ?_; (case ho => rfl); (case hg => rfl); (case hn => rfl); (case hr => first | (go_simp; done) | (go_simp; rfl)); intro w43 hw; have hg : wr.grownBy w43 (some go40) := (by rw [hw]; exact HP42.2); have hp_ : Kd.R (Kd.int .i64) 3 w43 w.heap.size (fun _ => True) (.slice (some ⟨go40, 0, none⟩) x5_3.length co15) y554 := (by rw [hw, Ny554.out]; exact HP42.1); clear HP42; have n0_ := Aside0.mk (Kd.S_after (v := (.slice (some ⟨go40, 0, none⟩) x5_3.length co15)) (v1 := (.slice (some ⟨go40, 0, none⟩) x5_3.length co15)) (ok := (fun _ => True)) (by (with_reducible repeat (first | apply Kd.S_alloc | apply Kd.S_drewN | apply Kd.S_drew)); exact Kd.S_mono HO_4.out (fun _ hk => ⟨trivial, hk⟩)) hg (.inl rfl)); have n1_ := Aside0.mk (hp_); have n2_ := Aside0.mk (Kd.S_after (v := (.slice (some ⟨go40, 0, none⟩) x5_3.length co15)) (v1 := (.slice (some ⟨go40, 0, none⟩) x5_3.length co15)) (ok := (fun _ => True)) (by (with_reducible repeat (first | apply Kd.S_alloc | apply Kd.S_drewN | apply Kd.S_drew)); exact Kd.S_mono HO_39.out (fun _ hk => ⟨trivial, hk⟩)) hg (.inl rfl)); have n3_ := Aside0.mk (blk_grown (g := gb538) (o := .cells #[.slice A0_0 l0_0.length c0_0, .slice A0_1 l0_1.length c0_1] 25 (0, 0)) (by (with_reducible repeat (first|refine kN ?_ _|refine kD ?_|refine kA ?_ _)); exact BK538.out) hg (Kd.R_ne HO_5.out BK538.out (by decide))); have n4_ := Aside0.mk ((by rw [hw]; exact below_set (HB.out) GB41.out : Below w.heap.size w w43)); clear HO_4; clear HO_5; clear HO_39; clear BK538; clear HB; have HO_4 := n0_; have HO_5 := n1_; have HO_39 := n2_; have BK538 := n3_; have HB := n4_; clear n0_ n1_ n2_ n3_ n4_; clear hg hw hp_))
 (try simp only [← hl5_3])
 go_roundg k3
 case measure => have := HK1.out; have := HK2.out; have := HK3.out; omega
 case rel => exact ⟨(y554), (wrap64 (x66_3 + 1)), (by first | rfl | (simp; done) | (simp [*]; done)), H', ⟨by have := HK1.out; have := HK2.out; have := HK3.out; omega⟩, ⟨by (try simp only [hl5_1]); (try simp only [hl5_2]); (try simp only [hl5_3]); (with_reducible repeat (first | apply Kd.S_alloc | apply Kd.S_drewN | apply Kd.S_drew)); exact Kd.S_mono HO_4.out (fun _ hk => hk.2)⟩, ⟨by (try simp only [hl5_1]); (try simp only [hl5_2]); (try simp only [hl5_3]); (with_reducible repeat (first|apply rA|apply rN|apply rD)); exact HO_5.out⟩, ⟨by (try simp only [hl5_1]); (try simp only [hl5_2]); (try simp only [hl5_3]); (with_reducible repeat (first | apply Kd.S_alloc | apply Kd.S_drewN | apply Kd.S_drew)); exact Kd.S_mono HO_39.out (fun _ hk => hk.2)⟩, ⟨by (try simp only [hl5_1]); (try simp only [hl5_2]); (try simp only [hl5_3]); (with_reducible repeat (first|refine kN ?_ _|refine kD ?_|refine kA ?_ _)); exact BK538.out⟩, ⟨by repeat (first | (with_reducible first | exact HB.out|apply bA|apply bN|apply bD | refine below_set ?_ GE538.out) | exact HB.out)⟩⟩
 }
 {
 rw [if_neg c39] at H
 have c39b0 : ((rd x5_3 x66_3) == (rd x5_2 x41_2)) = false := beq_eq_false_iff_ne.mpr c39
 have c39b1 : ((rd x5_3 x66_3) != (rd x5_2 x41_2)) = true := bne_iff_ne.mpr c39
 by_cases c44 : (rd x5_3 x66_3) = (rd x5_2 t550)
 {
 rw [if_pos c44] at H
 have c44b0 : ((rd x5_3 x66_3) == (rd x5_2 t550)) = true := beq_iff_eq.mpr c44
 have c44b1 : ((rd x5_3 x66_3) != (rd x5_2 t550)) = false := bne_eq_false_iff_eq.mpr c44
 clear c44
 obtain ⟨ji45, hji45⟩ : ∃ j_ : Int, (mn (rd x5_2 x41_2) (rd x5_2 t550)) = j_ := ⟨_, rfl⟩
 replace H : (impl_CylindersOf.l2 k3 t540 (x5_3.set (x66_3 : Int).toNat (ji45)) (rd x5_2 x41_2) (rd x5_2 t550) t540 (t540.length : Int) x41_2 (x5_2.length : Int) (wrap64 (x66_3 + 1)) l0_0 l0_1) = some (r1, r2) := by first | (rw [hji45] at H; exact H) | (simp only [hji45] at H ⊢; exact H)
 have hji45_ : (if (rd x5_2 t550) < (rd x5_2 x41_2) then (rd x5_2 t550) else (rd x5_2 x41_2)) = ji45 := hji45
 have hjm45 : min (rd x5_2 x41_2) (rd x5_2 t550) = ji45 := by rw [← hji45_]; split <;> omega
 obtain ⟨y556, hy556⟩ : ∃ y_ : List Int, y_ = (x5_3.set (x66_3 : Int).toNat (ji45)) := ⟨_, rfl⟩
 replace H : (impl_CylindersOf.l2 k3 t540 y556 (rd x5_2 x41_2) (rd x5_2 t550) t540 (t540.length : Int) x41_2 (x5_2.length : Int) (wrap64 (x66_3 + 1)) l0_0 l0_1) = some (r1, r2) := by first | (rw [hy556]; with_reducible exact H) | (have H2_ := (Option.bind_some _ _).symm.trans H; rw [hy556]; with_reducible exact H2_) | (have H2_ := (Option.bind_some _ _).symm.trans H; with_reducible exact H2_) | with_reducible exact H | (rw [hy556]; exact H) | exact H
 have Ny556 := Aside0.mk hy556
 clear hy556
 have H' := Aside0.mk H
 clear H
 have p553 : 0 ≤ (x66_3 : Int) := of_decide_eq_true (by first | (with_reducible assumption) | assumption)
 have q553 : x66_3 < (x5_3.length : Int) := of_decide_eq_true (by first | (with_reducible assumption) | assumption)
 obtain ⟨ad553, e553, hx553_0⟩ := Kd.at_int (Kd.R_reads' HO_5.out).2.2 x66_3 p553 q553
 cases e553
 (try simp only [add_plain] at hx553_0)
 replace p553 := eq_true p553
 replace q553 := eq_true q553
 have p555 : 0 ≤ (x66_3 : Int) := of_decide_eq_true (by first | (with_reducible assumption) | assumption)
 have q555 : x66_3 < (x5_3.length : Int) := of_decide_eq_true (by first | (with_reducible assumption) | assumption)
 obtain ⟨ad555, e555, hx555_0⟩ := Kd.at_int (Kd.R_reads' HO_5.out).2.2 x66_3 p555 q555
 cases e555
 (try simp only [add_plain] at hx555_0)
 replace p555 := eq_true p555
 replace q555 := eq_true q555
 have p46 : 0 ≤ (x66_3 : Int) := of_decide_eq_true (by first | (with_reducible assumption) | assumption)
 have q46 : (x66_3 : Int) < ((x5_3.length : Int) : Int) := of_decide_eq_true (by first | (with_reducible assumption) | assumption)
 obtain ⟨go46, co46, eo46, gb46, gl46, cl46, HG46⟩ := Kd.R_form HO_5.out (by omega)
 injection eo46 with ea_ en_ ec_; injection ea_ with ea_; injection ea_ with ea_; subst ea_; subst ec_; clear en_
 have GB46 := Aside0.mk gb46
 have GG46 := Aside0.mk HG46
 clear gb46 gl46 HG46
 (first | simp only [add_plain] at hx553_0 | skip)
 (first | simp only [add_plain] at hx555_0 | skip)
 obtain ⟨hx46_0, hf46_0⟩ := Kd.R_celln 0 HO_5.out (x66_3 : Int) p46 q46
 replace p46 := eq_true p46
 replace q46 := eq_true q46
 have HP47 := Kd.R_putg HO_5.out (x66_3 : Int) ji45
 go_wp2_with (first | ((with_reducible refine gate_store (t := 3) (p := 88) rfl ?_); refine store_event (t := 3) (p := 88) (v := ?vo_w48) (w1 := (wr.setCell ⟨go40, (x66_3 : Int).toNat, none⟩ (.int .i64 ji45))) ?hg ?ho ?hn ?hr ?_; (case ho => rfl); (case hg => rfl); (case hn => rfl); (case hr => first | (go_simp; done) | (go_simp; rfl)); intro w48 hw; have hg : wr.grownBy w48 (some go40) := (by rw [hw]; exact HP47.2); have hp_ : Kd.R (Kd.int .i64) 3 w48 w.heap.size (fun _ => True) (.slice (some ⟨go40, 0, none⟩) x5_3.length co15) y556 := (by rw [hw, Ny556.out]; exact HP47.1); clear HP47; have n0_ := Aside0.mk (Kd.S_after (v := (.slice (some ⟨go40, 0, none⟩) x5_3.length co15)) (v1 := (.slice (some ⟨go40, 0, none⟩) x5_3.length co15)) (ok := (fun _ => True)) (by (with_reducible repeat (first | apply Kd.S_alloc | apply Kd.S_drewN | apply Kd.S_drew)); exact Kd.S_mono HO_4.out (fun _ hk => ⟨trivial, hk⟩)) hg (.inl rfl)); have n1_ := Aside0.mk (hp_); have n2_ := Aside0.mk (Kd.S_after (v := (.slice (some ⟨go40, 0, none⟩) x5_3.length co15)) (v1 := (.slice (some ⟨go40, 0, none⟩) x5_3.length co15)) (ok := (fun _ => True)) (by (with_reducible repeat (first | apply Kd.S_alloc | apply Kd.S_drewN | apply Kd.S_drew)); exact Kd.S_mono HO_39.out (fun _ hk => ⟨trivial, hk⟩)) hg (.inl rfl)); have n3_ := Aside0.mk (blk_grown (g := gb538) (o := .cells #[.slice A0_0 l0_0.length c0_0, .slice A0_1 l0_1.length c0_1] 25 (0, 0)) (by (with_reducible repeat (first|refine kN ?_ _|refine kD ?_|refine kA ?_ _)); exact BK538.out) hg (Kd.R_ne HO_5.out BK538.out (by decide))); have n4_ := Aside0.mk ((by rw [hw]; exact below_set (HB.out) GB46.out : Below w.heap.size w w48)); clear HO_4; clear HO_5; clear HO_39; clear BK538; clear HB; have HO_4 := n0_; have HO_5 := n1_; have HO_39 := n2_; have BK538 := n3_; have HB := n4_; clear n0_ n1_ n2_ n3_ n4_; clear hg hw hp_))
 (try simp only [← hl5_3])
 go_roundg k3
 case measure => have := HK1.out; have := HK2.out; have := HK3.out; omega
 case rel => exact ⟨(y556), (wrap64 (x66_3 + 1)), (by first | rfl | (simp; done) | (simp [*]; done)), H', ⟨by have := HK1.out; have := HK2.out; have := HK3.out; omega⟩, ⟨by (try simp only [hl5_1]); (try simp only [hl5_2]); (try simp only [hl5_3]); (with_reducible repeat (first | apply Kd.S_alloc | apply Kd.S_drewN | apply Kd.S_drew)); exact Kd.S_mono HO_4.out (fun _ hk => hk.2)⟩, ⟨by (try simp only [hl5_1]); (try simp only [hl5_2]); (try simp only [hl5_3]); (with_reducible repeat (first|apply rA|apply rN|apply rD)); exact HO_5.out⟩, ⟨by (try simp only [hl5_1]); (try simp only [hl5_2]); (try simp only [hl5_3]); (with_reducible repeat (first | apply Kd.S_alloc | apply Kd.S_drewN | apply Kd.S_drew)); exact Kd.S_mono HO_39.out (fun _ hk => hk.2)⟩, ⟨by (try simp only [hl5_1]); (try simp only [hl5_2]); (try simp only [hl5_3]); (with_reducible repeat (first|refine kN ?_ _|refine kD ?_|refine kA ?_ _)); exact BK538.out⟩, ⟨by repeat (first | (with_reducible first | exact HB.out|apply bA|apply bN|apply bD | refine below_set ?_ GE538.out) | exact HB.out)⟩⟩
 }
 {
 rw [if_neg c44] at H
 have c44b0 : ((rd x5_3 x66_3) == (rd x5_2 t550)) = false := beq_eq_false_iff_ne.mpr c44
 have c44b1 : ((rd x5_3 x66_3) != (rd x5_2 t550)) = true := bne_iff_ne.mpr c44
 have H' := Aside0.mk H
 clear H
 have p553 : 0 ≤ (x66_3 : Int) := of_decide_eq_true (by first | (with_reducible assumption) | assumption)
 have q553 : x66_3 < (x5_3.length : Int) := of_decide_eq_true (by first | (with_reducible assumption) | assumption)
 obtain ⟨ad553, e553, hx553_0⟩ := Kd.at_int (Kd.R_reads' HO_5.out).2.2 x66_3 p553 q553
 cases e553
 (try simp only [add_plain] at hx553_0)
 replace p553 := eq_true p553
 replace q553 := eq_true q553
 have p555 : 0 ≤ (x66_3 : Int) := of_decide_eq_true (by first | (with_reducible assumption) | assumption)
 have q555 : x66_3 < (x5_3.length : Int) := of_decide_eq_true (by first | (with_reducible assumption) | assumption)
 obtain ⟨ad555, e555, hx555_0⟩ := Kd.at_int (Kd.R_reads' HO_5.out).2.2 x66_3 p555 q555
 cases e555
 (try simp only [add_plain] at hx555_0)
 replace p555 := eq_true p555
 replace q555 := eq_true q555
 go_wp2
 (try simp only [← hl5_3])
 go_roundg k3
 case measure => have := HK1.out; have := HK2.out; have := HK3.out; omega
 case rel => exact ⟨(x5_3), (wrap64 (x66_3 + 1)), (by first | rfl | (simp; done) | (simp [*]; done)), H', ⟨by have := HK1.out; have := HK2.out; have := HK3.out; omega⟩, ⟨by (try simp only [hl5_1]); (try simp only [hl5_2]); (try simp only [hl5_3]); (with_reducible repeat (first | apply Kd.S_alloc | apply Kd.S_drewN | apply Kd.S_drew)); exact HO_4.out⟩, ⟨by (try simp only [hl5_1]); (try simp only [hl5_2]); (try simp only [hl5_3]); (with_reducible repeat (first|apply rA|apply rN|apply rD)); exact HO_5.out⟩, ⟨by (try simp only [hl5_1]); (try simp only [hl5_2]); (try simp only [hl5_3]); (with_reducible repeat (first | apply Kd.S_alloc | apply Kd.S_drewN | apply Kd.S_drew)); exact HO_39.out⟩, ⟨by (try simp only [hl5_1]); (try simp only [hl5_2]); (try simp only [hl5_3]); (with_reducible repeat (first|refine kN ?_ _|refine kD ?_|refine kA ?_ _)); exact BK538.out⟩, ⟨by repeat (first | (with_reducible first | exact HB.out|apply bA|apply bN|apply bD | refine below_set ?_ GE538.out) | exact HB.out)⟩⟩
 }
 }
 }
 {
 rw [if_neg c38] at H
 exact absurd H (by simp)
 }
 }
 {
 rw [if_neg c37] at H
 exact absurd H (by simp)
 }
 }
 {
 rw [if_neg c36] at H
 have c36b0 : decide (x66_3 < (x5_2.length : Int)) = false := decide_eq_false c36
 (try rw [hl5_3] at c36b0)
 clear c36
 have H' := Aside0.mk H
 clear H
 go_wp2
 (try simp only [← hl5_2, ← hl5_3])
 go_roundg k3
 case measure => have := HK1.out; have := HK2.out; have := HK3.out; omega
 case rel => exact ⟨(x5_3), (wrap64 (x41_2 + 1)), (by first | rfl | (simp; done) | (simp [*]; done)), H', ⟨by have := HK1.out; have := HK2.out; have := HK3.out; omega⟩, ⟨by (try simp only [hl5_1]); (try simp only [hl5_2]); (try simp only [hl5_3]); (with_reducible repeat (first | apply Kd.S_alloc | apply Kd.S_drewN | apply Kd.S_drew)); exact HO_4.out⟩, ⟨by (try simp only [hl5_1]); (try simp only [hl5_2]); (try simp only [hl5_3]); (with_reducible repeat (first|apply rA|apply rN|apply rD)); exact HO_5.out⟩, ⟨by (try simp only [hl5_1]); (try simp only [hl5_2]); (try simp only [hl5_3]); (with_reducible repeat (first | apply Kd.S_alloc | apply Kd.S_drewN | apply Kd.S_drew)); exact HO_39.out⟩, ⟨by (try simp only [hl5_1]); (try simp only [hl5_2]); (try simp only [hl5_3]); (with_reducible repeat (first|refine kN ?_ _|refine kD ?_|refine kA ?_ _)); exact BK538.out⟩, ⟨by repeat (first | (with_reducible first | exact HB.out|apply bA|apply bN|apply bD | refine below_set ?_ GE538.out) | exact HB.out)⟩⟩
 }
 }
 {
 rw [if_neg c33] at H
 exact absurd H (by simp)
 }
 }
 {
 rw [if_neg c32] at H
 exact absurd H (by simp)
 }
 }
 {
 rw [if_neg c31] at H
 exact absurd H (by simp)
 }
 }
 }
 {
 rw [if_neg c25] at H
 exact absurd H (by simp)
 }
 }
 {
 rw [if_neg c24] at H
 exact absurd H (by simp)
 }
 }
 {
 rw [if_neg c23] at H
 exact absurd H (by simp)
 }
 }
 {
 rw [if_neg c22] at H
 have c22b0 : decide (x41_2 < (t540.length : Int)) = false := decide_eq_false c22
 clear c22
 obtain ⟨y557, hy557⟩ : ∃ y_ : List (S38), y_ = (([] : List (S38))) := ⟨_, rfl⟩
 replace H : (impl_CylindersOf.l3 k2 x5_2 y557 t540 (t540.length : Int) 0) = some (r1, r2) := by first | (rw [hy557]; with_reducible exact H) | (have H2_ := (Option.bind_some _ _).symm.trans H; rw [hy557]; with_reducible exact H2_) | (have H2_ := (Option.bind_some _ _).symm.trans H; with_reducible exact H2_) | with_reducible exact H | (rw [hy557]; exact H) | exact H
 have Ny557 := Aside0.mk hy557
 clear hy557
 have H' := Aside0.mk H
 clear H
 go_wp2_with (first | ((with_reducible refine gate_dst (N := 91) rfl ?_); refine Kd.R_lit k38 _ 38 ?hg (N := 91) ?hd (xs := ([] : List (S38))) (inner := []) (ok := fun _ => True) (okp := fun _ => True) ?hr ?hp (fun _ hk => hk) trivial (Below.refl _ _) (Nat.le_refl _) (by simp) ?_; (case hd => rfl); (case hg => rfl); (case hr => first | (go_simp; done) | (go_simp; rfl)); (case hp => exact (Reps.none _ _)); intro v558 w49 ho50 hb hg_ hnew_; clear hg_ hnew_; (first | rw [← Ny557.out] at ho50 | (simp only [Int.reduceToNat] at ho50; rw [← Ny557.out] at ho50)); have n0_ := Aside0.mk (Kd.S_below (by (with_reducible repeat (first | apply Kd.S_alloc | apply Kd.S_drewN | apply Kd.S_drew)); exact HO_4.out) hb); have n1_ := Aside0.mk (Kd.R_below (by (with_reducible repeat (first|apply rA|apply rN|apply rD)); exact HO_5.out) hb); have n2_ := Aside0.mk (Kd.S_below (by (with_reducible repeat (first | apply Kd.S_alloc | apply Kd.S_drewN | apply Kd.S_drew)); exact HO_39.out) hb); have n3_ := Aside0.mk (Kd.R_lower ho50 (below_size (by repeat (first | (with_reducible first | exact HB.out|apply bA|apply bN|apply bD | refine below_set ?_ GE538.out) | exact HB.out)))); have n4_ := Aside0.mk (blk_below (g := gb538) (o := .cells #[.slice A0_0 l0_0.length c0_0, .slice A0_1 l0_1.length c0_1] 25 (0, 0)) (by (with_reducible repeat (first|refine kN ?_ _|refine kD ?_|refine kA ?_ _)); exact BK538.out) hb); have n5_ := Aside0.mk (below_step (by repeat (first | (with_reducible first | exact HB.out|apply bA|apply bN|apply bD | refine below_set ?_ GE538.out) | exact HB.out)) hb); clear HO_4; clear HO_5; clear HO_39; clear BK538; clear HB; have HO_4 := n0_; have HO_5 := n1_; have HO_39 := n2_; have HO559 := n3_; have BK538 := n4_; have HB := n5_; clear n0_ n1_ n2_ n3_ n4_ n5_; clear hb ho50))
 go_loopg [14, 94] k2 (fun kq v14 v94 w' => ∃ (x14_3 : List (S38)) (x94_3 : Int), v94 = .int .i64 x94_3 ∧ Aside0 (impl_CylindersOf.l3 kq x5_2 x14_3 t540 (t540.length : Int) x94_3 = some (r1, r2)) ∧ Aside0 (kq ≤ k2) ∧ Aside0 (Kd.R (Kd.int .i64) 3 w' w.heap.size (fun _ => True) (.slice Ao15 x5_2.length co15) x5_2) ∧ Aside0 (Kd.R k38 38 w' w.heap.size (fun _ => True) v14 x14_3) ∧ Aside0 (Kd.S (Kd.slice 3 (Kd.int .i64)) 23 w' w.heap.size (fun k_ => some k_ ≠ ((.slice Ao15 x5_2.length co15) : Value).ownBlock) (.slice Ao12 t540.length co12) t540) ∧ Aside0 (w'.heap[gb538]? = some (.cells #[(.slice A0_0 l0_0.length c0_0), (.slice A0_1 l0_1.length c0_1)] 25 (0, 0))) ∧ Aside0 (Below w.heap.size w w'))
 case atStart => exact ⟨(y557), (0), (by first | rfl | (simp; done) | (simp [*]; done)), H', ⟨Nat.le_refl _⟩, ⟨by (try simp only [hl5_1]); (try simp only [hl5_2]); (with_reducible repeat (first|apply rA|apply rN|apply rD)); exact HO_5.out⟩, ⟨by (try simp only [hl5_1]); (try simp only [hl5_2]); (with_reducible repeat (first|apply rA|apply rN|apply rD)); exact HO559.out⟩, ⟨by (try simp only [hl5_1]); (try simp only [hl5_2]); (with_reducible repeat (first | apply Kd.S_alloc | apply Kd.S_drewN | apply Kd.S_drew)); exact HO_4.out⟩, ⟨by (try simp only [hl5_1]); (try simp only [hl5_2]); (with_reducible repeat (first|refine kN ?_ _|refine kD ?_|refine kA ?_ _)); exact BK538.out⟩, ⟨by repeat (first | (with_reducible first | exact HB.out|apply bA|apply bN|apply bD | refine below_set ?_ GE538.out) | exact HB.out)⟩⟩
 case round =>
 clear H'
 try clear c1
 try clear p1
 try clear q1
 try clear hx1
 try clear hf1
 try clear c2
 try clear p2
 try clear c3
 try clear c4
 try clear p4
 try clear q4
 try clear hx4
 try clear hf4
 try clear c5
 try clear c5b0
 try clear c5b1
 try clear p5
 try clear q5
 try clear hx5
 try clear qi5
 try clear c6
 try clear c6b0
 try clear c6b1
 try clear p6
 try clear c8
 try clear c16
 try clear c16b0
 try clear c17
 try clear c17b0
 try clear c18
 try clear c18b0
 try clear p19
 try clear q19
 try clear hx19
 try clear hf19
 try clear c22
 try clear c22b0
 try clear c23
 try clear c23b0
 try clear c24
 try clear c24b0
 try clear c25
 try clear c25b0
 try clear c25b1
 try clear c27
 try clear c27b0
 try clear c31
 try clear c31b0
 try clear c32
 try clear c32b0
 try clear c33
 try clear c33b0
 try clear c35
 try clear c36
 try clear c36b0
 try clear c37
 try clear c37b0
 try clear c38
 try clear c38b0
 try clear c39
 try clear c39b0
 try clear c39b1
 try clear p41
 try clear q41
 try clear hx41
 try clear hf41
 try clear c44
 try clear c44b0
 try clear c44b1
 try clear p46
 try clear q46
 try clear hx46
 try clear hf46
 try clear hcz10_0
 try clear hcz10_1
 try clear hcz8_0
 try clear hcz8_1
 try clear hfz10_0
 try clear hfz10_1
 try clear hfz8_0
 try clear hfz8_1
 try clear hx19_0
 try clear hx41_0
 try clear hx46_0
 try clear hx547_0
 try clear hx548_0
 try clear hx551_0
 try clear hx552_0
 try clear hx553_0
 try clear hx555_0
 try clear p1
 try clear p19
 try clear p2
 try clear p41
 try clear p46
 try clear p5
 try clear p547
 try clear p548
 try clear p551
 try clear p552
 try clear p553
 try clear p555
 try clear p6
 try clear q1
 try clear q19
 try clear q41
 try clear q46
 try clear q5
 try clear q547
 try clear q548
 try clear q551
 try clear q552
 try clear q553
 try clear q555
 obtain ⟨x14_3, x94_3, rfl, HA, HK3, HO_5, HO_14, HO_92, BK538, HB⟩ := hrel
 cases gk with
 | zero => exact absurd HA.out (by simp [impl_CylindersOf.l3])
 | succ k3 =>
 have H := HA.out
 clear HA
 simp only [impl_CylindersOf.l3] at H
 by_cases c51 : x94_3 < (t540.length : Int)
 {
 rw [if_pos c51] at H
 have c51b0 : decide (x94_3 < (t540.length : Int)) = true := decide_eq_true c51
 clear c51
 by_cases c52 : 0 ≤ x94_3
 {
 rw [if_pos c52] at H
 have c52b0 : decide (0 ≤ x94_3) = true := decide_eq_true c52
 clear c52
 by_cases c53 : x94_3 < (t540.length : Int)
 {
 rw [if_pos c53] at H
 have c53b0 : decide (x94_3 < (t540.length : Int)) = true := decide_eq_true c53
 clear c53
 by_cases c54 : x94_3 < (x5_2.length : Int)
 {
 rw [if_pos c54] at H
 have c54b0 : decide (x94_3 < (x5_2.length : Int)) = true := decide_eq_true c54
 clear c54
 by_cases c55 : (rd x5_2 x94_3) = x94_3
 {
 rw [if_pos c55] at H
 have c55b0 : ((rd x5_2 x94_3) == x94_3) = true := beq_iff_eq.mpr c55
 have c55b1 : ((rd x5_2 x94_3) != x94_3) = false := bne_eq_false_iff_eq.mpr c55
 clear c55
 have H' := Aside0.mk H
 clear H
 have p560 : 0 ≤ (x94_3 : Int) := of_decide_eq_true (by first | (with_reducible assumption) | assumption)
 have q560 : x94_3 < (t540.length : Int) := of_decide_eq_true (by first | (with_reducible assumption) | assumption)
 obtain ⟨ad560, A560_0, c560_0, e560, hx560_0, hl560_0, hi560_0⟩ := at_L2 (Kd.S_reads' HO_92.out).2.2 x94_3 p560 q560
 cases e560
 obtain ⟨ce560, hce560, hMe560, hcc560⟩ := Kd.S_get HO_92.out [] x94_3 p560 (by first | exact q560 | exact of_decide_eq_true (by first | (with_reducible assumption) | assumption) | (have e_ := (Kd.S_reads' HO_92.out).1; omega))
 obtain ⟨ve560_0, rfl, ge560_0⟩ := hMe560
 have hv560_0 := hcc560 0 _ rfl
 rw [Nat.add_zero, show ((Kd.slice 3 (Kd.int .i64))).sz = 1 from rfl, Nat.mul_one] at hv560_0
 replace hv560_0 := Option.some.inj (hv560_0.symm.trans hx560_0)
 rw [hv560_0] at ge560_0
 have HL560_0 := Aside0.mk (show Kd.R (Kd.int .i64) 3 _ _ _ _ (rd_L2 t540 x94_3) from ge560_0)
 clear hv560_0 ge560_0
 clear hcc560 hce560
 have HR560_0 := Aside0.mk hi560_0
 have HC560_0 := Aside0.mk hl560_0
 clear hi560_0 hl560_0
 replace p560 := eq_true p560
 replace q560 := eq_true q560
 have p561 : 0 ≤ (x94_3 : Int) := of_decide_eq_true (by first | (with_reducible assumption) | assumption)
 have q561 : x94_3 < (x5_2.length : Int) := of_decide_eq_true (by first | (with_reducible assumption) | assumption)
 obtain ⟨ad561, e561, hx561_0⟩ := Kd.at_int (Kd.R_reads' HO_5.out).2.2 x94_3 p561 q561
 cases e561
 replace p561 := eq_true p561
 replace q561 := eq_true q561
 go_wp2_with (first | ((with_reducible refine gate_dst (N := 17) rfl ?_); refine box_event ?hg (N := 17) ?hd (cs := #[.int .i64 0, .int .i64 0]) (t := 38) ?hr ?_; (case hd => rfl); (case hg => rfl); (case hr => first | (go_simp; done) | (go_simp; rfl)); intro gb562 hg w56 hbox hb; have n0_ := Aside0.mk (Kd.R_below (by (with_reducible repeat (first|apply rA|apply rN|apply rD)); exact HO_5.out) hb); have n1_ := Aside0.mk (Kd.R_below (Kd.R_elderB (by (with_reducible repeat (first|apply rA|apply rN|apply rD)); exact HO_14.out) gb562 (Nat.le_of_eq hg.symm)) hb); have n2_ := Aside0.mk (Kd.S_below (by (with_reducible repeat (first | apply Kd.S_alloc | apply Kd.S_drewN | apply Kd.S_drew)); exact HO_92.out) hb); have n3_ := Aside0.mk (Kd.R_below (by (with_reducible repeat (first|apply rA|apply rN|apply rD)); exact HL560_0.out) hb); have n4_ := Aside0.mk (blk_below (g := gb538) (o := .cells #[.slice A0_0 l0_0.length c0_0, .slice A0_1 l0_1.length c0_1] 25 (0, 0)) (by (with_reducible repeat (first|refine kN ?_ _|refine kD ?_|refine kA ?_ _)); exact BK538.out) hb); have n5_ := Aside0.mk (Kd.C_below (by repeat (first | (with_reducible exact HR560_0.out) | (with_reducible refine Kd.C_alloc ?_ _) | (with_reducible refine Kd.C_drewN ?_ _) | (with_reducible refine Kd.C_drew ?_) | exact HR560_0.out)) hb); have n6_ := Aside0.mk (below_step (by repeat (first | (with_reducible first | exact HB.out|apply bA|apply bN|apply bD | refine below_set ?_ GE538.out) | exact HB.out)) hb); have n7_ := Aside0.mk (hbox); have n8_ := Aside0.mk ((by rw [hg]; exact (below_size (by repeat (first | (with_reducible first | exact HB.out|apply bA|apply bN|apply bD | refine below_set ?_ GE538.out) | exact HB.out))) : w.heap.size ≤ gb562)); have n9_ := Aside0.mk ((by rw [hg]; exact (below_size (by repeat (first | (with_reducible first | exact HB.out|apply bA|apply bN|apply bD | refine below_set ?_ GE538.out) | exact HB.out))) : w.heap.size ≤ gb562)); have n10_ := Aside0.mk ((by rw [hg]; exact Nat.ne_of_lt (blk_lt (g := gb538) (o := .cells #[.slice A0_0 l0_0.length c0_0, .slice A0_1 l0_1.length c0_1] 25 (0, 0)) (by (with_reducible repeat (first|refine kN ?_ _|refine kD ?_|refine kA ?_ _)); exact BK538.out)) : gb538 ≠ gb562)); have n11_ := Aside0.mk ((by rw [hg]; exact Nat.ne_of_gt (blk_lt (g := gb538) (o := .cells #[.slice A0_0 l0_0.length c0_0, .slice A0_1 l0_1.length c0_1] 25 (0, 0)) (by (with_reducible repeat (first|refine kN ?_ _|refine kD ?_|refine kA ?_ _)); exact BK538.out)) : gb562 ≠ gb538)); clear HO_5; clear HO_14; clear HO_92; clear HL560_0; clear BK538; clear HR560_0; clear HB; have HO_5 := n0_; have HO_14 := n1_; have HO_92 := n2_; have HL560_0 := n3_; have BK538 := n4_; have HR560_0 := n5_; have HB := n6_; have BK562 := n7_; have GW562 := n8_; have GE562 := n9_; have NB538_562 := n10_; have NB562_538 := n11_; clear n0_ n1_ n2_ n3_ n4_ n5_ n6_ n7_ n8_ n9_ n10_ n11_; clear hb hbox hg; have hnb57 := NB562_538.out; have hnc57 := NB538_562.out; have hcz58_0 : w56.cell? ⟨gb562, 0, none⟩ = some (.int .i64 0) := (blk_cell BK562.out 0).trans rfl; have hcz58_1 : w56.cell? ⟨gb562, 1, none⟩ = some (.int .i64 0) := (blk_cell BK562.out 1).trans rfl; have hfz58_0 := blk_frozen BK562.out 0; have hfz58_1 := blk_frozen BK562.out 1))
 go_loopg [110] k3 (fun kq v110 w' => ∃ (x110_4 : Int) (x563001_4 : Int), v110 = .int .i64 x110_4 ∧ Aside0 (impl_CylindersOf.l4 kq x5_2 x14_3 x94_3 t540 (t540.length : Int) x94_3 x5_2 (x5_2.length : Int) x110_4 ((rd_L2 t540 x94_3).length : Int) x563001_4 = some (r1, r2)) ∧ Aside0 (kq ≤ k3) ∧ Aside0 (Kd.R (Kd.int .i64) 3 w' w.heap.size (fun _ => True) (.slice (some ad561) x5_2.length co15) x5_2) ∧ Aside0 (Kd.R k38 38 w' w.heap.size (fun k_ => k_ ≠ gb562) u14 x14_3) ∧ Aside0 (Kd.S (Kd.slice 3 (Kd.int .i64)) 23 w' w.heap.size (fun k_ => some k_ ≠ ((.slice (some ad561) x5_2.length co15) : Value).ownBlock ∧ some k_ ≠ ((.slice (some ad561) x5_2.length co15) : Value).ownBlock) (.slice (some ad560) t540.length co12) t540) ∧ Aside0 (Kd.R (Kd.int .i64) 3 w' w.heap.size (fun _ => True) (.slice (some ad561) x5_2.length co15) x5_2) ∧ Aside0 (w'.heap[gb538]? = some (.cells #[(.slice A0_0 l0_0.length c0_0), (.slice A0_1 l0_1.length c0_1)] 25 (0, 0))) ∧ Aside0 (w'.heap[gb562]? = some (.cells #[.int .i64 ((rd_L2 t540 x94_3).length : Int), .int .i64 x563001_4] 38 (0, 0))) ∧ Aside0 (Below w.heap.size w w'))
 case atStart => exact ⟨(0), (0), (by first | rfl | (simp; done) | (simp [*]; done)), H', ⟨Nat.le_refl _⟩, ⟨by (try simp only [hl5_1]); (try simp only [hl5_2]); (with_reducible repeat (first|apply rA|apply rN|apply rD)); exact Kd.R_mono (Kd.R_far (p := ⟨gb562, 1, none⟩) (Kd.R_far (p := ⟨gb562, 0, none⟩) (Kd.R_types HO_5.out BK562.out (by decide)) (fun _ hk => hk.2) (.int .i64 ((rd_L2 t540 x94_3).length : Int))) (fun _ hk => hk.2) (.int .i64 0)) (fun _ hk => trivial)⟩, ⟨by (try simp only [hl5_1]); (try simp only [hl5_2]); (with_reducible repeat (first|apply rA|apply rN|apply rD)); exact Kd.R_mono (Kd.R_far (p := ⟨gb562, 1, none⟩) (Kd.R_far (p := ⟨gb562, 0, none⟩) (Kd.R_mono HO_14.out (fun k_ hk => (⟨hk, hk.2⟩ : _ ∧ k_ ≠ gb562))) (fun _ hk => hk.2) (.int .i64 ((rd_L2 t540 x94_3).length : Int))) (fun _ hk => hk.2) (.int .i64 0)) (fun _ hk => hk.1.2)⟩, ⟨by (try simp only [hl5_1]); (try simp only [hl5_2]); (with_reducible repeat (first | apply Kd.S_alloc | apply Kd.S_drewN | apply Kd.S_drew)); exact Kd.S_mono (Kd.S_far (p := ⟨gb562, 1, none⟩) (Kd.S_far (p := ⟨gb562, 0, none⟩) (Kd.S_types HO_92.out BK562.out (by decide)) (fun _ hk => hk.2) (.int .i64 ((rd_L2 t540 x94_3).length : Int))) (fun _ hk => hk.2) (.int .i64 0)) (fun _ hk => ⟨hk.1, hk.1⟩)⟩, ⟨by (try simp only [hl5_1]); (try simp only [hl5_2]); (with_reducible repeat (first|apply rA|apply rN|apply rD)); exact Kd.R_mono (Kd.R_far (p := ⟨gb562, 1, none⟩) (Kd.R_far (p := ⟨gb562, 0, none⟩) (Kd.R_types HO_5.out BK562.out (by decide)) (fun _ hk => hk.2) (.int .i64 ((rd_L2 t540 x94_3).length : Int))) (fun _ hk => hk.2) (.int .i64 0)) (fun _ hk => trivial)⟩, ⟨by (try simp only [hl5_1]); (try simp only [hl5_2]); (with_reducible repeat (first|refine kN ?_ _|refine kD ?_|refine kA ?_ _)); refine blk_far ?_ NB538_562.out _; (with_reducible repeat (first|refine kN ?_ _|refine kD ?_|refine kA ?_ _)); refine blk_far ?_ NB538_562.out _; (with_reducible repeat (first|refine kN ?_ _|refine kD ?_|refine kA ?_ _)); exact BK538.out⟩, ⟨by (try simp only [hl5_1]); (try simp only [hl5_2]); (with_reducible repeat (first|refine kN ?_ _|refine kD ?_|refine kA ?_ _)); refine blk_put (cs := #[.int .i64 ((rd_L2 t540 x94_3).length : Int), .int .i64 0]) ?_ 1 _ rfl; (with_reducible repeat (first|refine kN ?_ _|refine kD ?_|refine kA ?_ _)); refine blk_put (cs := #[.int .i64 0, .int .i64 0]) ?_ 0 _ rfl; (with_reducible repeat (first|refine kN ?_ _|refine kD ?_|refine kA ?_ _)); exact BK562.out⟩, ⟨by repeat (first | (with_reducible first | exact HB.out|apply bA|apply bN|apply bD | refine below_set ?_ GE538.out | refine below_set ?_ GE562.out) | exact HB.out)⟩⟩
 case round =>
 clear H'
 try clear c1
 try clear p1
 try clear q1
 try clear hx1
 try clear hf1
 try clear c2
 try clear p2
 try clear c3
 try clear c4
 try clear p4
 try clear q4
 try clear hx4
 try clear hf4
 try clear c5
 try clear c5b0
 try clear c5b1
 try clear p5
 try clear q5
 try clear hx5
 try clear qi5
 try clear c6
 try clear c6b0
 try clear c6b1
 try clear p6
 try clear c8
 try clear c16
 try clear c16b0
 try clear c17
 try clear c17b0
 try clear c18
 try clear c18b0
 try clear p19
 try clear q19
 try clear hx19
 try clear hf19
 try clear c22
 try clear c22b0
 try clear c23
 try clear c23b0
 try clear c24
 try clear c24b0
 try clear c25
 try clear c25b0
 try clear c25b1
 try clear c27
 try clear c27b0
 try clear c31
 try clear c31b0
 try clear c32
 try clear c32b0
 try clear c33
 try clear c33b0
 try clear c35
 try clear c36
 try clear c36b0
 try clear c37
 try clear c37b0
 try clear c38
 try clear c38b0
 try clear c39
 try clear c39b0
 try clear c39b1
 try clear p41
 try clear q41
 try clear hx41
 try clear hf41
 try clear c44
 try clear c44b0
 try clear c44b1
 try clear p46
 try clear q46
 try clear hx46
 try clear hf46
 try clear c51
 try clear c51b0
 try clear c52
 try clear c52b0
 try clear c53
 try clear c53b0
 try clear c54
 try clear c54b0
 try clear p54
 try clear q54
 try clear hx54
 try clear qi54
 try clear c55
 try clear c55b0
 try clear c55b1
 try clear p55
 try clear q55
 try clear hx55
 try clear c56
 try clear p56
 try clear q56
 try clear hx56
 try clear c57
 try clear hcz10_0
 try clear hcz10_1
 try clear hcz58_0
 try clear hcz58_1
 try clear hcz8_0
 try clear hcz8_1
 try clear hfz10_0
 try clear hfz10_1
 try clear hfz58_0
 try clear hfz58_1
 try clear hfz8_0
 try clear hfz8_1
 try clear hx19_0
 try clear hx41_0
 try clear hx46_0
 try clear hx547_0
 try clear hx548_0
 try clear hx551_0
 try clear hx552_0
 try clear hx553_0
 try clear hx555_0
 try clear hx560_0
 try clear hx561_0
 try clear p1
 try clear p19
 try clear p2
 try clear p4
 try clear p41
 try clear p46
 try clear p5
 try clear p547
 try clear p548
 try clear p551
 try clear p552
 try clear p553
 try clear p555
 try clear p560
 try clear p561
 try clear p6
 try clear q1
 try clear q19
 try clear q4
 try clear q41
 try clear q46
 try clear q5
 try clear q547
 try clear q548
 try clear q551
 try clear q552
 try clear q553
 try clear q555
 try clear q560
 try clear q561
 obtain ⟨x110_4, x563001_4, rfl, HA, HK4, HO_5, HO_14, HO_92, HO_108, BK538, BK562, HB⟩ := hrel
 cases gk with
 | zero => exact absurd HA.out (by simp [impl_CylindersOf.l4])
 | succ k4 =>
 have H := HA.out
 clear HA
 simp only [impl_CylindersOf.l4] at H
 by_cases c59 : x110_4 < (x5_2.length : Int)
 {
 rw [if_pos c59] at H
 have c59b0 : decide (x110_4 < (x5_2.length : Int)) = true := decide_eq_true c59
 clear c59
 by_cases c60 : 0 ≤ x110_4
 {
 rw [if_pos c60] at H
 have c60b0 : decide (0 ≤ x110_4) = true := decide_eq_true c60
 clear c60
 by_cases c61 : x110_4 < (x5_2.length : Int)
 {
 rw [if_pos c61] at H
 have c61b0 : decide (x110_4 < (x5_2.length : Int)) = true := decide_eq_true c61
 clear c61
 by_cases c62 : (rd x5_2 x110_4) = x94_3
 {
 rw [if_pos c62] at H
 have c62b0 : ((rd x5_2 x110_4) == x94_3) = true := beq_iff_eq.mpr c62
 have c62b1 : ((rd x5_2 x110_4) != x94_3) = false := bne_eq_false_iff_eq.mpr c62
 clear c62
 have H' := Aside0.mk H
 clear H
 have p563 : 0 ≤ (x110_4 : Int) := of_decide_eq_true (by first | (with_reducible assumption) | assumption)
 have q563 : x110_4 < (x5_2.length : Int) := of_decide_eq_true (by first | (with_reducible assumption) | assumption)
 obtain ⟨ad563, e563, hx563_0⟩ := Kd.at_int (Kd.R_reads' HO_108.out).2.2 x110_4 p563 q563
 obtain rfl : ad561 = ad563 := (by injection e563)
 replace p563 := eq_true p563
 replace q563 := eq_true q563
 have hnb63 := NB562_538.out
 have hnc63 := NB538_562.out
 have hcz64_0 : wr.cell? ⟨gb562, 0, none⟩ = some (.int .i64 ((rd_L2 t540 x94_3).length : Int)) := (blk_cell BK562.out 0).trans rfl
 have hcz64_1 : wr.cell? ⟨gb562, 1, none⟩ = some (.int .i64 x563001_4) := (blk_cell BK562.out 1).trans rfl
 have hfz64_0 := blk_frozen BK562.out 0
 have hfz64_1 := blk_frozen BK562.out 1
 go_wp2
 go_roundg k4
 case measure => have := HK1.out; have := HK2.out; have := HK3.out; have := HK4.out; omega
 case rel => exact ⟨(wrap64 (x110_4 + 1)), (wrap64 (x563001_4 + 1)), (by first | rfl | (simp; done) | (simp [*]; done)), H', ⟨by have := HK1.out; have := HK2.out; have := HK3.out; have := HK4.out; omega⟩, ⟨by (try simp only [hl5_1]); (try simp only [hl5_2]); (with_reducible repeat (first|apply rA|apply rN|apply rD)); exact Kd.R_mono (Kd.R_far (p := ⟨gb562, 1, none⟩) (Kd.R_types HO_5.out BK562.out (by decide)) (fun _ hk => hk.2) (.int .i64 (wrap64 (x563001_4 + 1)))) (fun _ hk => trivial)⟩, ⟨by (try simp only [hl5_1]); (try simp only [hl5_2]); (with_reducible repeat (first|apply rA|apply rN|apply rD)); exact Kd.R_mono (Kd.R_far (p := ⟨gb562, 1, none⟩) (Kd.R_mono HO_14.out (fun k_ hk => (⟨hk, hk⟩ : _ ∧ k_ ≠ gb562))) (fun _ hk => hk.2) (.int .i64 (wrap64 (x563001_4 + 1)))) (fun _ hk => hk.1)⟩, ⟨by (try simp only [hl5_1]); (try simp only [hl5_2]); (with_reducible repeat (first | apply Kd.S_alloc | apply Kd.S_drewN | apply Kd.S_drew)); exact Kd.S_mono (Kd.S_far (p := ⟨gb562, 1, none⟩) (Kd.S_types HO_92.out BK562.out (by decide)) (fun _ hk => hk.2) (.int .i64 (wrap64 (x563001_4 + 1)))) (fun _ hk => ⟨hk.1.1, hk.1.2⟩)⟩, ⟨by (try simp only [hl5_1]); (try simp only [hl5_2]); (with_reducible repeat (first|apply rA|apply rN|apply rD)); exact Kd.R_mono (Kd.R_far (p := ⟨gb562, 1, none⟩) (Kd.R_types HO_108.out BK562.out (by decide)) (fun _ hk => hk.2) (.int .i64 (wrap64 (x563001_4 + 1)))) (fun _ hk => trivial)⟩, ⟨by (try simp only [hl5_1]); (try simp only [hl5_2]); (with_reducible repeat (first|refine kN ?_ _|refine kD ?_|refine kA ?_ _)); refine blk_far ?_ NB538_562.out _; (with_reducible repeat (first|refine kN ?_ _|refine kD ?_|refine kA ?_ _)); exact BK538.out⟩, ⟨by (try simp only [hl5_1]); (try simp only [hl5_2]); (with_reducible repeat (first|refine kN ?_ _|refine kD ?_|refine kA ?_ _)); refine blk_put (cs := #[.int .i64 ((rd_L2 t540 x94_3).length : Int), .int .i64 x563001_4]) ?_ 1 _ rfl; (with_reducible repeat (first|refine kN ?_ _|refine kD ?_|refine kA ?_ _)); exact BK562.out⟩, ⟨by repeat (first | (with_reducible first | exact HB.out|apply bA|apply bN|apply bD | refine below_set ?_ GE538.out | refine below_set ?_ GE562.out) | exact HB.out)⟩⟩
 }
 {
 rw [if_neg c62] at H
 have c62b0 : ((rd x5_2 x110_4) == x94_3) = false := beq_eq_false_iff_ne.mpr c62
 have c62b1 : ((rd x5_2 x110_4) != x94_3) = true := bne_iff_ne.mpr c62
 have H' := Aside0.mk H
 clear H
 have p563 : 0 ≤ (x110_4 : Int) := of_decide_eq_true (by first | (with_reducible assumption) | assumption)
 have q563 : x110_4 < (x5_2.length : Int) := of_decide_eq_true (by first | (with_reducible assumption) | assumption)
 obtain ⟨ad563, e563, hx563_0⟩ := Kd.at_int (Kd.R_reads' HO_108.out).2.2 x110_4 p563 q563
 obtain rfl : ad561 = ad563 := (by injection e563)
 replace p563 := eq_true p563
 replace q563 := eq_true q563
 go_wp2
 go_roundg k4
 case measure => have := HK1.out; have := HK2.out; have := HK3.out; have := HK4.out; omega
 case rel => exact ⟨(wrap64 (x110_4 + 1)), (x563001_4), (by first | rfl | (simp; done) | (simp [*]; done)), H', ⟨by have := HK1.out; have := HK2.out; have := HK3.out; have := HK4.out; omega⟩, ⟨by (try simp only [hl5_1]); (try simp only [hl5_2]); (with_reducible repeat (first|apply rA|apply rN|apply rD)); exact HO_5.out⟩, ⟨by (try simp only [hl5_1]); (try simp only [hl5_2]); (with_reducible repeat (first|apply rA|apply rN|apply rD)); exact HO_14.out⟩, ⟨by (try simp only [hl5_1]); (try simp only [hl5_2]); (with_reducible repeat (first | apply Kd.S_alloc | apply Kd.S_drewN | apply Kd.S_drew)); exact HO_92.out⟩, ⟨by (try simp only [hl5_1]); (try simp only [hl5_2]); (with_reducible repeat (first|apply rA|apply rN|apply rD)); exact HO_108.out⟩, ⟨by (try simp only [hl5_1]); (try simp only [hl5_2]); (with_reducible repeat (first|refine kN ?_ _|refine kD ?_|refine kA ?_ _)); exact BK538.out⟩, ⟨by (try simp only [hl5_1]); (try simp only [hl5_2]); (with_reducible repeat (first|refine kN ?_ _|refine kD ?_|refine kA ?_ _)); exact BK562.out⟩, ⟨by repeat (first | (with_reducible first | exact HB.out|apply bA|apply bN|apply bD | refine below_set ?_ GE538.out | refine below_set ?_ GE562.out) | exact HB.out)⟩⟩
 }
 }
 {
 rw [if_neg c61] at H
 exact absurd H (by simp)
 }
 }
 {
 rw [if_neg c60] at H
 exact absurd H (by simp)
 }
 }
 {
 rw [if_neg c59] at H
 have c59b0 : decide (x110_4 < (x5_2.length : Int)) = false := decide_eq_false c59
 clear c59
 by_cases c65 : x14_3.length < 8796093022208
 {
 rw [if_pos c65] at H
 have LMc65 := Aside0.mk c65
 clear c65
 obtain ⟨y564, hy564⟩ : ∃ y_ : List (S38), y_ = (x14_3 ++ [(⟨((rd_L2 t540 x94_3).length : Int), x563001_4⟩ : S38)]) := ⟨_, rfl⟩
 replace H : (impl_CylindersOf.l3 k4 x5_2 y564 t540 (t540.length : Int) (wrap64 (x94_3 + 1))) = some (r1, r2) := by first | (rw [hy564]; with_reducible exact H) | (have H2_ := (Option.bind_some _ _).symm.trans H; rw [hy564]; with_reducible exact H2_) | (have H2_ := (Option.bind_some _ _).symm.trans H; with_reducible exact H2_) | with_reducible exact H | (rw [hy564]; exact H) | exact H
 have Ny564 := Aside0.mk hy564
 clear hy564
 have H' := Aside0.mk H
 clear H
 have hnb66 := NB562_538.out
 have hnc66 := NB538_562.out
 have hcz67_0 : wr.cell? ⟨gb562, 0, none⟩ = some (.int .i64 ((rd_L2 t540 x94_3).length : Int)) := (blk_cell BK562.out 0).trans rfl
 have hcz67_1 : wr.cell? ⟨gb562, 1, none⟩ = some (.int .i64 x563001_4) := (blk_cell BK562.out 1).trans rfl
 have hfz67_0 := blk_frozen BK562.out 0
 have hfz67_1 := blk_frozen BK562.out 1
 go_wp2_with (first | ((with_reducible refine gate_builtin (b := .append) (xs := #[.tmp 122, .tmp 124]) rfl ?_); at_builtin; refine Kd.R_append k38 (w0 := w) w.heap.size rfl (.tmp 122) (.tmp 124) 29 38 (.agg #[(.int .i64 0), (.int .i64 0)]) 16 rfl Tryz.underlying29 info38 rfl (by decide) (by omega) u14 x14_3 (⟨((rd_L2 t540 x94_3).length : Int), x563001_4⟩ : S38) [.int .i64 ((rd_L2 t540 x94_3).length : Int), .int .i64 x563001_4] (fun k_ => k_ ≠ gb562) (fun _ => False) rfl rfl ?aP (fun _ hk => hk.elim) ?aF ?aO ?aB ?aS ?aL ?_; (case aP => exact k38_mkM _ _ _ (⟨((rd_L2 t540 x94_3).length : Int), x563001_4⟩ : S38)); (case aB => exact (by repeat (first | (with_reducible first | exact HB.out|apply bA|apply bN|apply bD | refine below_set ?_ GE538.out | refine below_set ?_ GE562.out) | exact HB.out))); (case aF => exact (fun k_ hk => Kd.freshB (g := gb562) (o := .cells #[.int .i64 ((rd_L2 t540 x94_3).length : Int), .int .i64 x563001_4] 38 (0, 0)) (by (with_reducible repeat (first|refine kN ?_ _|refine kD ?_|refine kA ?_ _)); exact BK562.out) k_ hk)); (case aO => exact (by (with_reducible repeat (first|apply rA|apply rN|apply rD)); exact HO_14.out)); (case aS => exact (below_size (by repeat (first | (with_reducible first | exact HB.out|apply bA|apply bN|apply bD | refine below_set ?_ GE538.out | refine below_set ?_ GE562.out) | exact HB.out)))); (case aL => have := LMc65.out; omega); intro v565 w68 ho hb hg hat; rw [← Ny564.out] at ho; have n0_ := Aside0.mk (Kd.R_over' (by (with_reducible repeat (first|apply rA|apply rN|apply rD)); exact HO_5.out) (Kd.R_typed (by (with_reducible repeat (first|apply rA|apply rN|apply rD)); exact HO_14.out)) (by decide) hg); have n1_ := Aside0.mk (Kd.S_over' (by (with_reducible repeat (first | apply Kd.S_alloc | apply Kd.S_drewN | apply Kd.S_drew)); exact HO_92.out) (Kd.R_typed (by (with_reducible repeat (first|apply rA|apply rN|apply rD)); exact HO_14.out)) (by decide) hg); have n2_ := Aside0.mk (Kd.R_over' (by (with_reducible repeat (first|apply rA|apply rN|apply rD)); exact HO_108.out) (Kd.R_typed (by (with_reducible repeat (first|apply rA|apply rN|apply rD)); exact HO_14.out)) (by decide) hg); have n3_ := Aside0.mk (blk_grown (g := gb538) (o := .cells #[.slice A0_0 l0_0.length c0_0, .slice A0_1 l0_1.length c0_1] 25 (0, 0)) (by (with_reducible repeat (first|refine kN ?_ _|refine kD ?_|refine kA ?_ _)); exact BK538.out) hg (Kd.R_ne HO_14.out BK538.out (by decide))); have n4_ := Aside0.mk (blk_grown (g := gb562) (o := .cells #[.int .i64 ((rd_L2 t540 x94_3).length : Int), .int .i64 x563001_4] 38 (0, 0)) (by (with_reducible repeat (first|refine kN ?_ _|refine kD ?_|refine kA ?_ _)); exact BK562.out) hg (Kd.R_away HO_14.out (fun _ hk => hk))); have n5_ := Aside0.mk (hb); have n6_ := Aside0.mk (ho); clear HO_5; clear HO_92; clear HO_108; clear BK538; clear BK562; clear HB; clear HO_14; have HO_5 := n0_; have HO_92 := n1_; have HO_108 := n2_; have BK538 := n3_; have BK562 := n4_; have HB := n5_; have HO566 := n6_; clear n0_ n1_ n2_ n3_ n4_ n5_ n6_; clear ho hb hg hat))
 go_roundg k4
 case measure => have := HK1.out; have := HK2.out; have := HK3.out; have := HK4.out; omega
 case rel => exact ⟨(y564), (wrap64 (x94_3 + 1)), (by first | rfl | (simp; done) | (simp [*]; done)), H', ⟨by have := HK1.out; have := HK2.out; have := HK3.out; have := HK4.out; omega⟩, ⟨by (try simp only [hl5_1]); (try simp only [hl5_2]); (with_reducible repeat (first|apply rA|apply rN|apply rD)); exact HO_5.out⟩, ⟨by (try simp only [hl5_1]); (try simp only [hl5_2]); (with_reducible repeat (first|apply rA|apply rN|apply rD)); exact Kd.R_mono HO566.out (fun _ hk => trivial)⟩, ⟨by (try simp only [hl5_1]); (try simp only [hl5_2]); (with_reducible repeat (first | apply Kd.S_alloc | apply Kd.S_drewN | apply Kd.S_drew)); exact Kd.S_mono HO_92.out (fun _ hk => hk.1)⟩, ⟨by (try simp only [hl5_1]); (try simp only [hl5_2]); (with_reducible repeat (first|refine kN ?_ _|refine kD ?_|refine kA ?_ _)); exact BK538.out⟩, ⟨by repeat (first | (with_reducible first | exact HB.out|apply bA|apply bN|apply bD | refine below_set ?_ GE538.out | refine below_set ?_ GE562.out) | exact HB.out)⟩⟩
 }
 {
 rw [if_neg c65] at H
 exact absurd H (by simp)
 }
 }
 }
 {
 rw [if_neg c55] at H
 have c55b0 : ((rd x5_2 x94_3) == x94_3) = false := beq_eq_false_iff_ne.mpr c55
 have c55b1 : ((rd x5_2 x94_3) != x94_3) = true := bne_iff_ne.mpr c55
 have H' := Aside0.mk H
 clear H
 have p560 : 0 ≤ (x94_3 : Int) := of_decide_eq_true (by first | (with_reducible assumption) | assumption)
 have q560 : x94_3 < (t540.length : Int) := of_decide_eq_true (by first | (with_reducible assumption) | assumption)
 obtain ⟨ad560, A560_0, c560_0, e560, hx560_0, hl560_0, hi560_0⟩ := at_L2 (Kd.S_reads' HO_92.out).2.2 x94_3 p560 q560
 cases e560
 obtain ⟨ce560, hce560, hMe560, hcc560⟩ := Kd.S_get HO_92.out [] x94_3 p560 (by first | exact q560 | exact of_decide_eq_true (by first | (with_reducible assumption) | assumption) | (have e_ := (Kd.S_reads' HO_92.out).1; omega))
 obtain ⟨ve560_0, rfl, ge560_0⟩ := hMe560
 have hv560_0 := hcc560 0 _ rfl
 rw [Nat.add_zero, show ((Kd.slice 3 (Kd.int .i64))).sz = 1 from rfl, Nat.mul_one] at hv560_0
 replace hv560_0 := Option.some.inj (hv560_0.symm.trans hx560_0)
 rw [hv560_0] at ge560_0
 have HL560_0 := Aside0.mk (show Kd.R (Kd.int .i64) 3 _ _ _ _ (rd_L2 t540 x94_3) from ge560_0)
 clear hv560_0 ge560_0
 clear hcc560 hce560
 have HR560_0 := Aside0.mk hi560_0
 have HC560_0 := Aside0.mk hl560_0
 clear hi560_0 hl560_0
 replace p560 := eq_true p560
 replace q560 := eq_true q560
 have p561 : 0 ≤ (x94_3 : Int) := of_decide_eq_true (by first | (with_reducible assumption) | assumption)
 have q561 : x94_3 < (x5_2.length : Int) := of_decide_eq_true (by first | (with_reducible assumption) | assumption)
 obtain ⟨ad561, e561, hx561_0⟩ := Kd.at_int (Kd.R_reads' HO_5.out).2.2 x94_3 p561 q561
 cases e561
 replace p561 := eq_true p561
 replace q561 := eq_true q561
 go_wp2
 go_roundg k3
 case measure => have := HK1.out; have := HK2.out; have := HK3.out; omega
 case rel => exact ⟨(x14_3), (wrap64 (x94_3 + 1)), (by first | rfl | (simp; done) | (simp [*]; done)), H', ⟨by have := HK1.out; have := HK2.out; have := HK3.out; omega⟩, ⟨by (try simp only [hl5_1]); (try simp only [hl5_2]); (with_reducible repeat (first|apply rA|apply rN|apply rD)); exact HO_5.out⟩, ⟨by (try simp only [hl5_1]); (try simp only [hl5_2]); (with_reducible repeat (first|apply rA|apply rN|apply rD)); exact HO_14.out⟩, ⟨by (try simp only [hl5_1]); (try simp only [hl5_2]); (with_reducible repeat (first | apply Kd.S_alloc | apply Kd.S_drewN | apply Kd.S_drew)); exact HO_92.out⟩, ⟨by (try simp only [hl5_1]); (try simp only [hl5_2]); (with_reducible repeat (first|refine kN ?_ _|refine kD ?_|refine kA ?_ _)); exact BK538.out⟩, ⟨by repeat (first | (with_reducible first | exact HB.out|apply bA|apply bN|apply bD | refine below_set ?_ GE538.out) | exact HB.out)⟩⟩
 }
 }
 {
 rw [if_neg c54] at H
 exact absurd H (by simp)
 }
 }
 {
 rw [if_neg c53] at H
 exact absurd H (by simp)
 }
 }
 {
 rw [if_neg c52] at H
 exact absurd H (by simp)
 }
 }
 {
 rw [if_neg c51] at H
 have c51b0 : decide (x94_3 < (t540.length : Int)) = false := decide_eq_false c51
 clear c51
 simp only [Option.some.injEq, Prod.mk.injEq] at H
 obtain ⟨rfl, rfl⟩ := H
 go_wp2
 go_ret2
 exact ⟨_, by first | rfl | (simp [errW_none, errW_some] <;> rfl) | (simp [*, errW_none, errW_some] <;> rfl), by (with_reducible repeat (first|apply rA|apply rN|apply rD)); exact HO_14.out, by repeat (first | (with_reducible first | exact HB.out|apply bA|apply bN|apply bD | refine below_set ?_ GE538.out) | exact HB.out)⟩
 }
 }
 }
 }
 {
 rw [if_neg c6] at H
 exact absurd H (by simp)
 }
 }
 {
 rw [if_neg c5] at H
 exact absurd H (by simp)
 }
 }
 {
 replace c3 := Bool.eq_false_iff.mpr c3
 subst c3
 have H1 : (some (([] : List (S38)), false)) = some (r1, r2) := by rw [if_neg (show ¬ (false = true) by decide)] at H; exact H
 clear H
 have H := H1
 clear H1
 simp only [Option.some.injEq, Prod.mk.injEq] at H
 obtain ⟨rfl, rfl⟩ := H
 go_enter Tryz.func8, Tryz.ntmps8
 go_wp2_with (first | ((with_reducible refine gate_dst (N := 1) rfl ?_); refine box_event ?hg (N := 1) ?hd (cs := #[.slice A0_0 l0_0.length c0_0, .slice A0_1 l0_1.length c0_1]) (t := 25) ?hr ?_; (case hd => rfl); (case hg => rfl); (case hr => first | (go_simp; done) | (go_simp; rfl)); intro gb538 hg w69 hbox hb; have n0_ := Aside0.mk (below_step (by repeat (first | (with_reducible first | exact HB.out|apply bA|apply bN|apply bD) | exact HB.out)) hb); have n1_ := Aside0.mk (hbox); have n2_ := Aside0.mk ((by rw [hg]; exact (below_size (by repeat (first | (with_reducible first | exact HB.out|apply bA|apply bN|apply bD) | exact HB.out))) : w.heap.size ≤ gb538)); have n3_ := Aside0.mk ((by rw [hg]; exact (below_size (by repeat (first | (with_reducible first | exact HB.out|apply bA|apply bN|apply bD) | exact HB.out))) : w.heap.size ≤ gb538)); clear HB; have HB := n0_; have BK538 := n1_; have GW538 := n2_; have GE538 := n3_; clear n0_ n1_ n2_ n3_; clear hb hbox hg; have hcz70_0 : w69.cell? ⟨gb538, 0, none⟩ = some (.slice A0_0 l0_0.length c0_0) := (blk_cell BK538.out 0).trans rfl; have hcz70_1 : w69.cell? ⟨gb538, 1, none⟩ = some (.slice A0_1 l0_1.length c0_1) := (blk_cell BK538.out 1).trans rfl; have hfz70_0 := blk_frozen BK538.out 0; have hfz70_1 := blk_frozen BK538.out 1) | ((with_reducible refine gate_callee (f := 31) rfl ?_); refine goesL_ (some 21) rfl rfl Tryz.func31 (by kernel_rfl) rfl #[.agg #[.slice A0_0 l0_0.length c0_0, .slice A0_1 l0_1.length c0_1]] rfl (by (try simp only [zE,zF,zG]); first|done|rfl|(simp only [zH,zI]; rfl)) ?_; (with_reducible refine (impl_SurfaceOk.calls k _ _ l0_0 _ _ l0_1 false _ ?side1 ?side2 ?side3 ?side4 A2.out).mono ?_); (case side1 => repeat (first | exact (Kd.C_below HR0_0.out HB.out) | (with_reducible refine Kd.C_alloc ?_ _) | (with_reducible refine Kd.C_drewN ?_ _) | (with_reducible refine Kd.C_drew ?_))); (case side2 => exact HC0_0.out); (case side3 => repeat (first | exact (Kd.C_below HR0_1.out HB.out) | (with_reducible refine Kd.C_alloc ?_ _) | (with_reducible refine Kd.C_drewN ?_ _) | (with_reducible refine Kd.C_drew ?_))); (case side4 => exact HC0_1.out); rintro e w71 ⟨rfl, hb⟩; refine ⟨_, rfl, ?_⟩; have n0_ := Aside0.mk (blk_below (g := gb538) (o := .cells #[.slice A0_0 l0_0.length c0_0, .slice A0_1 l0_1.length c0_1] 25 (0, 0)) (by (with_reducible repeat (first|refine kN ?_ _|refine kD ?_|refine kA ?_ _)); exact BK538.out) hb); have n1_ := Aside0.mk (below_step (by repeat (first | (with_reducible first | exact HB.out|apply bA|apply bN|apply bD | refine below_set ?_ GE538.out) | exact HB.out)) hb); clear BK538; clear HB; have BK538 := n0_; have HB := n1_; clear n0_ n1_; (try clear hb); (try clear hb2); (try clear hk); (try clear hi)))
 go_ret2
 exact ⟨_, by first | rfl | (simp [errW_none, errW_some] <;> rfl) | (simp [*, errW_none, errW_some] <;> rfl), by first | exact Kd.R_nil _ _ _ _ _ | exact Kd.N_nil _ _ _ _ _ | exact Kd.V_nil _ _ _ _ _ | exact Kd.Q_nil _ _ _ _ _ | exact Kd.S_nil _ _ _ _ _, by repeat (first | (with_reducible first | exact HB.out|apply bA|apply bN|apply bD | refine below_set ?_ GE538.out) | exact HB.out)⟩
 }

/-! ### impl_FormatCylinder: function 47 -/
def impl_FormatCylinder.f (a0_0 : Int) (a0_1 : Int) : Option (ByteArray) := (impl_FormatInt.f a0_0).bind fun t539 => (if t539.size + 1 ≤ 9223372036854775807 then ((impl_FormatInt.f a0_1).bind fun t540 => (if (t539 ++ (⟨#[120]⟩ : ByteArray)).size + t540.size ≤ 9223372036854775807 then (some ((t539 ++ (⟨#[120]⟩ : ByteArray)) ++ t540)) else (none))) else (none))
def impl_FormatCylinder.T1 : Bool × List (List Nat × List Nat) := (true, [([], []), ([0], [0]), ([1], [1]), ([2], [2]), ([], []), ([4], [4]), ([5, 2], [5]), ([3, 6], [3, 6]), ([7, 6, 0, 1, 2, 3, 4, 5, 6, 7], [7])])
def impl_FormatCylinder.B1 : List Nat := [0, 1, 3, 7, 0, 16, 55, 127, 255]
theorem impl_FormatCylinder.tab1 : rtab .any (opsOf Tryz.f47 1) = impl_FormatCylinder.T1 := by kernel_rfl
theorem impl_FormatCylinder.bits1 : waitsOk impl_FormatCylinder.T1.2 impl_FormatCylinder.B1 = true := by kernel_rfl
set_option maxHeartbeats 8000000 in
set_option maxRecDepth 100000 in
theorem impl_FormatCylinder.calls (a0_0 : Int) (a0_1 : Int) (r : ByteArray) (w : World) (htab_ : PowTab w) (h : impl_FormatCylinder.f a0_0 a0_1 = some r) :
  Calls Tryz.prog 47 #[.agg #[.int .i64 a0_0, .int .i64 a0_1]] w fun e w' => e = .returned (.string r) ∧ Below w.heap.size w w' := by
 have hu38 := Tryz.underlying38
 have HB := Aside0.mk (Below.refl w.heap.size w)
 have H : ((impl_FormatInt.f a0_0).bind fun t539 => (if t539.size + 1 ≤ 9223372036854775807 then ((impl_FormatInt.f a0_1).bind fun t540 => (if (t539 ++ (⟨#[120]⟩ : ByteArray)).size + t540.size ≤ 9223372036854775807 then (some ((t539 ++ (⟨#[120]⟩ : ByteArray)) ++ t540)) else (none))) else (none))) = some r := h
 clear h
 have HTAB := Aside0.mk htab_
 clear htab_
 replace H := Option.bind_eq_some_iff.mp H
 obtain ⟨t539, A20, H⟩ := H
 replace H : (if t539.size + 1 ≤ 9223372036854775807 then ((impl_FormatInt.f a0_1).bind fun t540 => (if (t539 ++ (⟨#[120]⟩ : ByteArray)).size + t540.size ≤ 9223372036854775807 then (some ((t539 ++ (⟨#[120]⟩ : ByteArray)) ++ t540)) else (none))) else (none)) = some r := H
 have A2 := Aside0.mk A20
 clear A20
 by_cases c3 : t539.size + 1 ≤ 9223372036854775807
 {
 rw [if_pos c3] at H
 have c3b0 := eq_true c3
 have c3b1 : decide (t539.size + 1 ≤ 9223372036854775807) = true := decide_eq_true c3
 try have c3b2 : (9223372036854775807 < t539.size + 1) = False := eq_false (Nat.not_lt.2 c3)
 replace H := Option.bind_eq_some_iff.mp H
 obtain ⟨t540, A40, H⟩ := H
 replace H : (if (t539 ++ (⟨#[120]⟩ : ByteArray)).size + t540.size ≤ 9223372036854775807 then (some ((t539 ++ (⟨#[120]⟩ : ByteArray)) ++ t540)) else (none)) = some r := H
 have A4 := Aside0.mk A40
 clear A40
 by_cases c5 : (t539 ++ (⟨#[120]⟩ : ByteArray)).size + t540.size ≤ 9223372036854775807
 {
 rw [if_pos c5] at H
 have c5b0 := eq_true c5
 have c5b1 : decide ((t539 ++ (⟨#[120]⟩ : ByteArray)).size + t540.size ≤ 9223372036854775807) = true := decide_eq_true c5
 try have c5b2 : (9223372036854775807 < (t539 ++ (⟨#[120]⟩ : ByteArray)).size + t540.size) = False := eq_false (Nat.not_lt.2 c5)
 try have c5b3 : (9223372036854775807 < t539.size + 1 + t540.size) = False := eq_false (Nat.not_lt.2 (by have hz_ := c5; simp only [ByteArray.size_append] at hz_; first | exact hz_ | omega))
 obtain rfl := Option.some.inj H
 go_enter Tryz.func47, Tryz.ntmps47
 try go_wp2_with (first | ((with_reducible refine gate_dst (N := 1) rfl ?_); refine box_event ?hg (N := 1) ?hd (cs := #[.int .i64 a0_0, .int .i64 a0_1]) (t := 38) ?hr ?_; (case hd => rfl); (case hg => rfl); (case hr => first | (go_simp; done) | (go_simp; rfl)); intro gb538 hg w6 hbox hb; have n0_ := Aside0.mk (below_step (bX HB.out) hb); have n1_ := Aside0.mk (hbox); have n2_ := Aside0.mk ((szX (below_size (bX HB.out)) hg : w.heap.size ≤ gb538)); have n3_ := Aside0.mk ((szX (below_size (bX HB.out)) hg : w.heap.size ≤ gb538)); clear HB; have HB := n0_; have BK538 := n1_; have GW538 := n2_; have GE538 := n3_; clear n0_ n1_ n2_ n3_ hb hbox hg))
 have n0_ := Aside0.mk (blk_drew BK538.out)
 have n1_ := Aside0.mk (below_drew1 HB.out)
 clear BK538 HB
 have BK538 := n0_
 have HB := n1_
 clear n0_ n1_
 refine start_ (n := 9) (S := fun w' => w'.cell? ⟨gb538, 0, none⟩ = some (.int .i64 a0_0) ∧ w'.cell? ⟨gb538, 1, none⟩ = some (.int .i64 a0_1)) (ds := []) #[ff,ff,ff,ff,ff,ff,ff,ff,ff] (by kernel_rfl) rfl rfl ⟨cz20 BK538.out, cz21 BK538.out⟩ (fun hHeld => ?_); refine with_tabW impl_FormatCylinder.tab1 impl_FormatCylinder.bits1 (fun HT_ HW_ => ?_)
 generalize w6.drew = w7 at BK538 HB hHeld ⊢
 refine pX 0 3 (fl 9 1) rfl rfl HT_.out ?_
 refine pX 4 7 (fl 9 17) rfl rfl HT_.out ?_
 refine tX2 1 4 (fl 9 19) rfl rfl HT_.out HW_.out hHeld ?_
 refine tX2 5 8 (fl 9 51) rfl rfl HT_.out HW_.out hHeld ?_
 refine one_ (i := 2) (N := some 5) #[tt,tt,tt,ff,tt,tt,ff,ff,ff] rfl rfl (one_of HT_.out (by kernel_rfl)) (by decide) (fun K hK => ?_)
 refine goes_ Tryz.func9 (by kernel_rfl) rfl #[.int .i64 a0_0] (by rfl) rfl rfl aX ?_
 with_reducible refine (impl_FormatInt.calls a0_0 t539 _ ?side1 A2.out).mono ?_
 (case side1 => exact PowTab.below HTAB.out (bX1 HB.out GE538.out))
 rintro e w8 ⟨rfl, hb⟩
 refine ⟨_, rfl, ?_⟩
 have n0_ := Aside0.mk (bbX BK538.out hb)
 have n1_ := Aside0.mk (below_step (bX1 HB.out GE538.out) hb)
 clear BK538 HB
 have BK538 := n0_
 have HB := n1_
 clear n0_ n1_
 (try clear hb)
 (try clear hb2)
 (try clear hk)
 (try clear hi)
 refine hK.out _ _ ⟨cz20 BK538.out, cz21 BK538.out⟩ (fun hHeld => ?_)
 clear hK K
 refine norm_ (a' := ?_) ?_ ?_
 rotate_left
 {
 show Act.put _ (some 5) _ = _
 simp only [Act.put, zA, zB, zC, i64_w, i32_w]
 rfl
 }
 refine pX 3 6 (fl 9 63) rfl rfl HT_.out ?_
 refine one_ (i := 6) (N := some 9) #[tt,tt,tt,tt,tt,tt,tt,ff,ff] rfl rfl (one_of HT_.out (by kernel_rfl)) (by decide) (fun K hK => ?_)
 refine goes_ Tryz.func9 (by kernel_rfl) rfl #[.int .i64 a0_1] (by rfl) rfl rfl aX ?_
 with_reducible refine (impl_FormatInt.calls a0_1 t540 _ ?side1 A4.out).mono ?_
 (case side1 => exact PowTab.below HTAB.out (bX1 HB.out GE538.out))
 rintro e w9 ⟨rfl, hb⟩
 refine ⟨_, rfl, ?_⟩
 have n0_ := Aside0.mk (bbX BK538.out hb)
 have n1_ := Aside0.mk (below_step (bX1 HB.out GE538.out) hb)
 clear BK538 HB
 have BK538 := n0_
 have HB := n1_
 clear n0_ n1_
 (try clear hb)
 (try clear hb2)
 (try clear hk)
 (try clear hi)
 refine hK.out _ _ ⟨cz20 BK538.out, cz21 BK538.out⟩ (fun hHeld => ?_)
 clear hK K
 refine norm_ (a' := ?_) ?_ ?_
 rotate_left
 {
 show Act.put _ (some 9) _ = _
 simp only [Act.put, zA, zB, zC, i64_w, i32_w]
 rfl
 }
 refine pX 7 10 (fl 9 255) rfl rfl HT_.out ?_
 refine pX 8 2 (fl 9 511) rfl rfl HT_.out ?_
 refine done_ (done_of HT_.out (by kernel_rfl)) ?_
 try go_wp2
 go_ret
 exact ⟨eX, bX1 HB.out GE538.out⟩
 }
 {
 rw [if_neg c5] at H
 exact absurd H (by simp)
 }
 }
 {
 rw [if_neg c3] at H
 exact absurd H (by simp)
 }

/-! ### impl_CylinderLine: function 14 -/
def impl_CylinderLine.l0 : Nat → List ByteArray → List (S38) → Int → Int → Option (ByteArray)
 | 0, _, _, _, _ => none
 | k + 1, x3, x10, x11, x12 => if x12 < x11 then (if 0 ≤ x12 then (if x12 < (x10.length : Int) then ((impl_FormatCylinder.f ((rd_T38 x10 x12).f0) ((rd_T38 x10 x12).f1)).bind fun t546 => (if x3.length < 8796093022208 then (impl_CylinderLine.l0 k (x3 ++ [t546]) x10 x11 (wrap64 (x12 + 1))) else (none))) else (none)) else (none)) else ((impl_Join.f x3 (⟨#[32]⟩ : ByteArray)).bind fun t550 => (some t550))
def impl_CylinderLine.f (k : Nat) (l0 : List (S38)) : Option (ByteArray) := if (l0.length : Int) = 0 then (some (⟨#[45]⟩ : ByteArray)) else (impl_CylinderLine.l0 k (([] : List ByteArray)) l0 (l0.length : Int) 0)
set_option maxHeartbeats 8000000 in
set_option maxRecDepth 100000 in
theorem impl_CylinderLine.calls (k : Nat) (A0 : Option Addr) (c0 : Nat) (l0 : List (S38)) (r : ByteArray) (w : World) (hr0 : Kd.C k38 w A0 l0.length l0) (hc0 : l0.length ≤ c0) (htab_ : PowTab w) (h : impl_CylinderLine.f k l0 = some r) :
  Calls Tryz.prog 14 #[.slice A0 l0.length c0] w fun e w' => e = .returned (.string r) ∧ Below w.heap.size w w' := by
 have hu38 := Tryz.underlying38
 have HR0 := Aside0.mk hr0
 have HC0 := Aside0.mk hc0
 clear hr0 hc0
 have HB := Aside0.mk (Below.refl w.heap.size w)
 have H : (if (l0.length : Int) = 0 then (some (⟨#[45]⟩ : ByteArray)) else (impl_CylinderLine.l0 k (([] : List ByteArray)) l0 (l0.length : Int) 0)) = some r := h
 clear h
 have HTAB := Aside0.mk htab_
 clear htab_
 by_cases c2 : (l0.length : Int) = 0
 {
 rw [if_pos c2] at H
 have c2b0 : ((l0.length : Int) == 0) = true := beq_iff_eq.mpr c2
 have c2b1 : ((l0.length : Int) != 0) = false := bne_eq_false_iff_eq.mpr c2
 clear c2
 obtain rfl := Option.some.inj H
 go_enter Tryz.func14, Tryz.ntmps14
 go_wp2
 go_ret
 exact ⟨eX, bX HB.out⟩
 }
 {
 rw [if_neg c2] at H
 have c2b0 : ((l0.length : Int) == 0) = false := beq_eq_false_iff_ne.mpr c2
 have c2b1 : ((l0.length : Int) != 0) = true := bne_iff_ne.mpr c2
 have c2b2 : ¬ (l0 = []) := fun h_ => c2 (by rw [h_]; rfl)
 obtain ⟨y541, hy541⟩ : ∃ y_ : List ByteArray, y_ = (([] : List ByteArray)) := ⟨_, rfl⟩
 replace H : (impl_CylinderLine.l0 k y541 l0 (l0.length : Int) 0) = some r := by first | (rw [hy541]; with_reducible exact H) | (have H2_ := (Option.bind_some _ _).symm.trans H; rw [hy541]; with_reducible exact H2_) | (have H2_ := (Option.bind_some _ _).symm.trans H; with_reducible exact H2_) | with_reducible exact H | (rw [hy541]; exact H) | exact H
 have Ny541 := Aside0.mk hy541
 clear hy541
 have H' := Aside0.mk H
 clear H
 go_enter Tryz.func14, Tryz.ntmps14
 go_wp2_with (first | ((with_reducible refine gate_dst (N := 9) rfl ?_); refine Kd.R_lit Kd.string _ 9 ?hg (N := 9) ?hd (xs := ([] : List ByteArray)) (inner := []) (ok := fun _ => True) (okp := fun _ => True) ?hr ?hp (fun _ hk => hk) trivial (Below.refl _ _) (Nat.le_refl _) (by simp) ?_; (case hd => rfl); (case hg => rfl); (case hr => first | (go_simp; done) | (go_simp; rfl)); (case hp => exact (Reps.none _ _)); intro v542 w3 ho4 hb hg_ hnew_; clear hg_ hnew_; (first | rw [← Ny541.out] at ho4 | (simp only [Int.reduceToNat] at ho4; rw [← Ny541.out] at ho4)); have n0_ := Aside0.mk (Kd.R_lower ho4 (below_size (bX HB.out))); have n1_ := Aside0.mk (below_step (bX HB.out) hb); clear HB; have HO543 := n0_; have HB := n1_; clear n0_ n1_ hb ho4))
 go_loopg [3, 12] k (fun kq v3 v12 w' => ∃ (x3_1 : List ByteArray) (x12_1 : Int), v12 = .int .i64 x12_1 ∧ Aside0 (impl_CylinderLine.l0 kq x3_1 l0 (l0.length : Int) x12_1 = some r) ∧ Aside0 (kq ≤ k) ∧ Aside0 (Kd.R Kd.string 9 w' w.heap.size (fun _ => True) v3 x3_1) ∧ Aside0 (Below w.heap.size w w'))
 case atStart => exact ⟨(y541), (0), vX, H', ⟨Nat.le_refl _⟩, ⟨rX HO543.out⟩, ⟨bX HB.out⟩⟩
 case round =>
 clear H'
 try clear c1
 try clear c2
 try clear c2b0
 try clear c2b1
 try clear c2b2
 try clear p2
 obtain ⟨x3_1, x12_1, rfl, HA, HK1, HO_3, HB⟩ := hrel
 cases gk with
 | zero => exact absurd HA.out (by simp [impl_CylinderLine.l0])
 | succ k1 =>
 have H := HA.out
 clear HA
 simp only [impl_CylinderLine.l0] at H
 by_cases c5 : x12_1 < (l0.length : Int)
 {
 rw [if_pos c5] at H
 have c5b0 : decide (x12_1 < (l0.length : Int)) = true := decide_eq_true c5
 clear c5
 by_cases c6 : 0 ≤ x12_1
 {
 rw [if_pos c6] at H
 have c6b0 : decide (0 ≤ x12_1) = true := decide_eq_true c6
 clear c6
 by_cases c7 : x12_1 < (l0.length : Int)
 {
 rw [if_pos c7] at H
 have c7b0 : decide (x12_1 < (l0.length : Int)) = true := decide_eq_true c7
 clear c7
 replace H := Option.bind_eq_some_iff.mp H
 obtain ⟨t546, A80, H⟩ := H
 replace H : (if x3_1.length < 8796093022208 then (impl_CylinderLine.l0 k1 (x3_1 ++ [t546]) l0 (l0.length : Int) (wrap64 (x12_1 + 1))) else (none)) = some r := H
 have A8 := Aside0.mk A80
 clear A80
 by_cases c9 : x3_1.length < 8796093022208
 {
 rw [if_pos c9] at H
 have LMc9 := Aside0.mk c9
 clear c9
 obtain ⟨y547, hy547⟩ : ∃ y_ : List ByteArray, y_ = (x3_1 ++ [t546]) := ⟨_, rfl⟩
 replace H : (impl_CylinderLine.l0 k1 y547 l0 (l0.length : Int) (wrap64 (x12_1 + 1))) = some r := by first | (rw [hy547]; with_reducible exact H) | (have H2_ := (Option.bind_some _ _).symm.trans H; rw [hy547]; with_reducible exact H2_) | (have H2_ := (Option.bind_some _ _).symm.trans H; with_reducible exact H2_) | with_reducible exact H | (rw [hy547]; exact H) | exact H
 have Ny547 := Aside0.mk hy547
 clear hy547
 have H' := Aside0.mk H
 clear H
 have p544 : 0 ≤ (x12_1 : Int) := dX
 have q544 : x12_1 < (l0.length : Int) := dX
 obtain ⟨ad544, e544, hx544_0, hx544_1⟩ := at_T38 HR0.out x12_1 p544 q544
 cases e544
 replace hx544_0 := (HB.out.cell (World.block_lt_of_cell? w _ hx544_0)).trans hx544_0
 replace hx544_1 := (HB.out.cell (World.block_lt_of_cell? w _ hx544_1)).trans hx544_1
 replace p544 := eq_true p544
 replace q544 := eq_true q544
 go_wp2_with (first | ((with_reducible refine gate_dst (N := 5) rfl ?_); refine box_event ?hg (N := 5) ?hd (cs := #[.int .i64 0, .int .i64 0]) (t := 38) ?hr ?_; (case hd => rfl); (case hg => rfl); (case hr => first | (go_simp; done) | (go_simp; rfl)); intro gb545 hg w10 hbox hb; have n0_ := Aside0.mk (Kd.R_below (rX HO_3.out) hb); have n1_ := Aside0.mk (below_step (bX HB.out) hb); have n2_ := Aside0.mk (hbox); have n3_ := Aside0.mk ((szX (below_size (bX HB.out)) hg : w.heap.size ≤ gb545)); have n4_ := Aside0.mk ((szX (below_size (bX HB.out)) hg : w.heap.size ≤ gb545)); clear HO_3 HB; have HO_3 := n0_; have HB := n1_; have BK545 := n2_; have GW545 := n3_; have GE545 := n4_; clear n0_ n1_ n2_ n3_ n4_ hb hbox hg; have hcz11_0 := cz20 BK545.out; have hcz11_1 := cz21 BK545.out; have hfz11_0 := blk_frozen BK545.out 0; have hfz11_1 := blk_frozen BK545.out 1) | ((with_reducible refine gate_callee (f := 47) rfl ?_); refine goesL_ (some 18) rfl rfl Tryz.func47 (by kernel_rfl) rfl #[.agg #[.int .i64 ((rd_T38 l0 x12_1).f0), .int .i64 ((rd_T38 l0 x12_1).f1)]] rfl aX ?_; (with_reducible refine (impl_FormatCylinder.calls ((rd_T38 l0 x12_1).f0) ((rd_T38 l0 x12_1).f1) t546 _ ?side1 A8.out).mono ?_); (case side1 => exact PowTab.below HTAB.out (bX1 HB.out GE545.out)); rintro e w12 ⟨rfl, hb⟩; refine ⟨_, rfl, ?_⟩; have n0_ := Aside0.mk (Kd.R_below (by (with_reducible repeat (first|apply rA|apply rN|apply rD)); exact (Kd.R_mono (Kd.R_far (p := ⟨gb545, 1, none⟩) (Kd.R_far (p := ⟨gb545, 0, none⟩) (Kd.R_types HO_3.out BK545.out (by decide)) (fun _ hk => hk.2) (.int .i64 ((rd_T38 l0 x12_1).f0))) (fun _ hk => hk.2) (.int .i64 ((rd_T38 l0 x12_1).f1))) (fun _ h_ => h_.1))) hb); have n1_ := Aside0.mk (blk_below (g := gb545) (o := .cells #[.int .i64 ((rd_T38 l0 x12_1).f0), .int .i64 ((rd_T38 l0 x12_1).f1)] 38 (0, 0)) (by (with_reducible repeat (first|refine kN ?_ _|refine kD ?_|refine kA ?_ _)); refine blk_put (cs := #[.int .i64 ((rd_T38 l0 x12_1).f0), .int .i64 0]) ?_ 1 _ rfl; (with_reducible repeat (first|refine kN ?_ _|refine kD ?_|refine kA ?_ _)); refine blk_put (cs := #[.int .i64 0, .int .i64 0]) ?_ 0 _ rfl; (with_reducible repeat (first|refine kN ?_ _|refine kD ?_|refine kA ?_ _)); exact BK545.out) hb); have n2_ := Aside0.mk (below_step (bX1 HB.out GE545.out) hb); clear HO_3 BK545 HB; have HO_3 := n0_; have BK545 := n1_; have HB := n2_; clear n0_ n1_ n2_; (try clear hb); (try clear hb2); (try clear hk); (try clear hi)) | ((with_reducible refine gate_builtin (b := .append) (xs := #[.tmp 16, .tmp 19]) rfl ?_); at_builtin; refine Kd.R_append Kd.string (w0 := w) w.heap.size rfl (.tmp 16) (.tmp 19) 27 9 (.string ⟨#[]⟩) 16 rfl Tryz.underlying27 info9 rfl (by decide) (by omega) u3 x3_1 t546 [.string t546] (fun _ => True) (fun _ => False) rfl rfl ?aP (fun _ hk => hk.elim) ?aF ?aO ?aB ?aS ?aL ?_; (case aP => exact rfl); (case aB => exact (bX1 HB.out GE545.out)); (case aF => exact (fun _ _ => trivial)); (case aO => exact (rX HO_3.out)); (case aS => exact (below_size (bX1 HB.out GE545.out))); (case aL => have := LMc9.out; omega); intro v548 w13 ho hb hg hat; rw [← Ny547.out] at ho; have n0_ := Aside0.mk (bgX BK545.out hg (Kd.R_ne HO_3.out BK545.out (by decide))); have n1_ := Aside0.mk (hb); have n2_ := Aside0.mk (ho); clear BK545 HB HO_3; have BK545 := n0_; have HB := n1_; have HO549 := n2_; clear n0_ n1_ n2_ ho hb hg hat))
 go_roundg k1
 case measure => have := HK1.out; omega
 case rel => exact ⟨(y547), (wrap64 (x12_1 + 1)), vX, H', ⟨by have := HK1.out; omega⟩, ⟨rX HO549.out⟩, ⟨bX1 HB.out GE545.out⟩⟩
 }
 {
 rw [if_neg c9] at H
 exact absurd H (by simp)
 }
 }
 {
 rw [if_neg c7] at H
 exact absurd H (by simp)
 }
 }
 {
 rw [if_neg c6] at H
 exact absurd H (by simp)
 }
 }
 {
 rw [if_neg c5] at H
 have c5b0 : decide (x12_1 < (l0.length : Int)) = false := decide_eq_false c5
 clear c5
 replace H := Option.bind_eq_some_iff.mp H
 obtain ⟨t550, A140, H⟩ := H
 replace H : (some t550) = some r := H
 have A14 := Aside0.mk A140
 clear A140
 obtain rfl := Option.some.inj H
 obtain ⟨Ao15, co15, eo15⟩ := Kd.R_slice HO_3.out
 subst eo15
 go_wp2_with (first | ((with_reducible refine gate_callee (f := 48) rfl ?_); refine goesL_ (some 23) rfl rfl Tryz.func48 (by kernel_rfl) rfl #[.slice Ao15 x3_1.length co15, .string (⟨#[32]⟩ : ByteArray)] rfl aX ?_; (with_reducible refine (impl_Join.calls _ _ x3_1 (⟨#[32]⟩ : ByteArray) t550 _ ?side1 ?side2 A14.out).mono ?_); (case side1 => exact cX (Kd.R_reads' HO_3.out).2.2); (case side2 => exact (Kd.R_reads' HO_3.out).2.1); rintro e w16 ⟨rfl, hb⟩; refine ⟨_, rfl, ?_⟩; have n0_ := Aside0.mk (Kd.R_below (rX HO_3.out) hb); have n1_ := Aside0.mk (below_step (bX HB.out) hb); clear HO_3 HB; have HO_3 := n0_; have HB := n1_; clear n0_ n1_; (try clear hb); (try clear hb2); (try clear hk); (try clear hi)))
 go_ret
 exact ⟨eX, bX HB.out⟩
 }
 }

end Go.Proofs.YthhdgeafdnikcaaGreatDoor.S
