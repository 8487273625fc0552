-- PRINTED by print.py (a twelfth state) out of the translation. Not trusted: Lean checks it.
import Derived.Test.YtbolkipmehmncaaS0
import Derived.Test.YtbolkipmehmncaaS4
import Derived.Test.YtbolkipmehmncaaS5
namespace Go.Proofs.Ytbolkipmehmncaa.S
open Go.RowKit Go.Proofs.YtbolkipmehmncaaW.PrintWords Go.Proofs.YtbolkipmehmncaaW.PrintLast Go.Proofs.YtbolkipmehmncaaW.PrintMore
attribute [local go_sem] max2_int min2_int max_two min_two max_three min_three max_four min_four   -- for this text's walks alone
set_option linter.unusedVariables false
set_option linter.unusedSimpArgs false

/-! ### spec_l15Draw: function 67 -/
def spec_l15Draw.l0 : Nat → List (S69) → Int → List Int → Int → Int → Option ((List (S69)) × Int × Int)
 | 0, _, _, _, _, _ => none
 | k + 1, x5, x6, x1000, x1001, x1002 => if x6 > 0 then ((spec_l01Below.f x1000 x1001 x1002 (x5.length : Int)).bind fun bt314 => (if 0 ≤ bt314.1 then (if bt314.1 < (x5.length : Int) then ((some (([(([1, 0] : List Int)), (([(-1), 0] : List Int)), (([0, 1] : List Int)), (([0, (-1)] : List Int))] : List (List Int)) : List (List Int))).bind fun y331 => ((spec_l01Below.f x1000 bt314.2.1 bt314.2.2 4).bind fun bt334 => (if 0 ≤ bt334.1 then (if bt334.1 < (y331.length : Int) then (if 0 < ((rd_L4 y331 bt334.1).length : Int) then (if 1 < ((rd_L4 y331 bt334.1).length : Int) then (if (wrap64 (((rd_T69 x5 bt314.1).f0) + (rd (rd_L4 y331 bt334.1) 0))) ≥ 0 then (if (wrap64 (((rd_T69 x5 bt314.1).f1) + (rd (rd_L4 y331 bt334.1) 1))) ≥ 0 then ((spec_CellAt.f k x5 (wrap64 (((rd_T69 x5 bt314.1).f0) + (rd (rd_L4 y331 bt334.1) 0))) (wrap64 (((rd_T69 x5 bt314.1).f1) + (rd (rd_L4 y331 bt334.1) 1)))).bind fun t341 => (if t341 < 0 then ((spec_l15Insert.f k x5 (wrap64 (((rd_T69 x5 bt314.1).f0) + (rd (rd_L4 y331 bt334.1) 0))) (wrap64 (((rd_T69 x5 bt314.1).f1) + (rd (rd_L4 y331 bt334.1) 1)))).bind fun t342 => (spec_l15Draw.l0 k t342 (wrap64 (x6 - 1)) x1000 bt334.2.1 bt334.2.2)) else (spec_l15Draw.l0 k x5 (wrap64 (x6 - 1)) x1000 bt334.2.1 bt334.2.2))) else (spec_l15Draw.l0 k x5 (wrap64 (x6 - 1)) x1000 bt334.2.1 bt334.2.2)) else (spec_l15Draw.l0 k x5 (wrap64 (x6 - 1)) x1000 bt334.2.1 bt334.2.2)) else (none)) else (none)) else (none)) else (none)))) else (none)) else (none))) else (some (x5, x1001, x1002))
def spec_l15Draw.f (k : Nat) (s0_0 : List Int) (s0_1 : Int) (s0_2 : Int) (a1 : Int) : Option ((List (S69)) × Int × Int) := (spec_l01Below.f s0_0 s0_1 s0_2 3).bind fun bt302 => ((spec_l01Below.f s0_0 bt302.2.1 bt302.2.2 3).bind fun bt305 => ((spec_l01Below.f s0_0 bt305.2.1 bt305.2.2 a1).bind fun bt311 => (spec_l15Draw.l0 k (([(⟨wrap64 (2 + bt302.1), wrap64 (2 + bt305.1)⟩ : S69)] : List (S69))) bt311.1 s0_0 bt311.2.1 bt311.2.2)))
def spec_l15Draw.T7 : Bool × List (List Nat × List Nat) := (true, [([], []), ([0], [0]), ([], []), ([2], [2]), ([3], [3]), ([1, 4], [1, 4]), ([], []), ([6], [6]), ([], []), ([8], [8]), ([9], [9]), ([7, 10], [7, 10]), ([5, 11], [5, 11]), ([], []), ([13, 12, 0, 1, 2, 3, 4, 5, 6, 7, 8, 9, 10, 11, 12, 13], [12, 13])])
def spec_l15Draw.B7 : List Nat := [0, 1, 0, 4, 12, 31, 0, 64, 0, 256, 768, 1984, 4095, 0, 16383]
theorem spec_l15Draw.tab7 : rtab .any (opsOf Try.f67 7) = spec_l15Draw.T7 := by kernel_rfl
theorem spec_l15Draw.bits7 : waitsOk spec_l15Draw.T7.2 spec_l15Draw.B7 = true := by kernel_rfl
set_option maxHeartbeats 8000000 in
set_option maxRecDepth 100000 in
theorem spec_l15Draw.calls (k : Nat) (g : Nat) (s0_0 : List Int) (s0_1 : Int) (s0_2 : Int) (a1 : Int) (r1 : List (S69)) (r2 : Int) (r3 : Int) (w0 w : World) (hI : IsS103 w0 w g s0_0 s0_1 s0_2) (hB : Below w0.heap.size w0 w) (h : spec_l15Draw.f k s0_0 s0_1 s0_2 a1 = some (r1, r2, r3)) :
  Calls Try.prog 67 #[.pointer (some ⟨g, 0, none⟩), .int .i64 a1] w fun e w' => ∃ v0_ : Value, e = .returned (v0_) ∧ Kd.R k69 69 w' w.heap.size (fun _ => True) v0_ r1 ∧ IsS103 w0 w' g s0_0 r2 r3 ∧ Below w0.heap.size w0 w' ∧ KeepBut w w' g none := by
 have hu69 := Try.underlying69
 have HI0 := Aside0.mk hI
 have HK := Aside0.mk (KeepBut.refl w g none)
 have HL := Aside0.mk hB.size
 clear hI
 have HW0 := Aside0.mk hB.size
 have HB := Aside0.mk hB
 clear hB
 have H : ((spec_l01Below.f s0_0 s0_1 s0_2 3).bind fun bt302 => ((spec_l01Below.f s0_0 bt302.2.1 bt302.2.2 3).bind fun bt305 => ((spec_l01Below.f s0_0 bt305.2.1 bt305.2.2 a1).bind fun bt311 => (spec_l15Draw.l0 k (([(⟨wrap64 (2 + bt302.1), wrap64 (2 + bt305.1)⟩ : S69)] : List (S69))) bt311.1 s0_0 bt311.2.1 bt311.2.2)))) = some (r1, r2, r3) := h
 clear h
 replace H := Option.bind_eq_some_iff.mp H
 obtain ⟨⟨t302, t303, t304⟩, A30, H⟩ := H
 replace H : ((spec_l01Below.f s0_0 t303 t304 3).bind fun bt305 => ((spec_l01Below.f s0_0 bt305.2.1 bt305.2.2 a1).bind fun bt311 => (spec_l15Draw.l0 k (([(⟨wrap64 (2 + t302), wrap64 (2 + bt305.1)⟩ : S69)] : List (S69))) bt311.1 s0_0 bt311.2.1 bt311.2.2))) = some (r1, r2, r3) := H
 have A3 := Aside0.mk A30
 clear A30
 replace H := Option.bind_eq_some_iff.mp H
 obtain ⟨⟨t305, t306, t307⟩, A40, H⟩ := H
 replace H : ((spec_l01Below.f s0_0 t306 t307 a1).bind fun bt311 => (spec_l15Draw.l0 k (([(⟨wrap64 (2 + t302), wrap64 (2 + t305)⟩ : S69)] : List (S69))) bt311.1 s0_0 bt311.2.1 bt311.2.2)) = some (r1, r2, r3) := H
 have A4 := Aside0.mk A40
 clear A40
 obtain ⟨y308, hy308⟩ : ∃ y_ : List (S69), y_ = (([(⟨wrap64 (2 + t302), wrap64 (2 + t305)⟩ : S69)] : List (S69))) := ⟨_, rfl⟩
 replace H : ((spec_l01Below.f s0_0 t306 t307 a1).bind fun bt311 => (spec_l15Draw.l0 k y308 bt311.1 s0_0 bt311.2.1 bt311.2.2)) = some (r1, r2, r3) := by first | (rw [hy308]; with_reducible exact H) | (have H2_ := (Option.bind_some _ _).symm.trans H; rw [hy308]; with_reducible exact H2_) | (have H2_ := (Option.bind_some _ _).symm.trans H; with_reducible exact H2_) | with_reducible exact H | (rw [hy308]; exact H) | exact H
 have Ny308 := Aside0.mk hy308
 clear hy308
 replace H := Option.bind_eq_some_iff.mp H
 obtain ⟨⟨t311, t312, t313⟩, A50, H⟩ := H
 replace H : (spec_l15Draw.l0 k y308 t311 s0_0 t312 t313) = some (r1, r2, r3) := H
 have A5 := Aside0.mk A50
 clear A50
 have H' := Aside0.mk H
 clear H
 go_enter Try.func67, Try.ntmps67
 go_wp2_with (first | ((with_reducible refine gate_callee (f := 69) rfl ?_); refine goesL_ (some 11) rfl rfl Try.func69 (by kernel_rfl) rfl #[.pointer (some ⟨g, 0, none⟩), .int .i64 3] rfl (by (try simp only [zE,zF,zG]); first|done|rfl|(simp only [zH,zI]; rfl)) ?_; (with_reducible refine (spec_l01Below.calls g s0_0 s0_1 s0_2 3 t302 t303 t304 w0 _ ?side1 ?side2 A3.out).mono ?_); (case side1 => repeat (first | (with_reducible first | exact HI0.out | apply IsS103.alloc | apply IsS103.drewN | apply IsS103.drew | apply IsS103.set_1 | apply IsS103.set_2) | exact HI0.out)); (case side2 => repeat (first | (with_reducible first | exact HB.out|apply bA|apply bN|apply bD | refine below_set ?_ (IsS103.ge HI0.out)) | exact HB.out)); rintro e w6 ⟨rfl, hi, hb, hk⟩; refine ⟨_, rfl, ?_⟩; have n0_ := Aside0.mk (KeepBut.trans (by repeat (first | (with_reducible first | exact HK.out | apply KeepBut.set_ | apply keep_drewN | apply keep_drew | apply keep_alloc) | exact HK.out)) hk (.inl rfl)); have n1_ := Aside0.mk (hb); have n2_ := Aside0.mk (hi); clear HK; clear HB; clear HI0; have HK := n0_; have HB := n1_; have HI0 := n2_; clear n0_ n1_ n2_; (try clear hb); (try clear hb2); (try clear hk); (try clear hi)) | ((with_reducible refine gate_callee (f := 69) rfl ?_); refine goesL_ (some 14) rfl rfl Try.func69 (by kernel_rfl) rfl #[.pointer (some ⟨g, 0, none⟩), .int .i64 3] rfl (by (try simp only [zE,zF,zG]); first|done|rfl|(simp only [zH,zI]; rfl)) ?_; (with_reducible refine (spec_l01Below.calls g s0_0 t303 t304 3 t305 t306 t307 w0 _ ?side1 ?side2 A4.out).mono ?_); (case side1 => repeat (first | (with_reducible first | exact HI0.out | apply IsS103.alloc | apply IsS103.drewN | apply IsS103.drew | apply IsS103.set_1 | apply IsS103.set_2) | exact HI0.out)); (case side2 => repeat (first | (with_reducible first | exact HB.out|apply bA|apply bN|apply bD | refine below_set ?_ (IsS103.ge HI0.out)) | exact HB.out)); rintro e w7 ⟨rfl, hi, hb, hk⟩; refine ⟨_, rfl, ?_⟩; have n0_ := Aside0.mk (KeepBut.trans (by repeat (first | (with_reducible first | exact HK.out | apply KeepBut.set_ | apply keep_drewN | apply keep_drew | apply keep_alloc) | exact HK.out)) hk (.inl rfl)); have n1_ := Aside0.mk (hb); have n2_ := Aside0.mk (hi); clear HK; clear HB; clear HI0; have HK := n0_; have HB := n1_; have HI0 := n2_; clear n0_ n1_ n2_; (try clear hb); (try clear hb2); (try clear hk); (try clear hi)) | ((with_reducible refine gate_dst (N := 17) rfl ?_); refine Kd.R_lit k69 _ 69 ?hg (N := 17) ?hd (xs := ([(⟨wrap64 (2 + t302), wrap64 (2 + t305)⟩ : S69)] : List (S69))) (inner := [.int .i64 (wrap64 (2 + t302)), .int .i64 (wrap64 (2 + t305))]) (ok := fun _ => True) (okp := fun _ => True) ?hr ?hp (fun _ hk => hk) trivial (Below.refl _ _) (Nat.le_refl _) (by simp) ?_; (case hd => rfl); (case hg => rfl); (case hr => first | (go_simp; done) | (go_simp; rfl)); (case hp => exact (Reps.c2 (show Kd.M k69 _ _ _ (⟨wrap64 (2 + t302), wrap64 (2 + t305)⟩ : S69) [.int .i64 (wrap64 (2 + t302)), .int .i64 (wrap64 (2 + t305))] from (k69_mkM _ _ _ (⟨wrap64 (2 + t302), wrap64 (2 + t305)⟩ : S69) )) (Reps.none _ _))); intro v309 w8 ho9 hb hg_ hnew_; clear hg_ hnew_; (first | rw [← Ny308.out] at ho9 | (simp only [Int.reduceToNat] at ho9; rw [← Ny308.out] at ho9)); have n0_ := Aside0.mk (Kd.R_lower ho9 (keep_size (w := w) (g := g) (row := none) (by repeat (first | (with_reducible first | exact HK.out | apply KeepBut.set_ | apply keep_drewN | apply keep_drew | apply keep_alloc) | exact HK.out)))); have n1_ := Aside0.mk (IsS103.below (by repeat (first | (with_reducible first | exact HI0.out | apply IsS103.alloc | apply IsS103.drewN | apply IsS103.drew | apply IsS103.set_1 | apply IsS103.set_2) | exact HI0.out)) hb); have n2_ := Aside0.mk (KeepBut.trans (by repeat (first | (with_reducible first | exact HK.out | apply KeepBut.set_ | apply keep_drewN | apply keep_drew | apply keep_alloc) | exact HK.out)) (KeepBut.of_below hb g none) (.inl rfl)); have n3_ := Aside0.mk (below_step (by repeat (first | (with_reducible first | exact HB.out|apply bA|apply bN|apply bD | refine below_set ?_ (IsS103.ge HI0.out)) | exact HB.out)) hb); clear HI0; clear HK; clear HB; have HO310 := n0_; have HI0 := n1_; have HK := n2_; have HB := n3_; clear n0_ n1_ n2_ n3_; clear hb ho9) | ((with_reducible refine gate_callee (f := 69) rfl ?_); refine goesL_ (some 20) rfl rfl Try.func69 (by kernel_rfl) rfl #[.pointer (some ⟨g, 0, none⟩), .int .i64 a1] rfl (by (try simp only [zE,zF,zG]); first|done|rfl|(simp only [zH,zI]; rfl)) ?_; (with_reducible refine (spec_l01Below.calls g s0_0 t306 t307 a1 t311 t312 t313 w0 _ ?side1 ?side2 A5.out).mono ?_); (case side1 => repeat (first | (with_reducible first | exact HI0.out | apply IsS103.alloc | apply IsS103.drewN | apply IsS103.drew | apply IsS103.set_1 | apply IsS103.set_2) | exact HI0.out)); (case side2 => repeat (first | (with_reducible first | exact HB.out|apply bA|apply bN|apply bD | refine below_set ?_ (IsS103.ge HI0.out)) | exact HB.out)); rintro e w10 ⟨rfl, hi, hb, hk⟩; refine ⟨_, rfl, ?_⟩; have n0_ := Aside0.mk (Kd.R_mono (Kd.R_keep (IsS103.apart (show IsS103 w0 _ g s0_0 t306 t307 from by repeat (first | (with_reducible first | exact HI0.out | apply IsS103.alloc | apply IsS103.drewN | apply IsS103.drew | apply IsS103.set_1 | apply IsS103.set_2) | exact HI0.out)) (by (with_reducible repeat (first|apply rA|apply rN|apply rD)); exact HO310.out) (by decide)) hk (fun _ h => h.2)) (fun _ h => h.1)); have n1_ := Aside0.mk (KeepBut.trans (by repeat (first | (with_reducible first | exact HK.out | apply KeepBut.set_ | apply keep_drewN | apply keep_drew | apply keep_alloc) | exact HK.out)) hk (.inl rfl)); have n2_ := Aside0.mk (hb); have n3_ := Aside0.mk (hi); clear HO310; clear HK; clear HB; clear HI0; have HO310 := n0_; have HK := n1_; have HB := n2_; have HI0 := n3_; clear n0_ n1_ n2_ n3_; (try clear hb); (try clear hb2); (try clear hk); (try clear hi)))
 go_loopg [5, 6] k (fun kq v5 v6 w' => ∃ (x5_1 : List (S69)) (x6_1 : Int) (x1001_1 : Int) (x1002_1 : Int), v6 = .int .i64 x6_1 ∧ Aside0 (spec_l15Draw.l0 kq x5_1 x6_1 s0_0 x1001_1 x1002_1 = some (r1, r2, r3)) ∧ Aside0 (kq ≤ k) ∧ Aside0 (Kd.R k69 69 w' w.heap.size (fun _ => True) v5 x5_1) ∧ Aside0 (IsS103 w0 w' g s0_0 x1001_1 x1002_1) ∧ Aside0 (KeepBut w w' g none) ∧ Aside0 (Below w0.heap.size w0 w'))
 case atStart => exact ⟨(y308), (t311), (t312), (t313), (by first | rfl | (simp; done) | (simp [*]; done)), H', ⟨Nat.le_refl _⟩, ⟨by (with_reducible repeat (first|apply rA|apply rN|apply rD)); exact HO310.out⟩, ⟨by repeat (first | (with_reducible first | exact HI0.out | apply IsS103.alloc | apply IsS103.drewN | apply IsS103.drew | apply IsS103.set_1 | apply IsS103.set_2) | exact HI0.out)⟩, ⟨by repeat (first | (with_reducible first | exact HK.out | apply KeepBut.set_ | apply keep_drewN | apply keep_drew | apply keep_alloc) | exact HK.out)⟩, ⟨by repeat (first | (with_reducible first | exact HB.out|apply bA|apply bN|apply bD | refine below_set ?_ (IsS103.ge HI0.out)) | exact HB.out)⟩⟩
 case round =>
  clear H'
  try clear c2
  try clear p2
  try clear c6
  try clear p6
  obtain ⟨x5_1, x6_1, x1001_1, x1002_1, rfl, HA, HK1, HO_5, HI0, HK, HB⟩ := hrel
  cases gk with
  | zero => exact absurd HA.out (by simp [spec_l15Draw.l0])
  | succ k1 =>
   have H := HA.out
   clear HA
   simp only [spec_l15Draw.l0] at H
   by_cases c11 : x6_1 > 0
   ·rw [if_pos c11] at H
    have c11b0 : decide (0 < x6_1) = true := decide_eq_true c11
    clear c11
    replace H := Option.bind_eq_some_iff.mp H
    obtain ⟨⟨t314, t315, t316⟩, A120, H⟩ := H
    replace H : (if 0 ≤ t314 then (if t314 < (x5_1.length : Int) then ((some (([(([1, 0] : List Int)), (([(-1), 0] : List Int)), (([0, 1] : List Int)), (([0, (-1)] : List Int))] : List (List Int)) : List (List Int))).bind fun y331 => ((spec_l01Below.f s0_0 t315 t316 4).bind fun bt334 => (if 0 ≤ bt334.1 then (if bt334.1 < (y331.length : Int) then (if 0 < ((rd_L4 y331 bt334.1).length : Int) then (if 1 < ((rd_L4 y331 bt334.1).length : Int) then (if (wrap64 (((rd_T69 x5_1 t314).f0) + (rd (rd_L4 y331 bt334.1) 0))) ≥ 0 then (if (wrap64 (((rd_T69 x5_1 t314).f1) + (rd (rd_L4 y331 bt334.1) 1))) ≥ 0 then ((spec_CellAt.f k1 x5_1 (wrap64 (((rd_T69 x5_1 t314).f0) + (rd (rd_L4 y331 bt334.1) 0))) (wrap64 (((rd_T69 x5_1 t314).f1) + (rd (rd_L4 y331 bt334.1) 1)))).bind fun t341 => (if t341 < 0 then ((spec_l15Insert.f k1 x5_1 (wrap64 (((rd_T69 x5_1 t314).f0) + (rd (rd_L4 y331 bt334.1) 0))) (wrap64 (((rd_T69 x5_1 t314).f1) + (rd (rd_L4 y331 bt334.1) 1)))).bind fun t342 => (spec_l15Draw.l0 k1 t342 (wrap64 (x6_1 - 1)) s0_0 bt334.2.1 bt334.2.2)) else (spec_l15Draw.l0 k1 x5_1 (wrap64 (x6_1 - 1)) s0_0 bt334.2.1 bt334.2.2))) else (spec_l15Draw.l0 k1 x5_1 (wrap64 (x6_1 - 1)) s0_0 bt334.2.1 bt334.2.2)) else (spec_l15Draw.l0 k1 x5_1 (wrap64 (x6_1 - 1)) s0_0 bt334.2.1 bt334.2.2)) else (none)) else (none)) else (none)) else (none)))) else (none)) else (none)) = some (r1, r2, r3) := H
    have A12 := Aside0.mk A120
    clear A120
    by_cases c13 : 0 ≤ t314
    ·rw [if_pos c13] at H
     have c13b0 : decide (0 ≤ t314) = true := decide_eq_true c13
     clear c13
     by_cases c14 : t314 < (x5_1.length : Int)
     ·rw [if_pos c14] at H
      have c14b0 : decide (t314 < (x5_1.length : Int)) = true := decide_eq_true c14
      clear c14
      obtain ⟨y319, hy319⟩ : ∃ y_ : List Int, y_ = (([1, 0] : List Int)) := ⟨_, rfl⟩
      replace H : ((some (([y319, (([(-1), 0] : List Int)), (([0, 1] : List Int)), (([0, (-1)] : List Int))] : List (List Int)) : List (List Int))).bind fun y331 => ((spec_l01Below.f s0_0 t315 t316 4).bind fun bt334 => (if 0 ≤ bt334.1 then (if bt334.1 < (y331.length : Int) then (if 0 < ((rd_L4 y331 bt334.1).length : Int) then (if 1 < ((rd_L4 y331 bt334.1).length : Int) then (if (wrap64 (((rd_T69 x5_1 t314).f0) + (rd (rd_L4 y331 bt334.1) 0))) ≥ 0 then (if (wrap64 (((rd_T69 x5_1 t314).f1) + (rd (rd_L4 y331 bt334.1) 1))) ≥ 0 then ((spec_CellAt.f k1 x5_1 (wrap64 (((rd_T69 x5_1 t314).f0) + (rd (rd_L4 y331 bt334.1) 0))) (wrap64 (((rd_T69 x5_1 t314).f1) + (rd (rd_L4 y331 bt334.1) 1)))).bind fun t341 => (if t341 < 0 then ((spec_l15Insert.f k1 x5_1 (wrap64 (((rd_T69 x5_1 t314).f0) + (rd (rd_L4 y331 bt334.1) 0))) (wrap64 (((rd_T69 x5_1 t314).f1) + (rd (rd_L4 y331 bt334.1) 1)))).bind fun t342 => (spec_l15Draw.l0 k1 t342 (wrap64 (x6_1 - 1)) s0_0 bt334.2.1 bt334.2.2)) else (spec_l15Draw.l0 k1 x5_1 (wrap64 (x6_1 - 1)) s0_0 bt334.2.1 bt334.2.2))) else (spec_l15Draw.l0 k1 x5_1 (wrap64 (x6_1 - 1)) s0_0 bt334.2.1 bt334.2.2)) else (spec_l15Draw.l0 k1 x5_1 (wrap64 (x6_1 - 1)) s0_0 bt334.2.1 bt334.2.2)) else (none)) else (none)) else (none)) else (none)))) = some (r1, r2, r3) := by first | (rw [hy319]; with_reducible exact H) | (have H2_ := (Option.bind_some _ _).symm.trans H; rw [hy319]; with_reducible exact H2_) | (have H2_ := (Option.bind_some _ _).symm.trans H; with_reducible exact H2_) | with_reducible exact H | (rw [hy319]; exact H) | exact H
      have Ny319 := Aside0.mk hy319
      clear hy319
      obtain ⟨y322, hy322⟩ : ∃ y_ : List Int, y_ = (([(-1), 0] : List Int)) := ⟨_, rfl⟩
      replace H : ((some (([y319, y322, (([0, 1] : List Int)), (([0, (-1)] : List Int))] : List (List Int)) : List (List Int))).bind fun y331 => ((spec_l01Below.f s0_0 t315 t316 4).bind fun bt334 => (if 0 ≤ bt334.1 then (if bt334.1 < (y331.length : Int) then (if 0 < ((rd_L4 y331 bt334.1).length : Int) then (if 1 < ((rd_L4 y331 bt334.1).length : Int) then (if (wrap64 (((rd_T69 x5_1 t314).f0) + (rd (rd_L4 y331 bt334.1) 0))) ≥ 0 then (if (wrap64 (((rd_T69 x5_1 t314).f1) + (rd (rd_L4 y331 bt334.1) 1))) ≥ 0 then ((spec_CellAt.f k1 x5_1 (wrap64 (((rd_T69 x5_1 t314).f0) + (rd (rd_L4 y331 bt334.1) 0))) (wrap64 (((rd_T69 x5_1 t314).f1) + (rd (rd_L4 y331 bt334.1) 1)))).bind fun t341 => (if t341 < 0 then ((spec_l15Insert.f k1 x5_1 (wrap64 (((rd_T69 x5_1 t314).f0) + (rd (rd_L4 y331 bt334.1) 0))) (wrap64 (((rd_T69 x5_1 t314).f1) + (rd (rd_L4 y331 bt334.1) 1)))).bind fun t342 => (spec_l15Draw.l0 k1 t342 (wrap64 (x6_1 - 1)) s0_0 bt334.2.1 bt334.2.2)) else (spec_l15Draw.l0 k1 x5_1 (wrap64 (x6_1 - 1)) s0_0 bt334.2.1 bt334.2.2))) else (spec_l15Draw.l0 k1 x5_1 (wrap64 (x6_1 - 1)) s0_0 bt334.2.1 bt334.2.2)) else (spec_l15Draw.l0 k1 x5_1 (wrap64 (x6_1 - 1)) s0_0 bt334.2.1 bt334.2.2)) else (none)) else (none)) else (none)) else (none)))) = some (r1, r2, r3) := by first | (rw [hy322]; with_reducible exact H) | (have H2_ := (Option.bind_some _ _).symm.trans H; rw [hy322]; with_reducible exact H2_) | (have H2_ := (Option.bind_some _ _).symm.trans H; with_reducible exact H2_) | with_reducible exact H | (rw [hy322]; exact H) | exact H
      have Ny322 := Aside0.mk hy322
      clear hy322
      obtain ⟨y325, hy325⟩ : ∃ y_ : List Int, y_ = (([0, 1] : List Int)) := ⟨_, rfl⟩
      replace H : ((some (([y319, y322, y325, (([0, (-1)] : List Int))] : List (List Int)) : List (List Int))).bind fun y331 => ((spec_l01Below.f s0_0 t315 t316 4).bind fun bt334 => (if 0 ≤ bt334.1 then (if bt334.1 < (y331.length : Int) then (if 0 < ((rd_L4 y331 bt334.1).length : Int) then (if 1 < ((rd_L4 y331 bt334.1).length : Int) then (if (wrap64 (((rd_T69 x5_1 t314).f0) + (rd (rd_L4 y331 bt334.1) 0))) ≥ 0 then (if (wrap64 (((rd_T69 x5_1 t314).f1) + (rd (rd_L4 y331 bt334.1) 1))) ≥ 0 then ((spec_CellAt.f k1 x5_1 (wrap64 (((rd_T69 x5_1 t314).f0) + (rd (rd_L4 y331 bt334.1) 0))) (wrap64 (((rd_T69 x5_1 t314).f1) + (rd (rd_L4 y331 bt334.1) 1)))).bind fun t341 => (if t341 < 0 then ((spec_l15Insert.f k1 x5_1 (wrap64 (((rd_T69 x5_1 t314).f0) + (rd (rd_L4 y331 bt334.1) 0))) (wrap64 (((rd_T69 x5_1 t314).f1) + (rd (rd_L4 y331 bt334.1) 1)))).bind fun t342 => (spec_l15Draw.l0 k1 t342 (wrap64 (x6_1 - 1)) s0_0 bt334.2.1 bt334.2.2)) else (spec_l15Draw.l0 k1 x5_1 (wrap64 (x6_1 - 1)) s0_0 bt334.2.1 bt334.2.2))) else (spec_l15Draw.l0 k1 x5_1 (wrap64 (x6_1 - 1)) s0_0 bt334.2.1 bt334.2.2)) else (spec_l15Draw.l0 k1 x5_1 (wrap64 (x6_1 - 1)) s0_0 bt334.2.1 bt334.2.2)) else (none)) else (none)) else (none)) else (none)))) = some (r1, r2, r3) := by first | (rw [hy325]; with_reducible exact H) | (have H2_ := (Option.bind_some _ _).symm.trans H; rw [hy325]; with_reducible exact H2_) | (have H2_ := (Option.bind_some _ _).symm.trans H; with_reducible exact H2_) | with_reducible exact H | (rw [hy325]; exact H) | exact H
      have Ny325 := Aside0.mk hy325
      clear hy325
      obtain ⟨y328, hy328⟩ : ∃ y_ : List Int, y_ = (([0, (-1)] : List Int)) := ⟨_, rfl⟩
      replace H : ((some (([y319, y322, y325, y328] : List (List Int)) : List (List Int))).bind fun y331 => ((spec_l01Below.f s0_0 t315 t316 4).bind fun bt334 => (if 0 ≤ bt334.1 then (if bt334.1 < (y331.length : Int) then (if 0 < ((rd_L4 y331 bt334.1).length : Int) then (if 1 < ((rd_L4 y331 bt334.1).length : Int) then (if (wrap64 (((rd_T69 x5_1 t314).f0) + (rd (rd_L4 y331 bt334.1) 0))) ≥ 0 then (if (wrap64 (((rd_T69 x5_1 t314).f1) + (rd (rd_L4 y331 bt334.1) 1))) ≥ 0 then ((spec_CellAt.f k1 x5_1 (wrap64 (((rd_T69 x5_1 t314).f0) + (rd (rd_L4 y331 bt334.1) 0))) (wrap64 (((rd_T69 x5_1 t314).f1) + (rd (rd_L4 y331 bt334.1) 1)))).bind fun t341 => (if t341 < 0 then ((spec_l15Insert.f k1 x5_1 (wrap64 (((rd_T69 x5_1 t314).f0) + (rd (rd_L4 y331 bt334.1) 0))) (wrap64 (((rd_T69 x5_1 t314).f1) + (rd (rd_L4 y331 bt334.1) 1)))).bind fun t342 => (spec_l15Draw.l0 k1 t342 (wrap64 (x6_1 - 1)) s0_0 bt334.2.1 bt334.2.2)) else (spec_l15Draw.l0 k1 x5_1 (wrap64 (x6_1 - 1)) s0_0 bt334.2.1 bt334.2.2))) else (spec_l15Draw.l0 k1 x5_1 (wrap64 (x6_1 - 1)) s0_0 bt334.2.1 bt334.2.2)) else (spec_l15Draw.l0 k1 x5_1 (wrap64 (x6_1 - 1)) s0_0 bt334.2.1 bt334.2.2)) else (none)) else (none)) else (none)) else (none)))) = some (r1, r2, r3) := by first | (rw [hy328]; with_reducible exact H) | (have H2_ := (Option.bind_some _ _).symm.trans H; rw [hy328]; with_reducible exact H2_) | (have H2_ := (Option.bind_some _ _).symm.trans H; with_reducible exact H2_) | with_reducible exact H | (rw [hy328]; exact H) | exact H
      have Ny328 := Aside0.mk hy328
      clear hy328
      obtain ⟨y331, hy331⟩ : ∃ y_ : List (List Int), y_ = (([y319, y322, y325, y328] : List (List Int))) := ⟨_, rfl⟩
      replace H : ((spec_l01Below.f s0_0 t315 t316 4).bind fun bt334 => (if 0 ≤ bt334.1 then (if bt334.1 < (y331.length : Int) then (if 0 < ((rd_L4 y331 bt334.1).length : Int) then (if 1 < ((rd_L4 y331 bt334.1).length : Int) then (if (wrap64 (((rd_T69 x5_1 t314).f0) + (rd (rd_L4 y331 bt334.1) 0))) ≥ 0 then (if (wrap64 (((rd_T69 x5_1 t314).f1) + (rd (rd_L4 y331 bt334.1) 1))) ≥ 0 then ((spec_CellAt.f k1 x5_1 (wrap64 (((rd_T69 x5_1 t314).f0) + (rd (rd_L4 y331 bt334.1) 0))) (wrap64 (((rd_T69 x5_1 t314).f1) + (rd (rd_L4 y331 bt334.1) 1)))).bind fun t341 => (if t341 < 0 then ((spec_l15Insert.f k1 x5_1 (wrap64 (((rd_T69 x5_1 t314).f0) + (rd (rd_L4 y331 bt334.1) 0))) (wrap64 (((rd_T69 x5_1 t314).f1) + (rd (rd_L4 y331 bt334.1) 1)))).bind fun t342 => (spec_l15Draw.l0 k1 t342 (wrap64 (x6_1 - 1)) s0_0 bt334.2.1 bt334.2.2)) else (spec_l15Draw.l0 k1 x5_1 (wrap64 (x6_1 - 1)) s0_0 bt334.2.1 bt334.2.2))) else (spec_l15Draw.l0 k1 x5_1 (wrap64 (x6_1 - 1)) s0_0 bt334.2.1 bt334.2.2)) else (spec_l15Draw.l0 k1 x5_1 (wrap64 (x6_1 - 1)) s0_0 bt334.2.1 bt334.2.2)) else (none)) else (none)) else (none)) else (none))) = some (r1, r2, r3) := by first | (rw [hy331]; with_reducible exact H) | (have H2_ := (Option.bind_some _ _).symm.trans H; rw [hy331]; with_reducible exact H2_) | (have H2_ := (Option.bind_some _ _).symm.trans H; with_reducible exact H2_) | with_reducible exact H | (rw [hy331]; exact H) | exact H
      have Ny331 := Aside0.mk hy331
      clear hy331
      replace H := Option.bind_eq_some_iff.mp H
      obtain ⟨⟨t334, t335, t336⟩, A150, H⟩ := H
      replace H : (if 0 ≤ t334 then (if t334 < (y331.length : Int) then (if 0 < ((rd_L4 y331 t334).length : Int) then (if 1 < ((rd_L4 y331 t334).length : Int) then (if (wrap64 (((rd_T69 x5_1 t314).f0) + (rd (rd_L4 y331 t334) 0))) ≥ 0 then (if (wrap64 (((rd_T69 x5_1 t314).f1) + (rd (rd_L4 y331 t334) 1))) ≥ 0 then ((spec_CellAt.f k1 x5_1 (wrap64 (((rd_T69 x5_1 t314).f0) + (rd (rd_L4 y331 t334) 0))) (wrap64 (((rd_T69 x5_1 t314).f1) + (rd (rd_L4 y331 t334) 1)))).bind fun t341 => (if t341 < 0 then ((spec_l15Insert.f k1 x5_1 (wrap64 (((rd_T69 x5_1 t314).f0) + (rd (rd_L4 y331 t334) 0))) (wrap64 (((rd_T69 x5_1 t314).f1) + (rd (rd_L4 y331 t334) 1)))).bind fun t342 => (spec_l15Draw.l0 k1 t342 (wrap64 (x6_1 - 1)) s0_0 t335 t336)) else (spec_l15Draw.l0 k1 x5_1 (wrap64 (x6_1 - 1)) s0_0 t335 t336))) else (spec_l15Draw.l0 k1 x5_1 (wrap64 (x6_1 - 1)) s0_0 t335 t336)) else (spec_l15Draw.l0 k1 x5_1 (wrap64 (x6_1 - 1)) s0_0 t335 t336)) else (none)) else (none)) else (none)) else (none)) = some (r1, r2, r3) := H
      have A15 := Aside0.mk A150
      clear A150
      by_cases c16 : 0 ≤ t334
      ·rw [if_pos c16] at H
       have c16b0 : decide (0 ≤ t334) = true := decide_eq_true c16
       clear c16
       by_cases c17 : t334 < (y331.length : Int)
       ·rw [if_pos c17] at H
        have c17b0 : decide (t334 < (y331.length : Int)) = true := decide_eq_true c17
        clear c17
        by_cases c18 : 0 < ((rd_L4 y331 t334).length : Int)
        ·rw [if_pos c18] at H
         have c18b0 : decide (0 < ((rd_L4 y331 t334).length : Int)) = true := decide_eq_true c18
         have c18b1 : decide (0 < (rd_L4 y331 t334).length) = true := decide_eq_true (by omega)
         clear c18
         by_cases c19 : 1 < ((rd_L4 y331 t334).length : Int)
         ·rw [if_pos c19] at H
          have c19b0 : decide (1 < ((rd_L4 y331 t334).length : Int)) = true := decide_eq_true c19
          have c19b1 : decide (1 < (rd_L4 y331 t334).length) = true := decide_eq_true (by omega)
          clear c19
          by_cases c20 : (wrap64 (((rd_T69 x5_1 t314).f0) + (rd (rd_L4 y331 t334) 0))) ≥ 0
          ·rw [if_pos c20] at H
           have c20b0 : decide (0 ≤ (wrap64 (((rd_T69 x5_1 t314).f0) + (rd (rd_L4 y331 t334) 0)))) = true := decide_eq_true c20
           clear c20
           by_cases c21 : (wrap64 (((rd_T69 x5_1 t314).f1) + (rd (rd_L4 y331 t334) 1))) ≥ 0
           ·rw [if_pos c21] at H
            have c21b0 : decide (0 ≤ (wrap64 (((rd_T69 x5_1 t314).f1) + (rd (rd_L4 y331 t334) 1)))) = true := decide_eq_true c21
            clear c21
            replace H := Option.bind_eq_some_iff.mp H
            obtain ⟨t341, A220, H⟩ := H
            replace H : (if t341 < 0 then ((spec_l15Insert.f k1 x5_1 (wrap64 (((rd_T69 x5_1 t314).f0) + (rd (rd_L4 y331 t334) 0))) (wrap64 (((rd_T69 x5_1 t314).f1) + (rd (rd_L4 y331 t334) 1)))).bind fun t342 => (spec_l15Draw.l0 k1 t342 (wrap64 (x6_1 - 1)) s0_0 t335 t336)) else (spec_l15Draw.l0 k1 x5_1 (wrap64 (x6_1 - 1)) s0_0 t335 t336)) = some (r1, r2, r3) := H
            have A22 := Aside0.mk A220
            clear A220
            by_cases c23 : t341 < 0
            ·rw [if_pos c23] at H
             have c23b0 : decide (t341 < 0) = true := decide_eq_true c23
             clear c23
             replace H := Option.bind_eq_some_iff.mp H
             obtain ⟨t342, A240, H⟩ := H
             replace H : (spec_l15Draw.l0 k1 t342 (wrap64 (x6_1 - 1)) s0_0 t335 t336) = some (r1, r2, r3) := H
             have A24 := Aside0.mk A240
             clear A240
             have H' := Aside0.mk H
             clear H
             obtain ⟨Ao25, co25, eo25⟩ := Kd.R_slice HO_5.out
             subst eo25
             try go_wp2_with (first | ((with_reducible refine gate_callee (f := 69) rfl ?_); refine goesL_ (some 29) rfl rfl Try.func69 (by kernel_rfl) rfl #[.pointer (some ⟨g, 0, none⟩), .int .i64 (x5_1.length : Int)] rfl (by (try simp only [zE,zF,zG]); first|done|rfl|(simp only [zH,zI]; rfl)) ?_; (with_reducible refine (spec_l01Below.calls g s0_0 x1001_1 x1002_1 (x5_1.length : Int) t314 t315 t316 w0 _ ?side1 ?side2 A12.out).mono ?_); (case side1 => repeat (first | (with_reducible first | exact HI0.out | apply IsS103.alloc | apply IsS103.drewN | apply IsS103.drew | apply IsS103.set_1 | apply IsS103.set_2) | exact HI0.out)); (case side2 => repeat (first | (with_reducible first | exact HB.out|apply bA|apply bN|apply bD | refine below_set ?_ (IsS103.ge HI0.out)) | exact HB.out)); rintro e w26 ⟨rfl, hi, hb, hk⟩; refine ⟨_, rfl, ?_⟩; have n0_ := Aside0.mk (Kd.R_mono (Kd.R_keep (IsS103.apart (show IsS103 w0 _ g s0_0 x1001_1 x1002_1 from by repeat (first | (with_reducible first | exact HI0.out | apply IsS103.alloc | apply IsS103.drewN | apply IsS103.drew | apply IsS103.set_1 | apply IsS103.set_2) | exact HI0.out)) (by (with_reducible repeat (first|apply rA|apply rN|apply rD)); exact HO_5.out) (by decide)) hk (fun _ h => h.2)) (fun _ h => h.1)); have n1_ := Aside0.mk (KeepBut.trans (by repeat (first | (with_reducible first | exact HK.out | apply KeepBut.set_ | apply keep_drewN | apply keep_drew | apply keep_alloc) | exact HK.out)) hk (.inl rfl)); have n2_ := Aside0.mk (hb); have n3_ := Aside0.mk (hi); clear HO_5; clear HK; clear HB; clear HI0; have HO_5 := n0_; have HK := n1_; have HB := n2_; have HI0 := n3_; clear n0_ n1_ n2_ n3_; (try clear hb); (try clear hb2); (try clear hk); (try clear hi); have p317 : 0 ≤ (t314 : Int) := of_decide_eq_true (by first | (with_reducible assumption) | assumption); have q317 : t314 < (x5_1.length : Int) := of_decide_eq_true (by first | (with_reducible assumption) | assumption); obtain ⟨ad317, e317, hx317_0, hx317_1⟩ := at_T69 (Kd.R_reads' HO_5.out).2.2 t314 p317 q317; cases e317; replace p317 := eq_true p317; replace q317 := eq_true q317) | ((with_reducible refine gate_dst (N := 7) rfl ?_); refine box_event ?hg (N := 7) ?hd (cs := #[.int .i64 0, .int .i64 0]) (t := 69) ?hr ?_; (case hd => rfl); (case hg => rfl); (case hr => first | (go_simp; done) | (go_simp; rfl)); intro gb318 hg w27 hbox hb; have n0_ := Aside0.mk (Kd.R_below (Kd.R_elderB (by (with_reducible repeat (first|apply rA|apply rN|apply rD)); exact HO_5.out) gb318 (Nat.le_of_eq hg.symm)) hb); have n1_ := Aside0.mk (IsS103.below (by repeat (first | (with_reducible first | exact HI0.out | apply IsS103.alloc | apply IsS103.drewN | apply IsS103.drew | apply IsS103.set_1 | apply IsS103.set_2) | exact HI0.out)) hb); have n2_ := Aside0.mk (KeepBut.trans (by repeat (first | (with_reducible first | exact HK.out | apply KeepBut.set_ | apply keep_drewN | apply keep_drew | apply keep_alloc) | exact HK.out)) (KeepBut.of_below hb g none) (.inl rfl)); have n3_ := Aside0.mk (below_step (by repeat (first | (with_reducible first | exact HB.out|apply bA|apply bN|apply bD | refine below_set ?_ (IsS103.ge HI0.out)) | exact HB.out)) hb); have n4_ := Aside0.mk (hbox); have n5_ := Aside0.mk ((by rw [hg]; exact (keep_size (w := w) (g := g) (row := none) (by repeat (first | (with_reducible first | exact HK.out | apply KeepBut.set_ | apply keep_drewN | apply keep_drew | apply keep_alloc) | exact HK.out))) : w.heap.size ≤ gb318)); have n6_ := Aside0.mk ((Nat.le_trans HW0.out (by rw [hg]; exact (keep_size (w := w) (g := g) (row := none) (by repeat (first | (with_reducible first | exact HK.out | apply KeepBut.set_ | apply keep_drewN | apply keep_drew | apply keep_alloc) | exact HK.out))) : w.heap.size ≤ gb318) : w0.heap.size ≤ gb318)); have n7_ := Aside0.mk ((by rw [hg]; exact Nat.ne_of_lt (IsS103.lt (show IsS103 w0 _ g s0_0 t315 t316 from by repeat (first | (with_reducible first | exact HI0.out | apply IsS103.alloc | apply IsS103.drewN | apply IsS103.drew | apply IsS103.set_1 | apply IsS103.set_2) | exact HI0.out))) : g ≠ gb318)); have n8_ := Aside0.mk ((by rw [hg]; exact Nat.ne_of_gt (IsS103.lt (show IsS103 w0 _ g s0_0 t315 t316 from by repeat (first | (with_reducible first | exact HI0.out | apply IsS103.alloc | apply IsS103.drewN | apply IsS103.drew | apply IsS103.set_1 | apply IsS103.set_2) | exact HI0.out))) : gb318 ≠ g)); clear HO_5; clear HI0; clear HK; clear HB; have HO_5 := n0_; have HI0 := n1_; have HK := n2_; have HB := n3_; have BK318 := n4_; have GW318 := n5_; have GE318 := n6_; have NB0_318 := n7_; have NB318_0 := n8_; clear n0_ n1_ n2_ n3_ n4_ n5_ n6_ n7_ n8_; clear hb hbox hg; have hnb28 := NB318_0.out; have hnc28 := NB0_318.out; have hcz29_0 : w27.cell? ⟨gb318, 0, none⟩ = some (.int .i64 0) := (blk_cell BK318.out 0).trans rfl; have hcz29_1 : w27.cell? ⟨gb318, 1, none⟩ = some (.int .i64 0) := (blk_cell BK318.out 1).trans rfl; have hfz29_0 := blk_frozen BK318.out 0; have hfz29_1 := blk_frozen BK318.out 1) | ((with_reducible refine gate_dst (N := 32) rfl ?_); refine Kd.R_lit (Kd.int .i64) _ 3 ?hg (N := 32) ?hd (xs := ([1, 0] : List Int)) (inner := [.int .i64 1, .int .i64 0]) (ok := fun _ => True) (okp := fun _ => True) ?hr ?hp (fun _ hk => hk) trivial (Below.refl _ _) (Nat.le_refl _) (by simp) ?_; (case hd => rfl); (case hg => rfl); (case hr => first | (go_simp; done) | (go_simp; rfl)); (case hp => exact (Reps.one (show Kd.M (Kd.int .i64) _ _ _ 1 [.int .i64 1] from rfl) (Reps.one (show Kd.M (Kd.int .i64) _ _ _ 0 [.int .i64 0] from rfl) (Reps.none _ _)))); intro v320 w30 ho31 hb hg_ hnew_; clear hg_ hnew_; (first | rw [← Ny319.out] at ho31 | (simp only [Int.reduceToNat] at ho31; rw [← Ny319.out] at ho31)); have n0_ := Aside0.mk (Kd.R_below (by (with_reducible repeat (first|apply rA|apply rN|apply rD)); exact (Kd.R_mono (Kd.R_far (p := ⟨gb318, 1, none⟩) (Kd.R_far (p := ⟨gb318, 0, none⟩) (Kd.R_mono HO_5.out (fun k_ hk => (⟨hk, hk.2⟩ : _ ∧ k_ ≠ gb318))) (fun _ hk => hk.2) (.int .i64 ((rd_T69 x5_1 t314).f0))) (fun _ hk => hk.2) (.int .i64 ((rd_T69 x5_1 t314).f1))) (fun _ h_ => h_.1))) hb); have n1_ := Aside0.mk (Kd.R_lower ho31 (keep_size (w := w) (g := g) (row := none) (by repeat (first | (with_reducible first | exact HK.out | apply KeepBut.set_ | apply keep_drewN | apply keep_drew | apply keep_alloc | refine keep_far ?_ GW318.out _) | exact HK.out)))); have n2_ := Aside0.mk (IsS103.below (show IsS103 w0 ((w27.setCell ⟨gb318, 0, none⟩ (.int .i64 ((rd_T69 x5_1 t314).f0))).setCell ⟨gb318, 1, none⟩ (.int .i64 ((rd_T69 x5_1 t314).f1))) g s0_0 t315 t316 from by repeat (first | (with_reducible first | exact HI0.out | apply IsS103.alloc | apply IsS103.drewN | apply IsS103.drew | apply IsS103.set_1 | apply IsS103.set_2 | refine IsS103.far ?_ NB0_318.out _) | exact HI0.out)) hb); have n3_ := Aside0.mk (blk_below (g := gb318) (o := .cells #[.int .i64 ((rd_T69 x5_1 t314).f0), .int .i64 ((rd_T69 x5_1 t314).f1)] 69 (0, 0)) (by (with_reducible repeat (first|refine kN ?_ _|refine kD ?_|refine kA ?_ _)); refine blk_put (cs := #[.int .i64 ((rd_T69 x5_1 t314).f0), .int .i64 0]) ?_ 1 _ rfl; (with_reducible repeat (first|refine kN ?_ _|refine kD ?_|refine kA ?_ _)); refine blk_put (cs := #[.int .i64 0, .int .i64 0]) ?_ 0 _ rfl; (with_reducible repeat (first|refine kN ?_ _|refine kD ?_|refine kA ?_ _)); exact BK318.out) hb); have n4_ := Aside0.mk (KeepBut.trans (by repeat (first | (with_reducible first | exact HK.out | apply KeepBut.set_ | apply keep_drewN | apply keep_drew | apply keep_alloc | refine keep_far ?_ GW318.out _) | exact HK.out)) (KeepBut.of_below hb g none) (.inl rfl)); have n5_ := Aside0.mk (below_step (by repeat (first | (with_reducible first | exact HB.out|apply bA|apply bN|apply bD | refine below_set ?_ (IsS103.ge HI0.out) | refine below_set ?_ GE318.out) | exact HB.out)) hb); clear HO_5; clear HI0; clear BK318; clear HK; clear HB; have HO_5 := n0_; have HO321 := n1_; have HI0 := n2_; have BK318 := n3_; have HK := n4_; have HB := n5_; clear n0_ n1_ n2_ n3_ n4_ n5_; clear hb ho31) | ((with_reducible refine gate_dst (N := 33) rfl ?_); refine Kd.R_lit (Kd.int .i64) _ 3 ?hg (N := 33) ?hd (xs := ([(-1), 0] : List Int)) (inner := [.int .i64 (-1), .int .i64 0]) (ok := fun _ => True) (okp := fun _ => True) ?hr ?hp (fun _ hk => hk) trivial (Below.refl _ _) (Nat.le_refl _) (by simp) ?_; (case hd => rfl); (case hg => rfl); (case hr => first | (go_simp; done) | (go_simp; rfl)); (case hp => exact (Reps.one (show Kd.M (Kd.int .i64) _ _ _ (-1) [.int .i64 (-1)] from rfl) (Reps.one (show Kd.M (Kd.int .i64) _ _ _ 0 [.int .i64 0] from rfl) (Reps.none _ _)))); intro v323 w32 ho33 hb hg_ hnew_; clear hg_ hnew_; (first | rw [← Ny322.out] at ho33 | (simp only [Int.reduceToNat] at ho33; rw [← Ny322.out] at ho33)); have n0_ := Aside0.mk (Kd.R_below (by (with_reducible repeat (first|apply rA|apply rN|apply rD)); exact HO_5.out) hb); have n1_ := Aside0.mk (Kd.R_elder' (by (with_reducible repeat (first|apply rA|apply rN|apply rD)); exact HO321.out) (Kd.R_base ho33) hb); have n2_ := Aside0.mk (Kd.R_lower (Kd.R_new' ho33 (Kd.R_lt (by (with_reducible repeat (first|apply rA|apply rN|apply rD)); exact HO321.out))) (keep_size (w := w) (g := g) (row := none) (by repeat (first | (with_reducible first | exact HK.out | apply KeepBut.set_ | apply keep_drewN | apply keep_drew | apply keep_alloc | refine keep_far ?_ GW318.out _) | exact HK.out)))); have n3_ := Aside0.mk (IsS103.below (by repeat (first | (with_reducible first | exact HI0.out | apply IsS103.alloc | apply IsS103.drewN | apply IsS103.drew | apply IsS103.set_1 | apply IsS103.set_2 | refine IsS103.far ?_ NB0_318.out _) | exact HI0.out)) hb); have n4_ := Aside0.mk (blk_below (g := gb318) (o := .cells #[.int .i64 ((rd_T69 x5_1 t314).f0), .int .i64 ((rd_T69 x5_1 t314).f1)] 69 (0, 0)) (by (with_reducible repeat (first|refine kN ?_ _|refine kD ?_|refine kA ?_ _)); exact BK318.out) hb); have n5_ := Aside0.mk (KeepBut.trans (by repeat (first | (with_reducible first | exact HK.out | apply KeepBut.set_ | apply keep_drewN | apply keep_drew | apply keep_alloc | refine keep_far ?_ GW318.out _) | exact HK.out)) (KeepBut.of_below hb g none) (.inl rfl)); have n6_ := Aside0.mk (below_step (by repeat (first | (with_reducible first | exact HB.out|apply bA|apply bN|apply bD | refine below_set ?_ (IsS103.ge HI0.out) | refine below_set ?_ GE318.out) | exact HB.out)) hb); clear HO_5; clear HO321; clear HI0; clear BK318; clear HK; clear HB; have HO_5 := n0_; have HO321 := n1_; have HO324 := n2_; have HI0 := n3_; have BK318 := n4_; have HK := n5_; have HB := n6_; clear n0_ n1_ n2_ n3_ n4_ n5_ n6_; clear hb ho33) | ((with_reducible refine gate_dst (N := 34) rfl ?_); refine Kd.R_lit (Kd.int .i64) _ 3 ?hg (N := 34) ?hd (xs := ([0, 1] : List Int)) (inner := [.int .i64 0, .int .i64 1]) (ok := fun _ => True) (okp := fun _ => True) ?hr ?hp (fun _ hk => hk) trivial (Below.refl _ _) (Nat.le_refl _) (by simp) ?_; (case hd => rfl); (case hg => rfl); (case hr => first | (go_simp; done) | (go_simp; rfl)); (case hp => exact (Reps.one (show Kd.M (Kd.int .i64) _ _ _ 0 [.int .i64 0] from rfl) (Reps.one (show Kd.M (Kd.int .i64) _ _ _ 1 [.int .i64 1] from rfl) (Reps.none _ _)))); intro v326 w34 ho35 hb hg_ hnew_; clear hg_ hnew_; (first | rw [← Ny325.out] at ho35 | (simp only [Int.reduceToNat] at ho35; rw [← Ny325.out] at ho35)); have n0_ := Aside0.mk (Kd.R_below (by (with_reducible repeat (first|apply rA|apply rN|apply rD)); exact HO_5.out) hb); have n1_ := Aside0.mk (Kd.R_elder' (by (with_reducible repeat (first|apply rA|apply rN|apply rD)); exact HO321.out) (Kd.R_base ho35) hb); have n2_ := Aside0.mk (Kd.R_elder' (by (with_reducible repeat (first|apply rA|apply rN|apply rD)); exact HO324.out) (Kd.R_base ho35) hb); have n3_ := Aside0.mk (Kd.R_lower (Kd.R_new' (Kd.R_new' ho35 (Kd.R_lt (by (with_reducible repeat (first|apply rA|apply rN|apply rD)); exact HO321.out))) (Kd.R_lt (by (with_reducible repeat (first|apply rA|apply rN|apply rD)); exact HO324.out))) (keep_size (w := w) (g := g) (row := none) (by repeat (first | (with_reducible first | exact HK.out | apply KeepBut.set_ | apply keep_drewN | apply keep_drew | apply keep_alloc | refine keep_far ?_ GW318.out _) | exact HK.out)))); have n4_ := Aside0.mk (IsS103.below (by repeat (first | (with_reducible first | exact HI0.out | apply IsS103.alloc | apply IsS103.drewN | apply IsS103.drew | apply IsS103.set_1 | apply IsS103.set_2 | refine IsS103.far ?_ NB0_318.out _) | exact HI0.out)) hb); have n5_ := Aside0.mk (blk_below (g := gb318) (o := .cells #[.int .i64 ((rd_T69 x5_1 t314).f0), .int .i64 ((rd_T69 x5_1 t314).f1)] 69 (0, 0)) (by (with_reducible repeat (first|refine kN ?_ _|refine kD ?_|refine kA ?_ _)); exact BK318.out) hb); have n6_ := Aside0.mk (KeepBut.trans (by repeat (first | (with_reducible first | exact HK.out | apply KeepBut.set_ | apply keep_drewN | apply keep_drew | apply keep_alloc | refine keep_far ?_ GW318.out _) | exact HK.out)) (KeepBut.of_below hb g none) (.inl rfl)); have n7_ := Aside0.mk (below_step (by repeat (first | (with_reducible first | exact HB.out|apply bA|apply bN|apply bD | refine below_set ?_ (IsS103.ge HI0.out) | refine below_set ?_ GE318.out) | exact HB.out)) hb); clear HO_5; clear HO321; clear HO324; clear HI0; clear BK318; clear HK; clear HB; have HO_5 := n0_; have HO321 := n1_; have HO324 := n2_; have HO327 := n3_; have HI0 := n4_; have BK318 := n5_; have HK := n6_; have HB := n7_; clear n0_ n1_ n2_ n3_ n4_ n5_ n6_ n7_; clear hb ho35) | ((with_reducible refine gate_dst (N := 35) rfl ?_); refine Kd.R_lit (Kd.int .i64) _ 3 ?hg (N := 35) ?hd (xs := ([0, (-1)] : List Int)) (inner := [.int .i64 0, .int .i64 (-1)]) (ok := fun _ => True) (okp := fun _ => True) ?hr ?hp (fun _ hk => hk) trivial (Below.refl _ _) (Nat.le_refl _) (by simp) ?_; (case hd => rfl); (case hg => rfl); (case hr => first | (go_simp; done) | (go_simp; rfl)); (case hp => exact (Reps.one (show Kd.M (Kd.int .i64) _ _ _ 0 [.int .i64 0] from rfl) (Reps.one (show Kd.M (Kd.int .i64) _ _ _ (-1) [.int .i64 (-1)] from rfl) (Reps.none _ _)))); intro v329 w36 ho37 hb hg_ hnew_; clear hg_ hnew_; (first | rw [← Ny328.out] at ho37 | (simp only [Int.reduceToNat] at ho37; rw [← Ny328.out] at ho37)); have n0_ := Aside0.mk (Kd.R_below (by (with_reducible repeat (first|apply rA|apply rN|apply rD)); exact HO_5.out) hb); have n1_ := Aside0.mk (Kd.R_elder' (by (with_reducible repeat (first|apply rA|apply rN|apply rD)); exact HO321.out) (Kd.R_base ho37) hb); have n2_ := Aside0.mk (Kd.R_elder' (by (with_reducible repeat (first|apply rA|apply rN|apply rD)); exact HO324.out) (Kd.R_base ho37) hb); have n3_ := Aside0.mk (Kd.R_elder' (by (with_reducible repeat (first|apply rA|apply rN|apply rD)); exact HO327.out) (Kd.R_base ho37) hb); have n4_ := Aside0.mk (Kd.R_lower (Kd.R_new' (Kd.R_new' (Kd.R_new' ho37 (Kd.R_lt (by (with_reducible repeat (first|apply rA|apply rN|apply rD)); exact HO321.out))) (Kd.R_lt (by (with_reducible repeat (first|apply rA|apply rN|apply rD)); exact HO324.out))) (Kd.R_lt (by (with_reducible repeat (first|apply rA|apply rN|apply rD)); exact HO327.out))) (keep_size (w := w) (g := g) (row := none) (by repeat (first | (with_reducible first | exact HK.out | apply KeepBut.set_ | apply keep_drewN | apply keep_drew | apply keep_alloc | refine keep_far ?_ GW318.out _) | exact HK.out)))); have n5_ := Aside0.mk (IsS103.below (by repeat (first | (with_reducible first | exact HI0.out | apply IsS103.alloc | apply IsS103.drewN | apply IsS103.drew | apply IsS103.set_1 | apply IsS103.set_2 | refine IsS103.far ?_ NB0_318.out _) | exact HI0.out)) hb); have n6_ := Aside0.mk (blk_below (g := gb318) (o := .cells #[.int .i64 ((rd_T69 x5_1 t314).f0), .int .i64 ((rd_T69 x5_1 t314).f1)] 69 (0, 0)) (by (with_reducible repeat (first|refine kN ?_ _|refine kD ?_|refine kA ?_ _)); exact BK318.out) hb); have n7_ := Aside0.mk (KeepBut.trans (by repeat (first | (with_reducible first | exact HK.out | apply KeepBut.set_ | apply keep_drewN | apply keep_drew | apply keep_alloc | refine keep_far ?_ GW318.out _) | exact HK.out)) (KeepBut.of_below hb g none) (.inl rfl)); have n8_ := Aside0.mk (below_step (by repeat (first | (with_reducible first | exact HB.out|apply bA|apply bN|apply bD | refine below_set ?_ (IsS103.ge HI0.out) | refine below_set ?_ GE318.out) | exact HB.out)) hb); clear HO_5; clear HO321; clear HO324; clear HO327; clear HI0; clear BK318; clear HK; clear HB; have HO_5 := n0_; have HO321 := n1_; have HO324 := n2_; have HO327 := n3_; have HO330 := n4_; have HI0 := n5_; have BK318 := n6_; have HK := n7_; have HB := n8_; clear n0_ n1_ n2_ n3_ n4_ n5_ n6_ n7_ n8_; clear hb ho37; obtain ⟨Ao38, co38, eo38⟩ := Kd.R_slice HO321.out; subst eo38; obtain ⟨Ao39, co39, eo39⟩ := Kd.R_slice HO324.out; subst eo39; obtain ⟨Ao40, co40, eo40⟩ := Kd.R_slice HO327.out; subst eo40; obtain ⟨Ao41, co41, eo41⟩ := Kd.R_slice HO330.out; subst eo41) | ((with_reducible refine gate_dst (N := 36) rfl ?_); refine Kd.N_lit (Kd.slice 3 (Kd.int .i64)) _ 31 ?hg (N' := 36) ?hd (xs := ([y319, y322, y325, y328] : List (List Int))) (inner := [.slice Ao38 y319.length co38, .slice Ao39 y322.length co39, .slice Ao40 y325.length co40, .slice Ao41 y328.length co41]) (ok := (fun k_ => some k_ ≠ (.slice (some ad317) x5_1.length co25 : Value).ownBlock ∧ k_ ≠ gb318 ∧ k_ ≠ g)) (okp := (fun k_ => some k_ ≠ (.slice (some ad317) x5_1.length co25 : Value).ownBlock ∧ k_ ≠ gb318 ∧ k_ ≠ g)) ?hr ?hp (fun _ hk => hk) ((show ∀ k_, w36.heap.size ≤ k_ → (fun k_ => some k_ ≠ (.slice (some ad317) x5_1.length co25 : Value).ownBlock ∧ k_ ≠ gb318 ∧ k_ ≠ g) k_ from fun k_ hk => ⟨Kd.fresh' (Kd.R_lt (by (with_reducible repeat (first|apply rA|apply rN|apply rD)); exact HO_5.out)) k_ hk, Kd.freshB (g := gb318) (o := .cells #[.int .i64 ((rd_T69 x5_1 t314).f0), .int .i64 ((rd_T69 x5_1 t314).f1)] 69 (0, 0)) (by (with_reducible repeat (first|refine kN ?_ _|refine kD ?_|refine kA ?_ _)); exact BK318.out) k_ hk, IsS103.fresh (by repeat (first | (with_reducible first | exact HI0.out | apply IsS103.alloc | apply IsS103.drewN | apply IsS103.drew | apply IsS103.set_1 | apply IsS103.set_2 | refine IsS103.far ?_ NB0_318.out _) | exact HI0.out)) k_ hk⟩) _ (Nat.le_refl _)) (Below.refl _ _) (Nat.le_refl _) (by simp) ?_; (case hd => rfl); (case hg => rfl); (case hr => first | (go_simp; done) | (go_simp; rfl)); (case hp => exact (Reps.one (show Kd.FK (Kd.slice 3 (Kd.int .i64)) _ _ y319 [.slice Ao38 y319.length co38] from (Kd.FK_slice_mk (Kd.R_reads' (Kd.R_mono (ok' := (fun k_ => some k_ ≠ (.slice (some ad317) x5_1.length co25 : Value).ownBlock ∧ k_ ≠ gb318 ∧ k_ ≠ g)) (IsS103.apart HI0.out (Kd.R_types (Kd.R_apart' (HO321.out) (Kd.R_typed HO_5.out) (by decide)) BK318.out (by decide)) (by decide)) (fun k_ hk => ⟨hk.1.1.2, ⟨hk.1.2, hk.2⟩⟩))).2.1 (Kd.R_F (Kd.R_mono (ok' := (fun k_ => some k_ ≠ (.slice (some ad317) x5_1.length co25 : Value).ownBlock ∧ k_ ≠ gb318 ∧ k_ ≠ g)) (IsS103.apart HI0.out (Kd.R_types (Kd.R_apart' (HO321.out) (Kd.R_typed HO_5.out) (by decide)) BK318.out (by decide)) (by decide)) (fun k_ hk => ⟨hk.1.1.2, ⟨hk.1.2, hk.2⟩⟩))))) (Reps.one (show Kd.FK (Kd.slice 3 (Kd.int .i64)) _ _ y322 [.slice Ao39 y322.length co39] from (Kd.FK_slice_mk (Kd.R_reads' (Kd.R_mono (ok' := (fun k_ => some k_ ≠ (.slice (some ad317) x5_1.length co25 : Value).ownBlock ∧ k_ ≠ gb318 ∧ k_ ≠ g)) (IsS103.apart HI0.out (Kd.R_types (Kd.R_apart' (HO324.out) (Kd.R_typed HO_5.out) (by decide)) BK318.out (by decide)) (by decide)) (fun k_ hk => ⟨hk.1.1.2, ⟨hk.1.2, hk.2⟩⟩))).2.1 (Kd.R_F (Kd.R_mono (ok' := (fun k_ => some k_ ≠ (.slice (some ad317) x5_1.length co25 : Value).ownBlock ∧ k_ ≠ gb318 ∧ k_ ≠ g)) (IsS103.apart HI0.out (Kd.R_types (Kd.R_apart' (HO324.out) (Kd.R_typed HO_5.out) (by decide)) BK318.out (by decide)) (by decide)) (fun k_ hk => ⟨hk.1.1.2, ⟨hk.1.2, hk.2⟩⟩))))) (Reps.one (show Kd.FK (Kd.slice 3 (Kd.int .i64)) _ _ y325 [.slice Ao40 y325.length co40] from (Kd.FK_slice_mk (Kd.R_reads' (Kd.R_mono (ok' := (fun k_ => some k_ ≠ (.slice (some ad317) x5_1.length co25 : Value).ownBlock ∧ k_ ≠ gb318 ∧ k_ ≠ g)) (IsS103.apart HI0.out (Kd.R_types (Kd.R_apart' (HO327.out) (Kd.R_typed HO_5.out) (by decide)) BK318.out (by decide)) (by decide)) (fun k_ hk => ⟨hk.1.1.2, ⟨hk.1.2, hk.2⟩⟩))).2.1 (Kd.R_F (Kd.R_mono (ok' := (fun k_ => some k_ ≠ (.slice (some ad317) x5_1.length co25 : Value).ownBlock ∧ k_ ≠ gb318 ∧ k_ ≠ g)) (IsS103.apart HI0.out (Kd.R_types (Kd.R_apart' (HO327.out) (Kd.R_typed HO_5.out) (by decide)) BK318.out (by decide)) (by decide)) (fun k_ hk => ⟨hk.1.1.2, ⟨hk.1.2, hk.2⟩⟩))))) (Reps.one (show Kd.FK (Kd.slice 3 (Kd.int .i64)) _ _ y328 [.slice Ao41 y328.length co41] from (Kd.FK_slice_mk (Kd.R_reads' (Kd.R_mono (ok' := (fun k_ => some k_ ≠ (.slice (some ad317) x5_1.length co25 : Value).ownBlock ∧ k_ ≠ gb318 ∧ k_ ≠ g)) (IsS103.apart HI0.out (Kd.R_types (Kd.R_apart' (HO330.out) (Kd.R_typed HO_5.out) (by decide)) BK318.out (by decide)) (by decide)) (fun k_ hk => ⟨hk.1.1.2, ⟨hk.1.2, hk.2⟩⟩))).2.1 (Kd.R_F (Kd.R_mono (ok' := (fun k_ => some k_ ≠ (.slice (some ad317) x5_1.length co25 : Value).ownBlock ∧ k_ ≠ gb318 ∧ k_ ≠ g)) (IsS103.apart HI0.out (Kd.R_types (Kd.R_apart' (HO330.out) (Kd.R_typed HO_5.out) (by decide)) BK318.out (by decide)) (by decide)) (fun k_ hk => ⟨hk.1.1.2, ⟨hk.1.2, hk.2⟩⟩))))) (Reps.none _ _)))))); intro v332 w42 ho43 hb hg_ hnew_; clear hg_ hnew_; (first | rw [← Ny331.out] at ho43 | (simp only [Int.reduceToNat] at ho43; rw [← Ny331.out] at ho43)); have n0_ := Aside0.mk (Kd.R_below (by (with_reducible repeat (first|apply rA|apply rN|apply rD)); exact HO_5.out) hb); have n1_ := Aside0.mk (Kd.N_lower ho43 (keep_size (w := w) (g := g) (row := none) (by repeat (first | (with_reducible first | exact HK.out | apply KeepBut.set_ | apply keep_drewN | apply keep_drew | apply keep_alloc | refine keep_far ?_ GW318.out _) | exact HK.out)))); have n2_ := Aside0.mk (IsS103.below (by repeat (first | (with_reducible first | exact HI0.out | apply IsS103.alloc | apply IsS103.drewN | apply IsS103.drew | apply IsS103.set_1 | apply IsS103.set_2 | refine IsS103.far ?_ NB0_318.out _) | exact HI0.out)) hb); have n3_ := Aside0.mk (blk_below (g := gb318) (o := .cells #[.int .i64 ((rd_T69 x5_1 t314).f0), .int .i64 ((rd_T69 x5_1 t314).f1)] 69 (0, 0)) (by (with_reducible repeat (first|refine kN ?_ _|refine kD ?_|refine kA ?_ _)); exact BK318.out) hb); have n4_ := Aside0.mk (KeepBut.trans (by repeat (first | (with_reducible first | exact HK.out | apply KeepBut.set_ | apply keep_drewN | apply keep_drew | apply keep_alloc | refine keep_far ?_ GW318.out _) | exact HK.out)) (KeepBut.of_below hb g none) (.inl rfl)); have n5_ := Aside0.mk (below_step (by repeat (first | (with_reducible first | exact HB.out|apply bA|apply bN|apply bD | refine below_set ?_ (IsS103.ge HI0.out) | refine below_set ?_ GE318.out) | exact HB.out)) hb); clear HO_5; clear HI0; clear BK318; clear HK; clear HB; clear HO321; clear HO324; clear HO327; clear HO330; have HO_5 := n0_; have HO333 := n1_; have HI0 := n2_; have BK318 := n3_; have HK := n4_; have HB := n5_; clear n0_ n1_ n2_ n3_ n4_ n5_; clear hb ho43) | ((with_reducible refine gate_callee (f := 69) rfl ?_); refine goesL_ (some 38) rfl rfl Try.func69 (by kernel_rfl) rfl #[.pointer (some ⟨g, 0, none⟩), .int .i64 4] rfl (by (try simp only [zE,zF,zG]); first|done|rfl|(simp only [zH,zI]; rfl)) ?_; (with_reducible refine (spec_l01Below.calls g s0_0 t315 t316 4 t334 t335 t336 w0 _ ?side1 ?side2 A15.out).mono ?_); (case side1 => repeat (first | (with_reducible first | exact HI0.out | apply IsS103.alloc | apply IsS103.drewN | apply IsS103.drew | apply IsS103.set_1 | apply IsS103.set_2 | refine IsS103.far ?_ NB0_318.out _) | exact HI0.out)); (case side2 => repeat (first | (with_reducible first | exact HB.out|apply bA|apply bN|apply bD | refine below_set ?_ (IsS103.ge HI0.out) | refine below_set ?_ GE318.out) | exact HB.out)); rintro e w44 ⟨rfl, hi, hb, hk⟩; refine ⟨_, rfl, ?_⟩; have n0_ := Aside0.mk (Kd.R_mono (Kd.R_keep (IsS103.apart (show IsS103 w0 _ g s0_0 t315 t316 from by repeat (first | (with_reducible first | exact HI0.out | apply IsS103.alloc | apply IsS103.drewN | apply IsS103.drew | apply IsS103.set_1 | apply IsS103.set_2 | refine IsS103.far ?_ NB0_318.out _) | exact HI0.out)) (by (with_reducible repeat (first|apply rA|apply rN|apply rD)); exact HO_5.out) (by decide)) hk (fun _ h => h.2)) (fun _ h => h.1)); have n1_ := Aside0.mk (KeepBut.blk hk (g' := gb318) (o := .cells #[.int .i64 ((rd_T69 x5_1 t314).f0), .int .i64 ((rd_T69 x5_1 t314).f1)] 69 (0, 0)) (by (with_reducible repeat (first|refine kN ?_ _|refine kD ?_|refine kA ?_ _)); exact BK318.out) NB318_0.out (by simp)); have n2_ := Aside0.mk (Kd.N_mono (Kd.N_keep (Kd.N_mono (ok := fun k_ => (some k_ ≠ (.slice (some ad317) x5_1.length co25 : Value).ownBlock ∧ (k_ ≠ gb318 ∧ k_ ≠ g))) (by (with_reducible repeat (first | apply Kd.N_alloc | apply Kd.N_drewN | apply Kd.N_drew)); exact HO333.out) (fun k_ hk_ => (⟨hk_, hk_.2.2⟩ : _ ∧ k_ ≠ g))) hk (fun _ h => h.2)) (fun _ h => h.1)); have n3_ := Aside0.mk (KeepBut.trans (by repeat (first | (with_reducible first | exact HK.out | apply KeepBut.set_ | apply keep_drewN | apply keep_drew | apply keep_alloc | refine keep_far ?_ GW318.out _) | exact HK.out)) hk (.inl rfl)); have n4_ := Aside0.mk (hb); have n5_ := Aside0.mk (hi); clear HO_5; clear BK318; clear HO333; clear HK; clear HB; clear HI0; have HO_5 := n0_; have BK318 := n1_; have HO333 := n2_; have HK := n3_; have HB := n4_; have HI0 := n5_; clear n0_ n1_ n2_ n3_ n4_ n5_; (try clear hb); (try clear hb2); (try clear hk); (try clear hi); obtain ⟨Ao45, co45, eo45⟩ := Kd.N_slice HO333.out; subst eo45; have p337 : 0 ≤ (t334 : Int) := of_decide_eq_true (by first | (with_reducible assumption) | assumption); have q337 : t334 < (y331.length : Int) := of_decide_eq_true (by first | (with_reducible assumption) | assumption); obtain ⟨ad337, A337_0, c337_0, e337, hx337_0, hl337_0, hi337_0⟩ := at_L4 (Kd.N_reads' HO333.out).2.2 t334 p337 q337; cases e337; obtain ⟨ce337, hce337, hMe337, hcc337⟩ := Kd.N_get HO333.out [] t334 p337 (by first | exact q337 | exact of_decide_eq_true (by first | (with_reducible assumption) | assumption) | (have e_ := (Kd.N_reads' HO333.out).1; omega)); obtain ⟨ua337_0, uc337_0, rfl, ul337_0, ge337_0⟩ := Kd.FK_slice_open hMe337; have hv337_0 := hcc337 0 _ rfl; rw [Nat.add_zero, show ((Kd.slice 3 (Kd.int .i64))).sz = 1 from rfl, Nat.mul_one] at hv337_0; replace hv337_0 := Option.some.inj (hv337_0.symm.trans hx337_0); injection hv337_0 with hva_ hvn_ hvc_; rw [hva_] at ge337_0; rw [hvc_] at ul337_0; have HL337_0 := Aside0.mk (show Kd.V (Kd.int .i64) 3 _ w.heap.size _ _ (rd_L4 y331 t334) from Kd.V_mk ul337_0 ge337_0); clear hva_ hvn_ hvc_ ge337_0 ul337_0; clear hcc337 hce337; have HR337_0 := Aside0.mk hi337_0; have HC337_0 := Aside0.mk hl337_0; clear hi337_0 hl337_0; replace p337 := eq_true p337; replace q337 := eq_true q337))
             have n0_ := Aside0.mk (Kd.R_drew HO_5.out)
             have n1_ := Aside0.mk (Kd.N_drew HO333.out)
             have n2_ := Aside0.mk (Kd.V_drew HL337_0.out)
             have n3_ := Aside0.mk (blk_drew BK318.out)
             have n4_ := Aside0.mk (Kd.C_drew HR337_0.out)
             have n5_ := Aside0.mk (IsS103.drew HI0.out)
             have n6_ := Aside0.mk (keep_drew HK.out)
             have n7_ := Aside0.mk (below_drew1 HB.out)
             clear HO_5
             clear HO333
             clear HL337_0
             clear BK318
             clear HR337_0
             clear HI0
             clear HK
             clear HB
             have HO_5 := n0_
             have HO333 := n1_
             have HL337_0 := n2_
             have BK318 := n3_
             have HR337_0 := n4_
             have HI0 := n5_
             have HK := n6_
             have HB := n7_
             clear n0_ n1_ n2_ n3_ n4_ n5_ n6_ n7_
             have p338 : 0 ≤ (0 : Int) := (by omega)
             have q338 : 0 < ((rd_L4 y331 t334).length : Int) := of_decide_eq_true (by first | (with_reducible assumption) | assumption)
             obtain ⟨ad338, e338, hx338_0⟩ := Kd.at_int (by repeat (first | (with_reducible exact HR337_0.out) | (with_reducible refine Kd.C_alloc ?_ _) | (with_reducible refine Kd.C_drewN ?_ _) | (with_reducible refine Kd.C_drew ?_) | exact HR337_0.out)) 0 p338 q338
             cases e338
             have qi338 : (0 < (rd_L4 y331 t334).length) = True := eq_true (by omega)
             (try rw [show ((0 : Int)).toNat = 0 from rfl] at hx338_0)
             (try rw [Addr.add_zero'] at hx338_0)
             replace p338 := eq_true p338
             replace q338 := eq_true q338
             have p339 : 0 ≤ (1 : Int) := (by omega)
             have q339 : 1 < ((rd_L4 y331 t334).length : Int) := of_decide_eq_true (by first | (with_reducible assumption) | assumption)
             obtain ⟨ad339, e339, hx339_0⟩ := Kd.at_int (by repeat (first | (with_reducible exact HR337_0.out) | (with_reducible refine Kd.C_alloc ?_ _) | (with_reducible refine Kd.C_drewN ?_ _) | (with_reducible refine Kd.C_drew ?_) | exact HR337_0.out)) 1 p339 q339
             obtain rfl : ad338 = ad339 := (by injection e339)
             (try simp only [show (1 : Int).toNat = 1 from rfl, Nat.reduceMul, Nat.reduceEqDiff, Go.Addr.add, ↓reduceIte] at hx339_0)
             have qi339 : (1 < (rd_L4 y331 t334).length) = True := eq_true (by omega)
             (try rw [show ((1 : Int)).toNat = 1 from rfl] at hx339_0)
             replace p339 := eq_true p339
             replace q339 := eq_true q339
             refine start_ (n := 15) (S := fun w' => w'.cell? ⟨gb318, 0, none⟩ = some (.int .i64 ((rd_T69 x5_1 t314).f0)) ∧ w'.cell? ⟨gb318, 1, none⟩ = some (.int .i64 ((rd_T69 x5_1 t314).f1)) ∧ w'.cell? ad338 = some (.int .i64 (rd (rd_L4 y331 t334) 0)) ∧ w'.cell? ⟨ad338.block, ad338.off + 1, none⟩ = some (.int .i64 (rd (rd_L4 y331 t334) 1))) (ds := []) #[ff,ff,ff,ff,ff,ff,ff,ff,ff,ff,ff,ff,ff,ff,ff] (by kernel_rfl) rfl rfl ⟨(blk_cell BK318.out 0).trans rfl, (blk_cell BK318.out 1).trans rfl, hx338_0, hx339_0⟩ (fun hHeld => ?_); refine with_tabW spec_l15Draw.tab7 spec_l15Draw.bits7 (fun HT_ HW_ => ?_)
             generalize w44.drew = w46 at HO_5 HO333 HL337_0 BK318 HR337_0 HI0 HK HB hx338_0 hx339_0 hHeld ⊢
             refine pure_ (i := 0) (N := some 41) (v := ?_) (a' := ?_) (fl 15 1) rfl rfl (any_of HT_.out (by kernel_rfl)) (fun _ _ _ h => h) (Or.inl ⟨by kernel_rfl, ?_⟩) ?_ ?_
             rotate_left
             ·intro w'
              go_simp
              with_reducible rfl
             rotate_left
             ·simp only [Act.put, zA, zB, zC, i64_w, i32_w]
              rfl
             refine pure_ (i := 2) (N := some 43) (v := ?_) (a' := ?_) (fl 15 5) rfl rfl (any_of HT_.out (by kernel_rfl)) (fun _ _ _ h => h) (Or.inl ⟨by kernel_rfl, ?_⟩) ?_ ?_
             rotate_left
             ·intro w'
              go_simp
              with_reducible rfl
             rotate_left
             ·simp only [Act.put, zA, zB, zC, i64_w, i32_w]
              rfl
             refine pure_ (i := 3) (N := some 44) (v := ?_) (a' := ?_) (fl 15 13) rfl rfl (any_of HT_.out (by kernel_rfl)) (fun _ _ _ h => h) (Or.inl ⟨by kernel_rfl, ?_⟩) ?_ ?_
             rotate_left
             ·intro w'
              go_simp
              with_reducible rfl
             rotate_left
             ·simp only [Act.put, zA, zB, zC, i64_w, i32_w]
              rfl
             refine pure_ (i := 6) (N := some 47) (v := ?_) (a' := ?_) (fl 15 77) rfl rfl (any_of HT_.out (by kernel_rfl)) (fun _ _ _ h => h) (Or.inl ⟨by kernel_rfl, ?_⟩) ?_ ?_
             rotate_left
             ·intro w'
              go_simp
              with_reducible rfl
             rotate_left
             ·simp only [Act.put, zA, zB, zC, i64_w, i32_w]
              rfl
             refine pure_ (i := 8) (N := some 49) (v := ?_) (a' := ?_) (fl 15 333) rfl rfl (any_of HT_.out (by kernel_rfl)) (fun _ _ _ h => h) (Or.inl ⟨by kernel_rfl, ?_⟩) ?_ ?_
             rotate_left
             ·intro w'
              go_simp
              with_reducible rfl
             rotate_left
             ·simp only [Act.put, zA, zB, zC, i64_w, i32_w]
              rfl
             refine pure_ (i := 9) (N := some 50) (v := ?_) (a' := ?_) (fl 15 845) rfl rfl (any_of HT_.out (by kernel_rfl)) (fun _ _ _ h => h) (Or.inl ⟨by kernel_rfl, ?_⟩) ?_ ?_
             rotate_left
             ·intro w'
              go_simp
              with_reducible rfl
             rotate_left
             ·simp only [Act.put, zA, zB, zC, i64_w, i32_w]
              rfl
             refine take_ (i := 1) (N := some 42) (v := ?_) (a' := ?_) (fl 15 847) rfl rfl (take_ofW HT_.out HW_.out (by kernel_rfl)) (fun _ _ _ h => h) (Or.inl ⟨by kernel_rfl, ?_⟩) hHeld ?_ ?_
             rotate_left
             ·rintro w' ⟨s0, s1, s2, s3⟩
              go_simp
              with_reducible rfl
             rotate_left
             ·simp only [Act.put, zA, zB, zC, i64_w, i32_w]
              rfl
             refine take_ (i := 4) (N := some 45) (v := ?_) (a' := ?_) (fl 15 863) rfl rfl (take_ofW HT_.out HW_.out (by kernel_rfl)) (fun _ _ _ h => h) (Or.inl ⟨by kernel_rfl, ?_⟩) hHeld ?_ ?_
             rotate_left
             ·rintro w' ⟨s0, s1, s2, s3⟩
              go_simp
              with_reducible rfl
             rotate_left
             ·simp only [Act.put, zA, zB, zC, i64_w, i32_w]
              rfl
             refine pure_ (i := 5) (N := some 46) (v := ?_) (a' := ?_) (fl 15 895) rfl rfl (any_of HT_.out (by kernel_rfl)) (fun _ _ _ h => h) (Or.inl ⟨by kernel_rfl, ?_⟩) ?_ ?_
             rotate_left
             ·intro w'
              go_simp
              with_reducible rfl
             rotate_left
             ·simp only [Act.put, zA, zB, zC, i64_w, i32_w]
              rfl
             refine take_ (i := 7) (N := some 48) (v := ?_) (a' := ?_) (fl 15 1023) rfl rfl (take_ofW HT_.out HW_.out (by kernel_rfl)) (fun _ _ _ h => h) (Or.inl ⟨by kernel_rfl, ?_⟩) hHeld ?_ ?_
             rotate_left
             ·rintro w' ⟨s0, s1, s2, s3⟩
              go_simp
              with_reducible rfl
             rotate_left
             ·simp only [Act.put, zA, zB, zC, i64_w, i32_w]
              rfl
             refine take_ (i := 10) (N := some 51) (v := ?_) (a' := ?_) (fl 15 2047) rfl rfl (take_ofW HT_.out HW_.out (by kernel_rfl)) (fun _ _ _ h => h) (Or.inl ⟨by kernel_rfl, ?_⟩) hHeld ?_ ?_
             rotate_left
             ·rintro w' ⟨s0, s1, s2, s3⟩
              go_simp
              with_reducible rfl
             rotate_left
             ·simp only [Act.put, zA, zB, zC, i64_w, i32_w]
              rfl
             refine pure_ (i := 11) (N := some 52) (v := ?_) (a' := ?_) (fl 15 4095) rfl rfl (any_of HT_.out (by kernel_rfl)) (fun _ _ _ h => h) (Or.inl ⟨by kernel_rfl, ?_⟩) ?_ ?_
             rotate_left
             ·intro w'
              go_simp
              with_reducible rfl
             rotate_left
             ·simp only [Act.put, zA, zB, zC, i64_w, i32_w]
              rfl
             refine pure_ (i := 12) (N := some 53) (v := ?_) (a' := ?_) (fl 15 8191) rfl rfl (any_of HT_.out (by kernel_rfl)) (fun _ _ _ h => h) (Or.inl ⟨by kernel_rfl, ?_⟩) ?_ ?_
             rotate_left
             ·intro w'
              go_simp
              with_reducible rfl
             rotate_left
             ·simp only [Act.put, zA, zB, zC, i64_w, i32_w]
              rfl
             refine one_ (i := 13) (N := some 9) #[tt,tt,tt,tt,tt,tt,tt,tt,tt,tt,tt,tt,tt,tt,ff] rfl rfl (one_of HT_.out (by kernel_rfl)) (by decide) (fun K hK => ?_)
             refine box_step ?hg (N := 9) ?hd (cs := #[.int .i64 0, .int .i64 0]) (t := 69) ?hr ?_; (case hd => rfl); (case hg => rfl); (case hr => first | (go_simp; done) | (go_simp; rfl))
             intro gb340 hg w47 hbox hb
             have HS2_ := (hb.cell (World.block_lt_of_cell? _ _ (hHeld.2.2.1))).trans (hHeld.2.2.1)
             have HS3_ := (hb.cell (World.block_lt_of_cell? _ _ (hHeld.2.2.2))).trans (hHeld.2.2.2)
             have NAF_ := Aside0.mk (Nat.ne_of_lt (Nat.lt_of_lt_of_eq (World.block_lt_of_cell? _ _ hHeld.2.2.1) hg.symm))
             have n0_ := Aside0.mk (Kd.R_below (Kd.R_elderB (by (with_reducible repeat (first|apply rA|apply rN|apply rD)); exact HO_5.out) gb340 (Nat.le_of_eq hg.symm)) hb)
             have n1_ := Aside0.mk (Kd.N_below (Kd.N_elderB (by (with_reducible repeat (first | apply Kd.N_alloc | apply Kd.N_drewN | apply Kd.N_drew)); exact HO333.out) gb340 (Nat.le_of_eq hg.symm)) hb)
             have n2_ := Aside0.mk (Kd.V_below (Kd.V_elderB (by (with_reducible repeat (first | apply Kd.V_alloc | apply Kd.V_drewN | apply Kd.V_drew)); exact HL337_0.out) gb340 (Nat.le_of_eq hg.symm)) hb)
             have n3_ := Aside0.mk (IsS103.below (by repeat (first | (with_reducible first | exact HI0.out | apply IsS103.alloc | apply IsS103.drewN | apply IsS103.drew | apply IsS103.set_1 | apply IsS103.set_2 | refine IsS103.far ?_ NB0_318.out _) | exact HI0.out)) hb)
             have n4_ := Aside0.mk (blk_below (g := gb318) (o := .cells #[.int .i64 ((rd_T69 x5_1 t314).f0), .int .i64 ((rd_T69 x5_1 t314).f1)] 69 (0, 0)) (by (with_reducible repeat (first|refine kN ?_ _|refine kD ?_|refine kA ?_ _)); exact BK318.out) hb)
             have n5_ := Aside0.mk (Kd.C_below (by repeat (first | (with_reducible exact HR337_0.out) | (with_reducible refine Kd.C_alloc ?_ _) | (with_reducible refine Kd.C_drewN ?_ _) | (with_reducible refine Kd.C_drew ?_) | exact HR337_0.out)) hb)
             have n6_ := Aside0.mk (KeepBut.trans (by repeat (first | (with_reducible first | exact HK.out | apply KeepBut.set_ | apply keep_drewN | apply keep_drew | apply keep_alloc | refine keep_far ?_ GW318.out _) | exact HK.out)) (KeepBut.of_below hb g none) (.inl rfl))
             have n7_ := Aside0.mk (below_step (by repeat (first | (with_reducible first | exact HB.out|apply bA|apply bN|apply bD | refine below_set ?_ (IsS103.ge HI0.out) | refine below_set ?_ GE318.out) | exact HB.out)) hb)
             have n8_ := Aside0.mk (hbox)
             have n9_ := Aside0.mk ((by rw [hg]; exact (keep_size (w := w) (g := g) (row := none) (by repeat (first | (with_reducible first | exact HK.out | apply KeepBut.set_ | apply keep_drewN | apply keep_drew | apply keep_alloc | refine keep_far ?_ GW318.out _) | exact HK.out))) : w.heap.size ≤ gb340))
             have n10_ := Aside0.mk ((Nat.le_trans HW0.out (by rw [hg]; exact (keep_size (w := w) (g := g) (row := none) (by repeat (first | (with_reducible first | exact HK.out | apply KeepBut.set_ | apply keep_drewN | apply keep_drew | apply keep_alloc | refine keep_far ?_ GW318.out _) | exact HK.out))) : w.heap.size ≤ gb340) : w0.heap.size ≤ gb340))
             have n11_ := Aside0.mk ((by rw [hg]; exact Nat.ne_of_lt (blk_lt (g := gb318) (o := .cells #[.int .i64 ((rd_T69 x5_1 t314).f0), .int .i64 ((rd_T69 x5_1 t314).f1)] 69 (0, 0)) (by (with_reducible repeat (first|refine kN ?_ _|refine kD ?_|refine kA ?_ _)); exact BK318.out)) : gb318 ≠ gb340))
             have n12_ := Aside0.mk ((by rw [hg]; exact Nat.ne_of_gt (blk_lt (g := gb318) (o := .cells #[.int .i64 ((rd_T69 x5_1 t314).f0), .int .i64 ((rd_T69 x5_1 t314).f1)] 69 (0, 0)) (by (with_reducible repeat (first|refine kN ?_ _|refine kD ?_|refine kA ?_ _)); exact BK318.out)) : gb340 ≠ gb318))
             have n13_ := Aside0.mk ((by rw [hg]; exact Nat.ne_of_lt (IsS103.lt (show IsS103 w0 _ g s0_0 t335 t336 from by repeat (first | (with_reducible first | exact HI0.out | apply IsS103.alloc | apply IsS103.drewN | apply IsS103.drew | apply IsS103.set_1 | apply IsS103.set_2 | refine IsS103.far ?_ NB0_318.out _) | exact HI0.out))) : g ≠ gb340))
             have n14_ := Aside0.mk ((by rw [hg]; exact Nat.ne_of_gt (IsS103.lt (show IsS103 w0 _ g s0_0 t335 t336 from by repeat (first | (with_reducible first | exact HI0.out | apply IsS103.alloc | apply IsS103.drewN | apply IsS103.drew | apply IsS103.set_1 | apply IsS103.set_2 | refine IsS103.far ?_ NB0_318.out _) | exact HI0.out))) : gb340 ≠ g))
             clear HO_5
             clear HO333
             clear HL337_0
             clear HI0
             clear BK318
             clear HR337_0
             clear HK
             clear HB
             have HO_5 := n0_
             have HO333 := n1_
             have HL337_0 := n2_
             have HI0 := n3_
             have BK318 := n4_
             have HR337_0 := n5_
             have HK := n6_
             have HB := n7_
             have BK340 := n8_
             have GW340 := n9_
             have GE340 := n10_
             have NB318_340 := n11_
             have NB340_318 := n12_
             have NB0_340 := n13_
             have NB340_0 := n14_
             clear n0_ n1_ n2_ n3_ n4_ n5_ n6_ n7_ n8_ n9_ n10_ n11_ n12_ n13_ n14_
             clear hb hbox hg
             refine hK.out _ _ ⟨(blk_cell BK318.out 0).trans rfl, (blk_cell BK318.out 1).trans rfl, HS2_, HS3_⟩ (fun hHeld => ?_)
             clear hK K
             refine norm_ (a' := ?_) ?_ ?_
             rotate_left
             ·show Act.put _ (some 9) _ = _
              simp only [Act.put, zA, zB, zC, i64_w, i32_w]
              rfl
             refine one_ (i := 14) (N := none) #[tt,tt,tt,tt,tt,tt,tt,tt,tt,tt,tt,tt,tt,tt,tt] rfl rfl (one_of HT_.out (by kernel_rfl)) (by decide) (fun K hK => ?_)
             have hs48 : w47.cell? ⟨gb340, 0, none⟩ = some (.int .i64 0) := (blk_cell BK340.out 0).trans rfl
             have hfs48 := blk_frozen BK340.out 0
             have hns48_0 := NB318_340.out
             have hms48_0 := NB340_318.out
             have hs49 : w47.cell? ⟨gb340, 1, none⟩ = some (.int .i64 0) := (blk_cell BK340.out 1).trans rfl
             have hfs49 := blk_frozen BK340.out 1
             have hns49_0 := NB318_340.out
             have hms49_0 := NB340_318.out
             refine skip_ (w1 := ?_) (by rfl) rfl ?_ ?_
             rotate_left
             ·go_simp
              rfl
             refine hK.out _ _ ⟨((cell_far (p := ⟨gb340, _, none⟩) NB318_340.out _).trans (((cell_far (p := ⟨gb340, _, none⟩) NB318_340.out _).trans (hHeld.1)))), ((cell_far (p := ⟨gb340, _, none⟩) NB318_340.out _).trans (((cell_far (p := ⟨gb340, _, none⟩) NB318_340.out _).trans (hHeld.2.1)))), ((cell_far (p := ⟨gb340, _, none⟩) (by exact NAF_.out) _).trans (((cell_far (p := ⟨gb340, _, none⟩) (by exact NAF_.out) _).trans (hHeld.2.2.1)))), ((cell_far (p := ⟨gb340, _, none⟩) (by exact NAF_.out) _).trans (((cell_far (p := ⟨gb340, _, none⟩) (by exact NAF_.out) _).trans (hHeld.2.2.2))))⟩ (fun hHeld => ?_)
             clear hK K
             refine done_ (done_of HT_.out (by kernel_rfl)) ?_
             have hnb50 := NB340_318.out
             have hnc50 := NB318_340.out
             have hnb51 := NB340_0.out
             have hnc51 := NB0_340.out
             have hcz52_0 : w47.cell? ⟨gb340, 0, none⟩ = some (.int .i64 0) := (blk_cell BK340.out 0).trans rfl
             have hcz52_1 : w47.cell? ⟨gb340, 1, none⟩ = some (.int .i64 0) := (blk_cell BK340.out 1).trans rfl
             have hfz52_0 := blk_frozen BK340.out 0
             have hfz52_1 := blk_frozen BK340.out 1
             try go_wp2_with (first | (go_at_call 94; (with_reducible refine (spec_CellAt.calls k1 _ _ x5_1 (wrap64 (((rd_T69 x5_1 t314).f0) + (rd (rd_L4 y331 t334) 0))) (wrap64 (((rd_T69 x5_1 t314).f1) + (rd (rd_L4 y331 t334) 1))) t341 _ ?side1 ?side2 A22.out).mono ?_); (case side1 => refine (Kd.R_reads' (e := 69) (base := w.heap.size) (ok := fun k_ => ((True ∧ k_ ≠ gb318) ∧ k_ ≠ gb340)) (n := x5_1.length) (c := co25) ?_).2.2; exact (by (with_reducible repeat (first|apply rA|apply rN|apply rD)); exact (Kd.R_mono (Kd.R_far (p := ⟨gb340, 1, none⟩) (Kd.R_far (p := ⟨gb340, 0, none⟩) (Kd.R_mono HO_5.out (fun k_ hk => (⟨hk, hk.2⟩ : _ ∧ k_ ≠ gb340))) (fun _ hk => hk.2) (.int .i64 (wrap64 (((rd_T69 x5_1 t314).f0) + (rd (rd_L4 y331 t334) 0))))) (fun _ hk => hk.2) (.int .i64 (wrap64 (((rd_T69 x5_1 t314).f1) + (rd (rd_L4 y331 t334) 1))))) (fun _ h_ => h_.1)))); (case side2 => exact (Kd.R_reads' HO_5.out).2.1); rintro e w53 ⟨rfl, hb⟩; have n0_ := Aside0.mk (Kd.R_below (by (with_reducible repeat (first|apply rA|apply rN|apply rD)); exact (Kd.R_mono (Kd.R_far (p := ⟨gb340, 1, none⟩) (Kd.R_far (p := ⟨gb340, 0, none⟩) (Kd.R_mono HO_5.out (fun k_ hk => (⟨hk, hk.2⟩ : _ ∧ k_ ≠ gb340))) (fun _ hk => hk.2) (.int .i64 (wrap64 (((rd_T69 x5_1 t314).f0) + (rd (rd_L4 y331 t334) 0))))) (fun _ hk => hk.2) (.int .i64 (wrap64 (((rd_T69 x5_1 t314).f1) + (rd (rd_L4 y331 t334) 1))))) (fun _ h_ => h_.1))) hb); have n1_ := Aside0.mk (Kd.N_below (by (with_reducible repeat (first | apply Kd.N_alloc | apply Kd.N_drewN | apply Kd.N_drew)); exact (Kd.N_mono (Kd.N_far (p := ⟨gb340, 1, none⟩) (Kd.N_far (p := ⟨gb340, 0, none⟩) (Kd.N_mono HO333.out (fun k_ hk => (⟨hk, hk.2⟩ : _ ∧ k_ ≠ gb340))) (fun _ hk => hk.2) (.int .i64 (wrap64 (((rd_T69 x5_1 t314).f0) + (rd (rd_L4 y331 t334) 0))))) (fun _ hk => hk.2) (.int .i64 (wrap64 (((rd_T69 x5_1 t314).f1) + (rd (rd_L4 y331 t334) 1))))) (fun _ h_ => h_.1))) hb); have n2_ := Aside0.mk (Kd.V_below (by (with_reducible repeat (first | apply Kd.V_alloc | apply Kd.V_drewN | apply Kd.V_drew)); exact (Kd.V_mono (Kd.V_far (p := ⟨gb340, 1, none⟩) (Kd.V_far (p := ⟨gb340, 0, none⟩) (Kd.V_mono HL337_0.out (fun k_ hk => (⟨hk, hk.2⟩ : _ ∧ k_ ≠ gb340))) (fun _ hk => hk.2) (.int .i64 (wrap64 (((rd_T69 x5_1 t314).f0) + (rd (rd_L4 y331 t334) 0))))) (fun _ hk => hk.2) (.int .i64 (wrap64 (((rd_T69 x5_1 t314).f1) + (rd (rd_L4 y331 t334) 1))))) (fun _ h_ => h_.1))) hb); have n3_ := Aside0.mk (IsS103.below (show IsS103 w0 ((w47.setCell ⟨gb340, 0, none⟩ (.int .i64 (wrap64 (((rd_T69 x5_1 t314).f0) + (rd (rd_L4 y331 t334) 0))))).setCell ⟨gb340, 1, none⟩ (.int .i64 (wrap64 (((rd_T69 x5_1 t314).f1) + (rd (rd_L4 y331 t334) 1))))) g s0_0 t335 t336 from by repeat (first | (with_reducible first | exact HI0.out | apply IsS103.alloc | apply IsS103.drewN | apply IsS103.drew | apply IsS103.set_1 | apply IsS103.set_2 | refine IsS103.far ?_ NB0_318.out _ | refine IsS103.far ?_ NB0_340.out _) | exact HI0.out)) hb); have n4_ := Aside0.mk (blk_below (g := gb318) (o := .cells #[.int .i64 ((rd_T69 x5_1 t314).f0), .int .i64 ((rd_T69 x5_1 t314).f1)] 69 (0, 0)) (by (with_reducible repeat (first|refine kN ?_ _|refine kD ?_|refine kA ?_ _)); refine blk_far ?_ NB318_340.out _; (with_reducible repeat (first|refine kN ?_ _|refine kD ?_|refine kA ?_ _)); refine blk_far ?_ NB318_340.out _; (with_reducible repeat (first|refine kN ?_ _|refine kD ?_|refine kA ?_ _)); exact BK318.out) hb); have n5_ := Aside0.mk (Kd.C_below ((Kd.V_reads' (by (with_reducible repeat (first | apply Kd.V_alloc | apply Kd.V_drewN | apply Kd.V_drew)); exact (Kd.V_mono (Kd.V_far (p := ⟨gb340, 1, none⟩) (Kd.V_far (p := ⟨gb340, 0, none⟩) (Kd.V_mono HL337_0.out (fun k_ hk => (⟨hk, hk.2⟩ : _ ∧ k_ ≠ gb340))) (fun _ hk => hk.2) (.int .i64 (wrap64 (((rd_T69 x5_1 t314).f0) + (rd (rd_L4 y331 t334) 0))))) (fun _ hk => hk.2) (.int .i64 (wrap64 (((rd_T69 x5_1 t314).f1) + (rd (rd_L4 y331 t334) 1))))) (fun _ h_ => h_.1)))).2.2) hb); have n6_ := Aside0.mk (blk_below (g := gb340) (o := .cells #[.int .i64 (wrap64 (((rd_T69 x5_1 t314).f0) + (rd (rd_L4 y331 t334) 0))), .int .i64 (wrap64 (((rd_T69 x5_1 t314).f1) + (rd (rd_L4 y331 t334) 1)))] 69 (0, 0)) (by (with_reducible repeat (first|refine kN ?_ _|refine kD ?_|refine kA ?_ _)); refine blk_put (cs := #[.int .i64 (wrap64 (((rd_T69 x5_1 t314).f0) + (rd (rd_L4 y331 t334) 0))), .int .i64 0]) ?_ 1 _ rfl; (with_reducible repeat (first|refine kN ?_ _|refine kD ?_|refine kA ?_ _)); refine blk_put (cs := #[.int .i64 0, .int .i64 0]) ?_ 0 _ rfl; (with_reducible repeat (first|refine kN ?_ _|refine kD ?_|refine kA ?_ _)); exact BK340.out) hb); have n7_ := Aside0.mk (KeepBut.trans (by repeat (first | (with_reducible first | exact HK.out | apply KeepBut.set_ | apply keep_drewN | apply keep_drew | apply keep_alloc | refine keep_far ?_ GW318.out _ | refine keep_far ?_ GW340.out _) | exact HK.out)) (KeepBut.of_below hb g none) (.inl rfl)); have n8_ := Aside0.mk (below_step (by repeat (first | (with_reducible first | exact HB.out|apply bA|apply bN|apply bD | refine below_set ?_ (IsS103.ge HI0.out) | refine below_set ?_ GE318.out | refine below_set ?_ GE340.out) | exact HB.out)) hb); clear HO_5; clear HO333; clear HL337_0; clear HI0; clear BK318; clear HR337_0; clear BK340; clear HK; clear HB; have HO_5 := n0_; have HO333 := n1_; have HL337_0 := n2_; have HI0 := n3_; have BK318 := n4_; have HR337_0 := n5_; have BK340 := n6_; have HK := n7_; have HB := n8_; clear n0_ n1_ n2_ n3_ n4_ n5_ n6_ n7_ n8_; (try clear hb); (try clear hb2); (try clear hk); (try clear hi); have hcz54_0 : w53.cell? ⟨gb340, 0, none⟩ = some (.int .i64 (wrap64 (((rd_T69 x5_1 t314).f0) + (rd (rd_L4 y331 t334) 0)))) := (blk_cell BK340.out 0).trans rfl; have hcz54_1 : w53.cell? ⟨gb340, 1, none⟩ = some (.int .i64 (wrap64 (((rd_T69 x5_1 t314).f1) + (rd (rd_L4 y331 t334) 1)))) := (blk_cell BK340.out 1).trans rfl; have hfz54_0 := blk_frozen BK340.out 0; have hfz54_1 := blk_frozen BK340.out 1) | ((with_reducible refine gate_callee (f := 95) rfl ?_); refine goesL_ (some 73) rfl rfl Try.func95 (by kernel_rfl) rfl #[.slice (some ad317) x5_1.length co25, .agg #[.int .i64 (wrap64 (((rd_T69 x5_1 t314).f0) + (rd (rd_L4 y331 t334) 0))), .int .i64 (wrap64 (((rd_T69 x5_1 t314).f1) + (rd (rd_L4 y331 t334) 1)))]] rfl (by (try simp only [zE,zF,zG]); first|done|rfl|(simp only [zH,zI]; rfl)) ?_; (with_reducible refine (spec_l15Insert.calls k1 _ _ x5_1 (wrap64 (((rd_T69 x5_1 t314).f0) + (rd (rd_L4 y331 t334) 0))) (wrap64 (((rd_T69 x5_1 t314).f1) + (rd (rd_L4 y331 t334) 1))) t342 _ ?side1 ?side2 A24.out).mono ?_); (case side1 => repeat (first | exact (Kd.R_reads' HO_5.out).2.2 | (with_reducible refine Kd.C_alloc ?_ _) | (with_reducible refine Kd.C_drewN ?_ _) | (with_reducible refine Kd.C_drew ?_))); (case side2 => exact (Kd.R_reads' HO_5.out).2.1); rintro e w55 ⟨v343, rfl, ho0, hb⟩; refine ⟨_, rfl, ?_⟩; have n0_ := Aside0.mk (Kd.R_elder' (by (with_reducible repeat (first|apply rA|apply rN|apply rD)); exact HO_5.out) (Kd.R_base ho0) hb); have n1_ := Aside0.mk (Kd.N_elder' (by (with_reducible repeat (first | apply Kd.N_alloc | apply Kd.N_drewN | apply Kd.N_drew)); exact HO333.out) (Kd.R_base ho0) hb); have n2_ := Aside0.mk (Kd.V_elder' (by (with_reducible repeat (first | apply Kd.V_alloc | apply Kd.V_drewN | apply Kd.V_drew)); exact HL337_0.out) (Kd.R_base ho0) hb); have n3_ := Aside0.mk (Kd.R_lower (Kd.R_newB (Kd.R_newB (Kd.R_new' ho0 (Kd.R_lt (by (with_reducible repeat (first|apply rA|apply rN|apply rD)); exact HO_5.out))) (g := gb318) (o := .cells #[.int .i64 ((rd_T69 x5_1 t314).f0), .int .i64 ((rd_T69 x5_1 t314).f1)] 69 (0, 0)) (by (with_reducible repeat (first|refine kN ?_ _|refine kD ?_|refine kA ?_ _)); exact BK318.out)) (g := gb340) (o := .cells #[.int .i64 (wrap64 (((rd_T69 x5_1 t314).f0) + (rd (rd_L4 y331 t334) 0))), .int .i64 (wrap64 (((rd_T69 x5_1 t314).f1) + (rd (rd_L4 y331 t334) 1)))] 69 (0, 0)) (by (with_reducible repeat (first|refine kN ?_ _|refine kD ?_|refine kA ?_ _)); exact BK340.out)) (keep_size (w := w) (g := g) (row := none) (by repeat (first | (with_reducible first | exact HK.out | apply KeepBut.set_ | apply keep_drewN | apply keep_drew | apply keep_alloc | refine keep_far ?_ GW318.out _ | refine keep_far ?_ GW340.out _) | exact HK.out)))); have n4_ := Aside0.mk (IsS103.below (by repeat (first | (with_reducible first | exact HI0.out | apply IsS103.alloc | apply IsS103.drewN | apply IsS103.drew | apply IsS103.set_1 | apply IsS103.set_2 | refine IsS103.far ?_ NB0_318.out _ | refine IsS103.far ?_ NB0_340.out _) | exact HI0.out)) hb); have n5_ := Aside0.mk (blk_below (g := gb318) (o := .cells #[.int .i64 ((rd_T69 x5_1 t314).f0), .int .i64 ((rd_T69 x5_1 t314).f1)] 69 (0, 0)) (by (with_reducible repeat (first|refine kN ?_ _|refine kD ?_|refine kA ?_ _)); exact BK318.out) hb); have n6_ := Aside0.mk (Kd.C_below (by repeat (first | (with_reducible exact HR337_0.out) | (with_reducible refine Kd.C_alloc ?_ _) | (with_reducible refine Kd.C_drewN ?_ _) | (with_reducible refine Kd.C_drew ?_) | exact HR337_0.out)) hb); have n7_ := Aside0.mk (blk_below (g := gb340) (o := .cells #[.int .i64 (wrap64 (((rd_T69 x5_1 t314).f0) + (rd (rd_L4 y331 t334) 0))), .int .i64 (wrap64 (((rd_T69 x5_1 t314).f1) + (rd (rd_L4 y331 t334) 1)))] 69 (0, 0)) (by (with_reducible repeat (first|refine kN ?_ _|refine kD ?_|refine kA ?_ _)); exact BK340.out) hb); have n8_ := Aside0.mk (KeepBut.trans (by repeat (first | (with_reducible first | exact HK.out | apply KeepBut.set_ | apply keep_drewN | apply keep_drew | apply keep_alloc | refine keep_far ?_ GW318.out _ | refine keep_far ?_ GW340.out _) | exact HK.out)) (KeepBut.of_below hb g none) (.inl rfl)); have n9_ := Aside0.mk (below_step (by repeat (first | (with_reducible first | exact HB.out|apply bA|apply bN|apply bD | refine below_set ?_ (IsS103.ge HI0.out) | refine below_set ?_ GE318.out | refine below_set ?_ GE340.out) | exact HB.out)) hb); clear HO_5; clear HO333; clear HL337_0; clear HI0; clear BK318; clear HR337_0; clear BK340; clear HK; clear HB; have HO_5 := n0_; have HO333 := n1_; have HL337_0 := n2_; have HO344 := n3_; have HI0 := n4_; have BK318 := n5_; have HR337_0 := n6_; have BK340 := n7_; have HK := n8_; have HB := n9_; clear n0_ n1_ n2_ n3_ n4_ n5_ n6_ n7_ n8_ n9_; (try clear hb); (try clear hb2); (try clear hk); (try clear hi); (try clear ho0)))
             go_roundg k1
             case measure => have := HK1.out; omega
             case rel => exact ⟨(t342), (wrap64 (x6_1 - 1)), (t335), (t336), (by first | rfl | (simp; done) | (simp [*]; done)), H', ⟨by have := HK1.out; omega⟩, ⟨by (with_reducible repeat (first|apply rA|apply rN|apply rD)); exact Kd.R_mono HO344.out (fun _ hk => trivial)⟩, ⟨by repeat (first | (with_reducible first | exact HI0.out | apply IsS103.alloc | apply IsS103.drewN | apply IsS103.drew | apply IsS103.set_1 | apply IsS103.set_2 | refine IsS103.far ?_ NB0_318.out _ | refine IsS103.far ?_ NB0_340.out _) | exact HI0.out)⟩, ⟨by repeat (first | (with_reducible first | exact HK.out | apply KeepBut.set_ | apply keep_drewN | apply keep_drew | apply keep_alloc | refine keep_far ?_ GW318.out _ | refine keep_far ?_ GW340.out _) | exact HK.out)⟩, ⟨by repeat (first | (with_reducible first | exact HB.out|apply bA|apply bN|apply bD | refine below_set ?_ (IsS103.ge HI0.out) | refine below_set ?_ GE318.out | refine below_set ?_ GE340.out) | exact HB.out)⟩⟩
            ·rw [if_neg c23] at H
             have c23b0 : decide (t341 < 0) = false := decide_eq_false c23
             clear c23
             have H' := Aside0.mk H
             clear H
             obtain ⟨Ao56, co56, eo56⟩ := Kd.R_slice HO_5.out
             subst eo56
             try go_wp2_with (first | ((with_reducible refine gate_callee (f := 69) rfl ?_); refine goesL_ (some 29) rfl rfl Try.func69 (by kernel_rfl) rfl #[.pointer (some ⟨g, 0, none⟩), .int .i64 (x5_1.length : Int)] rfl (by (try simp only [zE,zF,zG]); first|done|rfl|(simp only [zH,zI]; rfl)) ?_; (with_reducible refine (spec_l01Below.calls g s0_0 x1001_1 x1002_1 (x5_1.length : Int) t314 t315 t316 w0 _ ?side1 ?side2 A12.out).mono ?_); (case side1 => repeat (first | (with_reducible first | exact HI0.out | apply IsS103.alloc | apply IsS103.drewN | apply IsS103.drew | apply IsS103.set_1 | apply IsS103.set_2) | exact HI0.out)); (case side2 => repeat (first | (with_reducible first | exact HB.out|apply bA|apply bN|apply bD | refine below_set ?_ (IsS103.ge HI0.out)) | exact HB.out)); rintro e w57 ⟨rfl, hi, hb, hk⟩; refine ⟨_, rfl, ?_⟩; have n0_ := Aside0.mk (Kd.R_mono (Kd.R_keep (IsS103.apart (show IsS103 w0 _ g s0_0 x1001_1 x1002_1 from by repeat (first | (with_reducible first | exact HI0.out | apply IsS103.alloc | apply IsS103.drewN | apply IsS103.drew | apply IsS103.set_1 | apply IsS103.set_2) | exact HI0.out)) (by (with_reducible repeat (first|apply rA|apply rN|apply rD)); exact HO_5.out) (by decide)) hk (fun _ h => h.2)) (fun _ h => h.1)); have n1_ := Aside0.mk (KeepBut.trans (by repeat (first | (with_reducible first | exact HK.out | apply KeepBut.set_ | apply keep_drewN | apply keep_drew | apply keep_alloc) | exact HK.out)) hk (.inl rfl)); have n2_ := Aside0.mk (hb); have n3_ := Aside0.mk (hi); clear HO_5; clear HK; clear HB; clear HI0; have HO_5 := n0_; have HK := n1_; have HB := n2_; have HI0 := n3_; clear n0_ n1_ n2_ n3_; (try clear hb); (try clear hb2); (try clear hk); (try clear hi); have p317 : 0 ≤ (t314 : Int) := of_decide_eq_true (by first | (with_reducible assumption) | assumption); have q317 : t314 < (x5_1.length : Int) := of_decide_eq_true (by first | (with_reducible assumption) | assumption); obtain ⟨ad317, e317, hx317_0, hx317_1⟩ := at_T69 (Kd.R_reads' HO_5.out).2.2 t314 p317 q317; cases e317; replace p317 := eq_true p317; replace q317 := eq_true q317) | ((with_reducible refine gate_dst (N := 7) rfl ?_); refine box_event ?hg (N := 7) ?hd (cs := #[.int .i64 0, .int .i64 0]) (t := 69) ?hr ?_; (case hd => rfl); (case hg => rfl); (case hr => first | (go_simp; done) | (go_simp; rfl)); intro gb318 hg w58 hbox hb; have n0_ := Aside0.mk (Kd.R_below (Kd.R_elderB (by (with_reducible repeat (first|apply rA|apply rN|apply rD)); exact HO_5.out) gb318 (Nat.le_of_eq hg.symm)) hb); have n1_ := Aside0.mk (IsS103.below (by repeat (first | (with_reducible first | exact HI0.out | apply IsS103.alloc | apply IsS103.drewN | apply IsS103.drew | apply IsS103.set_1 | apply IsS103.set_2) | exact HI0.out)) hb); have n2_ := Aside0.mk (KeepBut.trans (by repeat (first | (with_reducible first | exact HK.out | apply KeepBut.set_ | apply keep_drewN | apply keep_drew | apply keep_alloc) | exact HK.out)) (KeepBut.of_below hb g none) (.inl rfl)); have n3_ := Aside0.mk (below_step (by repeat (first | (with_reducible first | exact HB.out|apply bA|apply bN|apply bD | refine below_set ?_ (IsS103.ge HI0.out)) | exact HB.out)) hb); have n4_ := Aside0.mk (hbox); have n5_ := Aside0.mk ((by rw [hg]; exact (keep_size (w := w) (g := g) (row := none) (by repeat (first | (with_reducible first | exact HK.out | apply KeepBut.set_ | apply keep_drewN | apply keep_drew | apply keep_alloc) | exact HK.out))) : w.heap.size ≤ gb318)); have n6_ := Aside0.mk ((Nat.le_trans HW0.out (by rw [hg]; exact (keep_size (w := w) (g := g) (row := none) (by repeat (first | (with_reducible first | exact HK.out | apply KeepBut.set_ | apply keep_drewN | apply keep_drew | apply keep_alloc) | exact HK.out))) : w.heap.size ≤ gb318) : w0.heap.size ≤ gb318)); have n7_ := Aside0.mk ((by rw [hg]; exact Nat.ne_of_lt (IsS103.lt (show IsS103 w0 _ g s0_0 t315 t316 from by repeat (first | (with_reducible first | exact HI0.out | apply IsS103.alloc | apply IsS103.drewN | apply IsS103.drew | apply IsS103.set_1 | apply IsS103.set_2) | exact HI0.out))) : g ≠ gb318)); have n8_ := Aside0.mk ((by rw [hg]; exact Nat.ne_of_gt (IsS103.lt (show IsS103 w0 _ g s0_0 t315 t316 from by repeat (first | (with_reducible first | exact HI0.out | apply IsS103.alloc | apply IsS103.drewN | apply IsS103.drew | apply IsS103.set_1 | apply IsS103.set_2) | exact HI0.out))) : gb318 ≠ g)); clear HO_5; clear HI0; clear HK; clear HB; have HO_5 := n0_; have HI0 := n1_; have HK := n2_; have HB := n3_; have BK318 := n4_; have GW318 := n5_; have GE318 := n6_; have NB0_318 := n7_; have NB318_0 := n8_; clear n0_ n1_ n2_ n3_ n4_ n5_ n6_ n7_ n8_; clear hb hbox hg; have hnb59 := NB318_0.out; have hnc59 := NB0_318.out; have hcz60_0 : w58.cell? ⟨gb318, 0, none⟩ = some (.int .i64 0) := (blk_cell BK318.out 0).trans rfl; have hcz60_1 : w58.cell? ⟨gb318, 1, none⟩ = some (.int .i64 0) := (blk_cell BK318.out 1).trans rfl; have hfz60_0 := blk_frozen BK318.out 0; have hfz60_1 := blk_frozen BK318.out 1) | ((with_reducible refine gate_dst (N := 32) rfl ?_); refine Kd.R_lit (Kd.int .i64) _ 3 ?hg (N := 32) ?hd (xs := ([1, 0] : List Int)) (inner := [.int .i64 1, .int .i64 0]) (ok := fun _ => True) (okp := fun _ => True) ?hr ?hp (fun _ hk => hk) trivial (Below.refl _ _) (Nat.le_refl _) (by simp) ?_; (case hd => rfl); (case hg => rfl); (case hr => first | (go_simp; done) | (go_simp; rfl)); (case hp => exact (Reps.one (show Kd.M (Kd.int .i64) _ _ _ 1 [.int .i64 1] from rfl) (Reps.one (show Kd.M (Kd.int .i64) _ _ _ 0 [.int .i64 0] from rfl) (Reps.none _ _)))); intro v320 w61 ho62 hb hg_ hnew_; clear hg_ hnew_; (first | rw [← Ny319.out] at ho62 | (simp only [Int.reduceToNat] at ho62; rw [← Ny319.out] at ho62)); have n0_ := Aside0.mk (Kd.R_below (by (with_reducible repeat (first|apply rA|apply rN|apply rD)); exact (Kd.R_mono (Kd.R_far (p := ⟨gb318, 1, none⟩) (Kd.R_far (p := ⟨gb318, 0, none⟩) (Kd.R_mono HO_5.out (fun k_ hk => (⟨hk, hk.2⟩ : _ ∧ k_ ≠ gb318))) (fun _ hk => hk.2) (.int .i64 ((rd_T69 x5_1 t314).f0))) (fun _ hk => hk.2) (.int .i64 ((rd_T69 x5_1 t314).f1))) (fun _ h_ => h_.1))) hb); have n1_ := Aside0.mk (Kd.R_lower ho62 (keep_size (w := w) (g := g) (row := none) (by repeat (first | (with_reducible first | exact HK.out | apply KeepBut.set_ | apply keep_drewN | apply keep_drew | apply keep_alloc | refine keep_far ?_ GW318.out _) | exact HK.out)))); have n2_ := Aside0.mk (IsS103.below (show IsS103 w0 ((w58.setCell ⟨gb318, 0, none⟩ (.int .i64 ((rd_T69 x5_1 t314).f0))).setCell ⟨gb318, 1, none⟩ (.int .i64 ((rd_T69 x5_1 t314).f1))) g s0_0 t315 t316 from by repeat (first | (with_reducible first | exact HI0.out | apply IsS103.alloc | apply IsS103.drewN | apply IsS103.drew | apply IsS103.set_1 | apply IsS103.set_2 | refine IsS103.far ?_ NB0_318.out _) | exact HI0.out)) hb); have n3_ := Aside0.mk (blk_below (g := gb318) (o := .cells #[.int .i64 ((rd_T69 x5_1 t314).f0), .int .i64 ((rd_T69 x5_1 t314).f1)] 69 (0, 0)) (by (with_reducible repeat (first|refine kN ?_ _|refine kD ?_|refine kA ?_ _)); refine blk_put (cs := #[.int .i64 ((rd_T69 x5_1 t314).f0), .int .i64 0]) ?_ 1 _ rfl; (with_reducible repeat (first|refine kN ?_ _|refine kD ?_|refine kA ?_ _)); refine blk_put (cs := #[.int .i64 0, .int .i64 0]) ?_ 0 _ rfl; (with_reducible repeat (first|refine kN ?_ _|refine kD ?_|refine kA ?_ _)); exact BK318.out) hb); have n4_ := Aside0.mk (KeepBut.trans (by repeat (first | (with_reducible first | exact HK.out | apply KeepBut.set_ | apply keep_drewN | apply keep_drew | apply keep_alloc | refine keep_far ?_ GW318.out _) | exact HK.out)) (KeepBut.of_below hb g none) (.inl rfl)); have n5_ := Aside0.mk (below_step (by repeat (first | (with_reducible first | exact HB.out|apply bA|apply bN|apply bD | refine below_set ?_ (IsS103.ge HI0.out) | refine below_set ?_ GE318.out) | exact HB.out)) hb); clear HO_5; clear HI0; clear BK318; clear HK; clear HB; have HO_5 := n0_; have HO321 := n1_; have HI0 := n2_; have BK318 := n3_; have HK := n4_; have HB := n5_; clear n0_ n1_ n2_ n3_ n4_ n5_; clear hb ho62) | ((with_reducible refine gate_dst (N := 33) rfl ?_); refine Kd.R_lit (Kd.int .i64) _ 3 ?hg (N := 33) ?hd (xs := ([(-1), 0] : List Int)) (inner := [.int .i64 (-1), .int .i64 0]) (ok := fun _ => True) (okp := fun _ => True) ?hr ?hp (fun _ hk => hk) trivial (Below.refl _ _) (Nat.le_refl _) (by simp) ?_; (case hd => rfl); (case hg => rfl); (case hr => first | (go_simp; done) | (go_simp; rfl)); (case hp => exact (Reps.one (show Kd.M (Kd.int .i64) _ _ _ (-1) [.int .i64 (-1)] from rfl) (Reps.one (show Kd.M (Kd.int .i64) _ _ _ 0 [.int .i64 0] from rfl) (Reps.none _ _)))); intro v323 w63 ho64 hb hg_ hnew_; clear hg_ hnew_; (first | rw [← Ny322.out] at ho64 | (simp only [Int.reduceToNat] at ho64; rw [← Ny322.out] at ho64)); have n0_ := Aside0.mk (Kd.R_below (by (with_reducible repeat (first|apply rA|apply rN|apply rD)); exact HO_5.out) hb); have n1_ := Aside0.mk (Kd.R_elder' (by (with_reducible repeat (first|apply rA|apply rN|apply rD)); exact HO321.out) (Kd.R_base ho64) hb); have n2_ := Aside0.mk (Kd.R_lower (Kd.R_new' ho64 (Kd.R_lt (by (with_reducible repeat (first|apply rA|apply rN|apply rD)); exact HO321.out))) (keep_size (w := w) (g := g) (row := none) (by repeat (first | (with_reducible first | exact HK.out | apply KeepBut.set_ | apply keep_drewN | apply keep_drew | apply keep_alloc | refine keep_far ?_ GW318.out _) | exact HK.out)))); have n3_ := Aside0.mk (IsS103.below (by repeat (first | (with_reducible first | exact HI0.out | apply IsS103.alloc | apply IsS103.drewN | apply IsS103.drew | apply IsS103.set_1 | apply IsS103.set_2 | refine IsS103.far ?_ NB0_318.out _) | exact HI0.out)) hb); have n4_ := Aside0.mk (blk_below (g := gb318) (o := .cells #[.int .i64 ((rd_T69 x5_1 t314).f0), .int .i64 ((rd_T69 x5_1 t314).f1)] 69 (0, 0)) (by (with_reducible repeat (first|refine kN ?_ _|refine kD ?_|refine kA ?_ _)); exact BK318.out) hb); have n5_ := Aside0.mk (KeepBut.trans (by repeat (first | (with_reducible first | exact HK.out | apply KeepBut.set_ | apply keep_drewN | apply keep_drew | apply keep_alloc | refine keep_far ?_ GW318.out _) | exact HK.out)) (KeepBut.of_below hb g none) (.inl rfl)); have n6_ := Aside0.mk (below_step (by repeat (first | (with_reducible first | exact HB.out|apply bA|apply bN|apply bD | refine below_set ?_ (IsS103.ge HI0.out) | refine below_set ?_ GE318.out) | exact HB.out)) hb); clear HO_5; clear HO321; clear HI0; clear BK318; clear HK; clear HB; have HO_5 := n0_; have HO321 := n1_; have HO324 := n2_; have HI0 := n3_; have BK318 := n4_; have HK := n5_; have HB := n6_; clear n0_ n1_ n2_ n3_ n4_ n5_ n6_; clear hb ho64) | ((with_reducible refine gate_dst (N := 34) rfl ?_); refine Kd.R_lit (Kd.int .i64) _ 3 ?hg (N := 34) ?hd (xs := ([0, 1] : List Int)) (inner := [.int .i64 0, .int .i64 1]) (ok := fun _ => True) (okp := fun _ => True) ?hr ?hp (fun _ hk => hk) trivial (Below.refl _ _) (Nat.le_refl _) (by simp) ?_; (case hd => rfl); (case hg => rfl); (case hr => first | (go_simp; done) | (go_simp; rfl)); (case hp => exact (Reps.one (show Kd.M (Kd.int .i64) _ _ _ 0 [.int .i64 0] from rfl) (Reps.one (show Kd.M (Kd.int .i64) _ _ _ 1 [.int .i64 1] from rfl) (Reps.none _ _)))); intro v326 w65 ho66 hb hg_ hnew_; clear hg_ hnew_; (first | rw [← Ny325.out] at ho66 | (simp only [Int.reduceToNat] at ho66; rw [← Ny325.out] at ho66)); have n0_ := Aside0.mk (Kd.R_below (by (with_reducible repeat (first|apply rA|apply rN|apply rD)); exact HO_5.out) hb); have n1_ := Aside0.mk (Kd.R_elder' (by (with_reducible repeat (first|apply rA|apply rN|apply rD)); exact HO321.out) (Kd.R_base ho66) hb); have n2_ := Aside0.mk (Kd.R_elder' (by (with_reducible repeat (first|apply rA|apply rN|apply rD)); exact HO324.out) (Kd.R_base ho66) hb); have n3_ := Aside0.mk (Kd.R_lower (Kd.R_new' (Kd.R_new' ho66 (Kd.R_lt (by (with_reducible repeat (first|apply rA|apply rN|apply rD)); exact HO321.out))) (Kd.R_lt (by (with_reducible repeat (first|apply rA|apply rN|apply rD)); exact HO324.out))) (keep_size (w := w) (g := g) (row := none) (by repeat (first | (with_reducible first | exact HK.out | apply KeepBut.set_ | apply keep_drewN | apply keep_drew | apply keep_alloc | refine keep_far ?_ GW318.out _) | exact HK.out)))); have n4_ := Aside0.mk (IsS103.below (by repeat (first | (with_reducible first | exact HI0.out | apply IsS103.alloc | apply IsS103.drewN | apply IsS103.drew | apply IsS103.set_1 | apply IsS103.set_2 | refine IsS103.far ?_ NB0_318.out _) | exact HI0.out)) hb); have n5_ := Aside0.mk (blk_below (g := gb318) (o := .cells #[.int .i64 ((rd_T69 x5_1 t314).f0), .int .i64 ((rd_T69 x5_1 t314).f1)] 69 (0, 0)) (by (with_reducible repeat (first|refine kN ?_ _|refine kD ?_|refine kA ?_ _)); exact BK318.out) hb); have n6_ := Aside0.mk (KeepBut.trans (by repeat (first | (with_reducible first | exact HK.out | apply KeepBut.set_ | apply keep_drewN | apply keep_drew | apply keep_alloc | refine keep_far ?_ GW318.out _) | exact HK.out)) (KeepBut.of_below hb g none) (.inl rfl)); have n7_ := Aside0.mk (below_step (by repeat (first | (with_reducible first | exact HB.out|apply bA|apply bN|apply bD | refine below_set ?_ (IsS103.ge HI0.out) | refine below_set ?_ GE318.out) | exact HB.out)) hb); clear HO_5; clear HO321; clear HO324; clear HI0; clear BK318; clear HK; clear HB; have HO_5 := n0_; have HO321 := n1_; have HO324 := n2_; have HO327 := n3_; have HI0 := n4_; have BK318 := n5_; have HK := n6_; have HB := n7_; clear n0_ n1_ n2_ n3_ n4_ n5_ n6_ n7_; clear hb ho66) | ((with_reducible refine gate_dst (N := 35) rfl ?_); refine Kd.R_lit (Kd.int .i64) _ 3 ?hg (N := 35) ?hd (xs := ([0, (-1)] : List Int)) (inner := [.int .i64 0, .int .i64 (-1)]) (ok := fun _ => True) (okp := fun _ => True) ?hr ?hp (fun _ hk => hk) trivial (Below.refl _ _) (Nat.le_refl _) (by simp) ?_; (case hd => rfl); (case hg => rfl); (case hr => first | (go_simp; done) | (go_simp; rfl)); (case hp => exact (Reps.one (show Kd.M (Kd.int .i64) _ _ _ 0 [.int .i64 0] from rfl) (Reps.one (show Kd.M (Kd.int .i64) _ _ _ (-1) [.int .i64 (-1)] from rfl) (Reps.none _ _)))); intro v329 w67 ho68 hb hg_ hnew_; clear hg_ hnew_; (first | rw [← Ny328.out] at ho68 | (simp only [Int.reduceToNat] at ho68; rw [← Ny328.out] at ho68)); have n0_ := Aside0.mk (Kd.R_below (by (with_reducible repeat (first|apply rA|apply rN|apply rD)); exact HO_5.out) hb); have n1_ := Aside0.mk (Kd.R_elder' (by (with_reducible repeat (first|apply rA|apply rN|apply rD)); exact HO321.out) (Kd.R_base ho68) hb); have n2_ := Aside0.mk (Kd.R_elder' (by (with_reducible repeat (first|apply rA|apply rN|apply rD)); exact HO324.out) (Kd.R_base ho68) hb); have n3_ := Aside0.mk (Kd.R_elder' (by (with_reducible repeat (first|apply rA|apply rN|apply rD)); exact HO327.out) (Kd.R_base ho68) hb); have n4_ := Aside0.mk (Kd.R_lower (Kd.R_new' (Kd.R_new' (Kd.R_new' ho68 (Kd.R_lt (by (with_reducible repeat (first|apply rA|apply rN|apply rD)); exact HO321.out))) (Kd.R_lt (by (with_reducible repeat (first|apply rA|apply rN|apply rD)); exact HO324.out))) (Kd.R_lt (by (with_reducible repeat (first|apply rA|apply rN|apply rD)); exact HO327.out))) (keep_size (w := w) (g := g) (row := none) (by repeat (first | (with_reducible first | exact HK.out | apply KeepBut.set_ | apply keep_drewN | apply keep_drew | apply keep_alloc | refine keep_far ?_ GW318.out _) | exact HK.out)))); have n5_ := Aside0.mk (IsS103.below (by repeat (first | (with_reducible first | exact HI0.out | apply IsS103.alloc | apply IsS103.drewN | apply IsS103.drew | apply IsS103.set_1 | apply IsS103.set_2 | refine IsS103.far ?_ NB0_318.out _) | exact HI0.out)) hb); have n6_ := Aside0.mk (blk_below (g := gb318) (o := .cells #[.int .i64 ((rd_T69 x5_1 t314).f0), .int .i64 ((rd_T69 x5_1 t314).f1)] 69 (0, 0)) (by (with_reducible repeat (first|refine kN ?_ _|refine kD ?_|refine kA ?_ _)); exact BK318.out) hb); have n7_ := Aside0.mk (KeepBut.trans (by repeat (first | (with_reducible first | exact HK.out | apply KeepBut.set_ | apply keep_drewN | apply keep_drew | apply keep_alloc | refine keep_far ?_ GW318.out _) | exact HK.out)) (KeepBut.of_below hb g none) (.inl rfl)); have n8_ := Aside0.mk (below_step (by repeat (first | (with_reducible first | exact HB.out|apply bA|apply bN|apply bD | refine below_set ?_ (IsS103.ge HI0.out) | refine below_set ?_ GE318.out) | exact HB.out)) hb); clear HO_5; clear HO321; clear HO324; clear HO327; clear HI0; clear BK318; clear HK; clear HB; have HO_5 := n0_; have HO321 := n1_; have HO324 := n2_; have HO327 := n3_; have HO330 := n4_; have HI0 := n5_; have BK318 := n6_; have HK := n7_; have HB := n8_; clear n0_ n1_ n2_ n3_ n4_ n5_ n6_ n7_ n8_; clear hb ho68; obtain ⟨Ao69, co69, eo69⟩ := Kd.R_slice HO321.out; subst eo69; obtain ⟨Ao70, co70, eo70⟩ := Kd.R_slice HO324.out; subst eo70; obtain ⟨Ao71, co71, eo71⟩ := Kd.R_slice HO327.out; subst eo71; obtain ⟨Ao72, co72, eo72⟩ := Kd.R_slice HO330.out; subst eo72) | ((with_reducible refine gate_dst (N := 36) rfl ?_); refine Kd.N_lit (Kd.slice 3 (Kd.int .i64)) _ 31 ?hg (N' := 36) ?hd (xs := ([y319, y322, y325, y328] : List (List Int))) (inner := [.slice Ao69 y319.length co69, .slice Ao70 y322.length co70, .slice Ao71 y325.length co71, .slice Ao72 y328.length co72]) (ok := (fun k_ => some k_ ≠ (.slice (some ad317) x5_1.length co56 : Value).ownBlock ∧ k_ ≠ gb318 ∧ k_ ≠ g)) (okp := (fun k_ => some k_ ≠ (.slice (some ad317) x5_1.length co56 : Value).ownBlock ∧ k_ ≠ gb318 ∧ k_ ≠ g)) ?hr ?hp (fun _ hk => hk) ((show ∀ k_, w67.heap.size ≤ k_ → (fun k_ => some k_ ≠ (.slice (some ad317) x5_1.length co56 : Value).ownBlock ∧ k_ ≠ gb318 ∧ k_ ≠ g) k_ from fun k_ hk => ⟨Kd.fresh' (Kd.R_lt (by (with_reducible repeat (first|apply rA|apply rN|apply rD)); exact HO_5.out)) k_ hk, Kd.freshB (g := gb318) (o := .cells #[.int .i64 ((rd_T69 x5_1 t314).f0), .int .i64 ((rd_T69 x5_1 t314).f1)] 69 (0, 0)) (by (with_reducible repeat (first|refine kN ?_ _|refine kD ?_|refine kA ?_ _)); exact BK318.out) k_ hk, IsS103.fresh (by repeat (first | (with_reducible first | exact HI0.out | apply IsS103.alloc | apply IsS103.drewN | apply IsS103.drew | apply IsS103.set_1 | apply IsS103.set_2 | refine IsS103.far ?_ NB0_318.out _) | exact HI0.out)) k_ hk⟩) _ (Nat.le_refl _)) (Below.refl _ _) (Nat.le_refl _) (by simp) ?_; (case hd => rfl); (case hg => rfl); (case hr => first | (go_simp; done) | (go_simp; rfl)); (case hp => exact (Reps.one (show Kd.FK (Kd.slice 3 (Kd.int .i64)) _ _ y319 [.slice Ao69 y319.length co69] from (Kd.FK_slice_mk (Kd.R_reads' (Kd.R_mono (ok' := (fun k_ => some k_ ≠ (.slice (some ad317) x5_1.length co56 : Value).ownBlock ∧ k_ ≠ gb318 ∧ k_ ≠ g)) (IsS103.apart HI0.out (Kd.R_types (Kd.R_apart' (HO321.out) (Kd.R_typed HO_5.out) (by decide)) BK318.out (by decide)) (by decide)) (fun k_ hk => ⟨hk.1.1.2, ⟨hk.1.2, hk.2⟩⟩))).2.1 (Kd.R_F (Kd.R_mono (ok' := (fun k_ => some k_ ≠ (.slice (some ad317) x5_1.length co56 : Value).ownBlock ∧ k_ ≠ gb318 ∧ k_ ≠ g)) (IsS103.apart HI0.out (Kd.R_types (Kd.R_apart' (HO321.out) (Kd.R_typed HO_5.out) (by decide)) BK318.out (by decide)) (by decide)) (fun k_ hk => ⟨hk.1.1.2, ⟨hk.1.2, hk.2⟩⟩))))) (Reps.one (show Kd.FK (Kd.slice 3 (Kd.int .i64)) _ _ y322 [.slice Ao70 y322.length co70] from (Kd.FK_slice_mk (Kd.R_reads' (Kd.R_mono (ok' := (fun k_ => some k_ ≠ (.slice (some ad317) x5_1.length co56 : Value).ownBlock ∧ k_ ≠ gb318 ∧ k_ ≠ g)) (IsS103.apart HI0.out (Kd.R_types (Kd.R_apart' (HO324.out) (Kd.R_typed HO_5.out) (by decide)) BK318.out (by decide)) (by decide)) (fun k_ hk => ⟨hk.1.1.2, ⟨hk.1.2, hk.2⟩⟩))).2.1 (Kd.R_F (Kd.R_mono (ok' := (fun k_ => some k_ ≠ (.slice (some ad317) x5_1.length co56 : Value).ownBlock ∧ k_ ≠ gb318 ∧ k_ ≠ g)) (IsS103.apart HI0.out (Kd.R_types (Kd.R_apart' (HO324.out) (Kd.R_typed HO_5.out) (by decide)) BK318.out (by decide)) (by decide)) (fun k_ hk => ⟨hk.1.1.2, ⟨hk.1.2, hk.2⟩⟩))))) (Reps.one (show Kd.FK (Kd.slice 3 (Kd.int .i64)) _ _ y325 [.slice Ao71 y325.length co71] from (Kd.FK_slice_mk (Kd.R_reads' (Kd.R_mono (ok' := (fun k_ => some k_ ≠ (.slice (some ad317) x5_1.length co56 : Value).ownBlock ∧ k_ ≠ gb318 ∧ k_ ≠ g)) (IsS103.apart HI0.out (Kd.R_types (Kd.R_apart' (HO327.out) (Kd.R_typed HO_5.out) (by decide)) BK318.out (by decide)) (by decide)) (fun k_ hk => ⟨hk.1.1.2, ⟨hk.1.2, hk.2⟩⟩))).2.1 (Kd.R_F (Kd.R_mono (ok' := (fun k_ => some k_ ≠ (.slice (some ad317) x5_1.length co56 : Value).ownBlock ∧ k_ ≠ gb318 ∧ k_ ≠ g)) (IsS103.apart HI0.out (Kd.R_types (Kd.R_apart' (HO327.out) (Kd.R_typed HO_5.out) (by decide)) BK318.out (by decide)) (by decide)) (fun k_ hk => ⟨hk.1.1.2, ⟨hk.1.2, hk.2⟩⟩))))) (Reps.one (show Kd.FK (Kd.slice 3 (Kd.int .i64)) _ _ y328 [.slice Ao72 y328.length co72] from (Kd.FK_slice_mk (Kd.R_reads' (Kd.R_mono (ok' := (fun k_ => some k_ ≠ (.slice (some ad317) x5_1.length co56 : Value).ownBlock ∧ k_ ≠ gb318 ∧ k_ ≠ g)) (IsS103.apart HI0.out (Kd.R_types (Kd.R_apart' (HO330.out) (Kd.R_typed HO_5.out) (by decide)) BK318.out (by decide)) (by decide)) (fun k_ hk => ⟨hk.1.1.2, ⟨hk.1.2, hk.2⟩⟩))).2.1 (Kd.R_F (Kd.R_mono (ok' := (fun k_ => some k_ ≠ (.slice (some ad317) x5_1.length co56 : Value).ownBlock ∧ k_ ≠ gb318 ∧ k_ ≠ g)) (IsS103.apart HI0.out (Kd.R_types (Kd.R_apart' (HO330.out) (Kd.R_typed HO_5.out) (by decide)) BK318.out (by decide)) (by decide)) (fun k_ hk => ⟨hk.1.1.2, ⟨hk.1.2, hk.2⟩⟩))))) (Reps.none _ _)))))); intro v332 w73 ho74 hb hg_ hnew_; clear hg_ hnew_; (first | rw [← Ny331.out] at ho74 | (simp only [Int.reduceToNat] at ho74; rw [← Ny331.out] at ho74)); have n0_ := Aside0.mk (Kd.R_below (by (with_reducible repeat (first|apply rA|apply rN|apply rD)); exact HO_5.out) hb); have n1_ := Aside0.mk (Kd.N_lower ho74 (keep_size (w := w) (g := g) (row := none) (by repeat (first | (with_reducible first | exact HK.out | apply KeepBut.set_ | apply keep_drewN | apply keep_drew | apply keep_alloc | refine keep_far ?_ GW318.out _) | exact HK.out)))); have n2_ := Aside0.mk (IsS103.below (by repeat (first | (with_reducible first | exact HI0.out | apply IsS103.alloc | apply IsS103.drewN | apply IsS103.drew | apply IsS103.set_1 | apply IsS103.set_2 | refine IsS103.far ?_ NB0_318.out _) | exact HI0.out)) hb); have n3_ := Aside0.mk (blk_below (g := gb318) (o := .cells #[.int .i64 ((rd_T69 x5_1 t314).f0), .int .i64 ((rd_T69 x5_1 t314).f1)] 69 (0, 0)) (by (with_reducible repeat (first|refine kN ?_ _|refine kD ?_|refine kA ?_ _)); exact BK318.out) hb); have n4_ := Aside0.mk (KeepBut.trans (by repeat (first | (with_reducible first | exact HK.out | apply KeepBut.set_ | apply keep_drewN | apply keep_drew | apply keep_alloc | refine keep_far ?_ GW318.out _) | exact HK.out)) (KeepBut.of_below hb g none) (.inl rfl)); have n5_ := Aside0.mk (below_step (by repeat (first | (with_reducible first | exact HB.out|apply bA|apply bN|apply bD | refine below_set ?_ (IsS103.ge HI0.out) | refine below_set ?_ GE318.out) | exact HB.out)) hb); clear HO_5; clear HI0; clear BK318; clear HK; clear HB; clear HO321; clear HO324; clear HO327; clear HO330; have HO_5 := n0_; have HO333 := n1_; have HI0 := n2_; have BK318 := n3_; have HK := n4_; have HB := n5_; clear n0_ n1_ n2_ n3_ n4_ n5_; clear hb ho74) | ((with_reducible refine gate_callee (f := 69) rfl ?_); refine goesL_ (some 38) rfl rfl Try.func69 (by kernel_rfl) rfl #[.pointer (some ⟨g, 0, none⟩), .int .i64 4] rfl (by (try simp only [zE,zF,zG]); first|done|rfl|(simp only [zH,zI]; rfl)) ?_; (with_reducible refine (spec_l01Below.calls g s0_0 t315 t316 4 t334 t335 t336 w0 _ ?side1 ?side2 A15.out).mono ?_); (case side1 => repeat (first | (with_reducible first | exact HI0.out | apply IsS103.alloc | apply IsS103.drewN | apply IsS103.drew | apply IsS103.set_1 | apply IsS103.set_2 | refine IsS103.far ?_ NB0_318.out _) | exact HI0.out)); (case side2 => repeat (first | (with_reducible first | exact HB.out|apply bA|apply bN|apply bD | refine below_set ?_ (IsS103.ge HI0.out) | refine below_set ?_ GE318.out) | exact HB.out)); rintro e w75 ⟨rfl, hi, hb, hk⟩; refine ⟨_, rfl, ?_⟩; have n0_ := Aside0.mk (Kd.R_mono (Kd.R_keep (IsS103.apart (show IsS103 w0 _ g s0_0 t315 t316 from by repeat (first | (with_reducible first | exact HI0.out | apply IsS103.alloc | apply IsS103.drewN | apply IsS103.drew | apply IsS103.set_1 | apply IsS103.set_2 | refine IsS103.far ?_ NB0_318.out _) | exact HI0.out)) (by (with_reducible repeat (first|apply rA|apply rN|apply rD)); exact HO_5.out) (by decide)) hk (fun _ h => h.2)) (fun _ h => h.1)); have n1_ := Aside0.mk (KeepBut.blk hk (g' := gb318) (o := .cells #[.int .i64 ((rd_T69 x5_1 t314).f0), .int .i64 ((rd_T69 x5_1 t314).f1)] 69 (0, 0)) (by (with_reducible repeat (first|refine kN ?_ _|refine kD ?_|refine kA ?_ _)); exact BK318.out) NB318_0.out (by simp)); have n2_ := Aside0.mk (Kd.N_mono (Kd.N_keep (Kd.N_mono (ok := fun k_ => (some k_ ≠ (.slice (some ad317) x5_1.length co56 : Value).ownBlock ∧ (k_ ≠ gb318 ∧ k_ ≠ g))) (by (with_reducible repeat (first | apply Kd.N_alloc | apply Kd.N_drewN | apply Kd.N_drew)); exact HO333.out) (fun k_ hk_ => (⟨hk_, hk_.2.2⟩ : _ ∧ k_ ≠ g))) hk (fun _ h => h.2)) (fun _ h => h.1)); have n3_ := Aside0.mk (KeepBut.trans (by repeat (first | (with_reducible first | exact HK.out | apply KeepBut.set_ | apply keep_drewN | apply keep_drew | apply keep_alloc | refine keep_far ?_ GW318.out _) | exact HK.out)) hk (.inl rfl)); have n4_ := Aside0.mk (hb); have n5_ := Aside0.mk (hi); clear HO_5; clear BK318; clear HO333; clear HK; clear HB; clear HI0; have HO_5 := n0_; have BK318 := n1_; have HO333 := n2_; have HK := n3_; have HB := n4_; have HI0 := n5_; clear n0_ n1_ n2_ n3_ n4_ n5_; (try clear hb); (try clear hb2); (try clear hk); (try clear hi); obtain ⟨Ao76, co76, eo76⟩ := Kd.N_slice HO333.out; subst eo76; have p337 : 0 ≤ (t334 : Int) := of_decide_eq_true (by first | (with_reducible assumption) | assumption); have q337 : t334 < (y331.length : Int) := of_decide_eq_true (by first | (with_reducible assumption) | assumption); obtain ⟨ad337, A337_0, c337_0, e337, hx337_0, hl337_0, hi337_0⟩ := at_L4 (Kd.N_reads' HO333.out).2.2 t334 p337 q337; cases e337; obtain ⟨ce337, hce337, hMe337, hcc337⟩ := Kd.N_get HO333.out [] t334 p337 (by first | exact q337 | exact of_decide_eq_true (by first | (with_reducible assumption) | assumption) | (have e_ := (Kd.N_reads' HO333.out).1; omega)); obtain ⟨ua337_0, uc337_0, rfl, ul337_0, ge337_0⟩ := Kd.FK_slice_open hMe337; have hv337_0 := hcc337 0 _ rfl; rw [Nat.add_zero, show ((Kd.slice 3 (Kd.int .i64))).sz = 1 from rfl, Nat.mul_one] at hv337_0; replace hv337_0 := Option.some.inj (hv337_0.symm.trans hx337_0); injection hv337_0 with hva_ hvn_ hvc_; rw [hva_] at ge337_0; rw [hvc_] at ul337_0; have HL337_0 := Aside0.mk (show Kd.V (Kd.int .i64) 3 _ w.heap.size _ _ (rd_L4 y331 t334) from Kd.V_mk ul337_0 ge337_0); clear hva_ hvn_ hvc_ ge337_0 ul337_0; clear hcc337 hce337; have HR337_0 := Aside0.mk hi337_0; have HC337_0 := Aside0.mk hl337_0; clear hi337_0 hl337_0; replace p337 := eq_true p337; replace q337 := eq_true q337))
             have n0_ := Aside0.mk (Kd.R_drew HO_5.out)
             have n1_ := Aside0.mk (Kd.N_drew HO333.out)
             have n2_ := Aside0.mk (Kd.V_drew HL337_0.out)
             have n3_ := Aside0.mk (blk_drew BK318.out)
             have n4_ := Aside0.mk (Kd.C_drew HR337_0.out)
             have n5_ := Aside0.mk (IsS103.drew HI0.out)
             have n6_ := Aside0.mk (keep_drew HK.out)
             have n7_ := Aside0.mk (below_drew1 HB.out)
             clear HO_5
             clear HO333
             clear HL337_0
             clear BK318
             clear HR337_0
             clear HI0
             clear HK
             clear HB
             have HO_5 := n0_
             have HO333 := n1_
             have HL337_0 := n2_
             have BK318 := n3_
             have HR337_0 := n4_
             have HI0 := n5_
             have HK := n6_
             have HB := n7_
             clear n0_ n1_ n2_ n3_ n4_ n5_ n6_ n7_
             have p338 : 0 ≤ (0 : Int) := (by omega)
             have q338 : 0 < ((rd_L4 y331 t334).length : Int) := of_decide_eq_true (by first | (with_reducible assumption) | assumption)
             obtain ⟨ad338, e338, hx338_0⟩ := Kd.at_int (by repeat (first | (with_reducible exact HR337_0.out) | (with_reducible refine Kd.C_alloc ?_ _) | (with_reducible refine Kd.C_drewN ?_ _) | (with_reducible refine Kd.C_drew ?_) | exact HR337_0.out)) 0 p338 q338
             cases e338
             have qi338 : (0 < (rd_L4 y331 t334).length) = True := eq_true (by omega)
             (try rw [show ((0 : Int)).toNat = 0 from rfl] at hx338_0)
             (try rw [Addr.add_zero'] at hx338_0)
             replace p338 := eq_true p338
             replace q338 := eq_true q338
             have p339 : 0 ≤ (1 : Int) := (by omega)
             have q339 : 1 < ((rd_L4 y331 t334).length : Int) := of_decide_eq_true (by first | (with_reducible assumption) | assumption)
             obtain ⟨ad339, e339, hx339_0⟩ := Kd.at_int (by repeat (first | (with_reducible exact HR337_0.out) | (with_reducible refine Kd.C_alloc ?_ _) | (with_reducible refine Kd.C_drewN ?_ _) | (with_reducible refine Kd.C_drew ?_) | exact HR337_0.out)) 1 p339 q339
             obtain rfl : ad338 = ad339 := (by injection e339)
             (try simp only [show (1 : Int).toNat = 1 from rfl, Nat.reduceMul, Nat.reduceEqDiff, Go.Addr.add, ↓reduceIte] at hx339_0)
             have qi339 : (1 < (rd_L4 y331 t334).length) = True := eq_true (by omega)
             (try rw [show ((1 : Int)).toNat = 1 from rfl] at hx339_0)
             replace p339 := eq_true p339
             replace q339 := eq_true q339
             refine start_ (n := 15) (S := fun w' => w'.cell? ⟨gb318, 0, none⟩ = some (.int .i64 ((rd_T69 x5_1 t314).f0)) ∧ w'.cell? ⟨gb318, 1, none⟩ = some (.int .i64 ((rd_T69 x5_1 t314).f1)) ∧ w'.cell? ad338 = some (.int .i64 (rd (rd_L4 y331 t334) 0)) ∧ w'.cell? ⟨ad338.block, ad338.off + 1, none⟩ = some (.int .i64 (rd (rd_L4 y331 t334) 1))) (ds := []) #[ff,ff,ff,ff,ff,ff,ff,ff,ff,ff,ff,ff,ff,ff,ff] (by kernel_rfl) rfl rfl ⟨(blk_cell BK318.out 0).trans rfl, (blk_cell BK318.out 1).trans rfl, hx338_0, hx339_0⟩ (fun hHeld => ?_); refine with_tabW spec_l15Draw.tab7 spec_l15Draw.bits7 (fun HT_ HW_ => ?_)
             generalize w75.drew = w77 at HO_5 HO333 HL337_0 BK318 HR337_0 HI0 HK HB hx338_0 hx339_0 hHeld ⊢
             refine pure_ (i := 0) (N := some 41) (v := ?_) (a' := ?_) (fl 15 1) rfl rfl (any_of HT_.out (by kernel_rfl)) (fun _ _ _ h => h) (Or.inl ⟨by kernel_rfl, ?_⟩) ?_ ?_
             rotate_left
             ·intro w'
              go_simp
              with_reducible rfl
             rotate_left
             ·simp only [Act.put, zA, zB, zC, i64_w, i32_w]
              rfl
             refine pure_ (i := 2) (N := some 43) (v := ?_) (a' := ?_) (fl 15 5) rfl rfl (any_of HT_.out (by kernel_rfl)) (fun _ _ _ h => h) (Or.inl ⟨by kernel_rfl, ?_⟩) ?_ ?_
             rotate_left
             ·intro w'
              go_simp
              with_reducible rfl
             rotate_left
             ·simp only [Act.put, zA, zB, zC, i64_w, i32_w]
              rfl
             refine pure_ (i := 3) (N := some 44) (v := ?_) (a' := ?_) (fl 15 13) rfl rfl (any_of HT_.out (by kernel_rfl)) (fun _ _ _ h => h) (Or.inl ⟨by kernel_rfl, ?_⟩) ?_ ?_
             rotate_left
             ·intro w'
              go_simp
              with_reducible rfl
             rotate_left
             ·simp only [Act.put, zA, zB, zC, i64_w, i32_w]
              rfl
             refine pure_ (i := 6) (N := some 47) (v := ?_) (a' := ?_) (fl 15 77) rfl rfl (any_of HT_.out (by kernel_rfl)) (fun _ _ _ h => h) (Or.inl ⟨by kernel_rfl, ?_⟩) ?_ ?_
             rotate_left
             ·intro w'
              go_simp
              with_reducible rfl
             rotate_left
             ·simp only [Act.put, zA, zB, zC, i64_w, i32_w]
              rfl
             refine pure_ (i := 8) (N := some 49) (v := ?_) (a' := ?_) (fl 15 333) rfl rfl (any_of HT_.out (by kernel_rfl)) (fun _ _ _ h => h) (Or.inl ⟨by kernel_rfl, ?_⟩) ?_ ?_
             rotate_left
             ·intro w'
              go_simp
              with_reducible rfl
             rotate_left
             ·simp only [Act.put, zA, zB, zC, i64_w, i32_w]
              rfl
             refine pure_ (i := 9) (N := some 50) (v := ?_) (a' := ?_) (fl 15 845) rfl rfl (any_of HT_.out (by kernel_rfl)) (fun _ _ _ h => h) (Or.inl ⟨by kernel_rfl, ?_⟩) ?_ ?_
             rotate_left
             ·intro w'
              go_simp
              with_reducible rfl
             rotate_left
             ·simp only [Act.put, zA, zB, zC, i64_w, i32_w]
              rfl
             refine take_ (i := 1) (N := some 42) (v := ?_) (a' := ?_) (fl 15 847) rfl rfl (take_ofW HT_.out HW_.out (by kernel_rfl)) (fun _ _ _ h => h) (Or.inl ⟨by kernel_rfl, ?_⟩) hHeld ?_ ?_
             rotate_left
             ·rintro w' ⟨s0, s1, s2, s3⟩
              go_simp
              with_reducible rfl
             rotate_left
             ·simp only [Act.put, zA, zB, zC, i64_w, i32_w]
              rfl
             refine take_ (i := 4) (N := some 45) (v := ?_) (a' := ?_) (fl 15 863) rfl rfl (take_ofW HT_.out HW_.out (by kernel_rfl)) (fun _ _ _ h => h) (Or.inl ⟨by kernel_rfl, ?_⟩) hHeld ?_ ?_
             rotate_left
             ·rintro w' ⟨s0, s1, s2, s3⟩
              go_simp
              with_reducible rfl
             rotate_left
             ·simp only [Act.put, zA, zB, zC, i64_w, i32_w]
              rfl
             refine pure_ (i := 5) (N := some 46) (v := ?_) (a' := ?_) (fl 15 895) rfl rfl (any_of HT_.out (by kernel_rfl)) (fun _ _ _ h => h) (Or.inl ⟨by kernel_rfl, ?_⟩) ?_ ?_
             rotate_left
             ·intro w'
              go_simp
              with_reducible rfl
             rotate_left
             ·simp only [Act.put, zA, zB, zC, i64_w, i32_w]
              rfl
             refine take_ (i := 7) (N := some 48) (v := ?_) (a' := ?_) (fl 15 1023) rfl rfl (take_ofW HT_.out HW_.out (by kernel_rfl)) (fun _ _ _ h => h) (Or.inl ⟨by kernel_rfl, ?_⟩) hHeld ?_ ?_
             rotate_left
             ·rintro w' ⟨s0, s1, s2, s3⟩
              go_simp
              with_reducible rfl
             rotate_left
             ·simp only [Act.put, zA, zB, zC, i64_w, i32_w]
              rfl
             refine take_ (i := 10) (N := some 51) (v := ?_) (a' := ?_) (fl 15 2047) rfl rfl (take_ofW HT_.out HW_.out (by kernel_rfl)) (fun _ _ _ h => h) (Or.inl ⟨by kernel_rfl, ?_⟩) hHeld ?_ ?_
             rotate_left
             ·rintro w' ⟨s0, s1, s2, s3⟩
              go_simp
              with_reducible rfl
             rotate_left
             ·simp only [Act.put, zA, zB, zC, i64_w, i32_w]
              rfl
             refine pure_ (i := 11) (N := some 52) (v := ?_) (a' := ?_) (fl 15 4095) rfl rfl (any_of HT_.out (by kernel_rfl)) (fun _ _ _ h => h) (Or.inl ⟨by kernel_rfl, ?_⟩) ?_ ?_
             rotate_left
             ·intro w'
              go_simp
              with_reducible rfl
             rotate_left
             ·simp only [Act.put, zA, zB, zC, i64_w, i32_w]
              rfl
             refine pure_ (i := 12) (N := some 53) (v := ?_) (a' := ?_) (fl 15 8191) rfl rfl (any_of HT_.out (by kernel_rfl)) (fun _ _ _ h => h) (Or.inl ⟨by kernel_rfl, ?_⟩) ?_ ?_
             rotate_left
             ·intro w'
              go_simp
              with_reducible rfl
             rotate_left
             ·simp only [Act.put, zA, zB, zC, i64_w, i32_w]
              rfl
             refine one_ (i := 13) (N := some 9) #[tt,tt,tt,tt,tt,tt,tt,tt,tt,tt,tt,tt,tt,tt,ff] rfl rfl (one_of HT_.out (by kernel_rfl)) (by decide) (fun K hK => ?_)
             refine box_step ?hg (N := 9) ?hd (cs := #[.int .i64 0, .int .i64 0]) (t := 69) ?hr ?_; (case hd => rfl); (case hg => rfl); (case hr => first | (go_simp; done) | (go_simp; rfl))
             intro gb340 hg w78 hbox hb
             have HS2_ := (hb.cell (World.block_lt_of_cell? _ _ (hHeld.2.2.1))).trans (hHeld.2.2.1)
             have HS3_ := (hb.cell (World.block_lt_of_cell? _ _ (hHeld.2.2.2))).trans (hHeld.2.2.2)
             have NAF_ := Aside0.mk (Nat.ne_of_lt (Nat.lt_of_lt_of_eq (World.block_lt_of_cell? _ _ hHeld.2.2.1) hg.symm))
             have n0_ := Aside0.mk (Kd.R_below (Kd.R_elderB (by (with_reducible repeat (first|apply rA|apply rN|apply rD)); exact HO_5.out) gb340 (Nat.le_of_eq hg.symm)) hb)
             have n1_ := Aside0.mk (Kd.N_below (Kd.N_elderB (by (with_reducible repeat (first | apply Kd.N_alloc | apply Kd.N_drewN | apply Kd.N_drew)); exact HO333.out) gb340 (Nat.le_of_eq hg.symm)) hb)
             have n2_ := Aside0.mk (Kd.V_below (Kd.V_elderB (by (with_reducible repeat (first | apply Kd.V_alloc | apply Kd.V_drewN | apply Kd.V_drew)); exact HL337_0.out) gb340 (Nat.le_of_eq hg.symm)) hb)
             have n3_ := Aside0.mk (IsS103.below (by repeat (first | (with_reducible first | exact HI0.out | apply IsS103.alloc | apply IsS103.drewN | apply IsS103.drew | apply IsS103.set_1 | apply IsS103.set_2 | refine IsS103.far ?_ NB0_318.out _) | exact HI0.out)) hb)
             have n4_ := Aside0.mk (blk_below (g := gb318) (o := .cells #[.int .i64 ((rd_T69 x5_1 t314).f0), .int .i64 ((rd_T69 x5_1 t314).f1)] 69 (0, 0)) (by (with_reducible repeat (first|refine kN ?_ _|refine kD ?_|refine kA ?_ _)); exact BK318.out) hb)
             have n5_ := Aside0.mk (Kd.C_below (by repeat (first | (with_reducible exact HR337_0.out) | (with_reducible refine Kd.C_alloc ?_ _) | (with_reducible refine Kd.C_drewN ?_ _) | (with_reducible refine Kd.C_drew ?_) | exact HR337_0.out)) hb)
             have n6_ := Aside0.mk (KeepBut.trans (by repeat (first | (with_reducible first | exact HK.out | apply KeepBut.set_ | apply keep_drewN | apply keep_drew | apply keep_alloc | refine keep_far ?_ GW318.out _) | exact HK.out)) (KeepBut.of_below hb g none) (.inl rfl))
             have n7_ := Aside0.mk (below_step (by repeat (first | (with_reducible first | exact HB.out|apply bA|apply bN|apply bD | refine below_set ?_ (IsS103.ge HI0.out) | refine below_set ?_ GE318.out) | exact HB.out)) hb)
             have n8_ := Aside0.mk (hbox)
             have n9_ := Aside0.mk ((by rw [hg]; exact (keep_size (w := w) (g := g) (row := none) (by repeat (first | (with_reducible first | exact HK.out | apply KeepBut.set_ | apply keep_drewN | apply keep_drew | apply keep_alloc | refine keep_far ?_ GW318.out _) | exact HK.out))) : w.heap.size ≤ gb340))
             have n10_ := Aside0.mk ((Nat.le_trans HW0.out (by rw [hg]; exact (keep_size (w := w) (g := g) (row := none) (by repeat (first | (with_reducible first | exact HK.out | apply KeepBut.set_ | apply keep_drewN | apply keep_drew | apply keep_alloc | refine keep_far ?_ GW318.out _) | exact HK.out))) : w.heap.size ≤ gb340) : w0.heap.size ≤ gb340))
             have n11_ := Aside0.mk ((by rw [hg]; exact Nat.ne_of_lt (blk_lt (g := gb318) (o := .cells #[.int .i64 ((rd_T69 x5_1 t314).f0), .int .i64 ((rd_T69 x5_1 t314).f1)] 69 (0, 0)) (by (with_reducible repeat (first|refine kN ?_ _|refine kD ?_|refine kA ?_ _)); exact BK318.out)) : gb318 ≠ gb340))
             have n12_ := Aside0.mk ((by rw [hg]; exact Nat.ne_of_gt (blk_lt (g := gb318) (o := .cells #[.int .i64 ((rd_T69 x5_1 t314).f0), .int .i64 ((rd_T69 x5_1 t314).f1)] 69 (0, 0)) (by (with_reducible repeat (first|refine kN ?_ _|refine kD ?_|refine kA ?_ _)); exact BK318.out)) : gb340 ≠ gb318))
             have n13_ := Aside0.mk ((by rw [hg]; exact Nat.ne_of_lt (IsS103.lt (show IsS103 w0 _ g s0_0 t335 t336 from by repeat (first | (with_reducible first | exact HI0.out | apply IsS103.alloc | apply IsS103.drewN | apply IsS103.drew | apply IsS103.set_1 | apply IsS103.set_2 | refine IsS103.far ?_ NB0_318.out _) | exact HI0.out))) : g ≠ gb340))
             have n14_ := Aside0.mk ((by rw [hg]; exact Nat.ne_of_gt (IsS103.lt (show IsS103 w0 _ g s0_0 t335 t336 from by repeat (first | (with_reducible first | exact HI0.out | apply IsS103.alloc | apply IsS103.drewN | apply IsS103.drew | apply IsS103.set_1 | apply IsS103.set_2 | refine IsS103.far ?_ NB0_318.out _) | exact HI0.out))) : gb340 ≠ g))
             clear HO_5
             clear HO333
             clear HL337_0
             clear HI0
             clear BK318
             clear HR337_0
             clear HK
             clear HB
             have HO_5 := n0_
             have HO333 := n1_
             have HL337_0 := n2_
             have HI0 := n3_
             have BK318 := n4_
             have HR337_0 := n5_
             have HK := n6_
             have HB := n7_
             have BK340 := n8_
             have GW340 := n9_
             have GE340 := n10_
             have NB318_340 := n11_
             have NB340_318 := n12_
             have NB0_340 := n13_
             have NB340_0 := n14_
             clear n0_ n1_ n2_ n3_ n4_ n5_ n6_ n7_ n8_ n9_ n10_ n11_ n12_ n13_ n14_
             clear hb hbox hg
             refine hK.out _ _ ⟨(blk_cell BK318.out 0).trans rfl, (blk_cell BK318.out 1).trans rfl, HS2_, HS3_⟩ (fun hHeld => ?_)
             clear hK K
             refine norm_ (a' := ?_) ?_ ?_
             rotate_left
             ·show Act.put _ (some 9) _ = _
              simp only [Act.put, zA, zB, zC, i64_w, i32_w]
              rfl
             refine one_ (i := 14) (N := none) #[tt,tt,tt,tt,tt,tt,tt,tt,tt,tt,tt,tt,tt,tt,tt] rfl rfl (one_of HT_.out (by kernel_rfl)) (by decide) (fun K hK => ?_)
             have hs79 : w78.cell? ⟨gb340, 0, none⟩ = some (.int .i64 0) := (blk_cell BK340.out 0).trans rfl
             have hfs79 := blk_frozen BK340.out 0
             have hns79_0 := NB318_340.out
             have hms79_0 := NB340_318.out
             have hs80 : w78.cell? ⟨gb340, 1, none⟩ = some (.int .i64 0) := (blk_cell BK340.out 1).trans rfl
             have hfs80 := blk_frozen BK340.out 1
             have hns80_0 := NB318_340.out
             have hms80_0 := NB340_318.out
             refine skip_ (w1 := ?_) (by rfl) rfl ?_ ?_
             rotate_left
             ·go_simp
              rfl
             refine hK.out _ _ ⟨((cell_far (p := ⟨gb340, _, none⟩) NB318_340.out _).trans (((cell_far (p := ⟨gb340, _, none⟩) NB318_340.out _).trans (hHeld.1)))), ((cell_far (p := ⟨gb340, _, none⟩) NB318_340.out _).trans (((cell_far (p := ⟨gb340, _, none⟩) NB318_340.out _).trans (hHeld.2.1)))), ((cell_far (p := ⟨gb340, _, none⟩) (by exact NAF_.out) _).trans (((cell_far (p := ⟨gb340, _, none⟩) (by exact NAF_.out) _).trans (hHeld.2.2.1)))), ((cell_far (p := ⟨gb340, _, none⟩) (by exact NAF_.out) _).trans (((cell_far (p := ⟨gb340, _, none⟩) (by exact NAF_.out) _).trans (hHeld.2.2.2))))⟩ (fun hHeld => ?_)
             clear hK K
             refine done_ (done_of HT_.out (by kernel_rfl)) ?_
             have hnb81 := NB340_318.out
             have hnc81 := NB318_340.out
             have hnb82 := NB340_0.out
             have hnc82 := NB0_340.out
             have hcz83_0 : w78.cell? ⟨gb340, 0, none⟩ = some (.int .i64 0) := (blk_cell BK340.out 0).trans rfl
             have hcz83_1 : w78.cell? ⟨gb340, 1, none⟩ = some (.int .i64 0) := (blk_cell BK340.out 1).trans rfl
             have hfz83_0 := blk_frozen BK340.out 0
             have hfz83_1 := blk_frozen BK340.out 1
             try go_wp2_with (first | (go_at_call 94; (with_reducible refine (spec_CellAt.calls k1 _ _ x5_1 (wrap64 (((rd_T69 x5_1 t314).f0) + (rd (rd_L4 y331 t334) 0))) (wrap64 (((rd_T69 x5_1 t314).f1) + (rd (rd_L4 y331 t334) 1))) t341 _ ?side1 ?side2 A22.out).mono ?_); (case side1 => refine (Kd.R_reads' (e := 69) (base := w.heap.size) (ok := fun k_ => ((True ∧ k_ ≠ gb318) ∧ k_ ≠ gb340)) (n := x5_1.length) (c := co56) ?_).2.2; exact (by (with_reducible repeat (first|apply rA|apply rN|apply rD)); exact (Kd.R_mono (Kd.R_far (p := ⟨gb340, 1, none⟩) (Kd.R_far (p := ⟨gb340, 0, none⟩) (Kd.R_mono HO_5.out (fun k_ hk => (⟨hk, hk.2⟩ : _ ∧ k_ ≠ gb340))) (fun _ hk => hk.2) (.int .i64 (wrap64 (((rd_T69 x5_1 t314).f0) + (rd (rd_L4 y331 t334) 0))))) (fun _ hk => hk.2) (.int .i64 (wrap64 (((rd_T69 x5_1 t314).f1) + (rd (rd_L4 y331 t334) 1))))) (fun _ h_ => h_.1)))); (case side2 => exact (Kd.R_reads' HO_5.out).2.1); rintro e w84 ⟨rfl, hb⟩; have n0_ := Aside0.mk (Kd.R_below (by (with_reducible repeat (first|apply rA|apply rN|apply rD)); exact (Kd.R_mono (Kd.R_far (p := ⟨gb340, 1, none⟩) (Kd.R_far (p := ⟨gb340, 0, none⟩) (Kd.R_mono HO_5.out (fun k_ hk => (⟨hk, hk.2⟩ : _ ∧ k_ ≠ gb340))) (fun _ hk => hk.2) (.int .i64 (wrap64 (((rd_T69 x5_1 t314).f0) + (rd (rd_L4 y331 t334) 0))))) (fun _ hk => hk.2) (.int .i64 (wrap64 (((rd_T69 x5_1 t314).f1) + (rd (rd_L4 y331 t334) 1))))) (fun _ h_ => h_.1))) hb); have n1_ := Aside0.mk (Kd.N_below (by (with_reducible repeat (first | apply Kd.N_alloc | apply Kd.N_drewN | apply Kd.N_drew)); exact (Kd.N_mono (Kd.N_far (p := ⟨gb340, 1, none⟩) (Kd.N_far (p := ⟨gb340, 0, none⟩) (Kd.N_mono HO333.out (fun k_ hk => (⟨hk, hk.2⟩ : _ ∧ k_ ≠ gb340))) (fun _ hk => hk.2) (.int .i64 (wrap64 (((rd_T69 x5_1 t314).f0) + (rd (rd_L4 y331 t334) 0))))) (fun _ hk => hk.2) (.int .i64 (wrap64 (((rd_T69 x5_1 t314).f1) + (rd (rd_L4 y331 t334) 1))))) (fun _ h_ => h_.1))) hb); have n2_ := Aside0.mk (Kd.V_below (by (with_reducible repeat (first | apply Kd.V_alloc | apply Kd.V_drewN | apply Kd.V_drew)); exact (Kd.V_mono (Kd.V_far (p := ⟨gb340, 1, none⟩) (Kd.V_far (p := ⟨gb340, 0, none⟩) (Kd.V_mono HL337_0.out (fun k_ hk => (⟨hk, hk.2⟩ : _ ∧ k_ ≠ gb340))) (fun _ hk => hk.2) (.int .i64 (wrap64 (((rd_T69 x5_1 t314).f0) + (rd (rd_L4 y331 t334) 0))))) (fun _ hk => hk.2) (.int .i64 (wrap64 (((rd_T69 x5_1 t314).f1) + (rd (rd_L4 y331 t334) 1))))) (fun _ h_ => h_.1))) hb); have n3_ := Aside0.mk (IsS103.below (show IsS103 w0 ((w78.setCell ⟨gb340, 0, none⟩ (.int .i64 (wrap64 (((rd_T69 x5_1 t314).f0) + (rd (rd_L4 y331 t334) 0))))).setCell ⟨gb340, 1, none⟩ (.int .i64 (wrap64 (((rd_T69 x5_1 t314).f1) + (rd (rd_L4 y331 t334) 1))))) g s0_0 t335 t336 from by repeat (first | (with_reducible first | exact HI0.out | apply IsS103.alloc | apply IsS103.drewN | apply IsS103.drew | apply IsS103.set_1 | apply IsS103.set_2 | refine IsS103.far ?_ NB0_318.out _ | refine IsS103.far ?_ NB0_340.out _) | exact HI0.out)) hb); have n4_ := Aside0.mk (blk_below (g := gb318) (o := .cells #[.int .i64 ((rd_T69 x5_1 t314).f0), .int .i64 ((rd_T69 x5_1 t314).f1)] 69 (0, 0)) (by (with_reducible repeat (first|refine kN ?_ _|refine kD ?_|refine kA ?_ _)); refine blk_far ?_ NB318_340.out _; (with_reducible repeat (first|refine kN ?_ _|refine kD ?_|refine kA ?_ _)); refine blk_far ?_ NB318_340.out _; (with_reducible repeat (first|refine kN ?_ _|refine kD ?_|refine kA ?_ _)); exact BK318.out) hb); have n5_ := Aside0.mk (Kd.C_below ((Kd.V_reads' (by (with_reducible repeat (first | apply Kd.V_alloc | apply Kd.V_drewN | apply Kd.V_drew)); exact (Kd.V_mono (Kd.V_far (p := ⟨gb340, 1, none⟩) (Kd.V_far (p := ⟨gb340, 0, none⟩) (Kd.V_mono HL337_0.out (fun k_ hk => (⟨hk, hk.2⟩ : _ ∧ k_ ≠ gb340))) (fun _ hk => hk.2) (.int .i64 (wrap64 (((rd_T69 x5_1 t314).f0) + (rd (rd_L4 y331 t334) 0))))) (fun _ hk => hk.2) (.int .i64 (wrap64 (((rd_T69 x5_1 t314).f1) + (rd (rd_L4 y331 t334) 1))))) (fun _ h_ => h_.1)))).2.2) hb); have n6_ := Aside0.mk (blk_below (g := gb340) (o := .cells #[.int .i64 (wrap64 (((rd_T69 x5_1 t314).f0) + (rd (rd_L4 y331 t334) 0))), .int .i64 (wrap64 (((rd_T69 x5_1 t314).f1) + (rd (rd_L4 y331 t334) 1)))] 69 (0, 0)) (by (with_reducible repeat (first|refine kN ?_ _|refine kD ?_|refine kA ?_ _)); refine blk_put (cs := #[.int .i64 (wrap64 (((rd_T69 x5_1 t314).f0) + (rd (rd_L4 y331 t334) 0))), .int .i64 0]) ?_ 1 _ rfl; (with_reducible repeat (first|refine kN ?_ _|refine kD ?_|refine kA ?_ _)); refine blk_put (cs := #[.int .i64 0, .int .i64 0]) ?_ 0 _ rfl; (with_reducible repeat (first|refine kN ?_ _|refine kD ?_|refine kA ?_ _)); exact BK340.out) hb); have n7_ := Aside0.mk (KeepBut.trans (by repeat (first | (with_reducible first | exact HK.out | apply KeepBut.set_ | apply keep_drewN | apply keep_drew | apply keep_alloc | refine keep_far ?_ GW318.out _ | refine keep_far ?_ GW340.out _) | exact HK.out)) (KeepBut.of_below hb g none) (.inl rfl)); have n8_ := Aside0.mk (below_step (by repeat (first | (with_reducible first | exact HB.out|apply bA|apply bN|apply bD | refine below_set ?_ (IsS103.ge HI0.out) | refine below_set ?_ GE318.out | refine below_set ?_ GE340.out) | exact HB.out)) hb); clear HO_5; clear HO333; clear HL337_0; clear HI0; clear BK318; clear HR337_0; clear BK340; clear HK; clear HB; have HO_5 := n0_; have HO333 := n1_; have HL337_0 := n2_; have HI0 := n3_; have BK318 := n4_; have HR337_0 := n5_; have BK340 := n6_; have HK := n7_; have HB := n8_; clear n0_ n1_ n2_ n3_ n4_ n5_ n6_ n7_ n8_; (try clear hb); (try clear hb2); (try clear hk); (try clear hi)))
             go_roundg k1
             case measure => have := HK1.out; omega
             case rel => exact ⟨(x5_1), (wrap64 (x6_1 - 1)), (t335), (t336), (by first | rfl | (simp; done) | (simp [*]; done)), H', ⟨by have := HK1.out; omega⟩, ⟨by (with_reducible repeat (first|apply rA|apply rN|apply rD)); exact Kd.R_mono HO_5.out (fun _ hk => trivial)⟩, ⟨by repeat (first | (with_reducible first | exact HI0.out | apply IsS103.alloc | apply IsS103.drewN | apply IsS103.drew | apply IsS103.set_1 | apply IsS103.set_2 | refine IsS103.far ?_ NB0_318.out _ | refine IsS103.far ?_ NB0_340.out _) | exact HI0.out)⟩, ⟨by repeat (first | (with_reducible first | exact HK.out | apply KeepBut.set_ | apply keep_drewN | apply keep_drew | apply keep_alloc | refine keep_far ?_ GW318.out _ | refine keep_far ?_ GW340.out _) | exact HK.out)⟩, ⟨by repeat (first | (with_reducible first | exact HB.out|apply bA|apply bN|apply bD | refine below_set ?_ (IsS103.ge HI0.out) | refine below_set ?_ GE318.out | refine below_set ?_ GE340.out) | exact HB.out)⟩⟩
           ·rw [if_neg c21] at H
            have c21b0 : decide (0 ≤ (wrap64 (((rd_T69 x5_1 t314).f1) + (rd (rd_L4 y331 t334) 1)))) = false := decide_eq_false c21
            clear c21
            have H' := Aside0.mk H
            clear H
            obtain ⟨Ao85, co85, eo85⟩ := Kd.R_slice HO_5.out
            subst eo85
            try go_wp2_with (first | ((with_reducible refine gate_callee (f := 69) rfl ?_); refine goesL_ (some 29) rfl rfl Try.func69 (by kernel_rfl) rfl #[.pointer (some ⟨g, 0, none⟩), .int .i64 (x5_1.length : Int)] rfl (by (try simp only [zE,zF,zG]); first|done|rfl|(simp only [zH,zI]; rfl)) ?_; (with_reducible refine (spec_l01Below.calls g s0_0 x1001_1 x1002_1 (x5_1.length : Int) t314 t315 t316 w0 _ ?side1 ?side2 A12.out).mono ?_); (case side1 => repeat (first | (with_reducible first | exact HI0.out | apply IsS103.alloc | apply IsS103.drewN | apply IsS103.drew | apply IsS103.set_1 | apply IsS103.set_2) | exact HI0.out)); (case side2 => repeat (first | (with_reducible first | exact HB.out|apply bA|apply bN|apply bD | refine below_set ?_ (IsS103.ge HI0.out)) | exact HB.out)); rintro e w86 ⟨rfl, hi, hb, hk⟩; refine ⟨_, rfl, ?_⟩; have n0_ := Aside0.mk (Kd.R_mono (Kd.R_keep (IsS103.apart (show IsS103 w0 _ g s0_0 x1001_1 x1002_1 from by repeat (first | (with_reducible first | exact HI0.out | apply IsS103.alloc | apply IsS103.drewN | apply IsS103.drew | apply IsS103.set_1 | apply IsS103.set_2) | exact HI0.out)) (by (with_reducible repeat (first|apply rA|apply rN|apply rD)); exact HO_5.out) (by decide)) hk (fun _ h => h.2)) (fun _ h => h.1)); have n1_ := Aside0.mk (KeepBut.trans (by repeat (first | (with_reducible first | exact HK.out | apply KeepBut.set_ | apply keep_drewN | apply keep_drew | apply keep_alloc) | exact HK.out)) hk (.inl rfl)); have n2_ := Aside0.mk (hb); have n3_ := Aside0.mk (hi); clear HO_5; clear HK; clear HB; clear HI0; have HO_5 := n0_; have HK := n1_; have HB := n2_; have HI0 := n3_; clear n0_ n1_ n2_ n3_; (try clear hb); (try clear hb2); (try clear hk); (try clear hi); have p317 : 0 ≤ (t314 : Int) := of_decide_eq_true (by first | (with_reducible assumption) | assumption); have q317 : t314 < (x5_1.length : Int) := of_decide_eq_true (by first | (with_reducible assumption) | assumption); obtain ⟨ad317, e317, hx317_0, hx317_1⟩ := at_T69 (Kd.R_reads' HO_5.out).2.2 t314 p317 q317; cases e317; replace p317 := eq_true p317; replace q317 := eq_true q317) | ((with_reducible refine gate_dst (N := 7) rfl ?_); refine box_event ?hg (N := 7) ?hd (cs := #[.int .i64 0, .int .i64 0]) (t := 69) ?hr ?_; (case hd => rfl); (case hg => rfl); (case hr => first | (go_simp; done) | (go_simp; rfl)); intro gb318 hg w87 hbox hb; have n0_ := Aside0.mk (Kd.R_below (Kd.R_elderB (by (with_reducible repeat (first|apply rA|apply rN|apply rD)); exact HO_5.out) gb318 (Nat.le_of_eq hg.symm)) hb); have n1_ := Aside0.mk (IsS103.below (by repeat (first | (with_reducible first | exact HI0.out | apply IsS103.alloc | apply IsS103.drewN | apply IsS103.drew | apply IsS103.set_1 | apply IsS103.set_2) | exact HI0.out)) hb); have n2_ := Aside0.mk (KeepBut.trans (by repeat (first | (with_reducible first | exact HK.out | apply KeepBut.set_ | apply keep_drewN | apply keep_drew | apply keep_alloc) | exact HK.out)) (KeepBut.of_below hb g none) (.inl rfl)); have n3_ := Aside0.mk (below_step (by repeat (first | (with_reducible first | exact HB.out|apply bA|apply bN|apply bD | refine below_set ?_ (IsS103.ge HI0.out)) | exact HB.out)) hb); have n4_ := Aside0.mk (hbox); have n5_ := Aside0.mk ((by rw [hg]; exact (keep_size (w := w) (g := g) (row := none) (by repeat (first | (with_reducible first | exact HK.out | apply KeepBut.set_ | apply keep_drewN | apply keep_drew | apply keep_alloc) | exact HK.out))) : w.heap.size ≤ gb318)); have n6_ := Aside0.mk ((Nat.le_trans HW0.out (by rw [hg]; exact (keep_size (w := w) (g := g) (row := none) (by repeat (first | (with_reducible first | exact HK.out | apply KeepBut.set_ | apply keep_drewN | apply keep_drew | apply keep_alloc) | exact HK.out))) : w.heap.size ≤ gb318) : w0.heap.size ≤ gb318)); have n7_ := Aside0.mk ((by rw [hg]; exact Nat.ne_of_lt (IsS103.lt (show IsS103 w0 _ g s0_0 t315 t316 from by repeat (first | (with_reducible first | exact HI0.out | apply IsS103.alloc | apply IsS103.drewN | apply IsS103.drew | apply IsS103.set_1 | apply IsS103.set_2) | exact HI0.out))) : g ≠ gb318)); have n8_ := Aside0.mk ((by rw [hg]; exact Nat.ne_of_gt (IsS103.lt (show IsS103 w0 _ g s0_0 t315 t316 from by repeat (first | (with_reducible first | exact HI0.out | apply IsS103.alloc | apply IsS103.drewN | apply IsS103.drew | apply IsS103.set_1 | apply IsS103.set_2) | exact HI0.out))) : gb318 ≠ g)); clear HO_5; clear HI0; clear HK; clear HB; have HO_5 := n0_; have HI0 := n1_; have HK := n2_; have HB := n3_; have BK318 := n4_; have GW318 := n5_; have GE318 := n6_; have NB0_318 := n7_; have NB318_0 := n8_; clear n0_ n1_ n2_ n3_ n4_ n5_ n6_ n7_ n8_; clear hb hbox hg; have hnb88 := NB318_0.out; have hnc88 := NB0_318.out; have hcz89_0 : w87.cell? ⟨gb318, 0, none⟩ = some (.int .i64 0) := (blk_cell BK318.out 0).trans rfl; have hcz89_1 : w87.cell? ⟨gb318, 1, none⟩ = some (.int .i64 0) := (blk_cell BK318.out 1).trans rfl; have hfz89_0 := blk_frozen BK318.out 0; have hfz89_1 := blk_frozen BK318.out 1) | ((with_reducible refine gate_dst (N := 32) rfl ?_); refine Kd.R_lit (Kd.int .i64) _ 3 ?hg (N := 32) ?hd (xs := ([1, 0] : List Int)) (inner := [.int .i64 1, .int .i64 0]) (ok := fun _ => True) (okp := fun _ => True) ?hr ?hp (fun _ hk => hk) trivial (Below.refl _ _) (Nat.le_refl _) (by simp) ?_; (case hd => rfl); (case hg => rfl); (case hr => first | (go_simp; done) | (go_simp; rfl)); (case hp => exact (Reps.one (show Kd.M (Kd.int .i64) _ _ _ 1 [.int .i64 1] from rfl) (Reps.one (show Kd.M (Kd.int .i64) _ _ _ 0 [.int .i64 0] from rfl) (Reps.none _ _)))); intro v320 w90 ho91 hb hg_ hnew_; clear hg_ hnew_; (first | rw [← Ny319.out] at ho91 | (simp only [Int.reduceToNat] at ho91; rw [← Ny319.out] at ho91)); have n0_ := Aside0.mk (Kd.R_below (by (with_reducible repeat (first|apply rA|apply rN|apply rD)); exact (Kd.R_mono (Kd.R_far (p := ⟨gb318, 1, none⟩) (Kd.R_far (p := ⟨gb318, 0, none⟩) (Kd.R_mono HO_5.out (fun k_ hk => (⟨hk, hk.2⟩ : _ ∧ k_ ≠ gb318))) (fun _ hk => hk.2) (.int .i64 ((rd_T69 x5_1 t314).f0))) (fun _ hk => hk.2) (.int .i64 ((rd_T69 x5_1 t314).f1))) (fun _ h_ => h_.1))) hb); have n1_ := Aside0.mk (Kd.R_lower ho91 (keep_size (w := w) (g := g) (row := none) (by repeat (first | (with_reducible first | exact HK.out | apply KeepBut.set_ | apply keep_drewN | apply keep_drew | apply keep_alloc | refine keep_far ?_ GW318.out _) | exact HK.out)))); have n2_ := Aside0.mk (IsS103.below (show IsS103 w0 ((w87.setCell ⟨gb318, 0, none⟩ (.int .i64 ((rd_T69 x5_1 t314).f0))).setCell ⟨gb318, 1, none⟩ (.int .i64 ((rd_T69 x5_1 t314).f1))) g s0_0 t315 t316 from by repeat (first | (with_reducible first | exact HI0.out | apply IsS103.alloc | apply IsS103.drewN | apply IsS103.drew | apply IsS103.set_1 | apply IsS103.set_2 | refine IsS103.far ?_ NB0_318.out _) | exact HI0.out)) hb); have n3_ := Aside0.mk (blk_below (g := gb318) (o := .cells #[.int .i64 ((rd_T69 x5_1 t314).f0), .int .i64 ((rd_T69 x5_1 t314).f1)] 69 (0, 0)) (by (with_reducible repeat (first|refine kN ?_ _|refine kD ?_|refine kA ?_ _)); refine blk_put (cs := #[.int .i64 ((rd_T69 x5_1 t314).f0), .int .i64 0]) ?_ 1 _ rfl; (with_reducible repeat (first|refine kN ?_ _|refine kD ?_|refine kA ?_ _)); refine blk_put (cs := #[.int .i64 0, .int .i64 0]) ?_ 0 _ rfl; (with_reducible repeat (first|refine kN ?_ _|refine kD ?_|refine kA ?_ _)); exact BK318.out) hb); have n4_ := Aside0.mk (KeepBut.trans (by repeat (first | (with_reducible first | exact HK.out | apply KeepBut.set_ | apply keep_drewN | apply keep_drew | apply keep_alloc | refine keep_far ?_ GW318.out _) | exact HK.out)) (KeepBut.of_below hb g none) (.inl rfl)); have n5_ := Aside0.mk (below_step (by repeat (first | (with_reducible first | exact HB.out|apply bA|apply bN|apply bD | refine below_set ?_ (IsS103.ge HI0.out) | refine below_set ?_ GE318.out) | exact HB.out)) hb); clear HO_5; clear HI0; clear BK318; clear HK; clear HB; have HO_5 := n0_; have HO321 := n1_; have HI0 := n2_; have BK318 := n3_; have HK := n4_; have HB := n5_; clear n0_ n1_ n2_ n3_ n4_ n5_; clear hb ho91) | ((with_reducible refine gate_dst (N := 33) rfl ?_); refine Kd.R_lit (Kd.int .i64) _ 3 ?hg (N := 33) ?hd (xs := ([(-1), 0] : List Int)) (inner := [.int .i64 (-1), .int .i64 0]) (ok := fun _ => True) (okp := fun _ => True) ?hr ?hp (fun _ hk => hk) trivial (Below.refl _ _) (Nat.le_refl _) (by simp) ?_; (case hd => rfl); (case hg => rfl); (case hr => first | (go_simp; done) | (go_simp; rfl)); (case hp => exact (Reps.one (show Kd.M (Kd.int .i64) _ _ _ (-1) [.int .i64 (-1)] from rfl) (Reps.one (show Kd.M (Kd.int .i64) _ _ _ 0 [.int .i64 0] from rfl) (Reps.none _ _)))); intro v323 w92 ho93 hb hg_ hnew_; clear hg_ hnew_; (first | rw [← Ny322.out] at ho93 | (simp only [Int.reduceToNat] at ho93; rw [← Ny322.out] at ho93)); have n0_ := Aside0.mk (Kd.R_below (by (with_reducible repeat (first|apply rA|apply rN|apply rD)); exact HO_5.out) hb); have n1_ := Aside0.mk (Kd.R_elder' (by (with_reducible repeat (first|apply rA|apply rN|apply rD)); exact HO321.out) (Kd.R_base ho93) hb); have n2_ := Aside0.mk (Kd.R_lower (Kd.R_new' ho93 (Kd.R_lt (by (with_reducible repeat (first|apply rA|apply rN|apply rD)); exact HO321.out))) (keep_size (w := w) (g := g) (row := none) (by repeat (first | (with_reducible first | exact HK.out | apply KeepBut.set_ | apply keep_drewN | apply keep_drew | apply keep_alloc | refine keep_far ?_ GW318.out _) | exact HK.out)))); have n3_ := Aside0.mk (IsS103.below (by repeat (first | (with_reducible first | exact HI0.out | apply IsS103.alloc | apply IsS103.drewN | apply IsS103.drew | apply IsS103.set_1 | apply IsS103.set_2 | refine IsS103.far ?_ NB0_318.out _) | exact HI0.out)) hb); have n4_ := Aside0.mk (blk_below (g := gb318) (o := .cells #[.int .i64 ((rd_T69 x5_1 t314).f0), .int .i64 ((rd_T69 x5_1 t314).f1)] 69 (0, 0)) (by (with_reducible repeat (first|refine kN ?_ _|refine kD ?_|refine kA ?_ _)); exact BK318.out) hb); have n5_ := Aside0.mk (KeepBut.trans (by repeat (first | (with_reducible first | exact HK.out | apply KeepBut.set_ | apply keep_drewN | apply keep_drew | apply keep_alloc | refine keep_far ?_ GW318.out _) | exact HK.out)) (KeepBut.of_below hb g none) (.inl rfl)); have n6_ := Aside0.mk (below_step (by repeat (first | (with_reducible first | exact HB.out|apply bA|apply bN|apply bD | refine below_set ?_ (IsS103.ge HI0.out) | refine below_set ?_ GE318.out) | exact HB.out)) hb); clear HO_5; clear HO321; clear HI0; clear BK318; clear HK; clear HB; have HO_5 := n0_; have HO321 := n1_; have HO324 := n2_; have HI0 := n3_; have BK318 := n4_; have HK := n5_; have HB := n6_; clear n0_ n1_ n2_ n3_ n4_ n5_ n6_; clear hb ho93) | ((with_reducible refine gate_dst (N := 34) rfl ?_); refine Kd.R_lit (Kd.int .i64) _ 3 ?hg (N := 34) ?hd (xs := ([0, 1] : List Int)) (inner := [.int .i64 0, .int .i64 1]) (ok := fun _ => True) (okp := fun _ => True) ?hr ?hp (fun _ hk => hk) trivial (Below.refl _ _) (Nat.le_refl _) (by simp) ?_; (case hd => rfl); (case hg => rfl); (case hr => first | (go_simp; done) | (go_simp; rfl)); (case hp => exact (Reps.one (show Kd.M (Kd.int .i64) _ _ _ 0 [.int .i64 0] from rfl) (Reps.one (show Kd.M (Kd.int .i64) _ _ _ 1 [.int .i64 1] from rfl) (Reps.none _ _)))); intro v326 w94 ho95 hb hg_ hnew_; clear hg_ hnew_; (first | rw [← Ny325.out] at ho95 | (simp only [Int.reduceToNat] at ho95; rw [← Ny325.out] at ho95)); have n0_ := Aside0.mk (Kd.R_below (by (with_reducible repeat (first|apply rA|apply rN|apply rD)); exact HO_5.out) hb); have n1_ := Aside0.mk (Kd.R_elder' (by (with_reducible repeat (first|apply rA|apply rN|apply rD)); exact HO321.out) (Kd.R_base ho95) hb); have n2_ := Aside0.mk (Kd.R_elder' (by (with_reducible repeat (first|apply rA|apply rN|apply rD)); exact HO324.out) (Kd.R_base ho95) hb); have n3_ := Aside0.mk (Kd.R_lower (Kd.R_new' (Kd.R_new' ho95 (Kd.R_lt (by (with_reducible repeat (first|apply rA|apply rN|apply rD)); exact HO321.out))) (Kd.R_lt (by (with_reducible repeat (first|apply rA|apply rN|apply rD)); exact HO324.out))) (keep_size (w := w) (g := g) (row := none) (by repeat (first | (with_reducible first | exact HK.out | apply KeepBut.set_ | apply keep_drewN | apply keep_drew | apply keep_alloc | refine keep_far ?_ GW318.out _) | exact HK.out)))); have n4_ := Aside0.mk (IsS103.below (by repeat (first | (with_reducible first | exact HI0.out | apply IsS103.alloc | apply IsS103.drewN | apply IsS103.drew | apply IsS103.set_1 | apply IsS103.set_2 | refine IsS103.far ?_ NB0_318.out _) | exact HI0.out)) hb); have n5_ := Aside0.mk (blk_below (g := gb318) (o := .cells #[.int .i64 ((rd_T69 x5_1 t314).f0), .int .i64 ((rd_T69 x5_1 t314).f1)] 69 (0, 0)) (by (with_reducible repeat (first|refine kN ?_ _|refine kD ?_|refine kA ?_ _)); exact BK318.out) hb); have n6_ := Aside0.mk (KeepBut.trans (by repeat (first | (with_reducible first | exact HK.out | apply KeepBut.set_ | apply keep_drewN | apply keep_drew | apply keep_alloc | refine keep_far ?_ GW318.out _) | exact HK.out)) (KeepBut.of_below hb g none) (.inl rfl)); have n7_ := Aside0.mk (below_step (by repeat (first | (with_reducible first | exact HB.out|apply bA|apply bN|apply bD | refine below_set ?_ (IsS103.ge HI0.out) | refine below_set ?_ GE318.out) | exact HB.out)) hb); clear HO_5; clear HO321; clear HO324; clear HI0; clear BK318; clear HK; clear HB; have HO_5 := n0_; have HO321 := n1_; have HO324 := n2_; have HO327 := n3_; have HI0 := n4_; have BK318 := n5_; have HK := n6_; have HB := n7_; clear n0_ n1_ n2_ n3_ n4_ n5_ n6_ n7_; clear hb ho95) | ((with_reducible refine gate_dst (N := 35) rfl ?_); refine Kd.R_lit (Kd.int .i64) _ 3 ?hg (N := 35) ?hd (xs := ([0, (-1)] : List Int)) (inner := [.int .i64 0, .int .i64 (-1)]) (ok := fun _ => True) (okp := fun _ => True) ?hr ?hp (fun _ hk => hk) trivial (Below.refl _ _) (Nat.le_refl _) (by simp) ?_; (case hd => rfl); (case hg => rfl); (case hr => first | (go_simp; done) | (go_simp; rfl)); (case hp => exact (Reps.one (show Kd.M (Kd.int .i64) _ _ _ 0 [.int .i64 0] from rfl) (Reps.one (show Kd.M (Kd.int .i64) _ _ _ (-1) [.int .i64 (-1)] from rfl) (Reps.none _ _)))); intro v329 w96 ho97 hb hg_ hnew_; clear hg_ hnew_; (first | rw [← Ny328.out] at ho97 | (simp only [Int.reduceToNat] at ho97; rw [← Ny328.out] at ho97)); have n0_ := Aside0.mk (Kd.R_below (by (with_reducible repeat (first|apply rA|apply rN|apply rD)); exact HO_5.out) hb); have n1_ := Aside0.mk (Kd.R_elder' (by (with_reducible repeat (first|apply rA|apply rN|apply rD)); exact HO321.out) (Kd.R_base ho97) hb); have n2_ := Aside0.mk (Kd.R_elder' (by (with_reducible repeat (first|apply rA|apply rN|apply rD)); exact HO324.out) (Kd.R_base ho97) hb); have n3_ := Aside0.mk (Kd.R_elder' (by (with_reducible repeat (first|apply rA|apply rN|apply rD)); exact HO327.out) (Kd.R_base ho97) hb); have n4_ := Aside0.mk (Kd.R_lower (Kd.R_new' (Kd.R_new' (Kd.R_new' ho97 (Kd.R_lt (by (with_reducible repeat (first|apply rA|apply rN|apply rD)); exact HO321.out))) (Kd.R_lt (by (with_reducible repeat (first|apply rA|apply rN|apply rD)); exact HO324.out))) (Kd.R_lt (by (with_reducible repeat (first|apply rA|apply rN|apply rD)); exact HO327.out))) (keep_size (w := w) (g := g) (row := none) (by repeat (first | (with_reducible first | exact HK.out | apply KeepBut.set_ | apply keep_drewN | apply keep_drew | apply keep_alloc | refine keep_far ?_ GW318.out _) | exact HK.out)))); have n5_ := Aside0.mk (IsS103.below (by repeat (first | (with_reducible first | exact HI0.out | apply IsS103.alloc | apply IsS103.drewN | apply IsS103.drew | apply IsS103.set_1 | apply IsS103.set_2 | refine IsS103.far ?_ NB0_318.out _) | exact HI0.out)) hb); have n6_ := Aside0.mk (blk_below (g := gb318) (o := .cells #[.int .i64 ((rd_T69 x5_1 t314).f0), .int .i64 ((rd_T69 x5_1 t314).f1)] 69 (0, 0)) (by (with_reducible repeat (first|refine kN ?_ _|refine kD ?_|refine kA ?_ _)); exact BK318.out) hb); have n7_ := Aside0.mk (KeepBut.trans (by repeat (first | (with_reducible first | exact HK.out | apply KeepBut.set_ | apply keep_drewN | apply keep_drew | apply keep_alloc | refine keep_far ?_ GW318.out _) | exact HK.out)) (KeepBut.of_below hb g none) (.inl rfl)); have n8_ := Aside0.mk (below_step (by repeat (first | (with_reducible first | exact HB.out|apply bA|apply bN|apply bD | refine below_set ?_ (IsS103.ge HI0.out) | refine below_set ?_ GE318.out) | exact HB.out)) hb); clear HO_5; clear HO321; clear HO324; clear HO327; clear HI0; clear BK318; clear HK; clear HB; have HO_5 := n0_; have HO321 := n1_; have HO324 := n2_; have HO327 := n3_; have HO330 := n4_; have HI0 := n5_; have BK318 := n6_; have HK := n7_; have HB := n8_; clear n0_ n1_ n2_ n3_ n4_ n5_ n6_ n7_ n8_; clear hb ho97; obtain ⟨Ao98, co98, eo98⟩ := Kd.R_slice HO321.out; subst eo98; obtain ⟨Ao99, co99, eo99⟩ := Kd.R_slice HO324.out; subst eo99; obtain ⟨Ao100, co100, eo100⟩ := Kd.R_slice HO327.out; subst eo100; obtain ⟨Ao101, co101, eo101⟩ := Kd.R_slice HO330.out; subst eo101) | ((with_reducible refine gate_dst (N := 36) rfl ?_); refine Kd.N_lit (Kd.slice 3 (Kd.int .i64)) _ 31 ?hg (N' := 36) ?hd (xs := ([y319, y322, y325, y328] : List (List Int))) (inner := [.slice Ao98 y319.length co98, .slice Ao99 y322.length co99, .slice Ao100 y325.length co100, .slice Ao101 y328.length co101]) (ok := (fun k_ => some k_ ≠ (.slice (some ad317) x5_1.length co85 : Value).ownBlock ∧ k_ ≠ gb318 ∧ k_ ≠ g)) (okp := (fun k_ => some k_ ≠ (.slice (some ad317) x5_1.length co85 : Value).ownBlock ∧ k_ ≠ gb318 ∧ k_ ≠ g)) ?hr ?hp (fun _ hk => hk) ((show ∀ k_, w96.heap.size ≤ k_ → (fun k_ => some k_ ≠ (.slice (some ad317) x5_1.length co85 : Value).ownBlock ∧ k_ ≠ gb318 ∧ k_ ≠ g) k_ from fun k_ hk => ⟨Kd.fresh' (Kd.R_lt (by (with_reducible repeat (first|apply rA|apply rN|apply rD)); exact HO_5.out)) k_ hk, Kd.freshB (g := gb318) (o := .cells #[.int .i64 ((rd_T69 x5_1 t314).f0), .int .i64 ((rd_T69 x5_1 t314).f1)] 69 (0, 0)) (by (with_reducible repeat (first|refine kN ?_ _|refine kD ?_|refine kA ?_ _)); exact BK318.out) k_ hk, IsS103.fresh (by repeat (first | (with_reducible first | exact HI0.out | apply IsS103.alloc | apply IsS103.drewN | apply IsS103.drew | apply IsS103.set_1 | apply IsS103.set_2 | refine IsS103.far ?_ NB0_318.out _) | exact HI0.out)) k_ hk⟩) _ (Nat.le_refl _)) (Below.refl _ _) (Nat.le_refl _) (by simp) ?_; (case hd => rfl); (case hg => rfl); (case hr => first | (go_simp; done) | (go_simp; rfl)); (case hp => exact (Reps.one (show Kd.FK (Kd.slice 3 (Kd.int .i64)) _ _ y319 [.slice Ao98 y319.length co98] from (Kd.FK_slice_mk (Kd.R_reads' (Kd.R_mono (ok' := (fun k_ => some k_ ≠ (.slice (some ad317) x5_1.length co85 : Value).ownBlock ∧ k_ ≠ gb318 ∧ k_ ≠ g)) (IsS103.apart HI0.out (Kd.R_types (Kd.R_apart' (HO321.out) (Kd.R_typed HO_5.out) (by decide)) BK318.out (by decide)) (by decide)) (fun k_ hk => ⟨hk.1.1.2, ⟨hk.1.2, hk.2⟩⟩))).2.1 (Kd.R_F (Kd.R_mono (ok' := (fun k_ => some k_ ≠ (.slice (some ad317) x5_1.length co85 : Value).ownBlock ∧ k_ ≠ gb318 ∧ k_ ≠ g)) (IsS103.apart HI0.out (Kd.R_types (Kd.R_apart' (HO321.out) (Kd.R_typed HO_5.out) (by decide)) BK318.out (by decide)) (by decide)) (fun k_ hk => ⟨hk.1.1.2, ⟨hk.1.2, hk.2⟩⟩))))) (Reps.one (show Kd.FK (Kd.slice 3 (Kd.int .i64)) _ _ y322 [.slice Ao99 y322.length co99] from (Kd.FK_slice_mk (Kd.R_reads' (Kd.R_mono (ok' := (fun k_ => some k_ ≠ (.slice (some ad317) x5_1.length co85 : Value).ownBlock ∧ k_ ≠ gb318 ∧ k_ ≠ g)) (IsS103.apart HI0.out (Kd.R_types (Kd.R_apart' (HO324.out) (Kd.R_typed HO_5.out) (by decide)) BK318.out (by decide)) (by decide)) (fun k_ hk => ⟨hk.1.1.2, ⟨hk.1.2, hk.2⟩⟩))).2.1 (Kd.R_F (Kd.R_mono (ok' := (fun k_ => some k_ ≠ (.slice (some ad317) x5_1.length co85 : Value).ownBlock ∧ k_ ≠ gb318 ∧ k_ ≠ g)) (IsS103.apart HI0.out (Kd.R_types (Kd.R_apart' (HO324.out) (Kd.R_typed HO_5.out) (by decide)) BK318.out (by decide)) (by decide)) (fun k_ hk => ⟨hk.1.1.2, ⟨hk.1.2, hk.2⟩⟩))))) (Reps.one (show Kd.FK (Kd.slice 3 (Kd.int .i64)) _ _ y325 [.slice Ao100 y325.length co100] from (Kd.FK_slice_mk (Kd.R_reads' (Kd.R_mono (ok' := (fun k_ => some k_ ≠ (.slice (some ad317) x5_1.length co85 : Value).ownBlock ∧ k_ ≠ gb318 ∧ k_ ≠ g)) (IsS103.apart HI0.out (Kd.R_types (Kd.R_apart' (HO327.out) (Kd.R_typed HO_5.out) (by decide)) BK318.out (by decide)) (by decide)) (fun k_ hk => ⟨hk.1.1.2, ⟨hk.1.2, hk.2⟩⟩))).2.1 (Kd.R_F (Kd.R_mono (ok' := (fun k_ => some k_ ≠ (.slice (some ad317) x5_1.length co85 : Value).ownBlock ∧ k_ ≠ gb318 ∧ k_ ≠ g)) (IsS103.apart HI0.out (Kd.R_types (Kd.R_apart' (HO327.out) (Kd.R_typed HO_5.out) (by decide)) BK318.out (by decide)) (by decide)) (fun k_ hk => ⟨hk.1.1.2, ⟨hk.1.2, hk.2⟩⟩))))) (Reps.one (show Kd.FK (Kd.slice 3 (Kd.int .i64)) _ _ y328 [.slice Ao101 y328.length co101] from (Kd.FK_slice_mk (Kd.R_reads' (Kd.R_mono (ok' := (fun k_ => some k_ ≠ (.slice (some ad317) x5_1.length co85 : Value).ownBlock ∧ k_ ≠ gb318 ∧ k_ ≠ g)) (IsS103.apart HI0.out (Kd.R_types (Kd.R_apart' (HO330.out) (Kd.R_typed HO_5.out) (by decide)) BK318.out (by decide)) (by decide)) (fun k_ hk => ⟨hk.1.1.2, ⟨hk.1.2, hk.2⟩⟩))).2.1 (Kd.R_F (Kd.R_mono (ok' := (fun k_ => some k_ ≠ (.slice (some ad317) x5_1.length co85 : Value).ownBlock ∧ k_ ≠ gb318 ∧ k_ ≠ g)) (IsS103.apart HI0.out (Kd.R_types (Kd.R_apart' (HO330.out) (Kd.R_typed HO_5.out) (by decide)) BK318.out (by decide)) (by decide)) (fun k_ hk => ⟨hk.1.1.2, ⟨hk.1.2, hk.2⟩⟩))))) (Reps.none _ _)))))); intro v332 w102 ho103 hb hg_ hnew_; clear hg_ hnew_; (first | rw [← Ny331.out] at ho103 | (simp only [Int.reduceToNat] at ho103; rw [← Ny331.out] at ho103)); have n0_ := Aside0.mk (Kd.R_below (by (with_reducible repeat (first|apply rA|apply rN|apply rD)); exact HO_5.out) hb); have n1_ := Aside0.mk (Kd.N_lower ho103 (keep_size (w := w) (g := g) (row := none) (by repeat (first | (with_reducible first | exact HK.out | apply KeepBut.set_ | apply keep_drewN | apply keep_drew | apply keep_alloc | refine keep_far ?_ GW318.out _) | exact HK.out)))); have n2_ := Aside0.mk (IsS103.below (by repeat (first | (with_reducible first | exact HI0.out | apply IsS103.alloc | apply IsS103.drewN | apply IsS103.drew | apply IsS103.set_1 | apply IsS103.set_2 | refine IsS103.far ?_ NB0_318.out _) | exact HI0.out)) hb); have n3_ := Aside0.mk (blk_below (g := gb318) (o := .cells #[.int .i64 ((rd_T69 x5_1 t314).f0), .int .i64 ((rd_T69 x5_1 t314).f1)] 69 (0, 0)) (by (with_reducible repeat (first|refine kN ?_ _|refine kD ?_|refine kA ?_ _)); exact BK318.out) hb); have n4_ := Aside0.mk (KeepBut.trans (by repeat (first | (with_reducible first | exact HK.out | apply KeepBut.set_ | apply keep_drewN | apply keep_drew | apply keep_alloc | refine keep_far ?_ GW318.out _) | exact HK.out)) (KeepBut.of_below hb g none) (.inl rfl)); have n5_ := Aside0.mk (below_step (by repeat (first | (with_reducible first | exact HB.out|apply bA|apply bN|apply bD | refine below_set ?_ (IsS103.ge HI0.out) | refine below_set ?_ GE318.out) | exact HB.out)) hb); clear HO_5; clear HI0; clear BK318; clear HK; clear HB; clear HO321; clear HO324; clear HO327; clear HO330; have HO_5 := n0_; have HO333 := n1_; have HI0 := n2_; have BK318 := n3_; have HK := n4_; have HB := n5_; clear n0_ n1_ n2_ n3_ n4_ n5_; clear hb ho103) | ((with_reducible refine gate_callee (f := 69) rfl ?_); refine goesL_ (some 38) rfl rfl Try.func69 (by kernel_rfl) rfl #[.pointer (some ⟨g, 0, none⟩), .int .i64 4] rfl (by (try simp only [zE,zF,zG]); first|done|rfl|(simp only [zH,zI]; rfl)) ?_; (with_reducible refine (spec_l01Below.calls g s0_0 t315 t316 4 t334 t335 t336 w0 _ ?side1 ?side2 A15.out).mono ?_); (case side1 => repeat (first | (with_reducible first | exact HI0.out | apply IsS103.alloc | apply IsS103.drewN | apply IsS103.drew | apply IsS103.set_1 | apply IsS103.set_2 | refine IsS103.far ?_ NB0_318.out _) | exact HI0.out)); (case side2 => repeat (first | (with_reducible first | exact HB.out|apply bA|apply bN|apply bD | refine below_set ?_ (IsS103.ge HI0.out) | refine below_set ?_ GE318.out) | exact HB.out)); rintro e w104 ⟨rfl, hi, hb, hk⟩; refine ⟨_, rfl, ?_⟩; have n0_ := Aside0.mk (Kd.R_mono (Kd.R_keep (IsS103.apart (show IsS103 w0 _ g s0_0 t315 t316 from by repeat (first | (with_reducible first | exact HI0.out | apply IsS103.alloc | apply IsS103.drewN | apply IsS103.drew | apply IsS103.set_1 | apply IsS103.set_2 | refine IsS103.far ?_ NB0_318.out _) | exact HI0.out)) (by (with_reducible repeat (first|apply rA|apply rN|apply rD)); exact HO_5.out) (by decide)) hk (fun _ h => h.2)) (fun _ h => h.1)); have n1_ := Aside0.mk (KeepBut.blk hk (g' := gb318) (o := .cells #[.int .i64 ((rd_T69 x5_1 t314).f0), .int .i64 ((rd_T69 x5_1 t314).f1)] 69 (0, 0)) (by (with_reducible repeat (first|refine kN ?_ _|refine kD ?_|refine kA ?_ _)); exact BK318.out) NB318_0.out (by simp)); have n2_ := Aside0.mk (Kd.N_mono (Kd.N_keep (Kd.N_mono (ok := fun k_ => (some k_ ≠ (.slice (some ad317) x5_1.length co85 : Value).ownBlock ∧ (k_ ≠ gb318 ∧ k_ ≠ g))) (by (with_reducible repeat (first | apply Kd.N_alloc | apply Kd.N_drewN | apply Kd.N_drew)); exact HO333.out) (fun k_ hk_ => (⟨hk_, hk_.2.2⟩ : _ ∧ k_ ≠ g))) hk (fun _ h => h.2)) (fun _ h => h.1)); have n3_ := Aside0.mk (KeepBut.trans (by repeat (first | (with_reducible first | exact HK.out | apply KeepBut.set_ | apply keep_drewN | apply keep_drew | apply keep_alloc | refine keep_far ?_ GW318.out _) | exact HK.out)) hk (.inl rfl)); have n4_ := Aside0.mk (hb); have n5_ := Aside0.mk (hi); clear HO_5; clear BK318; clear HO333; clear HK; clear HB; clear HI0; have HO_5 := n0_; have BK318 := n1_; have HO333 := n2_; have HK := n3_; have HB := n4_; have HI0 := n5_; clear n0_ n1_ n2_ n3_ n4_ n5_; (try clear hb); (try clear hb2); (try clear hk); (try clear hi); obtain ⟨Ao105, co105, eo105⟩ := Kd.N_slice HO333.out; subst eo105; have p337 : 0 ≤ (t334 : Int) := of_decide_eq_true (by first | (with_reducible assumption) | assumption); have q337 : t334 < (y331.length : Int) := of_decide_eq_true (by first | (with_reducible assumption) | assumption); obtain ⟨ad337, A337_0, c337_0, e337, hx337_0, hl337_0, hi337_0⟩ := at_L4 (Kd.N_reads' HO333.out).2.2 t334 p337 q337; cases e337; obtain ⟨ce337, hce337, hMe337, hcc337⟩ := Kd.N_get HO333.out [] t334 p337 (by first | exact q337 | exact of_decide_eq_true (by first | (with_reducible assumption) | assumption) | (have e_ := (Kd.N_reads' HO333.out).1; omega)); obtain ⟨ua337_0, uc337_0, rfl, ul337_0, ge337_0⟩ := Kd.FK_slice_open hMe337; have hv337_0 := hcc337 0 _ rfl; rw [Nat.add_zero, show ((Kd.slice 3 (Kd.int .i64))).sz = 1 from rfl, Nat.mul_one] at hv337_0; replace hv337_0 := Option.some.inj (hv337_0.symm.trans hx337_0); injection hv337_0 with hva_ hvn_ hvc_; rw [hva_] at ge337_0; rw [hvc_] at ul337_0; have HL337_0 := Aside0.mk (show Kd.V (Kd.int .i64) 3 _ w.heap.size _ _ (rd_L4 y331 t334) from Kd.V_mk ul337_0 ge337_0); clear hva_ hvn_ hvc_ ge337_0 ul337_0; clear hcc337 hce337; have HR337_0 := Aside0.mk hi337_0; have HC337_0 := Aside0.mk hl337_0; clear hi337_0 hl337_0; replace p337 := eq_true p337; replace q337 := eq_true q337))
            have n0_ := Aside0.mk (Kd.R_drew HO_5.out)
            have n1_ := Aside0.mk (Kd.N_drew HO333.out)
            have n2_ := Aside0.mk (Kd.V_drew HL337_0.out)
            have n3_ := Aside0.mk (blk_drew BK318.out)
            have n4_ := Aside0.mk (Kd.C_drew HR337_0.out)
            have n5_ := Aside0.mk (IsS103.drew HI0.out)
            have n6_ := Aside0.mk (keep_drew HK.out)
            have n7_ := Aside0.mk (below_drew1 HB.out)
            clear HO_5
            clear HO333
            clear HL337_0
            clear BK318
            clear HR337_0
            clear HI0
            clear HK
            clear HB
            have HO_5 := n0_
            have HO333 := n1_
            have HL337_0 := n2_
            have BK318 := n3_
            have HR337_0 := n4_
            have HI0 := n5_
            have HK := n6_
            have HB := n7_
            clear n0_ n1_ n2_ n3_ n4_ n5_ n6_ n7_
            have p338 : 0 ≤ (0 : Int) := (by omega)
            have q338 : 0 < ((rd_L4 y331 t334).length : Int) := of_decide_eq_true (by first | (with_reducible assumption) | assumption)
            obtain ⟨ad338, e338, hx338_0⟩ := Kd.at_int (by repeat (first | (with_reducible exact HR337_0.out) | (with_reducible refine Kd.C_alloc ?_ _) | (with_reducible refine Kd.C_drewN ?_ _) | (with_reducible refine Kd.C_drew ?_) | exact HR337_0.out)) 0 p338 q338
            cases e338
            have qi338 : (0 < (rd_L4 y331 t334).length) = True := eq_true (by omega)
            (try rw [show ((0 : Int)).toNat = 0 from rfl] at hx338_0)
            (try rw [Addr.add_zero'] at hx338_0)
            replace p338 := eq_true p338
            replace q338 := eq_true q338
            have p339 : 0 ≤ (1 : Int) := (by omega)
            have q339 : 1 < ((rd_L4 y331 t334).length : Int) := of_decide_eq_true (by first | (with_reducible assumption) | assumption)
            obtain ⟨ad339, e339, hx339_0⟩ := Kd.at_int (by repeat (first | (with_reducible exact HR337_0.out) | (with_reducible refine Kd.C_alloc ?_ _) | (with_reducible refine Kd.C_drewN ?_ _) | (with_reducible refine Kd.C_drew ?_) | exact HR337_0.out)) 1 p339 q339
            obtain rfl : ad338 = ad339 := (by injection e339)
            (try simp only [show (1 : Int).toNat = 1 from rfl, Nat.reduceMul, Nat.reduceEqDiff, Go.Addr.add, ↓reduceIte] at hx339_0)
            have qi339 : (1 < (rd_L4 y331 t334).length) = True := eq_true (by omega)
            (try rw [show ((1 : Int)).toNat = 1 from rfl] at hx339_0)
            replace p339 := eq_true p339
            replace q339 := eq_true q339
            refine start_ (n := 15) (S := fun w' => w'.cell? ⟨gb318, 0, none⟩ = some (.int .i64 ((rd_T69 x5_1 t314).f0)) ∧ w'.cell? ⟨gb318, 1, none⟩ = some (.int .i64 ((rd_T69 x5_1 t314).f1)) ∧ w'.cell? ad338 = some (.int .i64 (rd (rd_L4 y331 t334) 0)) ∧ w'.cell? ⟨ad338.block, ad338.off + 1, none⟩ = some (.int .i64 (rd (rd_L4 y331 t334) 1))) (ds := []) #[ff,ff,ff,ff,ff,ff,ff,ff,ff,ff,ff,ff,ff,ff,ff] (by kernel_rfl) rfl rfl ⟨(blk_cell BK318.out 0).trans rfl, (blk_cell BK318.out 1).trans rfl, hx338_0, hx339_0⟩ (fun hHeld => ?_); refine with_tabW spec_l15Draw.tab7 spec_l15Draw.bits7 (fun HT_ HW_ => ?_)
            generalize w104.drew = w106 at HO_5 HO333 HL337_0 BK318 HR337_0 HI0 HK HB hx338_0 hx339_0 hHeld ⊢
            refine pure_ (i := 0) (N := some 41) (v := ?_) (a' := ?_) (fl 15 1) rfl rfl (any_of HT_.out (by kernel_rfl)) (fun _ _ _ h => h) (Or.inl ⟨by kernel_rfl, ?_⟩) ?_ ?_
            rotate_left
            ·intro w'
             go_simp
             with_reducible rfl
            rotate_left
            ·simp only [Act.put, zA, zB, zC, i64_w, i32_w]
             rfl
            refine pure_ (i := 2) (N := some 43) (v := ?_) (a' := ?_) (fl 15 5) rfl rfl (any_of HT_.out (by kernel_rfl)) (fun _ _ _ h => h) (Or.inl ⟨by kernel_rfl, ?_⟩) ?_ ?_
            rotate_left
            ·intro w'
             go_simp
             with_reducible rfl
            rotate_left
            ·simp only [Act.put, zA, zB, zC, i64_w, i32_w]
             rfl
            refine pure_ (i := 3) (N := some 44) (v := ?_) (a' := ?_) (fl 15 13) rfl rfl (any_of HT_.out (by kernel_rfl)) (fun _ _ _ h => h) (Or.inl ⟨by kernel_rfl, ?_⟩) ?_ ?_
            rotate_left
            ·intro w'
             go_simp
             with_reducible rfl
            rotate_left
            ·simp only [Act.put, zA, zB, zC, i64_w, i32_w]
             rfl
            refine pure_ (i := 6) (N := some 47) (v := ?_) (a' := ?_) (fl 15 77) rfl rfl (any_of HT_.out (by kernel_rfl)) (fun _ _ _ h => h) (Or.inl ⟨by kernel_rfl, ?_⟩) ?_ ?_
            rotate_left
            ·intro w'
             go_simp
             with_reducible rfl
            rotate_left
            ·simp only [Act.put, zA, zB, zC, i64_w, i32_w]
             rfl
            refine pure_ (i := 8) (N := some 49) (v := ?_) (a' := ?_) (fl 15 333) rfl rfl (any_of HT_.out (by kernel_rfl)) (fun _ _ _ h => h) (Or.inl ⟨by kernel_rfl, ?_⟩) ?_ ?_
            rotate_left
            ·intro w'
             go_simp
             with_reducible rfl
            rotate_left
            ·simp only [Act.put, zA, zB, zC, i64_w, i32_w]
             rfl
            refine pure_ (i := 9) (N := some 50) (v := ?_) (a' := ?_) (fl 15 845) rfl rfl (any_of HT_.out (by kernel_rfl)) (fun _ _ _ h => h) (Or.inl ⟨by kernel_rfl, ?_⟩) ?_ ?_
            rotate_left
            ·intro w'
             go_simp
             with_reducible rfl
            rotate_left
            ·simp only [Act.put, zA, zB, zC, i64_w, i32_w]
             rfl
            refine take_ (i := 1) (N := some 42) (v := ?_) (a' := ?_) (fl 15 847) rfl rfl (take_ofW HT_.out HW_.out (by kernel_rfl)) (fun _ _ _ h => h) (Or.inl ⟨by kernel_rfl, ?_⟩) hHeld ?_ ?_
            rotate_left
            ·rintro w' ⟨s0, s1, s2, s3⟩
             go_simp
             with_reducible rfl
            rotate_left
            ·simp only [Act.put, zA, zB, zC, i64_w, i32_w]
             rfl
            refine take_ (i := 4) (N := some 45) (v := ?_) (a' := ?_) (fl 15 863) rfl rfl (take_ofW HT_.out HW_.out (by kernel_rfl)) (fun _ _ _ h => h) (Or.inl ⟨by kernel_rfl, ?_⟩) hHeld ?_ ?_
            rotate_left
            ·rintro w' ⟨s0, s1, s2, s3⟩
             go_simp
             with_reducible rfl
            rotate_left
            ·simp only [Act.put, zA, zB, zC, i64_w, i32_w]
             rfl
            refine pure_ (i := 5) (N := some 46) (v := ?_) (a' := ?_) (fl 15 895) rfl rfl (any_of HT_.out (by kernel_rfl)) (fun _ _ _ h => h) (Or.inl ⟨by kernel_rfl, ?_⟩) ?_ ?_
            rotate_left
            ·intro w'
             go_simp
             with_reducible rfl
            rotate_left
            ·simp only [Act.put, zA, zB, zC, i64_w, i32_w]
             rfl
            refine take_ (i := 7) (N := some 48) (v := ?_) (a' := ?_) (fl 15 1023) rfl rfl (take_ofW HT_.out HW_.out (by kernel_rfl)) (fun _ _ _ h => h) (Or.inl ⟨by kernel_rfl, ?_⟩) hHeld ?_ ?_
            rotate_left
            ·rintro w' ⟨s0, s1, s2, s3⟩
             go_simp
             with_reducible rfl
            rotate_left
            ·simp only [Act.put, zA, zB, zC, i64_w, i32_w]
             rfl
            refine take_ (i := 10) (N := some 51) (v := ?_) (a' := ?_) (fl 15 2047) rfl rfl (take_ofW HT_.out HW_.out (by kernel_rfl)) (fun _ _ _ h => h) (Or.inl ⟨by kernel_rfl, ?_⟩) hHeld ?_ ?_
            rotate_left
            ·rintro w' ⟨s0, s1, s2, s3⟩
             go_simp
             with_reducible rfl
            rotate_left
            ·simp only [Act.put, zA, zB, zC, i64_w, i32_w]
             rfl
            refine pure_ (i := 11) (N := some 52) (v := ?_) (a' := ?_) (fl 15 4095) rfl rfl (any_of HT_.out (by kernel_rfl)) (fun _ _ _ h => h) (Or.inl ⟨by kernel_rfl, ?_⟩) ?_ ?_
            rotate_left
            ·intro w'
             go_simp
             with_reducible rfl
            rotate_left
            ·simp only [Act.put, zA, zB, zC, i64_w, i32_w]
             rfl
            refine pure_ (i := 12) (N := some 53) (v := ?_) (a' := ?_) (fl 15 8191) rfl rfl (any_of HT_.out (by kernel_rfl)) (fun _ _ _ h => h) (Or.inl ⟨by kernel_rfl, ?_⟩) ?_ ?_
            rotate_left
            ·intro w'
             go_simp
             with_reducible rfl
            rotate_left
            ·simp only [Act.put, zA, zB, zC, i64_w, i32_w]
             rfl
            refine one_ (i := 13) (N := some 9) #[tt,tt,tt,tt,tt,tt,tt,tt,tt,tt,tt,tt,tt,tt,ff] rfl rfl (one_of HT_.out (by kernel_rfl)) (by decide) (fun K hK => ?_)
            refine box_step ?hg (N := 9) ?hd (cs := #[.int .i64 0, .int .i64 0]) (t := 69) ?hr ?_; (case hd => rfl); (case hg => rfl); (case hr => first | (go_simp; done) | (go_simp; rfl))
            intro gb340 hg w107 hbox hb
            have HS2_ := (hb.cell (World.block_lt_of_cell? _ _ (hHeld.2.2.1))).trans (hHeld.2.2.1)
            have HS3_ := (hb.cell (World.block_lt_of_cell? _ _ (hHeld.2.2.2))).trans (hHeld.2.2.2)
            have NAF_ := Aside0.mk (Nat.ne_of_lt (Nat.lt_of_lt_of_eq (World.block_lt_of_cell? _ _ hHeld.2.2.1) hg.symm))
            have n0_ := Aside0.mk (Kd.R_below (Kd.R_elderB (by (with_reducible repeat (first|apply rA|apply rN|apply rD)); exact HO_5.out) gb340 (Nat.le_of_eq hg.symm)) hb)
            have n1_ := Aside0.mk (Kd.N_below (Kd.N_elderB (by (with_reducible repeat (first | apply Kd.N_alloc | apply Kd.N_drewN | apply Kd.N_drew)); exact HO333.out) gb340 (Nat.le_of_eq hg.symm)) hb)
            have n2_ := Aside0.mk (Kd.V_below (Kd.V_elderB (by (with_reducible repeat (first | apply Kd.V_alloc | apply Kd.V_drewN | apply Kd.V_drew)); exact HL337_0.out) gb340 (Nat.le_of_eq hg.symm)) hb)
            have n3_ := Aside0.mk (IsS103.below (by repeat (first | (with_reducible first | exact HI0.out | apply IsS103.alloc | apply IsS103.drewN | apply IsS103.drew | apply IsS103.set_1 | apply IsS103.set_2 | refine IsS103.far ?_ NB0_318.out _) | exact HI0.out)) hb)
            have n4_ := Aside0.mk (blk_below (g := gb318) (o := .cells #[.int .i64 ((rd_T69 x5_1 t314).f0), .int .i64 ((rd_T69 x5_1 t314).f1)] 69 (0, 0)) (by (with_reducible repeat (first|refine kN ?_ _|refine kD ?_|refine kA ?_ _)); exact BK318.out) hb)
            have n5_ := Aside0.mk (Kd.C_below (by repeat (first | (with_reducible exact HR337_0.out) | (with_reducible refine Kd.C_alloc ?_ _) | (with_reducible refine Kd.C_drewN ?_ _) | (with_reducible refine Kd.C_drew ?_) | exact HR337_0.out)) hb)
            have n6_ := Aside0.mk (KeepBut.trans (by repeat (first | (with_reducible first | exact HK.out | apply KeepBut.set_ | apply keep_drewN | apply keep_drew | apply keep_alloc | refine keep_far ?_ GW318.out _) | exact HK.out)) (KeepBut.of_below hb g none) (.inl rfl))
            have n7_ := Aside0.mk (below_step (by repeat (first | (with_reducible first | exact HB.out|apply bA|apply bN|apply bD | refine below_set ?_ (IsS103.ge HI0.out) | refine below_set ?_ GE318.out) | exact HB.out)) hb)
            have n8_ := Aside0.mk (hbox)
            have n9_ := Aside0.mk ((by rw [hg]; exact (keep_size (w := w) (g := g) (row := none) (by repeat (first | (with_reducible first | exact HK.out | apply KeepBut.set_ | apply keep_drewN | apply keep_drew | apply keep_alloc | refine keep_far ?_ GW318.out _) | exact HK.out))) : w.heap.size ≤ gb340))
            have n10_ := Aside0.mk ((Nat.le_trans HW0.out (by rw [hg]; exact (keep_size (w := w) (g := g) (row := none) (by repeat (first | (with_reducible first | exact HK.out | apply KeepBut.set_ | apply keep_drewN | apply keep_drew | apply keep_alloc | refine keep_far ?_ GW318.out _) | exact HK.out))) : w.heap.size ≤ gb340) : w0.heap.size ≤ gb340))
            have n11_ := Aside0.mk ((by rw [hg]; exact Nat.ne_of_lt (blk_lt (g := gb318) (o := .cells #[.int .i64 ((rd_T69 x5_1 t314).f0), .int .i64 ((rd_T69 x5_1 t314).f1)] 69 (0, 0)) (by (with_reducible repeat (first|refine kN ?_ _|refine kD ?_|refine kA ?_ _)); exact BK318.out)) : gb318 ≠ gb340))
            have n12_ := Aside0.mk ((by rw [hg]; exact Nat.ne_of_gt (blk_lt (g := gb318) (o := .cells #[.int .i64 ((rd_T69 x5_1 t314).f0), .int .i64 ((rd_T69 x5_1 t314).f1)] 69 (0, 0)) (by (with_reducible repeat (first|refine kN ?_ _|refine kD ?_|refine kA ?_ _)); exact BK318.out)) : gb340 ≠ gb318))
            have n13_ := Aside0.mk ((by rw [hg]; exact Nat.ne_of_lt (IsS103.lt (show IsS103 w0 _ g s0_0 t335 t336 from by repeat (first | (with_reducible first | exact HI0.out | apply IsS103.alloc | apply IsS103.drewN | apply IsS103.drew | apply IsS103.set_1 | apply IsS103.set_2 | refine IsS103.far ?_ NB0_318.out _) | exact HI0.out))) : g ≠ gb340))
            have n14_ := Aside0.mk ((by rw [hg]; exact Nat.ne_of_gt (IsS103.lt (show IsS103 w0 _ g s0_0 t335 t336 from by repeat (first | (with_reducible first | exact HI0.out | apply IsS103.alloc | apply IsS103.drewN | apply IsS103.drew | apply IsS103.set_1 | apply IsS103.set_2 | refine IsS103.far ?_ NB0_318.out _) | exact HI0.out))) : gb340 ≠ g))
            clear HO_5
            clear HO333
            clear HL337_0
            clear HI0
            clear BK318
            clear HR337_0
            clear HK
            clear HB
            have HO_5 := n0_
            have HO333 := n1_
            have HL337_0 := n2_
            have HI0 := n3_
            have BK318 := n4_
            have HR337_0 := n5_
            have HK := n6_
            have HB := n7_
            have BK340 := n8_
            have GW340 := n9_
            have GE340 := n10_
            have NB318_340 := n11_
            have NB340_318 := n12_
            have NB0_340 := n13_
            have NB340_0 := n14_
            clear n0_ n1_ n2_ n3_ n4_ n5_ n6_ n7_ n8_ n9_ n10_ n11_ n12_ n13_ n14_
            clear hb hbox hg
            refine hK.out _ _ ⟨(blk_cell BK318.out 0).trans rfl, (blk_cell BK318.out 1).trans rfl, HS2_, HS3_⟩ (fun hHeld => ?_)
            clear hK K
            refine norm_ (a' := ?_) ?_ ?_
            rotate_left
            ·show Act.put _ (some 9) _ = _
             simp only [Act.put, zA, zB, zC, i64_w, i32_w]
             rfl
            refine one_ (i := 14) (N := none) #[tt,tt,tt,tt,tt,tt,tt,tt,tt,tt,tt,tt,tt,tt,tt] rfl rfl (one_of HT_.out (by kernel_rfl)) (by decide) (fun K hK => ?_)
            have hs108 : w107.cell? ⟨gb340, 0, none⟩ = some (.int .i64 0) := (blk_cell BK340.out 0).trans rfl
            have hfs108 := blk_frozen BK340.out 0
            have hns108_0 := NB318_340.out
            have hms108_0 := NB340_318.out
            have hs109 : w107.cell? ⟨gb340, 1, none⟩ = some (.int .i64 0) := (blk_cell BK340.out 1).trans rfl
            have hfs109 := blk_frozen BK340.out 1
            have hns109_0 := NB318_340.out
            have hms109_0 := NB340_318.out
            refine skip_ (w1 := ?_) (by rfl) rfl ?_ ?_
            rotate_left
            ·go_simp
             rfl
            refine hK.out _ _ ⟨((cell_far (p := ⟨gb340, _, none⟩) NB318_340.out _).trans (((cell_far (p := ⟨gb340, _, none⟩) NB318_340.out _).trans (hHeld.1)))), ((cell_far (p := ⟨gb340, _, none⟩) NB318_340.out _).trans (((cell_far (p := ⟨gb340, _, none⟩) NB318_340.out _).trans (hHeld.2.1)))), ((cell_far (p := ⟨gb340, _, none⟩) (by exact NAF_.out) _).trans (((cell_far (p := ⟨gb340, _, none⟩) (by exact NAF_.out) _).trans (hHeld.2.2.1)))), ((cell_far (p := ⟨gb340, _, none⟩) (by exact NAF_.out) _).trans (((cell_far (p := ⟨gb340, _, none⟩) (by exact NAF_.out) _).trans (hHeld.2.2.2))))⟩ (fun hHeld => ?_)
            clear hK K
            refine done_ (done_of HT_.out (by kernel_rfl)) ?_
            have hnb110 := NB340_318.out
            have hnc110 := NB318_340.out
            have hnb111 := NB340_0.out
            have hnc111 := NB0_340.out
            have hcz112_0 : w107.cell? ⟨gb340, 0, none⟩ = some (.int .i64 0) := (blk_cell BK340.out 0).trans rfl
            have hcz112_1 : w107.cell? ⟨gb340, 1, none⟩ = some (.int .i64 0) := (blk_cell BK340.out 1).trans rfl
            have hfz112_0 := blk_frozen BK340.out 0
            have hfz112_1 := blk_frozen BK340.out 1
            try go_wp2
            go_roundg k1
            case measure => have := HK1.out; omega
            case rel => exact ⟨(x5_1), (wrap64 (x6_1 - 1)), (t335), (t336), (by first | rfl | (simp; done) | (simp [*]; done)), H', ⟨by have := HK1.out; omega⟩, ⟨by (with_reducible repeat (first|apply rA|apply rN|apply rD)); exact Kd.R_mono (Kd.R_far (p := ⟨gb340, 1, none⟩) (Kd.R_far (p := ⟨gb340, 0, none⟩) (Kd.R_mono HO_5.out (fun k_ hk => (⟨hk, hk.2⟩ : _ ∧ k_ ≠ gb340))) (fun _ hk => hk.2) (.int .i64 (wrap64 (((rd_T69 x5_1 t314).f0) + (rd (rd_L4 y331 t334) 0))))) (fun _ hk => hk.2) (.int .i64 (wrap64 (((rd_T69 x5_1 t314).f1) + (rd (rd_L4 y331 t334) 1))))) (fun _ hk => trivial)⟩, ⟨by repeat (first | (with_reducible first | exact HI0.out | apply IsS103.alloc | apply IsS103.drewN | apply IsS103.drew | apply IsS103.set_1 | apply IsS103.set_2 | refine IsS103.far ?_ NB0_318.out _ | refine IsS103.far ?_ NB0_340.out _) | exact HI0.out)⟩, ⟨by repeat (first | (with_reducible first | exact HK.out | apply KeepBut.set_ | apply keep_drewN | apply keep_drew | apply keep_alloc | refine keep_far ?_ GW318.out _ | refine keep_far ?_ GW340.out _) | exact HK.out)⟩, ⟨by repeat (first | (with_reducible first | exact HB.out|apply bA|apply bN|apply bD | refine below_set ?_ (IsS103.ge HI0.out) | refine below_set ?_ GE318.out | refine below_set ?_ GE340.out) | exact HB.out)⟩⟩
          ·rw [if_neg c20] at H
           have c20b0 : decide (0 ≤ (wrap64 (((rd_T69 x5_1 t314).f0) + (rd (rd_L4 y331 t334) 0)))) = false := decide_eq_false c20
           clear c20
           have H' := Aside0.mk H
           clear H
           obtain ⟨Ao113, co113, eo113⟩ := Kd.R_slice HO_5.out
           subst eo113
           try go_wp2_with (first | ((with_reducible refine gate_callee (f := 69) rfl ?_); refine goesL_ (some 29) rfl rfl Try.func69 (by kernel_rfl) rfl #[.pointer (some ⟨g, 0, none⟩), .int .i64 (x5_1.length : Int)] rfl (by (try simp only [zE,zF,zG]); first|done|rfl|(simp only [zH,zI]; rfl)) ?_; (with_reducible refine (spec_l01Below.calls g s0_0 x1001_1 x1002_1 (x5_1.length : Int) t314 t315 t316 w0 _ ?side1 ?side2 A12.out).mono ?_); (case side1 => repeat (first | (with_reducible first | exact HI0.out | apply IsS103.alloc | apply IsS103.drewN | apply IsS103.drew | apply IsS103.set_1 | apply IsS103.set_2) | exact HI0.out)); (case side2 => repeat (first | (with_reducible first | exact HB.out|apply bA|apply bN|apply bD | refine below_set ?_ (IsS103.ge HI0.out)) | exact HB.out)); rintro e w114 ⟨rfl, hi, hb, hk⟩; refine ⟨_, rfl, ?_⟩; have n0_ := Aside0.mk (Kd.R_mono (Kd.R_keep (IsS103.apart (show IsS103 w0 _ g s0_0 x1001_1 x1002_1 from by repeat (first | (with_reducible first | exact HI0.out | apply IsS103.alloc | apply IsS103.drewN | apply IsS103.drew | apply IsS103.set_1 | apply IsS103.set_2) | exact HI0.out)) (by (with_reducible repeat (first|apply rA|apply rN|apply rD)); exact HO_5.out) (by decide)) hk (fun _ h => h.2)) (fun _ h => h.1)); have n1_ := Aside0.mk (KeepBut.trans (by repeat (first | (with_reducible first | exact HK.out | apply KeepBut.set_ | apply keep_drewN | apply keep_drew | apply keep_alloc) | exact HK.out)) hk (.inl rfl)); have n2_ := Aside0.mk (hb); have n3_ := Aside0.mk (hi); clear HO_5; clear HK; clear HB; clear HI0; have HO_5 := n0_; have HK := n1_; have HB := n2_; have HI0 := n3_; clear n0_ n1_ n2_ n3_; (try clear hb); (try clear hb2); (try clear hk); (try clear hi); have p317 : 0 ≤ (t314 : Int) := of_decide_eq_true (by first | (with_reducible assumption) | assumption); have q317 : t314 < (x5_1.length : Int) := of_decide_eq_true (by first | (with_reducible assumption) | assumption); obtain ⟨ad317, e317, hx317_0, hx317_1⟩ := at_T69 (Kd.R_reads' HO_5.out).2.2 t314 p317 q317; cases e317; replace p317 := eq_true p317; replace q317 := eq_true q317) | ((with_reducible refine gate_dst (N := 7) rfl ?_); refine box_event ?hg (N := 7) ?hd (cs := #[.int .i64 0, .int .i64 0]) (t := 69) ?hr ?_; (case hd => rfl); (case hg => rfl); (case hr => first | (go_simp; done) | (go_simp; rfl)); intro gb318 hg w115 hbox hb; have n0_ := Aside0.mk (Kd.R_below (Kd.R_elderB (by (with_reducible repeat (first|apply rA|apply rN|apply rD)); exact HO_5.out) gb318 (Nat.le_of_eq hg.symm)) hb); have n1_ := Aside0.mk (IsS103.below (by repeat (first | (with_reducible first | exact HI0.out | apply IsS103.alloc | apply IsS103.drewN | apply IsS103.drew | apply IsS103.set_1 | apply IsS103.set_2) | exact HI0.out)) hb); have n2_ := Aside0.mk (KeepBut.trans (by repeat (first | (with_reducible first | exact HK.out | apply KeepBut.set_ | apply keep_drewN | apply keep_drew | apply keep_alloc) | exact HK.out)) (KeepBut.of_below hb g none) (.inl rfl)); have n3_ := Aside0.mk (below_step (by repeat (first | (with_reducible first | exact HB.out|apply bA|apply bN|apply bD | refine below_set ?_ (IsS103.ge HI0.out)) | exact HB.out)) hb); have n4_ := Aside0.mk (hbox); have n5_ := Aside0.mk ((by rw [hg]; exact (keep_size (w := w) (g := g) (row := none) (by repeat (first | (with_reducible first | exact HK.out | apply KeepBut.set_ | apply keep_drewN | apply keep_drew | apply keep_alloc) | exact HK.out))) : w.heap.size ≤ gb318)); have n6_ := Aside0.mk ((Nat.le_trans HW0.out (by rw [hg]; exact (keep_size (w := w) (g := g) (row := none) (by repeat (first | (with_reducible first | exact HK.out | apply KeepBut.set_ | apply keep_drewN | apply keep_drew | apply keep_alloc) | exact HK.out))) : w.heap.size ≤ gb318) : w0.heap.size ≤ gb318)); have n7_ := Aside0.mk ((by rw [hg]; exact Nat.ne_of_lt (IsS103.lt (show IsS103 w0 _ g s0_0 t315 t316 from by repeat (first | (with_reducible first | exact HI0.out | apply IsS103.alloc | apply IsS103.drewN | apply IsS103.drew | apply IsS103.set_1 | apply IsS103.set_2) | exact HI0.out))) : g ≠ gb318)); have n8_ := Aside0.mk ((by rw [hg]; exact Nat.ne_of_gt (IsS103.lt (show IsS103 w0 _ g s0_0 t315 t316 from by repeat (first | (with_reducible first | exact HI0.out | apply IsS103.alloc | apply IsS103.drewN | apply IsS103.drew | apply IsS103.set_1 | apply IsS103.set_2) | exact HI0.out))) : gb318 ≠ g)); clear HO_5; clear HI0; clear HK; clear HB; have HO_5 := n0_; have HI0 := n1_; have HK := n2_; have HB := n3_; have BK318 := n4_; have GW318 := n5_; have GE318 := n6_; have NB0_318 := n7_; have NB318_0 := n8_; clear n0_ n1_ n2_ n3_ n4_ n5_ n6_ n7_ n8_; clear hb hbox hg; have hnb116 := NB318_0.out; have hnc116 := NB0_318.out; have hcz117_0 : w115.cell? ⟨gb318, 0, none⟩ = some (.int .i64 0) := (blk_cell BK318.out 0).trans rfl; have hcz117_1 : w115.cell? ⟨gb318, 1, none⟩ = some (.int .i64 0) := (blk_cell BK318.out 1).trans rfl; have hfz117_0 := blk_frozen BK318.out 0; have hfz117_1 := blk_frozen BK318.out 1) | ((with_reducible refine gate_dst (N := 32) rfl ?_); refine Kd.R_lit (Kd.int .i64) _ 3 ?hg (N := 32) ?hd (xs := ([1, 0] : List Int)) (inner := [.int .i64 1, .int .i64 0]) (ok := fun _ => True) (okp := fun _ => True) ?hr ?hp (fun _ hk => hk) trivial (Below.refl _ _) (Nat.le_refl _) (by simp) ?_; (case hd => rfl); (case hg => rfl); (case hr => first | (go_simp; done) | (go_simp; rfl)); (case hp => exact (Reps.one (show Kd.M (Kd.int .i64) _ _ _ 1 [.int .i64 1] from rfl) (Reps.one (show Kd.M (Kd.int .i64) _ _ _ 0 [.int .i64 0] from rfl) (Reps.none _ _)))); intro v320 w118 ho119 hb hg_ hnew_; clear hg_ hnew_; (first | rw [← Ny319.out] at ho119 | (simp only [Int.reduceToNat] at ho119; rw [← Ny319.out] at ho119)); have n0_ := Aside0.mk (Kd.R_below (by (with_reducible repeat (first|apply rA|apply rN|apply rD)); exact (Kd.R_mono (Kd.R_far (p := ⟨gb318, 1, none⟩) (Kd.R_far (p := ⟨gb318, 0, none⟩) (Kd.R_mono HO_5.out (fun k_ hk => (⟨hk, hk.2⟩ : _ ∧ k_ ≠ gb318))) (fun _ hk => hk.2) (.int .i64 ((rd_T69 x5_1 t314).f0))) (fun _ hk => hk.2) (.int .i64 ((rd_T69 x5_1 t314).f1))) (fun _ h_ => h_.1))) hb); have n1_ := Aside0.mk (Kd.R_lower ho119 (keep_size (w := w) (g := g) (row := none) (by repeat (first | (with_reducible first | exact HK.out | apply KeepBut.set_ | apply keep_drewN | apply keep_drew | apply keep_alloc | refine keep_far ?_ GW318.out _) | exact HK.out)))); have n2_ := Aside0.mk (IsS103.below (show IsS103 w0 ((w115.setCell ⟨gb318, 0, none⟩ (.int .i64 ((rd_T69 x5_1 t314).f0))).setCell ⟨gb318, 1, none⟩ (.int .i64 ((rd_T69 x5_1 t314).f1))) g s0_0 t315 t316 from by repeat (first | (with_reducible first | exact HI0.out | apply IsS103.alloc | apply IsS103.drewN | apply IsS103.drew | apply IsS103.set_1 | apply IsS103.set_2 | refine IsS103.far ?_ NB0_318.out _) | exact HI0.out)) hb); have n3_ := Aside0.mk (blk_below (g := gb318) (o := .cells #[.int .i64 ((rd_T69 x5_1 t314).f0), .int .i64 ((rd_T69 x5_1 t314).f1)] 69 (0, 0)) (by (with_reducible repeat (first|refine kN ?_ _|refine kD ?_|refine kA ?_ _)); refine blk_put (cs := #[.int .i64 ((rd_T69 x5_1 t314).f0), .int .i64 0]) ?_ 1 _ rfl; (with_reducible repeat (first|refine kN ?_ _|refine kD ?_|refine kA ?_ _)); refine blk_put (cs := #[.int .i64 0, .int .i64 0]) ?_ 0 _ rfl; (with_reducible repeat (first|refine kN ?_ _|refine kD ?_|refine kA ?_ _)); exact BK318.out) hb); have n4_ := Aside0.mk (KeepBut.trans (by repeat (first | (with_reducible first | exact HK.out | apply KeepBut.set_ | apply keep_drewN | apply keep_drew | apply keep_alloc | refine keep_far ?_ GW318.out _) | exact HK.out)) (KeepBut.of_below hb g none) (.inl rfl)); have n5_ := Aside0.mk (below_step (by repeat (first | (with_reducible first | exact HB.out|apply bA|apply bN|apply bD | refine below_set ?_ (IsS103.ge HI0.out) | refine below_set ?_ GE318.out) | exact HB.out)) hb); clear HO_5; clear HI0; clear BK318; clear HK; clear HB; have HO_5 := n0_; have HO321 := n1_; have HI0 := n2_; have BK318 := n3_; have HK := n4_; have HB := n5_; clear n0_ n1_ n2_ n3_ n4_ n5_; clear hb ho119) | ((with_reducible refine gate_dst (N := 33) rfl ?_); refine Kd.R_lit (Kd.int .i64) _ 3 ?hg (N := 33) ?hd (xs := ([(-1), 0] : List Int)) (inner := [.int .i64 (-1), .int .i64 0]) (ok := fun _ => True) (okp := fun _ => True) ?hr ?hp (fun _ hk => hk) trivial (Below.refl _ _) (Nat.le_refl _) (by simp) ?_; (case hd => rfl); (case hg => rfl); (case hr => first | (go_simp; done) | (go_simp; rfl)); (case hp => exact (Reps.one (show Kd.M (Kd.int .i64) _ _ _ (-1) [.int .i64 (-1)] from rfl) (Reps.one (show Kd.M (Kd.int .i64) _ _ _ 0 [.int .i64 0] from rfl) (Reps.none _ _)))); intro v323 w120 ho121 hb hg_ hnew_; clear hg_ hnew_; (first | rw [← Ny322.out] at ho121 | (simp only [Int.reduceToNat] at ho121; rw [← Ny322.out] at ho121)); have n0_ := Aside0.mk (Kd.R_below (by (with_reducible repeat (first|apply rA|apply rN|apply rD)); exact HO_5.out) hb); have n1_ := Aside0.mk (Kd.R_elder' (by (with_reducible repeat (first|apply rA|apply rN|apply rD)); exact HO321.out) (Kd.R_base ho121) hb); have n2_ := Aside0.mk (Kd.R_lower (Kd.R_new' ho121 (Kd.R_lt (by (with_reducible repeat (first|apply rA|apply rN|apply rD)); exact HO321.out))) (keep_size (w := w) (g := g) (row := none) (by repeat (first | (with_reducible first | exact HK.out | apply KeepBut.set_ | apply keep_drewN | apply keep_drew | apply keep_alloc | refine keep_far ?_ GW318.out _) | exact HK.out)))); have n3_ := Aside0.mk (IsS103.below (by repeat (first | (with_reducible first | exact HI0.out | apply IsS103.alloc | apply IsS103.drewN | apply IsS103.drew | apply IsS103.set_1 | apply IsS103.set_2 | refine IsS103.far ?_ NB0_318.out _) | exact HI0.out)) hb); have n4_ := Aside0.mk (blk_below (g := gb318) (o := .cells #[.int .i64 ((rd_T69 x5_1 t314).f0), .int .i64 ((rd_T69 x5_1 t314).f1)] 69 (0, 0)) (by (with_reducible repeat (first|refine kN ?_ _|refine kD ?_|refine kA ?_ _)); exact BK318.out) hb); have n5_ := Aside0.mk (KeepBut.trans (by repeat (first | (with_reducible first | exact HK.out | apply KeepBut.set_ | apply keep_drewN | apply keep_drew | apply keep_alloc | refine keep_far ?_ GW318.out _) | exact HK.out)) (KeepBut.of_below hb g none) (.inl rfl)); have n6_ := Aside0.mk (below_step (by repeat (first | (with_reducible first | exact HB.out|apply bA|apply bN|apply bD | refine below_set ?_ (IsS103.ge HI0.out) | refine below_set ?_ GE318.out) | exact HB.out)) hb); clear HO_5; clear HO321; clear HI0; clear BK318; clear HK; clear HB; have HO_5 := n0_; have HO321 := n1_; have HO324 := n2_; have HI0 := n3_; have BK318 := n4_; have HK := n5_; have HB := n6_; clear n0_ n1_ n2_ n3_ n4_ n5_ n6_; clear hb ho121) | ((with_reducible refine gate_dst (N := 34) rfl ?_); refine Kd.R_lit (Kd.int .i64) _ 3 ?hg (N := 34) ?hd (xs := ([0, 1] : List Int)) (inner := [.int .i64 0, .int .i64 1]) (ok := fun _ => True) (okp := fun _ => True) ?hr ?hp (fun _ hk => hk) trivial (Below.refl _ _) (Nat.le_refl _) (by simp) ?_; (case hd => rfl); (case hg => rfl); (case hr => first | (go_simp; done) | (go_simp; rfl)); (case hp => exact (Reps.one (show Kd.M (Kd.int .i64) _ _ _ 0 [.int .i64 0] from rfl) (Reps.one (show Kd.M (Kd.int .i64) _ _ _ 1 [.int .i64 1] from rfl) (Reps.none _ _)))); intro v326 w122 ho123 hb hg_ hnew_; clear hg_ hnew_; (first | rw [← Ny325.out] at ho123 | (simp only [Int.reduceToNat] at ho123; rw [← Ny325.out] at ho123)); have n0_ := Aside0.mk (Kd.R_below (by (with_reducible repeat (first|apply rA|apply rN|apply rD)); exact HO_5.out) hb); have n1_ := Aside0.mk (Kd.R_elder' (by (with_reducible repeat (first|apply rA|apply rN|apply rD)); exact HO321.out) (Kd.R_base ho123) hb); have n2_ := Aside0.mk (Kd.R_elder' (by (with_reducible repeat (first|apply rA|apply rN|apply rD)); exact HO324.out) (Kd.R_base ho123) hb); have n3_ := Aside0.mk (Kd.R_lower (Kd.R_new' (Kd.R_new' ho123 (Kd.R_lt (by (with_reducible repeat (first|apply rA|apply rN|apply rD)); exact HO321.out))) (Kd.R_lt (by (with_reducible repeat (first|apply rA|apply rN|apply rD)); exact HO324.out))) (keep_size (w := w) (g := g) (row := none) (by repeat (first | (with_reducible first | exact HK.out | apply KeepBut.set_ | apply keep_drewN | apply keep_drew | apply keep_alloc | refine keep_far ?_ GW318.out _) | exact HK.out)))); have n4_ := Aside0.mk (IsS103.below (by repeat (first | (with_reducible first | exact HI0.out | apply IsS103.alloc | apply IsS103.drewN | apply IsS103.drew | apply IsS103.set_1 | apply IsS103.set_2 | refine IsS103.far ?_ NB0_318.out _) | exact HI0.out)) hb); have n5_ := Aside0.mk (blk_below (g := gb318) (o := .cells #[.int .i64 ((rd_T69 x5_1 t314).f0), .int .i64 ((rd_T69 x5_1 t314).f1)] 69 (0, 0)) (by (with_reducible repeat (first|refine kN ?_ _|refine kD ?_|refine kA ?_ _)); exact BK318.out) hb); have n6_ := Aside0.mk (KeepBut.trans (by repeat (first | (with_reducible first | exact HK.out | apply KeepBut.set_ | apply keep_drewN | apply keep_drew | apply keep_alloc | refine keep_far ?_ GW318.out _) | exact HK.out)) (KeepBut.of_below hb g none) (.inl rfl)); have n7_ := Aside0.mk (below_step (by repeat (first | (with_reducible first | exact HB.out|apply bA|apply bN|apply bD | refine below_set ?_ (IsS103.ge HI0.out) | refine below_set ?_ GE318.out) | exact HB.out)) hb); clear HO_5; clear HO321; clear HO324; clear HI0; clear BK318; clear HK; clear HB; have HO_5 := n0_; have HO321 := n1_; have HO324 := n2_; have HO327 := n3_; have HI0 := n4_; have BK318 := n5_; have HK := n6_; have HB := n7_; clear n0_ n1_ n2_ n3_ n4_ n5_ n6_ n7_; clear hb ho123) | ((with_reducible refine gate_dst (N := 35) rfl ?_); refine Kd.R_lit (Kd.int .i64) _ 3 ?hg (N := 35) ?hd (xs := ([0, (-1)] : List Int)) (inner := [.int .i64 0, .int .i64 (-1)]) (ok := fun _ => True) (okp := fun _ => True) ?hr ?hp (fun _ hk => hk) trivial (Below.refl _ _) (Nat.le_refl _) (by simp) ?_; (case hd => rfl); (case hg => rfl); (case hr => first | (go_simp; done) | (go_simp; rfl)); (case hp => exact (Reps.one (show Kd.M (Kd.int .i64) _ _ _ 0 [.int .i64 0] from rfl) (Reps.one (show Kd.M (Kd.int .i64) _ _ _ (-1) [.int .i64 (-1)] from rfl) (Reps.none _ _)))); intro v329 w124 ho125 hb hg_ hnew_; clear hg_ hnew_; (first | rw [← Ny328.out] at ho125 | (simp only [Int.reduceToNat] at ho125; rw [← Ny328.out] at ho125)); have n0_ := Aside0.mk (Kd.R_below (by (with_reducible repeat (first|apply rA|apply rN|apply rD)); exact HO_5.out) hb); have n1_ := Aside0.mk (Kd.R_elder' (by (with_reducible repeat (first|apply rA|apply rN|apply rD)); exact HO321.out) (Kd.R_base ho125) hb); have n2_ := Aside0.mk (Kd.R_elder' (by (with_reducible repeat (first|apply rA|apply rN|apply rD)); exact HO324.out) (Kd.R_base ho125) hb); have n3_ := Aside0.mk (Kd.R_elder' (by (with_reducible repeat (first|apply rA|apply rN|apply rD)); exact HO327.out) (Kd.R_base ho125) hb); have n4_ := Aside0.mk (Kd.R_lower (Kd.R_new' (Kd.R_new' (Kd.R_new' ho125 (Kd.R_lt (by (with_reducible repeat (first|apply rA|apply rN|apply rD)); exact HO321.out))) (Kd.R_lt (by (with_reducible repeat (first|apply rA|apply rN|apply rD)); exact HO324.out))) (Kd.R_lt (by (with_reducible repeat (first|apply rA|apply rN|apply rD)); exact HO327.out))) (keep_size (w := w) (g := g) (row := none) (by repeat (first | (with_reducible first | exact HK.out | apply KeepBut.set_ | apply keep_drewN | apply keep_drew | apply keep_alloc | refine keep_far ?_ GW318.out _) | exact HK.out)))); have n5_ := Aside0.mk (IsS103.below (by repeat (first | (with_reducible first | exact HI0.out | apply IsS103.alloc | apply IsS103.drewN | apply IsS103.drew | apply IsS103.set_1 | apply IsS103.set_2 | refine IsS103.far ?_ NB0_318.out _) | exact HI0.out)) hb); have n6_ := Aside0.mk (blk_below (g := gb318) (o := .cells #[.int .i64 ((rd_T69 x5_1 t314).f0), .int .i64 ((rd_T69 x5_1 t314).f1)] 69 (0, 0)) (by (with_reducible repeat (first|refine kN ?_ _|refine kD ?_|refine kA ?_ _)); exact BK318.out) hb); have n7_ := Aside0.mk (KeepBut.trans (by repeat (first | (with_reducible first | exact HK.out | apply KeepBut.set_ | apply keep_drewN | apply keep_drew | apply keep_alloc | refine keep_far ?_ GW318.out _) | exact HK.out)) (KeepBut.of_below hb g none) (.inl rfl)); have n8_ := Aside0.mk (below_step (by repeat (first | (with_reducible first | exact HB.out|apply bA|apply bN|apply bD | refine below_set ?_ (IsS103.ge HI0.out) | refine below_set ?_ GE318.out) | exact HB.out)) hb); clear HO_5; clear HO321; clear HO324; clear HO327; clear HI0; clear BK318; clear HK; clear HB; have HO_5 := n0_; have HO321 := n1_; have HO324 := n2_; have HO327 := n3_; have HO330 := n4_; have HI0 := n5_; have BK318 := n6_; have HK := n7_; have HB := n8_; clear n0_ n1_ n2_ n3_ n4_ n5_ n6_ n7_ n8_; clear hb ho125; obtain ⟨Ao126, co126, eo126⟩ := Kd.R_slice HO321.out; subst eo126; obtain ⟨Ao127, co127, eo127⟩ := Kd.R_slice HO324.out; subst eo127; obtain ⟨Ao128, co128, eo128⟩ := Kd.R_slice HO327.out; subst eo128; obtain ⟨Ao129, co129, eo129⟩ := Kd.R_slice HO330.out; subst eo129) | ((with_reducible refine gate_dst (N := 36) rfl ?_); refine Kd.N_lit (Kd.slice 3 (Kd.int .i64)) _ 31 ?hg (N' := 36) ?hd (xs := ([y319, y322, y325, y328] : List (List Int))) (inner := [.slice Ao126 y319.length co126, .slice Ao127 y322.length co127, .slice Ao128 y325.length co128, .slice Ao129 y328.length co129]) (ok := (fun k_ => some k_ ≠ (.slice (some ad317) x5_1.length co113 : Value).ownBlock ∧ k_ ≠ gb318 ∧ k_ ≠ g)) (okp := (fun k_ => some k_ ≠ (.slice (some ad317) x5_1.length co113 : Value).ownBlock ∧ k_ ≠ gb318 ∧ k_ ≠ g)) ?hr ?hp (fun _ hk => hk) ((show ∀ k_, w124.heap.size ≤ k_ → (fun k_ => some k_ ≠ (.slice (some ad317) x5_1.length co113 : Value).ownBlock ∧ k_ ≠ gb318 ∧ k_ ≠ g) k_ from fun k_ hk => ⟨Kd.fresh' (Kd.R_lt (by (with_reducible repeat (first|apply rA|apply rN|apply rD)); exact HO_5.out)) k_ hk, Kd.freshB (g := gb318) (o := .cells #[.int .i64 ((rd_T69 x5_1 t314).f0), .int .i64 ((rd_T69 x5_1 t314).f1)] 69 (0, 0)) (by (with_reducible repeat (first|refine kN ?_ _|refine kD ?_|refine kA ?_ _)); exact BK318.out) k_ hk, IsS103.fresh (by repeat (first | (with_reducible first | exact HI0.out | apply IsS103.alloc | apply IsS103.drewN | apply IsS103.drew | apply IsS103.set_1 | apply IsS103.set_2 | refine IsS103.far ?_ NB0_318.out _) | exact HI0.out)) k_ hk⟩) _ (Nat.le_refl _)) (Below.refl _ _) (Nat.le_refl _) (by simp) ?_; (case hd => rfl); (case hg => rfl); (case hr => first | (go_simp; done) | (go_simp; rfl)); (case hp => exact (Reps.one (show Kd.FK (Kd.slice 3 (Kd.int .i64)) _ _ y319 [.slice Ao126 y319.length co126] from (Kd.FK_slice_mk (Kd.R_reads' (Kd.R_mono (ok' := (fun k_ => some k_ ≠ (.slice (some ad317) x5_1.length co113 : Value).ownBlock ∧ k_ ≠ gb318 ∧ k_ ≠ g)) (IsS103.apart HI0.out (Kd.R_types (Kd.R_apart' (HO321.out) (Kd.R_typed HO_5.out) (by decide)) BK318.out (by decide)) (by decide)) (fun k_ hk => ⟨hk.1.1.2, ⟨hk.1.2, hk.2⟩⟩))).2.1 (Kd.R_F (Kd.R_mono (ok' := (fun k_ => some k_ ≠ (.slice (some ad317) x5_1.length co113 : Value).ownBlock ∧ k_ ≠ gb318 ∧ k_ ≠ g)) (IsS103.apart HI0.out (Kd.R_types (Kd.R_apart' (HO321.out) (Kd.R_typed HO_5.out) (by decide)) BK318.out (by decide)) (by decide)) (fun k_ hk => ⟨hk.1.1.2, ⟨hk.1.2, hk.2⟩⟩))))) (Reps.one (show Kd.FK (Kd.slice 3 (Kd.int .i64)) _ _ y322 [.slice Ao127 y322.length co127] from (Kd.FK_slice_mk (Kd.R_reads' (Kd.R_mono (ok' := (fun k_ => some k_ ≠ (.slice (some ad317) x5_1.length co113 : Value).ownBlock ∧ k_ ≠ gb318 ∧ k_ ≠ g)) (IsS103.apart HI0.out (Kd.R_types (Kd.R_apart' (HO324.out) (Kd.R_typed HO_5.out) (by decide)) BK318.out (by decide)) (by decide)) (fun k_ hk => ⟨hk.1.1.2, ⟨hk.1.2, hk.2⟩⟩))).2.1 (Kd.R_F (Kd.R_mono (ok' := (fun k_ => some k_ ≠ (.slice (some ad317) x5_1.length co113 : Value).ownBlock ∧ k_ ≠ gb318 ∧ k_ ≠ g)) (IsS103.apart HI0.out (Kd.R_types (Kd.R_apart' (HO324.out) (Kd.R_typed HO_5.out) (by decide)) BK318.out (by decide)) (by decide)) (fun k_ hk => ⟨hk.1.1.2, ⟨hk.1.2, hk.2⟩⟩))))) (Reps.one (show Kd.FK (Kd.slice 3 (Kd.int .i64)) _ _ y325 [.slice Ao128 y325.length co128] from (Kd.FK_slice_mk (Kd.R_reads' (Kd.R_mono (ok' := (fun k_ => some k_ ≠ (.slice (some ad317) x5_1.length co113 : Value).ownBlock ∧ k_ ≠ gb318 ∧ k_ ≠ g)) (IsS103.apart HI0.out (Kd.R_types (Kd.R_apart' (HO327.out) (Kd.R_typed HO_5.out) (by decide)) BK318.out (by decide)) (by decide)) (fun k_ hk => ⟨hk.1.1.2, ⟨hk.1.2, hk.2⟩⟩))).2.1 (Kd.R_F (Kd.R_mono (ok' := (fun k_ => some k_ ≠ (.slice (some ad317) x5_1.length co113 : Value).ownBlock ∧ k_ ≠ gb318 ∧ k_ ≠ g)) (IsS103.apart HI0.out (Kd.R_types (Kd.R_apart' (HO327.out) (Kd.R_typed HO_5.out) (by decide)) BK318.out (by decide)) (by decide)) (fun k_ hk => ⟨hk.1.1.2, ⟨hk.1.2, hk.2⟩⟩))))) (Reps.one (show Kd.FK (Kd.slice 3 (Kd.int .i64)) _ _ y328 [.slice Ao129 y328.length co129] from (Kd.FK_slice_mk (Kd.R_reads' (Kd.R_mono (ok' := (fun k_ => some k_ ≠ (.slice (some ad317) x5_1.length co113 : Value).ownBlock ∧ k_ ≠ gb318 ∧ k_ ≠ g)) (IsS103.apart HI0.out (Kd.R_types (Kd.R_apart' (HO330.out) (Kd.R_typed HO_5.out) (by decide)) BK318.out (by decide)) (by decide)) (fun k_ hk => ⟨hk.1.1.2, ⟨hk.1.2, hk.2⟩⟩))).2.1 (Kd.R_F (Kd.R_mono (ok' := (fun k_ => some k_ ≠ (.slice (some ad317) x5_1.length co113 : Value).ownBlock ∧ k_ ≠ gb318 ∧ k_ ≠ g)) (IsS103.apart HI0.out (Kd.R_types (Kd.R_apart' (HO330.out) (Kd.R_typed HO_5.out) (by decide)) BK318.out (by decide)) (by decide)) (fun k_ hk => ⟨hk.1.1.2, ⟨hk.1.2, hk.2⟩⟩))))) (Reps.none _ _)))))); intro v332 w130 ho131 hb hg_ hnew_; clear hg_ hnew_; (first | rw [← Ny331.out] at ho131 | (simp only [Int.reduceToNat] at ho131; rw [← Ny331.out] at ho131)); have n0_ := Aside0.mk (Kd.R_below (by (with_reducible repeat (first|apply rA|apply rN|apply rD)); exact HO_5.out) hb); have n1_ := Aside0.mk (Kd.N_lower ho131 (keep_size (w := w) (g := g) (row := none) (by repeat (first | (with_reducible first | exact HK.out | apply KeepBut.set_ | apply keep_drewN | apply keep_drew | apply keep_alloc | refine keep_far ?_ GW318.out _) | exact HK.out)))); have n2_ := Aside0.mk (IsS103.below (by repeat (first | (with_reducible first | exact HI0.out | apply IsS103.alloc | apply IsS103.drewN | apply IsS103.drew | apply IsS103.set_1 | apply IsS103.set_2 | refine IsS103.far ?_ NB0_318.out _) | exact HI0.out)) hb); have n3_ := Aside0.mk (blk_below (g := gb318) (o := .cells #[.int .i64 ((rd_T69 x5_1 t314).f0), .int .i64 ((rd_T69 x5_1 t314).f1)] 69 (0, 0)) (by (with_reducible repeat (first|refine kN ?_ _|refine kD ?_|refine kA ?_ _)); exact BK318.out) hb); have n4_ := Aside0.mk (KeepBut.trans (by repeat (first | (with_reducible first | exact HK.out | apply KeepBut.set_ | apply keep_drewN | apply keep_drew | apply keep_alloc | refine keep_far ?_ GW318.out _) | exact HK.out)) (KeepBut.of_below hb g none) (.inl rfl)); have n5_ := Aside0.mk (below_step (by repeat (first | (with_reducible first | exact HB.out|apply bA|apply bN|apply bD | refine below_set ?_ (IsS103.ge HI0.out) | refine below_set ?_ GE318.out) | exact HB.out)) hb); clear HO_5; clear HI0; clear BK318; clear HK; clear HB; clear HO321; clear HO324; clear HO327; clear HO330; have HO_5 := n0_; have HO333 := n1_; have HI0 := n2_; have BK318 := n3_; have HK := n4_; have HB := n5_; clear n0_ n1_ n2_ n3_ n4_ n5_; clear hb ho131) | ((with_reducible refine gate_callee (f := 69) rfl ?_); refine goesL_ (some 38) rfl rfl Try.func69 (by kernel_rfl) rfl #[.pointer (some ⟨g, 0, none⟩), .int .i64 4] rfl (by (try simp only [zE,zF,zG]); first|done|rfl|(simp only [zH,zI]; rfl)) ?_; (with_reducible refine (spec_l01Below.calls g s0_0 t315 t316 4 t334 t335 t336 w0 _ ?side1 ?side2 A15.out).mono ?_); (case side1 => repeat (first | (with_reducible first | exact HI0.out | apply IsS103.alloc | apply IsS103.drewN | apply IsS103.drew | apply IsS103.set_1 | apply IsS103.set_2 | refine IsS103.far ?_ NB0_318.out _) | exact HI0.out)); (case side2 => repeat (first | (with_reducible first | exact HB.out|apply bA|apply bN|apply bD | refine below_set ?_ (IsS103.ge HI0.out) | refine below_set ?_ GE318.out) | exact HB.out)); rintro e w132 ⟨rfl, hi, hb, hk⟩; refine ⟨_, rfl, ?_⟩; have n0_ := Aside0.mk (Kd.R_mono (Kd.R_keep (IsS103.apart (show IsS103 w0 _ g s0_0 t315 t316 from by repeat (first | (with_reducible first | exact HI0.out | apply IsS103.alloc | apply IsS103.drewN | apply IsS103.drew | apply IsS103.set_1 | apply IsS103.set_2 | refine IsS103.far ?_ NB0_318.out _) | exact HI0.out)) (by (with_reducible repeat (first|apply rA|apply rN|apply rD)); exact HO_5.out) (by decide)) hk (fun _ h => h.2)) (fun _ h => h.1)); have n1_ := Aside0.mk (KeepBut.blk hk (g' := gb318) (o := .cells #[.int .i64 ((rd_T69 x5_1 t314).f0), .int .i64 ((rd_T69 x5_1 t314).f1)] 69 (0, 0)) (by (with_reducible repeat (first|refine kN ?_ _|refine kD ?_|refine kA ?_ _)); exact BK318.out) NB318_0.out (by simp)); have n2_ := Aside0.mk (Kd.N_mono (Kd.N_keep (Kd.N_mono (ok := fun k_ => (some k_ ≠ (.slice (some ad317) x5_1.length co113 : Value).ownBlock ∧ (k_ ≠ gb318 ∧ k_ ≠ g))) (by (with_reducible repeat (first | apply Kd.N_alloc | apply Kd.N_drewN | apply Kd.N_drew)); exact HO333.out) (fun k_ hk_ => (⟨hk_, hk_.2.2⟩ : _ ∧ k_ ≠ g))) hk (fun _ h => h.2)) (fun _ h => h.1)); have n3_ := Aside0.mk (KeepBut.trans (by repeat (first | (with_reducible first | exact HK.out | apply KeepBut.set_ | apply keep_drewN | apply keep_drew | apply keep_alloc | refine keep_far ?_ GW318.out _) | exact HK.out)) hk (.inl rfl)); have n4_ := Aside0.mk (hb); have n5_ := Aside0.mk (hi); clear HO_5; clear BK318; clear HO333; clear HK; clear HB; clear HI0; have HO_5 := n0_; have BK318 := n1_; have HO333 := n2_; have HK := n3_; have HB := n4_; have HI0 := n5_; clear n0_ n1_ n2_ n3_ n4_ n5_; (try clear hb); (try clear hb2); (try clear hk); (try clear hi); obtain ⟨Ao133, co133, eo133⟩ := Kd.N_slice HO333.out; subst eo133; have p337 : 0 ≤ (t334 : Int) := of_decide_eq_true (by first | (with_reducible assumption) | assumption); have q337 : t334 < (y331.length : Int) := of_decide_eq_true (by first | (with_reducible assumption) | assumption); obtain ⟨ad337, A337_0, c337_0, e337, hx337_0, hl337_0, hi337_0⟩ := at_L4 (Kd.N_reads' HO333.out).2.2 t334 p337 q337; cases e337; obtain ⟨ce337, hce337, hMe337, hcc337⟩ := Kd.N_get HO333.out [] t334 p337 (by first | exact q337 | exact of_decide_eq_true (by first | (with_reducible assumption) | assumption) | (have e_ := (Kd.N_reads' HO333.out).1; omega)); obtain ⟨ua337_0, uc337_0, rfl, ul337_0, ge337_0⟩ := Kd.FK_slice_open hMe337; have hv337_0 := hcc337 0 _ rfl; rw [Nat.add_zero, show ((Kd.slice 3 (Kd.int .i64))).sz = 1 from rfl, Nat.mul_one] at hv337_0; replace hv337_0 := Option.some.inj (hv337_0.symm.trans hx337_0); injection hv337_0 with hva_ hvn_ hvc_; rw [hva_] at ge337_0; rw [hvc_] at ul337_0; have HL337_0 := Aside0.mk (show Kd.V (Kd.int .i64) 3 _ w.heap.size _ _ (rd_L4 y331 t334) from Kd.V_mk ul337_0 ge337_0); clear hva_ hvn_ hvc_ ge337_0 ul337_0; clear hcc337 hce337; have HR337_0 := Aside0.mk hi337_0; have HC337_0 := Aside0.mk hl337_0; clear hi337_0 hl337_0; replace p337 := eq_true p337; replace q337 := eq_true q337))
           have n0_ := Aside0.mk (Kd.R_drew HO_5.out)
           have n1_ := Aside0.mk (Kd.N_drew HO333.out)
           have n2_ := Aside0.mk (Kd.V_drew HL337_0.out)
           have n3_ := Aside0.mk (blk_drew BK318.out)
           have n4_ := Aside0.mk (Kd.C_drew HR337_0.out)
           have n5_ := Aside0.mk (IsS103.drew HI0.out)
           have n6_ := Aside0.mk (keep_drew HK.out)
           have n7_ := Aside0.mk (below_drew1 HB.out)
           clear HO_5
           clear HO333
           clear HL337_0
           clear BK318
           clear HR337_0
           clear HI0
           clear HK
           clear HB
           have HO_5 := n0_
           have HO333 := n1_
           have HL337_0 := n2_
           have BK318 := n3_
           have HR337_0 := n4_
           have HI0 := n5_
           have HK := n6_
           have HB := n7_
           clear n0_ n1_ n2_ n3_ n4_ n5_ n6_ n7_
           have p338 : 0 ≤ (0 : Int) := (by omega)
           have q338 : 0 < ((rd_L4 y331 t334).length : Int) := of_decide_eq_true (by first | (with_reducible assumption) | assumption)
           obtain ⟨ad338, e338, hx338_0⟩ := Kd.at_int (by repeat (first | (with_reducible exact HR337_0.out) | (with_reducible refine Kd.C_alloc ?_ _) | (with_reducible refine Kd.C_drewN ?_ _) | (with_reducible refine Kd.C_drew ?_) | exact HR337_0.out)) 0 p338 q338
           cases e338
           have qi338 : (0 < (rd_L4 y331 t334).length) = True := eq_true (by omega)
           (try rw [show ((0 : Int)).toNat = 0 from rfl] at hx338_0)
           (try rw [Addr.add_zero'] at hx338_0)
           replace p338 := eq_true p338
           replace q338 := eq_true q338
           have p339 : 0 ≤ (1 : Int) := (by omega)
           have q339 : 1 < ((rd_L4 y331 t334).length : Int) := of_decide_eq_true (by first | (with_reducible assumption) | assumption)
           obtain ⟨ad339, e339, hx339_0⟩ := Kd.at_int (by repeat (first | (with_reducible exact HR337_0.out) | (with_reducible refine Kd.C_alloc ?_ _) | (with_reducible refine Kd.C_drewN ?_ _) | (with_reducible refine Kd.C_drew ?_) | exact HR337_0.out)) 1 p339 q339
           obtain rfl : ad338 = ad339 := (by injection e339)
           (try simp only [show (1 : Int).toNat = 1 from rfl, Nat.reduceMul, Nat.reduceEqDiff, Go.Addr.add, ↓reduceIte] at hx339_0)
           have qi339 : (1 < (rd_L4 y331 t334).length) = True := eq_true (by omega)
           (try rw [show ((1 : Int)).toNat = 1 from rfl] at hx339_0)
           replace p339 := eq_true p339
           replace q339 := eq_true q339
           refine start_ (n := 15) (S := fun w' => w'.cell? ⟨gb318, 0, none⟩ = some (.int .i64 ((rd_T69 x5_1 t314).f0)) ∧ w'.cell? ⟨gb318, 1, none⟩ = some (.int .i64 ((rd_T69 x5_1 t314).f1)) ∧ w'.cell? ad338 = some (.int .i64 (rd (rd_L4 y331 t334) 0)) ∧ w'.cell? ⟨ad338.block, ad338.off + 1, none⟩ = some (.int .i64 (rd (rd_L4 y331 t334) 1))) (ds := []) #[ff,ff,ff,ff,ff,ff,ff,ff,ff,ff,ff,ff,ff,ff,ff] (by kernel_rfl) rfl rfl ⟨(blk_cell BK318.out 0).trans rfl, (blk_cell BK318.out 1).trans rfl, hx338_0, hx339_0⟩ (fun hHeld => ?_); refine with_tabW spec_l15Draw.tab7 spec_l15Draw.bits7 (fun HT_ HW_ => ?_)
           generalize w132.drew = w134 at HO_5 HO333 HL337_0 BK318 HR337_0 HI0 HK HB hx338_0 hx339_0 hHeld ⊢
           refine pure_ (i := 0) (N := some 41) (v := ?_) (a' := ?_) (fl 15 1) rfl rfl (any_of HT_.out (by kernel_rfl)) (fun _ _ _ h => h) (Or.inl ⟨by kernel_rfl, ?_⟩) ?_ ?_
           rotate_left
           ·intro w'
            go_simp
            with_reducible rfl
           rotate_left
           ·simp only [Act.put, zA, zB, zC, i64_w, i32_w]
            rfl
           refine pure_ (i := 2) (N := some 43) (v := ?_) (a' := ?_) (fl 15 5) rfl rfl (any_of HT_.out (by kernel_rfl)) (fun _ _ _ h => h) (Or.inl ⟨by kernel_rfl, ?_⟩) ?_ ?_
           rotate_left
           ·intro w'
            go_simp
            with_reducible rfl
           rotate_left
           ·simp only [Act.put, zA, zB, zC, i64_w, i32_w]
            rfl
           refine pure_ (i := 3) (N := some 44) (v := ?_) (a' := ?_) (fl 15 13) rfl rfl (any_of HT_.out (by kernel_rfl)) (fun _ _ _ h => h) (Or.inl ⟨by kernel_rfl, ?_⟩) ?_ ?_
           rotate_left
           ·intro w'
            go_simp
            with_reducible rfl
           rotate_left
           ·simp only [Act.put, zA, zB, zC, i64_w, i32_w]
            rfl
           refine pure_ (i := 6) (N := some 47) (v := ?_) (a' := ?_) (fl 15 77) rfl rfl (any_of HT_.out (by kernel_rfl)) (fun _ _ _ h => h) (Or.inl ⟨by kernel_rfl, ?_⟩) ?_ ?_
           rotate_left
           ·intro w'
            go_simp
            with_reducible rfl
           rotate_left
           ·simp only [Act.put, zA, zB, zC, i64_w, i32_w]
            rfl
           refine pure_ (i := 8) (N := some 49) (v := ?_) (a' := ?_) (fl 15 333) rfl rfl (any_of HT_.out (by kernel_rfl)) (fun _ _ _ h => h) (Or.inl ⟨by kernel_rfl, ?_⟩) ?_ ?_
           rotate_left
           ·intro w'
            go_simp
            with_reducible rfl
           rotate_left
           ·simp only [Act.put, zA, zB, zC, i64_w, i32_w]
            rfl
           refine pure_ (i := 9) (N := some 50) (v := ?_) (a' := ?_) (fl 15 845) rfl rfl (any_of HT_.out (by kernel_rfl)) (fun _ _ _ h => h) (Or.inl ⟨by kernel_rfl, ?_⟩) ?_ ?_
           rotate_left
           ·intro w'
            go_simp
            with_reducible rfl
           rotate_left
           ·simp only [Act.put, zA, zB, zC, i64_w, i32_w]
            rfl
           refine take_ (i := 1) (N := some 42) (v := ?_) (a' := ?_) (fl 15 847) rfl rfl (take_ofW HT_.out HW_.out (by kernel_rfl)) (fun _ _ _ h => h) (Or.inl ⟨by kernel_rfl, ?_⟩) hHeld ?_ ?_
           rotate_left
           ·rintro w' ⟨s0, s1, s2, s3⟩
            go_simp
            with_reducible rfl
           rotate_left
           ·simp only [Act.put, zA, zB, zC, i64_w, i32_w]
            rfl
           refine take_ (i := 4) (N := some 45) (v := ?_) (a' := ?_) (fl 15 863) rfl rfl (take_ofW HT_.out HW_.out (by kernel_rfl)) (fun _ _ _ h => h) (Or.inl ⟨by kernel_rfl, ?_⟩) hHeld ?_ ?_
           rotate_left
           ·rintro w' ⟨s0, s1, s2, s3⟩
            go_simp
            with_reducible rfl
           rotate_left
           ·simp only [Act.put, zA, zB, zC, i64_w, i32_w]
            rfl
           refine pure_ (i := 5) (N := some 46) (v := ?_) (a' := ?_) (fl 15 895) rfl rfl (any_of HT_.out (by kernel_rfl)) (fun _ _ _ h => h) (Or.inl ⟨by kernel_rfl, ?_⟩) ?_ ?_
           rotate_left
           ·intro w'
            go_simp
            with_reducible rfl
           rotate_left
           ·simp only [Act.put, zA, zB, zC, i64_w, i32_w]
            rfl
           refine take_ (i := 7) (N := some 48) (v := ?_) (a' := ?_) (fl 15 1023) rfl rfl (take_ofW HT_.out HW_.out (by kernel_rfl)) (fun _ _ _ h => h) (Or.inl ⟨by kernel_rfl, ?_⟩) hHeld ?_ ?_
           rotate_left
           ·rintro w' ⟨s0, s1, s2, s3⟩
            go_simp
            with_reducible rfl
           rotate_left
           ·simp only [Act.put, zA, zB, zC, i64_w, i32_w]
            rfl
           refine take_ (i := 10) (N := some 51) (v := ?_) (a' := ?_) (fl 15 2047) rfl rfl (take_ofW HT_.out HW_.out (by kernel_rfl)) (fun _ _ _ h => h) (Or.inl ⟨by kernel_rfl, ?_⟩) hHeld ?_ ?_
           rotate_left
           ·rintro w' ⟨s0, s1, s2, s3⟩
            go_simp
            with_reducible rfl
           rotate_left
           ·simp only [Act.put, zA, zB, zC, i64_w, i32_w]
            rfl
           refine pure_ (i := 11) (N := some 52) (v := ?_) (a' := ?_) (fl 15 4095) rfl rfl (any_of HT_.out (by kernel_rfl)) (fun _ _ _ h => h) (Or.inl ⟨by kernel_rfl, ?_⟩) ?_ ?_
           rotate_left
           ·intro w'
            go_simp
            with_reducible rfl
           rotate_left
           ·simp only [Act.put, zA, zB, zC, i64_w, i32_w]
            rfl
           refine pure_ (i := 12) (N := some 53) (v := ?_) (a' := ?_) (fl 15 8191) rfl rfl (any_of HT_.out (by kernel_rfl)) (fun _ _ _ h => h) (Or.inl ⟨by kernel_rfl, ?_⟩) ?_ ?_
           rotate_left
           ·intro w'
            go_simp
            with_reducible rfl
           rotate_left
           ·simp only [Act.put, zA, zB, zC, i64_w, i32_w]
            rfl
           refine one_ (i := 13) (N := some 9) #[tt,tt,tt,tt,tt,tt,tt,tt,tt,tt,tt,tt,tt,tt,ff] rfl rfl (one_of HT_.out (by kernel_rfl)) (by decide) (fun K hK => ?_)
           refine box_step ?hg (N := 9) ?hd (cs := #[.int .i64 0, .int .i64 0]) (t := 69) ?hr ?_; (case hd => rfl); (case hg => rfl); (case hr => first | (go_simp; done) | (go_simp; rfl))
           intro gb340 hg w135 hbox hb
           have HS2_ := (hb.cell (World.block_lt_of_cell? _ _ (hHeld.2.2.1))).trans (hHeld.2.2.1)
           have HS3_ := (hb.cell (World.block_lt_of_cell? _ _ (hHeld.2.2.2))).trans (hHeld.2.2.2)
           have NAF_ := Aside0.mk (Nat.ne_of_lt (Nat.lt_of_lt_of_eq (World.block_lt_of_cell? _ _ hHeld.2.2.1) hg.symm))
           have n0_ := Aside0.mk (Kd.R_below (Kd.R_elderB (by (with_reducible repeat (first|apply rA|apply rN|apply rD)); exact HO_5.out) gb340 (Nat.le_of_eq hg.symm)) hb)
           have n1_ := Aside0.mk (Kd.N_below (Kd.N_elderB (by (with_reducible repeat (first | apply Kd.N_alloc | apply Kd.N_drewN | apply Kd.N_drew)); exact HO333.out) gb340 (Nat.le_of_eq hg.symm)) hb)
           have n2_ := Aside0.mk (Kd.V_below (Kd.V_elderB (by (with_reducible repeat (first | apply Kd.V_alloc | apply Kd.V_drewN | apply Kd.V_drew)); exact HL337_0.out) gb340 (Nat.le_of_eq hg.symm)) hb)
           have n3_ := Aside0.mk (IsS103.below (by repeat (first | (with_reducible first | exact HI0.out | apply IsS103.alloc | apply IsS103.drewN | apply IsS103.drew | apply IsS103.set_1 | apply IsS103.set_2 | refine IsS103.far ?_ NB0_318.out _) | exact HI0.out)) hb)
           have n4_ := Aside0.mk (blk_below (g := gb318) (o := .cells #[.int .i64 ((rd_T69 x5_1 t314).f0), .int .i64 ((rd_T69 x5_1 t314).f1)] 69 (0, 0)) (by (with_reducible repeat (first|refine kN ?_ _|refine kD ?_|refine kA ?_ _)); exact BK318.out) hb)
           have n5_ := Aside0.mk (Kd.C_below (by repeat (first | (with_reducible exact HR337_0.out) | (with_reducible refine Kd.C_alloc ?_ _) | (with_reducible refine Kd.C_drewN ?_ _) | (with_reducible refine Kd.C_drew ?_) | exact HR337_0.out)) hb)
           have n6_ := Aside0.mk (KeepBut.trans (by repeat (first | (with_reducible first | exact HK.out | apply KeepBut.set_ | apply keep_drewN | apply keep_drew | apply keep_alloc | refine keep_far ?_ GW318.out _) | exact HK.out)) (KeepBut.of_below hb g none) (.inl rfl))
           have n7_ := Aside0.mk (below_step (by repeat (first | (with_reducible first | exact HB.out|apply bA|apply bN|apply bD | refine below_set ?_ (IsS103.ge HI0.out) | refine below_set ?_ GE318.out) | exact HB.out)) hb)
           have n8_ := Aside0.mk (hbox)
           have n9_ := Aside0.mk ((by rw [hg]; exact (keep_size (w := w) (g := g) (row := none) (by repeat (first | (with_reducible first | exact HK.out | apply KeepBut.set_ | apply keep_drewN | apply keep_drew | apply keep_alloc | refine keep_far ?_ GW318.out _) | exact HK.out))) : w.heap.size ≤ gb340))
           have n10_ := Aside0.mk ((Nat.le_trans HW0.out (by rw [hg]; exact (keep_size (w := w) (g := g) (row := none) (by repeat (first | (with_reducible first | exact HK.out | apply KeepBut.set_ | apply keep_drewN | apply keep_drew | apply keep_alloc | refine keep_far ?_ GW318.out _) | exact HK.out))) : w.heap.size ≤ gb340) : w0.heap.size ≤ gb340))
           have n11_ := Aside0.mk ((by rw [hg]; exact Nat.ne_of_lt (blk_lt (g := gb318) (o := .cells #[.int .i64 ((rd_T69 x5_1 t314).f0), .int .i64 ((rd_T69 x5_1 t314).f1)] 69 (0, 0)) (by (with_reducible repeat (first|refine kN ?_ _|refine kD ?_|refine kA ?_ _)); exact BK318.out)) : gb318 ≠ gb340))
           have n12_ := Aside0.mk ((by rw [hg]; exact Nat.ne_of_gt (blk_lt (g := gb318) (o := .cells #[.int .i64 ((rd_T69 x5_1 t314).f0), .int .i64 ((rd_T69 x5_1 t314).f1)] 69 (0, 0)) (by (with_reducible repeat (first|refine kN ?_ _|refine kD ?_|refine kA ?_ _)); exact BK318.out)) : gb340 ≠ gb318))
           have n13_ := Aside0.mk ((by rw [hg]; exact Nat.ne_of_lt (IsS103.lt (show IsS103 w0 _ g s0_0 t335 t336 from by repeat (first | (with_reducible first | exact HI0.out | apply IsS103.alloc | apply IsS103.drewN | apply IsS103.drew | apply IsS103.set_1 | apply IsS103.set_2 | refine IsS103.far ?_ NB0_318.out _) | exact HI0.out))) : g ≠ gb340))
           have n14_ := Aside0.mk ((by rw [hg]; exact Nat.ne_of_gt (IsS103.lt (show IsS103 w0 _ g s0_0 t335 t336 from by repeat (first | (with_reducible first | exact HI0.out | apply IsS103.alloc | apply IsS103.drewN | apply IsS103.drew | apply IsS103.set_1 | apply IsS103.set_2 | refine IsS103.far ?_ NB0_318.out _) | exact HI0.out))) : gb340 ≠ g))
           clear HO_5
           clear HO333
           clear HL337_0
           clear HI0
           clear BK318
           clear HR337_0
           clear HK
           clear HB
           have HO_5 := n0_
           have HO333 := n1_
           have HL337_0 := n2_
           have HI0 := n3_
           have BK318 := n4_
           have HR337_0 := n5_
           have HK := n6_
           have HB := n7_
           have BK340 := n8_
           have GW340 := n9_
           have GE340 := n10_
           have NB318_340 := n11_
           have NB340_318 := n12_
           have NB0_340 := n13_
           have NB340_0 := n14_
           clear n0_ n1_ n2_ n3_ n4_ n5_ n6_ n7_ n8_ n9_ n10_ n11_ n12_ n13_ n14_
           clear hb hbox hg
           refine hK.out _ _ ⟨(blk_cell BK318.out 0).trans rfl, (blk_cell BK318.out 1).trans rfl, HS2_, HS3_⟩ (fun hHeld => ?_)
           clear hK K
           refine norm_ (a' := ?_) ?_ ?_
           rotate_left
           ·show Act.put _ (some 9) _ = _
            simp only [Act.put, zA, zB, zC, i64_w, i32_w]
            rfl
           refine one_ (i := 14) (N := none) #[tt,tt,tt,tt,tt,tt,tt,tt,tt,tt,tt,tt,tt,tt,tt] rfl rfl (one_of HT_.out (by kernel_rfl)) (by decide) (fun K hK => ?_)
           have hs136 : w135.cell? ⟨gb340, 0, none⟩ = some (.int .i64 0) := (blk_cell BK340.out 0).trans rfl
           have hfs136 := blk_frozen BK340.out 0
           have hns136_0 := NB318_340.out
           have hms136_0 := NB340_318.out
           have hs137 : w135.cell? ⟨gb340, 1, none⟩ = some (.int .i64 0) := (blk_cell BK340.out 1).trans rfl
           have hfs137 := blk_frozen BK340.out 1
           have hns137_0 := NB318_340.out
           have hms137_0 := NB340_318.out
           refine skip_ (w1 := ?_) (by rfl) rfl ?_ ?_
           rotate_left
           ·go_simp
            rfl
           refine hK.out _ _ ⟨((cell_far (p := ⟨gb340, _, none⟩) NB318_340.out _).trans (((cell_far (p := ⟨gb340, _, none⟩) NB318_340.out _).trans (hHeld.1)))), ((cell_far (p := ⟨gb340, _, none⟩) NB318_340.out _).trans (((cell_far (p := ⟨gb340, _, none⟩) NB318_340.out _).trans (hHeld.2.1)))), ((cell_far (p := ⟨gb340, _, none⟩) (by exact NAF_.out) _).trans (((cell_far (p := ⟨gb340, _, none⟩) (by exact NAF_.out) _).trans (hHeld.2.2.1)))), ((cell_far (p := ⟨gb340, _, none⟩) (by exact NAF_.out) _).trans (((cell_far (p := ⟨gb340, _, none⟩) (by exact NAF_.out) _).trans (hHeld.2.2.2))))⟩ (fun hHeld => ?_)
           clear hK K
           refine done_ (done_of HT_.out (by kernel_rfl)) ?_
           have hnb138 := NB340_318.out
           have hnc138 := NB318_340.out
           have hnb139 := NB340_0.out
           have hnc139 := NB0_340.out
           have hcz140_0 : w135.cell? ⟨gb340, 0, none⟩ = some (.int .i64 0) := (blk_cell BK340.out 0).trans rfl
           have hcz140_1 : w135.cell? ⟨gb340, 1, none⟩ = some (.int .i64 0) := (blk_cell BK340.out 1).trans rfl
           have hfz140_0 := blk_frozen BK340.out 0
           have hfz140_1 := blk_frozen BK340.out 1
           try go_wp2
           go_roundg k1
           case measure => have := HK1.out; omega
           case rel => exact ⟨(x5_1), (wrap64 (x6_1 - 1)), (t335), (t336), (by first | rfl | (simp; done) | (simp [*]; done)), H', ⟨by have := HK1.out; omega⟩, ⟨by (with_reducible repeat (first|apply rA|apply rN|apply rD)); exact Kd.R_mono (Kd.R_far (p := ⟨gb340, 1, none⟩) (Kd.R_far (p := ⟨gb340, 0, none⟩) (Kd.R_mono HO_5.out (fun k_ hk => (⟨hk, hk.2⟩ : _ ∧ k_ ≠ gb340))) (fun _ hk => hk.2) (.int .i64 (wrap64 (((rd_T69 x5_1 t314).f0) + (rd (rd_L4 y331 t334) 0))))) (fun _ hk => hk.2) (.int .i64 (wrap64 (((rd_T69 x5_1 t314).f1) + (rd (rd_L4 y331 t334) 1))))) (fun _ hk => trivial)⟩, ⟨by repeat (first | (with_reducible first | exact HI0.out | apply IsS103.alloc | apply IsS103.drewN | apply IsS103.drew | apply IsS103.set_1 | apply IsS103.set_2 | refine IsS103.far ?_ NB0_318.out _ | refine IsS103.far ?_ NB0_340.out _) | exact HI0.out)⟩, ⟨by repeat (first | (with_reducible first | exact HK.out | apply KeepBut.set_ | apply keep_drewN | apply keep_drew | apply keep_alloc | refine keep_far ?_ GW318.out _ | refine keep_far ?_ GW340.out _) | exact HK.out)⟩, ⟨by repeat (first | (with_reducible first | exact HB.out|apply bA|apply bN|apply bD | refine below_set ?_ (IsS103.ge HI0.out) | refine below_set ?_ GE318.out | refine below_set ?_ GE340.out) | exact HB.out)⟩⟩
         ·rw [if_neg c19] at H
          exact absurd H (by simp)
        ·rw [if_neg c18] at H
         exact absurd H (by simp)
       ·rw [if_neg c17] at H
        exact absurd H (by simp)
      ·rw [if_neg c16] at H
       exact absurd H (by simp)
     ·rw [if_neg c14] at H
      exact absurd H (by simp)
    ·rw [if_neg c13] at H
     exact absurd H (by simp)
   ·rw [if_neg c11] at H
    have c11b0 : decide (0 < x6_1) = false := decide_eq_false c11
    clear c11
    simp only [Option.some.injEq, Prod.mk.injEq] at H
    obtain ⟨rfl, rfl, rfl⟩ := H
    go_wp2
    go_ret
    exact ⟨_, by first | rfl | (simp [errW_none, errW_some] <;> rfl) | (simp [*, errW_none, errW_some] <;> rfl), by (with_reducible repeat (first|apply rA|apply rN|apply rD)); exact HO_5.out, by repeat (first | (with_reducible first | exact HI0.out | apply IsS103.alloc | apply IsS103.drewN | apply IsS103.drew | apply IsS103.set_1 | apply IsS103.set_2) | exact HI0.out), by repeat (first | (with_reducible first | exact HB.out|apply bA|apply bN|apply bD | refine below_set ?_ (IsS103.ge HI0.out)) | exact HB.out), by repeat (first | (with_reducible first | exact HK.out | apply KeepBut.set_ | apply keep_drewN | apply keep_drew | apply keep_alloc) | exact HK.out)⟩

end Go.Proofs.Ytbolkipmehmncaa.S
