-- PRINTED by print.py (a twelfth state) out of the translation. Not trusted: Lean checks it.
import Derived.Test.YtfomhkfgdggngaaGreatDoorS0
namespace Go.Proofs.YtfomhkfgdggngaaGreatDoor.S
open Go.RowKit Go.Proofs.YtfomhkfgdggngaaGreatDoorW.PrintWords Go.Proofs.YtfomhkfgdggngaaGreatDoorW.PrintLast Go.Proofs.YtfomhkfgdggngaaGreatDoorW.PrintMore
attribute [local go_sem] max2_int min2_int max_two min_two max_three min_three max_four min_four   -- for this text's walks alone
set_option linter.unusedVariables false
set_option linter.unusedSimpArgs false

/-! ### spec_l15Insert: function 39 -/
def spec_l15Insert.l0 : Nat → List (S38) → Int → Int → Int → Option ((List (S38)))
 | 0, _, _, _, _ => none
 | k + 1, x5, x6, x291000, x291001 => if x6 > 0 then (if 0 ≤ (wrap64 (x6 - 1)) then (if (wrap64 (x6 - 1)) < (x5.length : Int) then (if ((rd_T38 x5 (wrap64 (x6 - 1))).f1) > x291001 then (if 0 ≤ x6 then (if x6 < (x5.length : Int) then (spec_l15Insert.l0 k ((x5.set (x6 : Int).toNat (⟨(rd_T38 x5 (wrap64 (x6 - 1))).f0, (rd_T38 x5 (wrap64 (x6 - 1))).f1⟩ : S38)).set ((wrap64 (x6 - 1)) : Int).toNat (⟨x291000, x291001⟩ : S38)) (wrap64 (x6 - 1)) x291000 x291001) else (none)) else (none)) else (if ((rd_T38 x5 (wrap64 (x6 - 1))).f1) = x291001 then (if ((rd_T38 x5 (wrap64 (x6 - 1))).f0) > x291000 then (if 0 ≤ x6 then (if x6 < (x5.length : Int) then (spec_l15Insert.l0 k ((x5.set (x6 : Int).toNat (⟨(rd_T38 x5 (wrap64 (x6 - 1))).f0, (rd_T38 x5 (wrap64 (x6 - 1))).f1⟩ : S38)).set ((wrap64 (x6 - 1)) : Int).toNat (⟨x291000, x291001⟩ : S38)) (wrap64 (x6 - 1)) x291000 x291001) else (none)) else (none)) else (some x5)) else (some x5))) else (none)) else (none)) else (some x5)
def spec_l15Insert.f (k : Nat) (l0 : List (S38)) (a1_0 : Int) (a1_1 : Int) : Option ((List (S38))) := (some (([] : List (S38)) : List (S38))).bind fun y291 => (if y291.length + l0.length < 8796093022208 then ((some (y291 ++ l0 : List (S38))).bind fun y294 => ((some (([(⟨a1_0, a1_1⟩ : S38)] : List (S38)) : List (S38))).bind fun y297 => (if y294.length + y297.length < 8796093022208 then ((some (y294 ++ y297 : List (S38))).bind fun y300 => (spec_l15Insert.l0 k y300 (wrap64 ((y300.length : Int) - 1)) a1_0 a1_1)) else (none)))) else (none))
def spec_l15Insert.T3 : Bool × List (List Nat × List Nat) := (true, [([], []), ([0], [0]), ([1], [1]), ([2], [2]), ([2], [2]), ([4, 2], [2, 4]), ([3, 5, 2], [2, 3, 5]), ([6, 2], [2, 6]), ([7, 2], [2, 7]), ([2], [2]), ([9, 2], [2, 9]), ([8, 10, 2], [2, 8, 10]), ([11, 2, 2], [2, 11]), ([12], [12]), ([12], [12]), ([14, 12], [12, 14]), ([13, 15, 12], [12, 13, 15]), ([16, 12], [12, 16]), ([17, 12], [12, 17]), ([12], [12]), ([19, 12], [12, 19]), ([18, 20, 12], [12, 18, 20]), ([21, 12, 12], [12, 21]), ([22], [22]), ([22], [22]), ([24, 22], [22, 24]), ([23, 25, 22], [22, 23, 25]), ([26, 22], [22, 26]), ([27, 22], [22, 27]), ([22], [22]), ([29, 22], [22, 29]), ([28, 30, 22], [22, 28, 30]), ([22, 31, 12], [12, 22, 31]), ([12, 32, 2], [2, 12, 32]), ([2, 33], [2, 33])])
def spec_l15Insert.B3 : List Nat := [0, 1, 3, 7, 7, 23, 63, 127, 255, 7, 519, 2047, 4095, 8191, 8191, 24575, 65535, 131071, 262143, 8191, 532479, 2097151, 4194303, 8388607, 8388607, 25165823, 67108863, 134217727, 268435455, 8388607, 545259519, 2147483647, 4294967295, 8589934591, 17179869183]
theorem spec_l15Insert.tab3 : rtab .any (opsOf Tryz.f39 3) = spec_l15Insert.T3 := by kernel_rfl
theorem spec_l15Insert.bits3 : waitsOk spec_l15Insert.T3.2 spec_l15Insert.B3 = true := by kernel_rfl
set_option maxHeartbeats 8000000 in
set_option maxRecDepth 100000 in
theorem spec_l15Insert.calls (k : Nat) (A0 : Option Addr) (c0 : Nat) (l0 : List (S38)) (a1_0 : Int) (a1_1 : Int) (r : List (S38)) (w : World) (hr0 : Kd.C k38 w A0 l0.length l0) (hc0 : l0.length ≤ c0) (h : spec_l15Insert.f k l0 a1_0 a1_1 = some r) :
  Calls Tryz.prog 39 #[.slice A0 l0.length c0, .agg #[.int .i64 a1_0, .int .i64 a1_1]] w fun e w' => ∃ v0_ : Value, e = .returned (v0_) ∧ Kd.R k38 38 w' w.heap.size (fun _ => True) v0_ r ∧ Below w.heap.size w w' := by
 have hu38 := Tryz.underlying38
 have HR0 := Aside0.mk hr0
 have HC0 := Aside0.mk hc0
 clear hr0 hc0
 have HB := Aside0.mk (Below.refl w.heap.size w)
 have H : ((some (([] : List (S38)) : List (S38))).bind fun y291 => (if y291.length + l0.length < 8796093022208 then ((some (y291 ++ l0 : List (S38))).bind fun y294 => ((some (([(⟨a1_0, a1_1⟩ : S38)] : List (S38)) : List (S38))).bind fun y297 => (if y294.length + y297.length < 8796093022208 then ((some (y294 ++ y297 : List (S38))).bind fun y300 => (spec_l15Insert.l0 k y300 (wrap64 ((y300.length : Int) - 1)) a1_0 a1_1)) else (none)))) else (none))) = some r := h
 clear h
 obtain ⟨y291, hy291⟩ : ∃ y_ : List (S38), y_ = (([] : List (S38))) := ⟨_, rfl⟩
 replace H : (if y291.length + l0.length < 8796093022208 then ((some (y291 ++ l0 : List (S38))).bind fun y294 => ((some (([(⟨a1_0, a1_1⟩ : S38)] : List (S38)) : List (S38))).bind fun y297 => (if y294.length + y297.length < 8796093022208 then ((some (y294 ++ y297 : List (S38))).bind fun y300 => (spec_l15Insert.l0 k y300 (wrap64 ((y300.length : Int) - 1)) a1_0 a1_1)) else (none)))) else (none)) = some r := by first | (rw [hy291]; with_reducible exact H) | (have H2_ := (Option.bind_some _ _).symm.trans H; rw [hy291]; with_reducible exact H2_) | (have H2_ := (Option.bind_some _ _).symm.trans H; with_reducible exact H2_) | with_reducible exact H | (rw [hy291]; exact H) | exact H
 have Ny291 := Aside0.mk hy291
 clear hy291
 by_cases c3 : y291.length + l0.length < 8796093022208
 ·rw [if_pos c3] at H
  have LMc3 := Aside0.mk c3
  clear c3
  obtain ⟨y294, hy294⟩ : ∃ y_ : List (S38), y_ = (y291 ++ l0) := ⟨_, rfl⟩
  replace H : ((some (([(⟨a1_0, a1_1⟩ : S38)] : List (S38)) : List (S38))).bind fun y297 => (if y294.length + y297.length < 8796093022208 then ((some (y294 ++ y297 : List (S38))).bind fun y300 => (spec_l15Insert.l0 k y300 (wrap64 ((y300.length : Int) - 1)) a1_0 a1_1)) else (none))) = some r := by first | (rw [hy294]; with_reducible exact H) | (have H2_ := (Option.bind_some _ _).symm.trans H; rw [hy294]; with_reducible exact H2_) | (have H2_ := (Option.bind_some _ _).symm.trans H; with_reducible exact H2_) | with_reducible exact H | (rw [hy294]; exact H) | exact H
  have Ny294 := Aside0.mk hy294
  clear hy294
  obtain ⟨y297, hy297⟩ : ∃ y_ : List (S38), y_ = (([(⟨a1_0, a1_1⟩ : S38)] : List (S38))) := ⟨_, rfl⟩
  replace H : (if y294.length + y297.length < 8796093022208 then ((some (y294 ++ y297 : List (S38))).bind fun y300 => (spec_l15Insert.l0 k y300 (wrap64 ((y300.length : Int) - 1)) a1_0 a1_1)) else (none)) = some r := by first | (rw [hy297]; with_reducible exact H) | (have H2_ := (Option.bind_some _ _).symm.trans H; rw [hy297]; with_reducible exact H2_) | (have H2_ := (Option.bind_some _ _).symm.trans H; with_reducible exact H2_) | with_reducible exact H | (rw [hy297]; exact H) | exact H
  have Ny297 := Aside0.mk hy297
  clear hy297
  by_cases c4 : y294.length + y297.length < 8796093022208
  ·rw [if_pos c4] at H
   have LMc4 := Aside0.mk c4
   clear c4
   obtain ⟨y300, hy300⟩ : ∃ y_ : List (S38), y_ = (y294 ++ y297) := ⟨_, rfl⟩
   replace H : (spec_l15Insert.l0 k y300 (wrap64 ((y300.length : Int) - 1)) a1_0 a1_1) = some r := by first | (rw [hy300]; with_reducible exact H) | (have H2_ := (Option.bind_some _ _).symm.trans H; rw [hy300]; with_reducible exact H2_) | (have H2_ := (Option.bind_some _ _).symm.trans H; with_reducible exact H2_) | with_reducible exact H | (rw [hy300]; exact H) | exact H
   have Ny300 := Aside0.mk hy300
   clear hy300
   have H' := Aside0.mk H
   clear H
   go_enter Tryz.func39, Tryz.ntmps39
   try go_wp2_with (first | ((with_reducible refine gate_dst (N := 3) rfl ?_); refine box_event ?hg (N := 3) ?hd (cs := #[.int .i64 a1_0, .int .i64 a1_1]) (t := 38) ?hr ?_; (case hd => rfl); (case hg => rfl); (case hr => first | (go_simp; done) | (go_simp; rfl)); intro gb290 hg w5 hbox hb; have n0_ := Aside0.mk (below_step (bX HB.out) hb); have n1_ := Aside0.mk (hbox); have n2_ := Aside0.mk ((by rw [hg]; exact (below_size (bX HB.out)) : w.heap.size ≤ gb290)); have n3_ := Aside0.mk ((by rw [hg]; exact (below_size (bX HB.out)) : w.heap.size ≤ gb290)); clear HB; have HB := n0_; have BK290 := n1_; have GW290 := n2_; have GE290 := n3_; clear n0_ n1_ n2_ n3_; clear hb hbox hg))
   have n0_ := Aside0.mk (blk_drew BK290.out)
   have n1_ := Aside0.mk (below_drew1 HB.out)
   clear BK290
   clear HB
   have BK290 := n0_
   have HB := n1_
   clear n0_ n1_
   refine start_ (n := 7) (S := fun w' => w'.cell? ⟨gb290, 0, none⟩ = some (.int .i64 a1_0) ∧ w'.cell? ⟨gb290, 1, none⟩ = some (.int .i64 a1_1)) (ds := []) #[false, false, false, false, false, false, false] (by kernel_rfl) rfl rfl ⟨(blk_cell BK290.out 0).trans rfl, (blk_cell BK290.out 1).trans rfl⟩ (fun hHeld => ?_)
   generalize w5.drew = w6 at BK290 HB hHeld ⊢
   refine pure_ (i := 1) (N := some 8) (v := ?_) (a' := ?_) #[false, true, false, false, false, false, false] rfl rfl (by kernel_rfl) (fun _ _ _ h => h) (Or.inl ⟨by rfl, ?_⟩) ?_ ?_
   rotate_left
   ·intro w'
    go_simp
    with_reducible rfl
   rotate_left
   ·simp only [Act.put, zA, zB, zC, i64_w, i32_w]
    rfl
   refine take_ (i := 3) (N := some 10) (v := ?_) (a' := ?_) #[false, true, false, true, false, false, false] rfl rfl (by kernel_rfl) (fun _ _ _ h => h) (Or.inl ⟨by rfl, ?_⟩) hHeld ?_ ?_
   rotate_left
   ·rintro w' ⟨s0, s1⟩
    go_simp
    with_reducible rfl
   rotate_left
   ·simp only [Act.put, zA, zB, zC, i64_w, i32_w]
    rfl
   refine join_ (σ := Value × Value × Value) 2 #[true, true, true, true, true, false, false] (fun s_ => [(7, s_.1), (9, s_.2.1), (11, s_.2.2)]) (fun s_ w' => (w'.cell? ⟨gb290, 0, none⟩ = some (.int .i64 a1_0) ∧ w'.cell? ⟨gb290, 1, none⟩ = some (.int .i64 a1_1)) ∧ (Kd.R k38 38 w' w.heap.size (fun k_ => some k_ ≠ (s_.2.2 : Value).ownBlock ∧ k_ ≠ gb290) s_.2.1 y294) ∧ (Kd.R k38 38 w' w.heap.size (fun k_ => some k_ ≠ (s_.2.1 : Value).ownBlock ∧ k_ ≠ gb290) s_.2.2 y297) ∧ (w'.heap[gb290]? = some (.cells #[.int .i64 a1_0, .int .i64 a1_1] 38 (0, 0))) ∧ (Below w.heap.size w w')) ?_ ?_
   rotate_left
   ·intro hCont
    refine two_ (i := 0) (j := 4) (Ni := some 7) (Nj := some 11) #[true, true, false, true, false, false, false] #[false, true, false, true, true, false, false] rfl rfl rfl rfl (by kernel_rfl) (by decide) (by decide) (fun K hK => ?_) (fun K hK => ?_)
    ·skip
     refine Kd.R_lit_step k38 _ 38 ?hg (N := 7) ?hd (xs := ([] : List (S38))) (inner := []) (ok := fun _ => True) (okp := fun _ => True) ?hr ?hp (fun _ hk => hk) trivial (Below.refl _ _) (Nat.le_refl _) (by simp) ?_; (case hd => rfl); (case hg => rfl); (case hr => first | (go_simp; done) | (go_simp; rfl)); (case hp => exact (Reps.none _ _))
     intro v292 w7 ho8 hb hg_ hnew_
     clear hg_ hnew_
     (first | rw [← Ny291.out] at ho8 | (simp only [Int.reduceToNat] at ho8; rw [← Ny291.out] at ho8))
     have n0_ := Aside0.mk (Kd.R_lower (Kd.R_newB ho8 (g := gb290) (o := .cells #[.int .i64 a1_0, .int .i64 a1_1] 38 (0, 0)) (kX BK290.out)) (below_size (bX1 HB.out GE290.out)))
     have n1_ := Aside0.mk (blk_below (g := gb290) (o := .cells #[.int .i64 a1_0, .int .i64 a1_1] 38 (0, 0)) (kX BK290.out) hb)
     have n2_ := Aside0.mk (below_step (bX1 HB.out GE290.out) hb)
     clear BK290
     clear HB
     have HO293 := n0_
     have BK290 := n1_
     have HB := n2_
     clear n0_ n1_ n2_
     clear hb ho8
     refine hK.out _ _ ⟨(blk_cell BK290.out 0).trans rfl, (blk_cell BK290.out 1).trans rfl⟩ (fun hHeld => ?_)
     clear hK K
     refine norm_ (a' := ?_) ?_ ?_
     rotate_left
     ·show Act.put _ (some 7) _ = _
      simp only [Act.put, zA, zB, zC, i64_w, i32_w]
      rfl
     refine two_ (i := 2) (j := 4) (Ni := some 9) (Nj := some 11) #[true, true, true, true, false, false, false] #[true, true, false, true, true, false, false] rfl rfl rfl rfl (by kernel_rfl) (by decide) (by decide) (fun K hK => ?_) (fun K hK => ?_)
     ·skip
      refine Kd.R_append_rows_step k38 (w0 := w) w.heap.size (by rfl) (.tmp 7) (.tmp 8) 27 38 (.agg #[(.int .i64 0), (.int .i64 0)]) 16 rfl Tryz.underlying27 info38 rfl (by decide) (by omega) v292 y291 l0 _ _ _ (fun k_ => k_ ≠ gb290) (fun _ => False) rfl rfl ?aO ?aR (fun _ _ h => h) (fun _ h => h.elim) ?aF ?aB ?aS ?aL ?_
      (case aR => repeat (first | exact (Kd.C_below HR0.out HB.out) | (with_reducible refine Kd.C_alloc ?_ _) | (with_reducible refine Kd.C_drewN ?_ _) | (with_reducible refine Kd.C_drew ?_)))
      (case aB => exact (bX1 HB.out GE290.out))
      (case aF => exact (fun k_ hk => Kd.freshB (g := gb290) (o := .cells #[.int .i64 a1_0, .int .i64 a1_1] 38 (0, 0)) (kX BK290.out) k_ hk))
      (case aO => exact (rM HO293.out (fun _ hk => hk.2)))
      (case aS => exact (below_size (bX1 HB.out GE290.out)))
      (case aL => have := LMc3.out; omega)
      intro v295 w9 ho hb hg hat
      rw [← Ny294.out] at ho
      have n0_ := Aside0.mk (blk_grown (g := gb290) (o := .cells #[.int .i64 a1_0, .int .i64 a1_1] 38 (0, 0)) (kX BK290.out) hg (Kd.R_away HO293.out (fun _ hk => hk.2)))
      have n1_ := Aside0.mk (hb)
      have n2_ := Aside0.mk (ho)
      clear BK290
      clear HB
      clear HO293
      have BK290 := n0_
      have HB := n1_
      have HO296 := n2_
      clear n0_ n1_ n2_
      clear ho hb hg hat
      refine hK.out _ _ ⟨(blk_cell BK290.out 0).trans rfl, (blk_cell BK290.out 1).trans rfl⟩ (fun hHeld => ?_)
      clear hK K
      refine norm_ (a' := ?_) ?_ ?_
      rotate_left
      ·show Act.put _ (some 9) _ = _
       simp only [Act.put, zA, zB, zC, i64_w, i32_w]
       rfl
      refine one_ (i := 4) (N := some 11) #[true, true, true, true, true, false, false] rfl rfl (by kernel_rfl) (by decide) (fun K hK => ?_)
      refine Kd.R_lit_step k38 _ 38 ?hg (N := 11) ?hd (xs := ([(⟨a1_0, a1_1⟩ : S38)] : List (S38))) (inner := [.int .i64 a1_0, .int .i64 a1_1]) (ok := fun _ => True) (okp := fun _ => True) ?hr ?hp (fun _ hk => hk) trivial (Below.refl _ _) (Nat.le_refl _) (by simp) ?_; (case hd => rfl); (case hg => rfl); (case hr => first | (go_simp; done) | (go_simp; rfl)); (case hp => exact (Reps.c2 (show Kd.M k38 _ _ _ (⟨a1_0, a1_1⟩ : S38) [.int .i64 a1_0, .int .i64 a1_1] from (k38_mkM _ _ _ (⟨a1_0, a1_1⟩ : S38) )) (Reps.none _ _)))
      intro v298 w10 ho11 hb hg_ hnew_
      clear hg_ hnew_
      (first | rw [← Ny297.out] at ho11 | (simp only [Int.reduceToNat] at ho11; rw [← Ny297.out] at ho11))
      have n0_ := Aside0.mk (Kd.R_elder' (rX HO296.out) (Kd.R_base ho11) hb)
      have n1_ := Aside0.mk (Kd.R_lower (Kd.R_newB (Kd.R_new' ho11 (Kd.R_lt (rX HO296.out))) (g := gb290) (o := .cells #[.int .i64 a1_0, .int .i64 a1_1] 38 (0, 0)) (kX BK290.out)) (below_size (bX1 HB.out GE290.out)))
      have n2_ := Aside0.mk (blk_below (g := gb290) (o := .cells #[.int .i64 a1_0, .int .i64 a1_1] 38 (0, 0)) (kX BK290.out) hb)
      have n3_ := Aside0.mk (below_step (bX1 HB.out GE290.out) hb)
      clear HO296
      clear BK290
      clear HB
      have HO296 := n0_
      have HO299 := n1_
      have BK290 := n2_
      have HB := n3_
      clear n0_ n1_ n2_ n3_
      clear hb ho11
      refine hK.out _ _ ⟨(blk_cell BK290.out 0).trans rfl, (blk_cell BK290.out 1).trans rfl⟩ (fun hHeld => ?_)
      clear hK K
      refine norm_ (a' := ?_) ?_ ?_
      rotate_left
      ·show Act.put _ (some 11) _ = _
       simp only [Act.put, zA, zB, zC, i64_w, i32_w]
       rfl
      exact norm_ (by simp only [putAll, Act.put, List.setIfInBounds_toArray, List.set_cons_zero, List.set_cons_succ]) (hCont (v292, v295, v298) _ ⟨hHeld, (rM HO296.out (fun _ hk => ⟨hk.2, hk.1⟩)), (rM HO299.out (fun _ hk => ⟨hk.1.2, hk.2⟩)), (kX BK290.out), (bX1 HB.out GE290.out)⟩)
     ·skip
      refine Kd.R_lit_step k38 _ 38 ?hg (N := 11) ?hd (xs := ([(⟨a1_0, a1_1⟩ : S38)] : List (S38))) (inner := [.int .i64 a1_0, .int .i64 a1_1]) (ok := fun _ => True) (okp := fun _ => True) ?hr ?hp (fun _ hk => hk) trivial (Below.refl _ _) (Nat.le_refl _) (by simp) ?_; (case hd => rfl); (case hg => rfl); (case hr => first | (go_simp; done) | (go_simp; rfl)); (case hp => exact (Reps.c2 (show Kd.M k38 _ _ _ (⟨a1_0, a1_1⟩ : S38) [.int .i64 a1_0, .int .i64 a1_1] from (k38_mkM _ _ _ (⟨a1_0, a1_1⟩ : S38) )) (Reps.none _ _)))
      intro v298 w9 ho10 hb hg_ hnew_
      clear hg_ hnew_
      (first | rw [← Ny297.out] at ho10 | (simp only [Int.reduceToNat] at ho10; rw [← Ny297.out] at ho10))
      have n0_ := Aside0.mk (Kd.R_elder' (rX HO293.out) (Kd.R_base ho10) hb)
      have n1_ := Aside0.mk (Kd.R_lower (Kd.R_newB (Kd.R_new' ho10 (Kd.R_lt (rX HO293.out))) (g := gb290) (o := .cells #[.int .i64 a1_0, .int .i64 a1_1] 38 (0, 0)) (kX BK290.out)) (below_size (bX1 HB.out GE290.out)))
      have n2_ := Aside0.mk (blk_below (g := gb290) (o := .cells #[.int .i64 a1_0, .int .i64 a1_1] 38 (0, 0)) (kX BK290.out) hb)
      have n3_ := Aside0.mk (below_step (bX1 HB.out GE290.out) hb)
      clear HO293
      clear BK290
      clear HB
      have HO293 := n0_
      have HO299 := n1_
      have BK290 := n2_
      have HB := n3_
      clear n0_ n1_ n2_ n3_
      clear hb ho10
      refine hK.out _ _ ⟨(blk_cell BK290.out 0).trans rfl, (blk_cell BK290.out 1).trans rfl⟩ (fun hHeld => ?_)
      clear hK K
      refine norm_ (a' := ?_) ?_ ?_
      rotate_left
      ·show Act.put _ (some 11) _ = _
       simp only [Act.put, zA, zB, zC, i64_w, i32_w]
       rfl
      refine one_ (i := 2) (N := some 9) #[true, true, true, true, true, false, false] rfl rfl (by kernel_rfl) (by decide) (fun K hK => ?_)
      refine Kd.R_append_rows_step k38 (w0 := w) w.heap.size (by rfl) (.tmp 7) (.tmp 8) 27 38 (.agg #[(.int .i64 0), (.int .i64 0)]) 16 rfl Tryz.underlying27 info38 rfl (by decide) (by omega) v292 y291 l0 _ _ _ (fun k_ => some k_ ≠ (v298 : Value).ownBlock ∧ k_ ≠ gb290) (fun _ => False) rfl rfl ?aO ?aR (fun _ _ h => h) (fun _ h => h.elim) ?aF ?aB ?aS ?aL ?_
      (case aR => repeat (first | exact (Kd.C_below HR0.out HB.out) | (with_reducible refine Kd.C_alloc ?_ _) | (with_reducible refine Kd.C_drewN ?_ _) | (with_reducible refine Kd.C_drew ?_)))
      (case aB => exact (bX1 HB.out GE290.out))
      (case aF => exact (fun k_ hk => ⟨Kd.fresh' (Kd.R_lt (rX HO299.out)) k_ hk, Kd.freshB (g := gb290) (o := .cells #[.int .i64 a1_0, .int .i64 a1_1] 38 (0, 0)) (kX BK290.out) k_ hk⟩))
      (case aO => exact (rM HO293.out (fun _ hk => ⟨hk.2, hk.1.2⟩)))
      (case aS => exact (below_size (bX1 HB.out GE290.out)))
      (case aL => have := LMc3.out; omega)
      intro v295 w11 ho hb hg hat
      rw [← Ny294.out] at ho
      have n0_ := Aside0.mk (blk_grown (g := gb290) (o := .cells #[.int .i64 a1_0, .int .i64 a1_1] 38 (0, 0)) (kX BK290.out) hg (Kd.R_away HO293.out (fun _ hk => hk.1.2)))
      have n1_ := Aside0.mk (Kd.R_after (ok := (fun k_ => k_ ≠ gb290)) (rM HO299.out (fun _ hk => ⟨hk.2, hk.1.2⟩)) hg hat)
      have n2_ := Aside0.mk (hb)
      have n3_ := Aside0.mk (ho)
      clear BK290
      clear HO299
      clear HB
      clear HO293
      have BK290 := n0_
      have HO299 := n1_
      have HB := n2_
      have HO296 := n3_
      clear n0_ n1_ n2_ n3_
      clear ho hb hg hat
      refine hK.out _ _ ⟨(blk_cell BK290.out 0).trans rfl, (blk_cell BK290.out 1).trans rfl⟩ (fun hHeld => ?_)
      clear hK K
      refine norm_ (a' := ?_) ?_ ?_
      rotate_left
      ·show Act.put _ (some 9) _ = _
       simp only [Act.put, zA, zB, zC, i64_w, i32_w]
       rfl
      exact norm_ (by simp only [putAll, Act.put, List.setIfInBounds_toArray, List.set_cons_zero, List.set_cons_succ]) (hCont (v292, v295, v298) _ ⟨hHeld, (rX HO296.out), (rM HO299.out (fun _ hk => ⟨hk.2, hk.1⟩)), (kX BK290.out), (bX1 HB.out GE290.out)⟩)
    ·skip
     refine Kd.R_lit_step k38 _ 38 ?hg (N := 11) ?hd (xs := ([(⟨a1_0, a1_1⟩ : S38)] : List (S38))) (inner := [.int .i64 a1_0, .int .i64 a1_1]) (ok := fun _ => True) (okp := fun _ => True) ?hr ?hp (fun _ hk => hk) trivial (Below.refl _ _) (Nat.le_refl _) (by simp) ?_; (case hd => rfl); (case hg => rfl); (case hr => first | (go_simp; done) | (go_simp; rfl)); (case hp => exact (Reps.c2 (show Kd.M k38 _ _ _ (⟨a1_0, a1_1⟩ : S38) [.int .i64 a1_0, .int .i64 a1_1] from (k38_mkM _ _ _ (⟨a1_0, a1_1⟩ : S38) )) (Reps.none _ _)))
     intro v298 w7 ho8 hb hg_ hnew_
     clear hg_ hnew_
     (first | rw [← Ny297.out] at ho8 | (simp only [Int.reduceToNat] at ho8; rw [← Ny297.out] at ho8))
     have n0_ := Aside0.mk (Kd.R_lower (Kd.R_newB ho8 (g := gb290) (o := .cells #[.int .i64 a1_0, .int .i64 a1_1] 38 (0, 0)) (kX BK290.out)) (below_size (bX1 HB.out GE290.out)))
     have n1_ := Aside0.mk (blk_below (g := gb290) (o := .cells #[.int .i64 a1_0, .int .i64 a1_1] 38 (0, 0)) (kX BK290.out) hb)
     have n2_ := Aside0.mk (below_step (bX1 HB.out GE290.out) hb)
     clear BK290
     clear HB
     have HO299 := n0_
     have BK290 := n1_
     have HB := n2_
     clear n0_ n1_ n2_
     clear hb ho8
     refine hK.out _ _ ⟨(blk_cell BK290.out 0).trans rfl, (blk_cell BK290.out 1).trans rfl⟩ (fun hHeld => ?_)
     clear hK K
     refine norm_ (a' := ?_) ?_ ?_
     rotate_left
     ·show Act.put _ (some 11) _ = _
      simp only [Act.put, zA, zB, zC, i64_w, i32_w]
      rfl
     refine one_ (i := 0) (N := some 7) #[true, true, false, true, true, false, false] rfl rfl (by kernel_rfl) (by decide) (fun K hK => ?_)
     refine Kd.R_lit_step k38 _ 38 ?hg (N := 7) ?hd (xs := ([] : List (S38))) (inner := []) (ok := fun _ => True) (okp := fun _ => True) ?hr ?hp (fun _ hk => hk) trivial (Below.refl _ _) (Nat.le_refl _) (by simp) ?_; (case hd => rfl); (case hg => rfl); (case hr => first | (go_simp; done) | (go_simp; rfl)); (case hp => exact (Reps.none _ _))
     intro v292 w9 ho10 hb hg_ hnew_
     clear hg_ hnew_
     (first | rw [← Ny291.out] at ho10 | (simp only [Int.reduceToNat] at ho10; rw [← Ny291.out] at ho10))
     have n0_ := Aside0.mk (Kd.R_elder' (rX HO299.out) (Kd.R_base ho10) hb)
     have n1_ := Aside0.mk (Kd.R_lower (Kd.R_newB (Kd.R_new' ho10 (Kd.R_lt (rX HO299.out))) (g := gb290) (o := .cells #[.int .i64 a1_0, .int .i64 a1_1] 38 (0, 0)) (kX BK290.out)) (below_size (bX1 HB.out GE290.out)))
     have n2_ := Aside0.mk (blk_below (g := gb290) (o := .cells #[.int .i64 a1_0, .int .i64 a1_1] 38 (0, 0)) (kX BK290.out) hb)
     have n3_ := Aside0.mk (below_step (bX1 HB.out GE290.out) hb)
     clear HO299
     clear BK290
     clear HB
     have HO299 := n0_
     have HO293 := n1_
     have BK290 := n2_
     have HB := n3_
     clear n0_ n1_ n2_ n3_
     clear hb ho10
     refine hK.out _ _ ⟨(blk_cell BK290.out 0).trans rfl, (blk_cell BK290.out 1).trans rfl⟩ (fun hHeld => ?_)
     clear hK K
     refine norm_ (a' := ?_) ?_ ?_
     rotate_left
     ·show Act.put _ (some 7) _ = _
      simp only [Act.put, zA, zB, zC, i64_w, i32_w]
      rfl
     refine one_ (i := 2) (N := some 9) #[true, true, true, true, true, false, false] rfl rfl (by kernel_rfl) (by decide) (fun K hK => ?_)
     refine Kd.R_append_rows_step k38 (w0 := w) w.heap.size (by rfl) (.tmp 7) (.tmp 8) 27 38 (.agg #[(.int .i64 0), (.int .i64 0)]) 16 rfl Tryz.underlying27 info38 rfl (by decide) (by omega) v292 y291 l0 _ _ _ (fun k_ => some k_ ≠ (v298 : Value).ownBlock ∧ k_ ≠ gb290) (fun _ => False) rfl rfl ?aO ?aR (fun _ _ h => h) (fun _ h => h.elim) ?aF ?aB ?aS ?aL ?_
     (case aR => repeat (first | exact (Kd.C_below HR0.out HB.out) | (with_reducible refine Kd.C_alloc ?_ _) | (with_reducible refine Kd.C_drewN ?_ _) | (with_reducible refine Kd.C_drew ?_)))
     (case aB => exact (bX1 HB.out GE290.out))
     (case aF => exact (fun k_ hk => ⟨Kd.fresh' (Kd.R_lt (rX HO299.out)) k_ hk, Kd.freshB (g := gb290) (o := .cells #[.int .i64 a1_0, .int .i64 a1_1] 38 (0, 0)) (kX BK290.out) k_ hk⟩))
     (case aO => exact (rM HO293.out (fun _ hk => ⟨hk.1.2, hk.2⟩)))
     (case aS => exact (below_size (bX1 HB.out GE290.out)))
     (case aL => have := LMc3.out; omega)
     intro v295 w11 ho hb hg hat
     rw [← Ny294.out] at ho
     have n0_ := Aside0.mk (blk_grown (g := gb290) (o := .cells #[.int .i64 a1_0, .int .i64 a1_1] 38 (0, 0)) (kX BK290.out) hg (Kd.R_away HO293.out (fun _ hk => hk.2)))
     have n1_ := Aside0.mk (Kd.R_after (ok := (fun k_ => k_ ≠ gb290)) (rM HO299.out (fun _ hk => ⟨hk.1.2, hk.2⟩)) hg hat)
     have n2_ := Aside0.mk (hb)
     have n3_ := Aside0.mk (ho)
     clear BK290
     clear HO299
     clear HB
     clear HO293
     have BK290 := n0_
     have HO299 := n1_
     have HB := n2_
     have HO296 := n3_
     clear n0_ n1_ n2_ n3_
     clear ho hb hg hat
     refine hK.out _ _ ⟨(blk_cell BK290.out 0).trans rfl, (blk_cell BK290.out 1).trans rfl⟩ (fun hHeld => ?_)
     clear hK K
     refine norm_ (a' := ?_) ?_ ?_
     rotate_left
     ·show Act.put _ (some 9) _ = _
      simp only [Act.put, zA, zB, zC, i64_w, i32_w]
      rfl
     exact norm_ (by simp only [putAll, Act.put, List.setIfInBounds_toArray, List.set_cons_zero, List.set_cons_succ]) (hCont (v292, v295, v298) _ ⟨hHeld, (rX HO296.out), (rM HO299.out (fun _ hk => ⟨hk.2, hk.1⟩)), (kX BK290.out), (bX1 HB.out GE290.out)⟩)
   rintro ⟨v292, v295, v298⟩ w12 ⟨hS_, h0_, h1_, h2_, h3_⟩
   have n0_ : Aside0 (Kd.R k38 38 w12 w.heap.size (fun k_ => some k_ ≠ (v298 : Value).ownBlock ∧ k_ ≠ gb290) v295 y294) := ⟨h0_⟩
   have n1_ : Aside0 (Kd.R k38 38 w12 w.heap.size (fun k_ => some k_ ≠ (v295 : Value).ownBlock ∧ k_ ≠ gb290) v298 y297) := ⟨h1_⟩
   have n2_ : Aside0 (w12.heap[gb290]? = some (.cells #[.int .i64 a1_0, .int .i64 a1_1] 38 (0, 0))) := ⟨h2_⟩
   have n3_ : Aside0 (Below w.heap.size w w12) := ⟨h3_⟩
   clear BK290
   clear HB
   clear h0_ h1_ h2_ h3_
   have HO296 := n0_
   have HO299 := n1_
   have BK290 := n2_
   have HB := n3_
   clear n0_ n1_ n2_ n3_
   have hHeld : w12.cell? ⟨gb290, 0, none⟩ = some (.int .i64 a1_0) ∧ w12.cell? ⟨gb290, 1, none⟩ = some (.int .i64 a1_1) := hS_
   obtain ⟨Ao14, co14, eo14⟩ := Kd.R_slice HO299.out
   (first | subst eo14 | (injection eo14 with f1_ f2_ f3_; have f4_ := f1_.symm; have f5_ := f3_.symm; clear f1_ f2_ f3_; subst f4_; subst f5_))
   refine norm_ (a' := ?_) ?_ ?_
   rotate_left
   ·simp only [putAll, Act.put, List.setIfInBounds_toArray, List.set_cons_zero, List.set_cons_succ]
    rfl
   refine one_ (i := 5) (N := some 12) #[true, true, true, true, true, true, false] rfl rfl (by kernel_rfl) (by decide) (fun K hK => ?_)
   refine Kd.R_append_rows_step k38 (w0 := w) w.heap.size (by rfl) (.tmp 9) (.tmp 11) 27 38 (.agg #[(.int .i64 0), (.int .i64 0)]) 16 rfl Tryz.underlying27 info38 rfl (by decide) (by omega) v295 y294 y297 _ _ _ (fun k_ => some k_ ≠ (.slice Ao14 y297.length co14 : Value).ownBlock ∧ k_ ≠ gb290) (fun _ => False) rfl rfl ?aO ?aR (fun _ _ h => h) (fun _ h => h.elim) ?aF ?aB ?aS ?aL ?_
   (case aR => exact cX (Kd.R_reads' HO299.out).2.2)
   (case aB => exact (bX1 HB.out GE290.out))
   (case aF => exact (fun k_ hk => ⟨Kd.fresh' (Kd.R_lt (rX HO299.out)) k_ hk, Kd.freshB (g := gb290) (o := .cells #[.int .i64 a1_0, .int .i64 a1_1] 38 (0, 0)) (kX BK290.out) k_ hk⟩))
   (case aO => exact (rX HO296.out))
   (case aS => exact (below_size (bX1 HB.out GE290.out)))
   (case aL => have := LMc4.out; omega)
   intro v301 w13 ho hb hg hat
   rw [← Ny300.out] at ho
   have n0_ := Aside0.mk (blk_grown (g := gb290) (o := .cells #[.int .i64 a1_0, .int .i64 a1_1] 38 (0, 0)) (kX BK290.out) hg (Kd.R_away HO296.out (fun _ hk => hk.2)))
   have n1_ := Aside0.mk (Kd.R_after (ok := (fun k_ => k_ ≠ gb290)) (rM HO299.out (fun _ hk => ⟨hk.2, hk.1⟩)) hg hat)
   have n2_ := Aside0.mk (hb)
   have n3_ := Aside0.mk (ho)
   clear BK290
   clear HO299
   clear HB
   clear HO296
   have BK290 := n0_
   have HO299 := n1_
   have HB := n2_
   have HO302 := n3_
   clear n0_ n1_ n2_ n3_
   clear ho hb hg hat
   refine hK.out _ _ ⟨(blk_cell BK290.out 0).trans rfl, (blk_cell BK290.out 1).trans rfl⟩ (fun hHeld => ?_)
   clear hK K
   refine norm_ (a' := ?_) ?_ ?_
   rotate_left
   ·show Act.put _ (some 12) _ = _
    simp only [Act.put, zA, zB, zC, i64_w, i32_w]
    rfl
   refine pure_ (i := 6) (N := some 5) (v := ?_) (a' := ?_) #[true, true, true, true, true, true, true] rfl rfl (by kernel_rfl) (fun _ _ _ h => h) (Or.inl ⟨by rfl, ?_⟩) ?_ ?_
   rotate_left
   ·intro w'
    go_simp
    with_reducible rfl
   rotate_left
   ·simp only [Act.put, zA, zB, zC, i64_w, i32_w]
    rfl
   refine done_ (by kernel_rfl) ?_
   obtain ⟨Ao15, co15, eo15⟩ := Kd.R_slice HO302.out
   subst eo15
   try go_wp2
   go_loopg [6] k (fun kq v6 w' => ∃ (x5_1 : List (S38)) (x6_1 : Int) (x291000_1 : Int) (x291001_1 : Int), v6 = .int .i64 x6_1 ∧ Aside0 (spec_l15Insert.l0 kq x5_1 x6_1 x291000_1 x291001_1 = some r) ∧ Aside0 (kq ≤ k) ∧ Aside0 (Kd.R k38 38 w' w.heap.size (fun k_ => k_ ≠ gb290) (.slice Ao15 y300.length co15) x5_1) ∧ Aside0 (w'.heap[gb290]? = some (.cells #[.int .i64 x291000_1, .int .i64 x291001_1] 38 (0, 0))) ∧ Aside0 (Below w.heap.size w w'))
   case atStart => exact ⟨(y300), (wrap64 ((y300.length : Int) - 1)), (a1_0), (a1_1), vX, H', ⟨Nat.le_refl _⟩, ⟨rM HO302.out (fun _ hk => hk.2)⟩, ⟨kX BK290.out⟩, ⟨bX1 HB.out GE290.out⟩⟩
   case round =>
    clear H'
    try clear c2
    try clear p2
    try clear c3
    try clear c4
    try clear p6
    obtain ⟨x5_1, x6_1, x291000_1, x291001_1, rfl, HA, HK1, HO_5, BK290, HB⟩ := hrel
    have hl5_1 := (Kd.R_reads' HO_5.out).1
    rw [hl5_1] at HO_5
    (try simp only [hl5_1])
    (try simp only [hl5_1] at BK290)
    cases gk with
    | zero => exact absurd HA.out (by simp [spec_l15Insert.l0])
    | succ k1 =>
     have H := HA.out
     clear HA
     simp only [spec_l15Insert.l0] at H
     by_cases c16 : x6_1 > 0
     ·rw [if_pos c16] at H
      have c16b0 : decide (0 < x6_1) = true := decide_eq_true c16
      clear c16
      obtain ⟨ji17, hji17⟩ : ∃ j_ : Int, (wrap64 (x6_1 - 1)) = j_ := ⟨_, rfl⟩
      replace H : (if 0 ≤ (ji17) then (if (ji17) < (x5_1.length : Int) then (if ((rd_T38 x5_1 (ji17)).f1) > x291001_1 then (if 0 ≤ x6_1 then (if x6_1 < (x5_1.length : Int) then (spec_l15Insert.l0 k1 ((x5_1.set (x6_1 : Int).toNat (⟨(rd_T38 x5_1 (ji17)).f0, (rd_T38 x5_1 (ji17)).f1⟩ : S38)).set ((ji17) : Int).toNat (⟨x291000_1, x291001_1⟩ : S38)) ji17 x291000_1 x291001_1) else (none)) else (none)) else (if ((rd_T38 x5_1 (ji17)).f1) = x291001_1 then (if ((rd_T38 x5_1 (ji17)).f0) > x291000_1 then (if 0 ≤ x6_1 then (if x6_1 < (x5_1.length : Int) then (spec_l15Insert.l0 k1 ((x5_1.set (x6_1 : Int).toNat (⟨(rd_T38 x5_1 (ji17)).f0, (rd_T38 x5_1 (ji17)).f1⟩ : S38)).set ((ji17) : Int).toNat (⟨x291000_1, x291001_1⟩ : S38)) ji17 x291000_1 x291001_1) else (none)) else (none)) else (some x5_1)) else (some x5_1))) else (none)) else (none)) = some r := by first | (rw [hji17] at H; exact H) | (simp only [hji17] at H ⊢; exact H)
      have hji17w : (IntKind.i64.wrap (x6_1 - 1)) = ji17 := (i64_w _).trans hji17
      by_cases c18 : 0 ≤ (ji17)
      ·rw [if_pos c18] at H
       have c18b0 : decide (0 ≤ (ji17)) = true := decide_eq_true c18
       clear c18
       by_cases c19 : (ji17) < (x5_1.length : Int)
       ·rw [if_pos c19] at H
        have c19b0 : decide ((ji17) < (x5_1.length : Int)) = true := decide_eq_true c19
        clear c19
        by_cases c20 : ((rd_T38 x5_1 (ji17)).f1) > x291001_1
        ·rw [if_pos c20] at H
         have c20b0 : decide (x291001_1 < ((rd_T38 x5_1 (ji17)).f1)) = true := decide_eq_true c20
         clear c20
         by_cases c21 : 0 ≤ x6_1
         ·rw [if_pos c21] at H
          have c21b0 : decide (0 ≤ x6_1) = true := decide_eq_true c21
          clear c21
          by_cases c22 : x6_1 < (x5_1.length : Int)
          ·rw [if_pos c22] at H
           have c22b0 : decide (x6_1 < (x5_1.length : Int)) = true := decide_eq_true c22
           clear c22
           obtain ⟨y305, hy305⟩ : ∃ y_ : List (S38), y_ = (x5_1.set (x6_1 : Int).toNat (⟨(rd_T38 x5_1 (ji17)).f0, (rd_T38 x5_1 (ji17)).f1⟩ : S38)) := ⟨_, rfl⟩
           replace H : (spec_l15Insert.l0 k1 (y305.set ((ji17) : Int).toNat (⟨x291000_1, x291001_1⟩ : S38)) ji17 x291000_1 x291001_1) = some r := by first | (rw [hy305]; with_reducible exact H) | (have H2_ := (Option.bind_some _ _).symm.trans H; rw [hy305]; with_reducible exact H2_) | (have H2_ := (Option.bind_some _ _).symm.trans H; with_reducible exact H2_) | with_reducible exact H | (rw [hy305]; exact H) | exact H
           have Ny305 := Aside0.mk hy305
           clear hy305
           obtain ⟨y306, hy306⟩ : ∃ y_ : List (S38), y_ = (y305.set ((ji17) : Int).toNat (⟨x291000_1, x291001_1⟩ : S38)) := ⟨_, rfl⟩
           replace H : (spec_l15Insert.l0 k1 y306 ji17 x291000_1 x291001_1) = some r := by first | (rw [hy306]; with_reducible exact H) | (have H2_ := (Option.bind_some _ _).symm.trans H; rw [hy306]; with_reducible exact H2_) | (have H2_ := (Option.bind_some _ _).symm.trans H; with_reducible exact H2_) | with_reducible exact H | (rw [hy306]; exact H) | exact H
           have Ny306 := Aside0.mk hy306
           clear hy306
           have H' := Aside0.mk H
           clear H
           try go_wp2
           have n0_ := Aside0.mk (Kd.R_drew HO_5.out)
           have n1_ := Aside0.mk (blk_drew BK290.out)
           have n2_ := Aside0.mk (below_drew1 HB.out)
           clear HO_5
           clear BK290
           clear HB
           have HO_5 := n0_
           have BK290 := n1_
           have HB := n2_
           clear n0_ n1_ n2_
           have p303 : 0 ≤ ((ji17) : Int) := dX
           have q303 : (ji17) < (x5_1.length : Int) := dX
           obtain ⟨ad303, e303, hx303_0, hx303_1⟩ := at_T38 (Kd.R_reads' HO_5.out).2.2 (ji17) p303 q303
           cases e303
           replace p303 := eq_true p303
           replace q303 := eq_true q303
           refine start_ (n := 35) (S := fun w' => w'.cell? ⟨gb290, 0, none⟩ = some (.int .i64 x291000_1) ∧ w'.cell? ⟨gb290, 1, none⟩ = some (.int .i64 x291001_1) ∧ w'.cell? (ad303.add (((ji17)).toNat * 2)) = some (.int .i64 ((rd_T38 x5_1 (ji17)).f0)) ∧ w'.cell? ⟨(ad303.add (((ji17)).toNat * 2)).block, (ad303.add (((ji17)).toNat * 2)).off + 1, none⟩ = some (.int .i64 ((rd_T38 x5_1 (ji17)).f1))) (ds := []) #[ff,ff,ff,ff,ff,ff,ff,ff,ff,ff,ff,ff,ff,ff,ff,ff,ff,ff,ff,ff,ff,ff,ff,ff,ff,ff,ff,ff,ff,ff,ff,ff,ff,ff,ff] (by kernel_rfl) rfl rfl ⟨(blk_cell BK290.out 0).trans rfl, (blk_cell BK290.out 1).trans rfl, hx303_0, hx303_1⟩ (fun hHeld => ?_); refine with_tabW spec_l15Insert.tab3 spec_l15Insert.bits3 (fun HT_ HW_ => ?_)
           generalize wr.drew = w25 at HO_5 BK290 HB hx303_0 hx303_1 hHeld ⊢
           refine pX 0 16 (fl 35 1) rfl rfl HT_.out ?_
           refine pX 1 17 (fl 35 3) rfl rfl HT_.out ?_
           refine pX 2 18 (fl 35 7) rfl rfl HT_.out ?_
           refine pX 3 19 (fl 35 15) rfl rfl HT_.out ?_
           refine pX 4 20 (fl 35 31) rfl rfl HT_.out ?_
           refine pX 5 21 (fl 35 63) rfl rfl HT_.out ?_
           refine pX 6 22 (fl 35 127) rfl rfl HT_.out ?_
           refine pX 7 23 (fl 35 255) rfl rfl HT_.out ?_
           refine pX 9 25 (fl 35 767) rfl rfl HT_.out ?_
           refine tX4 8 24 (fl 35 1023) rfl rfl HT_.out HW_.out hHeld ?_
           refine tX4 10 26 (fl 35 2047) rfl rfl HT_.out HW_.out hHeld ?_
           refine pX 11 27 (fl 35 4095) rfl rfl HT_.out ?_
           refine pX 12 28 (fl 35 8191) rfl rfl HT_.out ?_
           refine uX 13 29 (fl 35 16383) rfl rfl HT_.out ?_
           refine uX 14 30 (fl 35 32767) rfl rfl HT_.out ?_
           refine uX 15 31 (fl 35 65535) rfl rfl HT_.out ?_
           refine uX 16 32 (fl 35 131071) rfl rfl HT_.out ?_
           refine uX 17 33 (fl 35 262143) rfl rfl HT_.out ?_
           refine uX 18 34 (fl 35 524287) rfl rfl HT_.out ?_
           refine uX 19 35 (fl 35 1048575) rfl rfl HT_.out ?_
           refine uX 20 36 (fl 35 2097151) rfl rfl HT_.out ?_
           refine uX 21 37 (fl 35 4194303) rfl rfl HT_.out ?_
           refine uX 22 38 (fl 35 8388607) rfl rfl HT_.out ?_
           refine uX 23 39 (fl 35 16777215) rfl rfl HT_.out ?_
           refine uX 24 40 (fl 35 33554431) rfl rfl HT_.out ?_
           refine uX 25 41 (fl 35 67108863) rfl rfl HT_.out ?_
           refine uX 26 42 (fl 35 134217727) rfl rfl HT_.out ?_
           refine uX 27 43 (fl 35 268435455) rfl rfl HT_.out ?_
           refine uX 28 44 (fl 35 536870911) rfl rfl HT_.out ?_
           refine uX 29 45 (fl 35 1073741823) rfl rfl HT_.out ?_
           refine uX 30 46 (fl 35 2147483647) rfl rfl HT_.out ?_
           refine uX 31 47 (fl 35 4294967295) rfl rfl HT_.out ?_
           refine uX 32 48 (fl 35 8589934591) rfl rfl HT_.out ?_
           refine pX 33 49 (fl 35 17179869183) rfl rfl HT_.out ?_
           refine pX 34 50 (fl 35 34359738367) rfl rfl HT_.out ?_
           refine done_ (done_of HT_.out (by kernel_rfl)) ?_
           have p304 : 0 ≤ ((ji17) : Int) := dX
           have q304 : (ji17) < (x5_1.length : Int) := dX
           obtain ⟨ad304, e304, hx304_0, hx304_1⟩ := at_T38 (Kd.R_reads' HO_5.out).2.2 (ji17) p304 q304
           obtain rfl : ad303 = ad304 := (by injection e304)
           replace p304 := eq_true p304
           replace q304 := eq_true q304
           have p23 : 0 ≤ (x6_1 : Int) := dX
           have q23 : (x6_1 : Int) < ((x5_1.length : Int) : Int) := dX
           obtain ⟨go23, co23, eo23, gb23, gl23, cl23, HG23⟩ := Kd.R_form HO_5.out (by omega)
           (first | cases eo23 | (injection eo23 with ea_ en_ ec_; (first | subst ea_ | (injection ea_ with ea_; subst ea_)); subst ec_; clear en_))
           have GB23 := Aside0.mk gb23
           have GG23 := Aside0.mk HG23
           clear gb23 gl23 HG23
           (first | simp only [add_plain] at hx303_0 | skip)
           (first | simp only [add_plain] at hx303_1 | skip)
           (first | simp only [add_plain] at hx304_0 | skip)
           (first | simp only [add_plain] at hx304_1 | skip)
           obtain ⟨ce23, hcl23, hM23, hcc23, hfr23⟩ := Kd.R_elem HO_5.out z38 (x6_1 : Int) p23 q23
           obtain rfl := k38_openM hM23
           have hx23_0 : w25.cell? ⟨go23, (x6_1 : Int).toNat * 2, none⟩ = some (.int .i64 ((rd_T38 x5_1 x6_1).f0)) := hcc23 0 _ rfl
           have hx23_1 : w25.cell? ⟨go23, (x6_1 : Int).toNat * 2 + 1, none⟩ = some (.int .i64 ((rd_T38 x5_1 x6_1).f1)) := hcc23 1 _ rfl
           have hf23_0 : w25.frozen? ⟨go23, (x6_1 : Int).toNat * 2, none⟩ = false := hfr23 0
           have hf23_1 : w25.frozen? ⟨go23, (x6_1 : Int).toNat * 2 + 1, none⟩ = false := hfr23 1
           clear hcl23 hcc23 hfr23 hM23
           replace p23 := eq_true p23
           replace q23 := eq_true q23
           have HX26 := Aside0.mk (show Kd.R k38 38 w25 w.heap.size (fun k_ => k_ ≠ gb290) (.slice (some ⟨go23, 0, none⟩) x5_1.length co15) x5_1 from (rX HO_5.out))
           obtain ⟨ce26, hcl26, hM26, hcc26, hfr26⟩ := Kd.R_elem HX26.out z38 (x6_1 : Int) (dX) (by have h_ : (x6_1 : Int) < ((x5_1.length : Int) : Int) := dX; first | exact h_ | (have e_ := (Kd.R_reads' HO_5.out).1; omega) | simpa using h_)
           obtain rfl := k38_openM hM26
           have HP26 := Kd.R_seg HX26.out (x6_1 : Int) (dX) (by have h_ : (x6_1 : Int) < ((x5_1.length : Int) : Int) := dX; first | exact h_ | (have e_ := (Kd.R_reads' HO_5.out).1; omega) | simpa using h_) (seg := [.int .i64 ((rd_T38 x5_1 (ji17)).f0), .int .i64 ((rd_T38 x5_1 (ji17)).f1)]) (j := 0) hcl26 hcc26 (show 2 ≤ 2 from by decide) (x' := (⟨(rd_T38 x5_1 (ji17)).f0, (rd_T38 x5_1 (ji17)).f1⟩ : S38)) (k38_mkM _ _ _ (⟨(rd_T38 x5_1 (ji17)).f0, (rd_T38 x5_1 (ji17)).f1⟩ : S38) ) (fun _ hk => hk)
           have hx26_0 := hcc26 0 _ rfl
           (try simp only [show (k38).sz = 2 from rfl, Nat.mul_one, Nat.add_zero] at hx26_0)
           have hf26_0 := hfr26 0
           (try simp only [show (k38).sz = 2 from rfl, Nat.mul_one, Nat.add_zero] at hf26_0)
           have hx26_1 := hcc26 1 _ rfl
           (try simp only [show (k38).sz = 2 from rfl, Nat.mul_one, Nat.add_zero] at hx26_1)
           have hf26_1 := hfr26 1
           (try simp only [show (k38).sz = 2 from rfl, Nat.mul_one, Nat.add_zero] at hf26_1)
           clear hcl26 hcc26 hfr26 hM26
           try go_wp2_with (first | ((with_reducible refine gate_store (t := 38) (p := 60) rfl ?_); refine store_event (t := 38) (p := 60) (v := ?vo_w27) (w1 := ((w25.setCell ⟨go23, (x6_1 : Int).toNat * 2, none⟩ (.int .i64 ((rd_T38 x5_1 (ji17)).f0))).setCell ⟨go23, (x6_1 : Int).toNat * 2 + 1, none⟩ (.int .i64 ((rd_T38 x5_1 (ji17)).f1)))) ?hg ?ho ?hn ?hr ?_; (case ho => rfl); (case hg => rfl); (case hn => rfl); (case hr => first | (go_simp; done) | (go_simp; rfl)); intro w27 hw; have hg : w25.grownBy w27 (some go23) := (by rw [hw]; exact HP26.2); have hp_ : Kd.R k38 38 w27 w.heap.size (fun k_ => k_ ≠ gb290) (.slice (some ⟨go23, 0, none⟩) x5_1.length co15) y305 := (by rw [hw, Ny305.out]; exact HP26.1); clear HP26; have n0_ := Aside0.mk (hp_); have n1_ := Aside0.mk (blk_grown (g := gb290) (o := .cells #[.int .i64 x291000_1, .int .i64 x291001_1] 38 (0, 0)) (kX BK290.out) hg (Kd.R_away HO_5.out (fun _ hk => hk))); have n2_ := Aside0.mk ((by rw [hw]; exact below_set (below_set (HB.out) GB23.out) GB23.out : Below w.heap.size w w27)); clear HO_5; clear BK290; clear HB; have HO_5 := n0_; have BK290 := n1_; have HB := n2_; clear n0_ n1_ n2_; clear hg hw hp_; have hcz28_0 : w27.cell? ⟨gb290, 0, none⟩ = some (.int .i64 x291000_1) := (blk_cell BK290.out 0).trans rfl; have hcz28_1 : w27.cell? ⟨gb290, 1, none⟩ = some (.int .i64 x291001_1) := (blk_cell BK290.out 1).trans rfl; have hfz28_0 := blk_frozen BK290.out 0; have hfz28_1 := blk_frozen BK290.out 1; have p24 : 0 ≤ ((ji17) : Int) := dX; have q24 : ((ji17) : Int) < ((x5_1.length : Int) : Int) := dX; obtain ⟨ce24, hcl24, hM24, hcc24, hfr24⟩ := Kd.R_elem HO_5.out z38 ((ji17) : Int) p24 q24; obtain rfl := k38_openM hM24; have hx24_0 : w27.cell? ⟨go23, ((ji17) : Int).toNat * 2, none⟩ = some (.int .i64 ((rd_T38 y305 (ji17)).f0)) := hcc24 0 _ rfl; have hx24_1 : w27.cell? ⟨go23, ((ji17) : Int).toNat * 2 + 1, none⟩ = some (.int .i64 ((rd_T38 y305 (ji17)).f1)) := hcc24 1 _ rfl; have hf24_0 : w27.frozen? ⟨go23, ((ji17) : Int).toNat * 2, none⟩ = false := hfr24 0; have hf24_1 : w27.frozen? ⟨go23, ((ji17) : Int).toNat * 2 + 1, none⟩ = false := hfr24 1; clear hcl24 hcc24 hfr24 hM24; replace p24 := eq_true p24; replace q24 := eq_true q24; have HX29 := Aside0.mk (show Kd.R k38 38 w27 w.heap.size (fun k_ => k_ ≠ gb290) (.slice (some ⟨go23, 0, none⟩) x5_1.length co15) y305 from (rX HO_5.out)); obtain ⟨ce29, hcl29, hM29, hcc29, hfr29⟩ := Kd.R_elem HX29.out z38 ((ji17) : Int) (dX) (by have h_ : ((ji17) : Int) < ((x5_1.length : Int) : Int) := dX; first | exact h_ | (have e_ := (Kd.R_reads' HO_5.out).1; omega) | simpa using h_); obtain rfl := k38_openM hM29; have HP29 := Kd.R_seg HX29.out ((ji17) : Int) (dX) (by have h_ : ((ji17) : Int) < ((x5_1.length : Int) : Int) := dX; first | exact h_ | (have e_ := (Kd.R_reads' HO_5.out).1; omega) | simpa using h_) (seg := [.int .i64 x291000_1, .int .i64 x291001_1]) (j := 0) hcl29 hcc29 (show 2 ≤ 2 from by decide) (x' := (⟨x291000_1, x291001_1⟩ : S38)) (k38_mkM _ _ _ (⟨x291000_1, x291001_1⟩ : S38) ) (fun _ hk => hk); have hx29_0 := hcc29 0 _ rfl; (try simp only [show (k38).sz = 2 from rfl, Nat.mul_one, Nat.add_zero] at hx29_0); have hf29_0 := hfr29 0; (try simp only [show (k38).sz = 2 from rfl, Nat.mul_one, Nat.add_zero] at hf29_0); have hx29_1 := hcc29 1 _ rfl; (try simp only [show (k38).sz = 2 from rfl, Nat.mul_one, Nat.add_zero] at hx29_1); have hf29_1 := hfr29 1; (try simp only [show (k38).sz = 2 from rfl, Nat.mul_one, Nat.add_zero] at hf29_1); clear hcl29 hcc29 hfr29 hM29) | ((with_reducible refine gate_store (t := 38) (p := 65) rfl ?_); refine store_event (t := 38) (p := 65) (v := ?vo_w30) (w1 := ((w27.setCell ⟨go23, ((ji17) : Int).toNat * 2, none⟩ (.int .i64 x291000_1)).setCell ⟨go23, ((ji17) : Int).toNat * 2 + 1, none⟩ (.int .i64 x291001_1))) ?hg ?ho ?hn ?hr ?_; (case ho => rfl); (case hg => rfl); (case hn => rfl); (case hr => first | (go_simp; done) | (go_simp; rfl)); intro w30 hw; have hg : w27.grownBy w30 (some go23) := (by rw [hw]; exact HP29.2); have hp_ : Kd.R k38 38 w30 w.heap.size (fun k_ => k_ ≠ gb290) (.slice (some ⟨go23, 0, none⟩) x5_1.length co15) y306 := (by rw [hw, Ny306.out]; exact HP29.1); clear HP29; have n0_ := Aside0.mk (hp_); have n1_ := Aside0.mk (blk_grown (g := gb290) (o := .cells #[.int .i64 x291000_1, .int .i64 x291001_1] 38 (0, 0)) (kX BK290.out) hg (Kd.R_away HO_5.out (fun _ hk => hk))); have n2_ := Aside0.mk ((by rw [hw]; exact below_set (below_set (HB.out) GB23.out) GB23.out : Below w.heap.size w w30)); clear HO_5; clear BK290; clear HB; have HO_5 := n0_; have BK290 := n1_; have HB := n2_; clear n0_ n1_ n2_; clear hg hw hp_))
           (try simp only [← hl5_1])
           go_roundg k1
           case measure => have := HK1.out; omega
           case rel => exact ⟨(y306), (ji17), (x291000_1), (x291001_1), (by first | rfl | (simp; done) | (simp only [← hji17] <;> (first | rfl | simp)) | (simp [*]; done)), H', ⟨by have := HK1.out; omega⟩, ⟨by (try simp only [hl5_1]); (with_reducible repeat (first|apply rA|apply rN|apply rD)); exact HO_5.out⟩, ⟨by (try simp only [hl5_1]); (with_reducible repeat (first|refine kN ?_ _|refine kD ?_|refine kA ?_ _)); exact BK290.out⟩, ⟨bX1 HB.out GE290.out⟩⟩
          ·rw [if_neg c22] at H
           exact absurd H (by simp)
         ·rw [if_neg c21] at H
          exact absurd H (by simp)
        ·rw [if_neg c20] at H
         have c20b0 : decide (x291001_1 < ((rd_T38 x5_1 (ji17)).f1)) = false := decide_eq_false c20
         clear c20
         by_cases c31 : ((rd_T38 x5_1 (ji17)).f1) = x291001_1
         ·rw [if_pos c31] at H
          have c31b0 : (((rd_T38 x5_1 (ji17)).f1) == x291001_1) = true := beq_iff_eq.mpr c31
          have c31b1 : (((rd_T38 x5_1 (ji17)).f1) != x291001_1) = false := bne_eq_false_iff_eq.mpr c31
          clear c31
          by_cases c32 : ((rd_T38 x5_1 (ji17)).f0) > x291000_1
          ·rw [if_pos c32] at H
           have c32b0 : decide (x291000_1 < ((rd_T38 x5_1 (ji17)).f0)) = true := decide_eq_true c32
           clear c32
           by_cases c33 : 0 ≤ x6_1
           ·rw [if_pos c33] at H
            have c33b0 : decide (0 ≤ x6_1) = true := decide_eq_true c33
            clear c33
            by_cases c34 : x6_1 < (x5_1.length : Int)
            ·rw [if_pos c34] at H
             have c34b0 : decide (x6_1 < (x5_1.length : Int)) = true := decide_eq_true c34
             clear c34
             obtain ⟨y310, hy310⟩ : ∃ y_ : List (S38), y_ = (x5_1.set (x6_1 : Int).toNat (⟨(rd_T38 x5_1 (ji17)).f0, (rd_T38 x5_1 (ji17)).f1⟩ : S38)) := ⟨_, rfl⟩
             replace H : (spec_l15Insert.l0 k1 (y310.set ((ji17) : Int).toNat (⟨x291000_1, x291001_1⟩ : S38)) ji17 x291000_1 x291001_1) = some r := by first | (rw [hy310]; with_reducible exact H) | (have H2_ := (Option.bind_some _ _).symm.trans H; rw [hy310]; with_reducible exact H2_) | (have H2_ := (Option.bind_some _ _).symm.trans H; with_reducible exact H2_) | with_reducible exact H | (rw [hy310]; exact H) | exact H
             have Ny310 := Aside0.mk hy310
             clear hy310
             obtain ⟨y311, hy311⟩ : ∃ y_ : List (S38), y_ = (y310.set ((ji17) : Int).toNat (⟨x291000_1, x291001_1⟩ : S38)) := ⟨_, rfl⟩
             replace H : (spec_l15Insert.l0 k1 y311 ji17 x291000_1 x291001_1) = some r := by first | (rw [hy311]; with_reducible exact H) | (have H2_ := (Option.bind_some _ _).symm.trans H; rw [hy311]; with_reducible exact H2_) | (have H2_ := (Option.bind_some _ _).symm.trans H; with_reducible exact H2_) | with_reducible exact H | (rw [hy311]; exact H) | exact H
             have Ny311 := Aside0.mk hy311
             clear hy311
             have H' := Aside0.mk H
             clear H
             try go_wp2
             have n0_ := Aside0.mk (Kd.R_drew HO_5.out)
             have n1_ := Aside0.mk (blk_drew BK290.out)
             have n2_ := Aside0.mk (below_drew1 HB.out)
             clear HO_5
             clear BK290
             clear HB
             have HO_5 := n0_
             have BK290 := n1_
             have HB := n2_
             clear n0_ n1_ n2_
             have p303 : 0 ≤ ((ji17) : Int) := dX
             have q303 : (ji17) < (x5_1.length : Int) := dX
             obtain ⟨ad303, e303, hx303_0, hx303_1⟩ := at_T38 (Kd.R_reads' HO_5.out).2.2 (ji17) p303 q303
             cases e303
             replace p303 := eq_true p303
             replace q303 := eq_true q303
             have p307 : 0 ≤ ((ji17) : Int) := dX
             have q307 : (ji17) < (x5_1.length : Int) := dX
             obtain ⟨ad307, e307, hx307_0, hx307_1⟩ := at_T38 (Kd.R_reads' HO_5.out).2.2 (ji17) p307 q307
             obtain rfl : ad303 = ad307 := (by injection e307)
             replace p307 := eq_true p307
             replace q307 := eq_true q307
             have p308 : 0 ≤ ((ji17) : Int) := dX
             have q308 : (ji17) < (x5_1.length : Int) := dX
             obtain ⟨ad308, e308, hx308_0, hx308_1⟩ := at_T38 (Kd.R_reads' HO_5.out).2.2 (ji17) p308 q308
             obtain rfl : ad303 = ad308 := (by injection e308)
             replace p308 := eq_true p308
             replace q308 := eq_true q308
             refine start_ (n := 35) (S := fun w' => w'.cell? ⟨gb290, 0, none⟩ = some (.int .i64 x291000_1) ∧ w'.cell? ⟨gb290, 1, none⟩ = some (.int .i64 x291001_1) ∧ w'.cell? (ad303.add (((ji17)).toNat * 2)) = some (.int .i64 ((rd_T38 x5_1 (ji17)).f0)) ∧ w'.cell? ⟨(ad303.add (((ji17)).toNat * 2)).block, (ad303.add (((ji17)).toNat * 2)).off + 1, none⟩ = some (.int .i64 ((rd_T38 x5_1 (ji17)).f1)) ∧ w'.cell? (ad303.add (((ji17)).toNat * 2)) = some (.int .i64 ((rd_T38 x5_1 (ji17)).f0)) ∧ w'.cell? ⟨(ad303.add (((ji17)).toNat * 2)).block, (ad303.add (((ji17)).toNat * 2)).off + 1, none⟩ = some (.int .i64 ((rd_T38 x5_1 (ji17)).f1)) ∧ w'.cell? (ad303.add (((ji17)).toNat * 2)) = some (.int .i64 ((rd_T38 x5_1 (ji17)).f0)) ∧ w'.cell? ⟨(ad303.add (((ji17)).toNat * 2)).block, (ad303.add (((ji17)).toNat * 2)).off + 1, none⟩ = some (.int .i64 ((rd_T38 x5_1 (ji17)).f1))) (ds := []) #[ff,ff,ff,ff,ff,ff,ff,ff,ff,ff,ff,ff,ff,ff,ff,ff,ff,ff,ff,ff,ff,ff,ff,ff,ff,ff,ff,ff,ff,ff,ff,ff,ff,ff,ff] (by kernel_rfl) rfl rfl ⟨(blk_cell BK290.out 0).trans rfl, (blk_cell BK290.out 1).trans rfl, hx303_0, hx303_1, hx307_0, hx307_1, hx308_0, hx308_1⟩ (fun hHeld => ?_); refine with_tabW spec_l15Insert.tab3 spec_l15Insert.bits3 (fun HT_ HW_ => ?_)
             generalize wr.drew = w37 at HO_5 BK290 HB hx303_0 hx303_1 hx307_0 hx307_1 hx308_0 hx308_1 hHeld ⊢
             refine pX 0 16 (fl 35 1) rfl rfl HT_.out ?_
             refine pX 1 17 (fl 35 3) rfl rfl HT_.out ?_
             refine pX 2 18 (fl 35 7) rfl rfl HT_.out ?_
             refine pX 3 19 (fl 35 15) rfl rfl HT_.out ?_
             refine pX 4 20 (fl 35 31) rfl rfl HT_.out ?_
             refine pX 5 21 (fl 35 63) rfl rfl HT_.out ?_
             refine pX 6 22 (fl 35 127) rfl rfl HT_.out ?_
             refine pX 7 23 (fl 35 255) rfl rfl HT_.out ?_
             refine pX 9 25 (fl 35 767) rfl rfl HT_.out ?_
             refine tX8 8 24 (fl 35 1023) rfl rfl HT_.out HW_.out hHeld ?_
             refine tX8 10 26 (fl 35 2047) rfl rfl HT_.out HW_.out hHeld ?_
             refine pX 11 27 (fl 35 4095) rfl rfl HT_.out ?_
             refine pX 12 28 (fl 35 8191) rfl rfl HT_.out ?_
             refine pX 13 29 (fl 35 16383) rfl rfl HT_.out ?_
             refine pX 14 30 (fl 35 32767) rfl rfl HT_.out ?_
             refine pX 15 31 (fl 35 65535) rfl rfl HT_.out ?_
             refine pX 16 32 (fl 35 131071) rfl rfl HT_.out ?_
             refine pX 17 33 (fl 35 262143) rfl rfl HT_.out ?_
             refine pX 19 35 (fl 35 786431) rfl rfl HT_.out ?_
             refine tX8 18 34 (fl 35 1048575) rfl rfl HT_.out HW_.out hHeld ?_
             refine tX8 20 36 (fl 35 2097151) rfl rfl HT_.out HW_.out hHeld ?_
             refine pX 21 37 (fl 35 4194303) rfl rfl HT_.out ?_
             refine pX 22 38 (fl 35 8388607) rfl rfl HT_.out ?_
             refine pX 23 39 (fl 35 16777215) rfl rfl HT_.out ?_
             refine pX 24 40 (fl 35 33554431) rfl rfl HT_.out ?_
             refine pX 25 41 (fl 35 67108863) rfl rfl HT_.out ?_
             refine pX 26 42 (fl 35 134217727) rfl rfl HT_.out ?_
             refine pX 27 43 (fl 35 268435455) rfl rfl HT_.out ?_
             refine pX 29 45 (fl 35 805306367) rfl rfl HT_.out ?_
             refine tX8 28 44 (fl 35 1073741823) rfl rfl HT_.out HW_.out hHeld ?_
             refine tX8 30 46 (fl 35 2147483647) rfl rfl HT_.out HW_.out hHeld ?_
             refine pX 31 47 (fl 35 4294967295) rfl rfl HT_.out ?_
             refine pX 32 48 (fl 35 8589934591) rfl rfl HT_.out ?_
             refine pX 33 49 (fl 35 17179869183) rfl rfl HT_.out ?_
             refine pX 34 50 (fl 35 34359738367) rfl rfl HT_.out ?_
             refine done_ (done_of HT_.out (by kernel_rfl)) ?_
             have p309 : 0 ≤ ((ji17) : Int) := dX
             have q309 : (ji17) < (x5_1.length : Int) := dX
             obtain ⟨ad309, e309, hx309_0, hx309_1⟩ := at_T38 (Kd.R_reads' HO_5.out).2.2 (ji17) p309 q309
             obtain rfl : ad303 = ad309 := (by injection e309)
             replace p309 := eq_true p309
             replace q309 := eq_true q309
             have p35 : 0 ≤ (x6_1 : Int) := dX
             have q35 : (x6_1 : Int) < ((x5_1.length : Int) : Int) := dX
             obtain ⟨go35, co35, eo35, gb35, gl35, cl35, HG35⟩ := Kd.R_form HO_5.out (by omega)
             (first | cases eo35 | (injection eo35 with ea_ en_ ec_; (first | subst ea_ | (injection ea_ with ea_; subst ea_)); subst ec_; clear en_))
             have GB35 := Aside0.mk gb35
             have GG35 := Aside0.mk HG35
             clear gb35 gl35 HG35
             (first | simp only [add_plain] at hx303_0 | skip)
             (first | simp only [add_plain] at hx303_1 | skip)
             (first | simp only [add_plain] at hx307_0 | skip)
             (first | simp only [add_plain] at hx307_1 | skip)
             (first | simp only [add_plain] at hx308_0 | skip)
             (first | simp only [add_plain] at hx308_1 | skip)
             (first | simp only [add_plain] at hx309_0 | skip)
             (first | simp only [add_plain] at hx309_1 | skip)
             obtain ⟨ce35, hcl35, hM35, hcc35, hfr35⟩ := Kd.R_elem HO_5.out z38 (x6_1 : Int) p35 q35
             obtain rfl := k38_openM hM35
             have hx35_0 : w37.cell? ⟨go35, (x6_1 : Int).toNat * 2, none⟩ = some (.int .i64 ((rd_T38 x5_1 x6_1).f0)) := hcc35 0 _ rfl
             have hx35_1 : w37.cell? ⟨go35, (x6_1 : Int).toNat * 2 + 1, none⟩ = some (.int .i64 ((rd_T38 x5_1 x6_1).f1)) := hcc35 1 _ rfl
             have hf35_0 : w37.frozen? ⟨go35, (x6_1 : Int).toNat * 2, none⟩ = false := hfr35 0
             have hf35_1 : w37.frozen? ⟨go35, (x6_1 : Int).toNat * 2 + 1, none⟩ = false := hfr35 1
             clear hcl35 hcc35 hfr35 hM35
             replace p35 := eq_true p35
             replace q35 := eq_true q35
             have HX38 := Aside0.mk (show Kd.R k38 38 w37 w.heap.size (fun k_ => k_ ≠ gb290) (.slice (some ⟨go35, 0, none⟩) x5_1.length co15) x5_1 from (rX HO_5.out))
             obtain ⟨ce38, hcl38, hM38, hcc38, hfr38⟩ := Kd.R_elem HX38.out z38 (x6_1 : Int) (dX) (by have h_ : (x6_1 : Int) < ((x5_1.length : Int) : Int) := dX; first | exact h_ | (have e_ := (Kd.R_reads' HO_5.out).1; omega) | simpa using h_)
             obtain rfl := k38_openM hM38
             have HP38 := Kd.R_seg HX38.out (x6_1 : Int) (dX) (by have h_ : (x6_1 : Int) < ((x5_1.length : Int) : Int) := dX; first | exact h_ | (have e_ := (Kd.R_reads' HO_5.out).1; omega) | simpa using h_) (seg := [.int .i64 ((rd_T38 x5_1 (ji17)).f0), .int .i64 ((rd_T38 x5_1 (ji17)).f1)]) (j := 0) hcl38 hcc38 (show 2 ≤ 2 from by decide) (x' := (⟨(rd_T38 x5_1 (ji17)).f0, (rd_T38 x5_1 (ji17)).f1⟩ : S38)) (k38_mkM _ _ _ (⟨(rd_T38 x5_1 (ji17)).f0, (rd_T38 x5_1 (ji17)).f1⟩ : S38) ) (fun _ hk => hk)
             have hx38_0 := hcc38 0 _ rfl
             (try simp only [show (k38).sz = 2 from rfl, Nat.mul_one, Nat.add_zero] at hx38_0)
             have hf38_0 := hfr38 0
             (try simp only [show (k38).sz = 2 from rfl, Nat.mul_one, Nat.add_zero] at hf38_0)
             have hx38_1 := hcc38 1 _ rfl
             (try simp only [show (k38).sz = 2 from rfl, Nat.mul_one, Nat.add_zero] at hx38_1)
             have hf38_1 := hfr38 1
             (try simp only [show (k38).sz = 2 from rfl, Nat.mul_one, Nat.add_zero] at hf38_1)
             clear hcl38 hcc38 hfr38 hM38
             try go_wp2_with (first | ((with_reducible refine gate_store (t := 38) (p := 60) rfl ?_); refine store_event (t := 38) (p := 60) (v := ?vo_w39) (w1 := ((w37.setCell ⟨go35, (x6_1 : Int).toNat * 2, none⟩ (.int .i64 ((rd_T38 x5_1 (ji17)).f0))).setCell ⟨go35, (x6_1 : Int).toNat * 2 + 1, none⟩ (.int .i64 ((rd_T38 x5_1 (ji17)).f1)))) ?hg ?ho ?hn ?hr ?_; (case ho => rfl); (case hg => rfl); (case hn => rfl); (case hr => first | (go_simp; done) | (go_simp; rfl)); intro w39 hw; have hg : w37.grownBy w39 (some go35) := (by rw [hw]; exact HP38.2); have hp_ : Kd.R k38 38 w39 w.heap.size (fun k_ => k_ ≠ gb290) (.slice (some ⟨go35, 0, none⟩) x5_1.length co15) y310 := (by rw [hw, Ny310.out]; exact HP38.1); clear HP38; have n0_ := Aside0.mk (hp_); have n1_ := Aside0.mk (blk_grown (g := gb290) (o := .cells #[.int .i64 x291000_1, .int .i64 x291001_1] 38 (0, 0)) (kX BK290.out) hg (Kd.R_away HO_5.out (fun _ hk => hk))); have n2_ := Aside0.mk ((by rw [hw]; exact below_set (below_set (HB.out) GB35.out) GB35.out : Below w.heap.size w w39)); clear HO_5; clear BK290; clear HB; have HO_5 := n0_; have BK290 := n1_; have HB := n2_; clear n0_ n1_ n2_; clear hg hw hp_; have hcz40_0 : w39.cell? ⟨gb290, 0, none⟩ = some (.int .i64 x291000_1) := (blk_cell BK290.out 0).trans rfl; have hcz40_1 : w39.cell? ⟨gb290, 1, none⟩ = some (.int .i64 x291001_1) := (blk_cell BK290.out 1).trans rfl; have hfz40_0 := blk_frozen BK290.out 0; have hfz40_1 := blk_frozen BK290.out 1; have p36 : 0 ≤ ((ji17) : Int) := dX; have q36 : ((ji17) : Int) < ((x5_1.length : Int) : Int) := dX; obtain ⟨ce36, hcl36, hM36, hcc36, hfr36⟩ := Kd.R_elem HO_5.out z38 ((ji17) : Int) p36 q36; obtain rfl := k38_openM hM36; have hx36_0 : w39.cell? ⟨go35, ((ji17) : Int).toNat * 2, none⟩ = some (.int .i64 ((rd_T38 y310 (ji17)).f0)) := hcc36 0 _ rfl; have hx36_1 : w39.cell? ⟨go35, ((ji17) : Int).toNat * 2 + 1, none⟩ = some (.int .i64 ((rd_T38 y310 (ji17)).f1)) := hcc36 1 _ rfl; have hf36_0 : w39.frozen? ⟨go35, ((ji17) : Int).toNat * 2, none⟩ = false := hfr36 0; have hf36_1 : w39.frozen? ⟨go35, ((ji17) : Int).toNat * 2 + 1, none⟩ = false := hfr36 1; clear hcl36 hcc36 hfr36 hM36; replace p36 := eq_true p36; replace q36 := eq_true q36; have HX41 := Aside0.mk (show Kd.R k38 38 w39 w.heap.size (fun k_ => k_ ≠ gb290) (.slice (some ⟨go35, 0, none⟩) x5_1.length co15) y310 from (rX HO_5.out)); obtain ⟨ce41, hcl41, hM41, hcc41, hfr41⟩ := Kd.R_elem HX41.out z38 ((ji17) : Int) (dX) (by have h_ : ((ji17) : Int) < ((x5_1.length : Int) : Int) := dX; first | exact h_ | (have e_ := (Kd.R_reads' HO_5.out).1; omega) | simpa using h_); obtain rfl := k38_openM hM41; have HP41 := Kd.R_seg HX41.out ((ji17) : Int) (dX) (by have h_ : ((ji17) : Int) < ((x5_1.length : Int) : Int) := dX; first | exact h_ | (have e_ := (Kd.R_reads' HO_5.out).1; omega) | simpa using h_) (seg := [.int .i64 x291000_1, .int .i64 x291001_1]) (j := 0) hcl41 hcc41 (show 2 ≤ 2 from by decide) (x' := (⟨x291000_1, x291001_1⟩ : S38)) (k38_mkM _ _ _ (⟨x291000_1, x291001_1⟩ : S38) ) (fun _ hk => hk); have hx41_0 := hcc41 0 _ rfl; (try simp only [show (k38).sz = 2 from rfl, Nat.mul_one, Nat.add_zero] at hx41_0); have hf41_0 := hfr41 0; (try simp only [show (k38).sz = 2 from rfl, Nat.mul_one, Nat.add_zero] at hf41_0); have hx41_1 := hcc41 1 _ rfl; (try simp only [show (k38).sz = 2 from rfl, Nat.mul_one, Nat.add_zero] at hx41_1); have hf41_1 := hfr41 1; (try simp only [show (k38).sz = 2 from rfl, Nat.mul_one, Nat.add_zero] at hf41_1); clear hcl41 hcc41 hfr41 hM41) | ((with_reducible refine gate_store (t := 38) (p := 65) rfl ?_); refine store_event (t := 38) (p := 65) (v := ?vo_w42) (w1 := ((w39.setCell ⟨go35, ((ji17) : Int).toNat * 2, none⟩ (.int .i64 x291000_1)).setCell ⟨go35, ((ji17) : Int).toNat * 2 + 1, none⟩ (.int .i64 x291001_1))) ?hg ?ho ?hn ?hr ?_; (case ho => rfl); (case hg => rfl); (case hn => rfl); (case hr => first | (go_simp; done) | (go_simp; rfl)); intro w42 hw; have hg : w39.grownBy w42 (some go35) := (by rw [hw]; exact HP41.2); have hp_ : Kd.R k38 38 w42 w.heap.size (fun k_ => k_ ≠ gb290) (.slice (some ⟨go35, 0, none⟩) x5_1.length co15) y311 := (by rw [hw, Ny311.out]; exact HP41.1); clear HP41; have n0_ := Aside0.mk (hp_); have n1_ := Aside0.mk (blk_grown (g := gb290) (o := .cells #[.int .i64 x291000_1, .int .i64 x291001_1] 38 (0, 0)) (kX BK290.out) hg (Kd.R_away HO_5.out (fun _ hk => hk))); have n2_ := Aside0.mk ((by rw [hw]; exact below_set (below_set (HB.out) GB35.out) GB35.out : Below w.heap.size w w42)); clear HO_5; clear BK290; clear HB; have HO_5 := n0_; have BK290 := n1_; have HB := n2_; clear n0_ n1_ n2_; clear hg hw hp_))
             (try simp only [← hl5_1])
             go_roundg k1
             case measure => have := HK1.out; omega
             case rel => exact ⟨(y311), (ji17), (x291000_1), (x291001_1), (by first | rfl | (simp; done) | (simp only [← hji17] <;> (first | rfl | simp)) | (simp [*]; done)), H', ⟨by have := HK1.out; omega⟩, ⟨by (try simp only [hl5_1]); (with_reducible repeat (first|apply rA|apply rN|apply rD)); exact HO_5.out⟩, ⟨by (try simp only [hl5_1]); (with_reducible repeat (first|refine kN ?_ _|refine kD ?_|refine kA ?_ _)); exact BK290.out⟩, ⟨bX1 HB.out GE290.out⟩⟩
            ·rw [if_neg c34] at H
             exact absurd H (by simp)
           ·rw [if_neg c33] at H
            exact absurd H (by simp)
          ·rw [if_neg c32] at H
           have c32b0 : decide (x291000_1 < ((rd_T38 x5_1 (ji17)).f0)) = false := decide_eq_false c32
           clear c32
           obtain rfl := Option.some.inj H
           try go_wp2
           have n0_ := Aside0.mk (Kd.R_drew HO_5.out)
           have n1_ := Aside0.mk (blk_drew BK290.out)
           have n2_ := Aside0.mk (below_drew1 HB.out)
           clear HO_5
           clear BK290
           clear HB
           have HO_5 := n0_
           have BK290 := n1_
           have HB := n2_
           clear n0_ n1_ n2_
           have p303 : 0 ≤ ((ji17) : Int) := dX
           have q303 : (ji17) < (x5_1.length : Int) := dX
           obtain ⟨ad303, e303, hx303_0, hx303_1⟩ := at_T38 (Kd.R_reads' HO_5.out).2.2 (ji17) p303 q303
           cases e303
           replace p303 := eq_true p303
           replace q303 := eq_true q303
           have p307 : 0 ≤ ((ji17) : Int) := dX
           have q307 : (ji17) < (x5_1.length : Int) := dX
           obtain ⟨ad307, e307, hx307_0, hx307_1⟩ := at_T38 (Kd.R_reads' HO_5.out).2.2 (ji17) p307 q307
           obtain rfl : ad303 = ad307 := (by injection e307)
           replace p307 := eq_true p307
           replace q307 := eq_true q307
           have p308 : 0 ≤ ((ji17) : Int) := dX
           have q308 : (ji17) < (x5_1.length : Int) := dX
           obtain ⟨ad308, e308, hx308_0, hx308_1⟩ := at_T38 (Kd.R_reads' HO_5.out).2.2 (ji17) p308 q308
           obtain rfl : ad303 = ad308 := (by injection e308)
           replace p308 := eq_true p308
           replace q308 := eq_true q308
           refine start_ (n := 35) (S := fun w' => w'.cell? ⟨gb290, 0, none⟩ = some (.int .i64 x291000_1) ∧ w'.cell? ⟨gb290, 1, none⟩ = some (.int .i64 x291001_1) ∧ w'.cell? (ad303.add (((ji17)).toNat * 2)) = some (.int .i64 ((rd_T38 x5_1 (ji17)).f0)) ∧ w'.cell? ⟨(ad303.add (((ji17)).toNat * 2)).block, (ad303.add (((ji17)).toNat * 2)).off + 1, none⟩ = some (.int .i64 ((rd_T38 x5_1 (ji17)).f1)) ∧ w'.cell? (ad303.add (((ji17)).toNat * 2)) = some (.int .i64 ((rd_T38 x5_1 (ji17)).f0)) ∧ w'.cell? ⟨(ad303.add (((ji17)).toNat * 2)).block, (ad303.add (((ji17)).toNat * 2)).off + 1, none⟩ = some (.int .i64 ((rd_T38 x5_1 (ji17)).f1)) ∧ w'.cell? (ad303.add (((ji17)).toNat * 2)) = some (.int .i64 ((rd_T38 x5_1 (ji17)).f0)) ∧ w'.cell? ⟨(ad303.add (((ji17)).toNat * 2)).block, (ad303.add (((ji17)).toNat * 2)).off + 1, none⟩ = some (.int .i64 ((rd_T38 x5_1 (ji17)).f1))) (ds := []) #[ff,ff,ff,ff,ff,ff,ff,ff,ff,ff,ff,ff,ff,ff,ff,ff,ff,ff,ff,ff,ff,ff,ff,ff,ff,ff,ff,ff,ff,ff,ff,ff,ff,ff,ff] (by kernel_rfl) rfl rfl ⟨(blk_cell BK290.out 0).trans rfl, (blk_cell BK290.out 1).trans rfl, hx303_0, hx303_1, hx307_0, hx307_1, hx308_0, hx308_1⟩ (fun hHeld => ?_); refine with_tabW spec_l15Insert.tab3 spec_l15Insert.bits3 (fun HT_ HW_ => ?_)
           generalize wr.drew = w43 at HO_5 BK290 HB hx303_0 hx303_1 hx307_0 hx307_1 hx308_0 hx308_1 hHeld ⊢
           refine pX 0 16 (fl 35 1) rfl rfl HT_.out ?_
           refine pX 1 17 (fl 35 3) rfl rfl HT_.out ?_
           refine pX 2 18 (fl 35 7) rfl rfl HT_.out ?_
           refine pX 3 19 (fl 35 15) rfl rfl HT_.out ?_
           refine pX 4 20 (fl 35 31) rfl rfl HT_.out ?_
           refine pX 5 21 (fl 35 63) rfl rfl HT_.out ?_
           refine pX 6 22 (fl 35 127) rfl rfl HT_.out ?_
           refine pX 7 23 (fl 35 255) rfl rfl HT_.out ?_
           refine pX 9 25 (fl 35 767) rfl rfl HT_.out ?_
           refine tX8 8 24 (fl 35 1023) rfl rfl HT_.out HW_.out hHeld ?_
           refine tX8 10 26 (fl 35 2047) rfl rfl HT_.out HW_.out hHeld ?_
           refine pX 11 27 (fl 35 4095) rfl rfl HT_.out ?_
           refine pX 12 28 (fl 35 8191) rfl rfl HT_.out ?_
           refine pX 13 29 (fl 35 16383) rfl rfl HT_.out ?_
           refine pX 14 30 (fl 35 32767) rfl rfl HT_.out ?_
           refine pX 15 31 (fl 35 65535) rfl rfl HT_.out ?_
           refine pX 16 32 (fl 35 131071) rfl rfl HT_.out ?_
           refine pX 17 33 (fl 35 262143) rfl rfl HT_.out ?_
           refine pX 19 35 (fl 35 786431) rfl rfl HT_.out ?_
           refine tX8 18 34 (fl 35 1048575) rfl rfl HT_.out HW_.out hHeld ?_
           refine tX8 20 36 (fl 35 2097151) rfl rfl HT_.out HW_.out hHeld ?_
           refine pX 21 37 (fl 35 4194303) rfl rfl HT_.out ?_
           refine pX 22 38 (fl 35 8388607) rfl rfl HT_.out ?_
           refine pX 23 39 (fl 35 16777215) rfl rfl HT_.out ?_
           refine pX 24 40 (fl 35 33554431) rfl rfl HT_.out ?_
           refine pX 25 41 (fl 35 67108863) rfl rfl HT_.out ?_
           refine pX 26 42 (fl 35 134217727) rfl rfl HT_.out ?_
           refine pX 27 43 (fl 35 268435455) rfl rfl HT_.out ?_
           refine pX 29 45 (fl 35 805306367) rfl rfl HT_.out ?_
           refine tX8 28 44 (fl 35 1073741823) rfl rfl HT_.out HW_.out hHeld ?_
           refine tX8 30 46 (fl 35 2147483647) rfl rfl HT_.out HW_.out hHeld ?_
           refine pX 31 47 (fl 35 4294967295) rfl rfl HT_.out ?_
           refine pX 32 48 (fl 35 8589934591) rfl rfl HT_.out ?_
           refine pX 33 49 (fl 35 17179869183) rfl rfl HT_.out ?_
           refine pX 34 50 (fl 35 34359738367) rfl rfl HT_.out ?_
           refine done_ (done_of HT_.out (by kernel_rfl)) ?_
           try go_wp2
           go_ret
           exact ⟨_, by first | rfl | (simp [errW_none, errW_some] <;> rfl) | (simp only [← hji17]; first | rfl | (simp [errW_none, errW_some] <;> rfl)) | (simp [*, errW_none, errW_some] <;> rfl), by (with_reducible repeat (first|apply rA|apply rN|apply rD)); exact Kd.R_mono HO_5.out (fun _ hk => trivial), bX1 HB.out GE290.out⟩
         ·rw [if_neg c31] at H
          have c31b0 : (((rd_T38 x5_1 (ji17)).f1) == x291001_1) = false := beq_eq_false_iff_ne.mpr c31
          have c31b1 : (((rd_T38 x5_1 (ji17)).f1) != x291001_1) = true := bne_iff_ne.mpr c31
          obtain rfl := Option.some.inj H
          try go_wp2
          have n0_ := Aside0.mk (Kd.R_drew HO_5.out)
          have n1_ := Aside0.mk (blk_drew BK290.out)
          have n2_ := Aside0.mk (below_drew1 HB.out)
          clear HO_5
          clear BK290
          clear HB
          have HO_5 := n0_
          have BK290 := n1_
          have HB := n2_
          clear n0_ n1_ n2_
          have p303 : 0 ≤ ((ji17) : Int) := dX
          have q303 : (ji17) < (x5_1.length : Int) := dX
          obtain ⟨ad303, e303, hx303_0, hx303_1⟩ := at_T38 (Kd.R_reads' HO_5.out).2.2 (ji17) p303 q303
          cases e303
          replace p303 := eq_true p303
          replace q303 := eq_true q303
          have p307 : 0 ≤ ((ji17) : Int) := dX
          have q307 : (ji17) < (x5_1.length : Int) := dX
          obtain ⟨ad307, e307, hx307_0, hx307_1⟩ := at_T38 (Kd.R_reads' HO_5.out).2.2 (ji17) p307 q307
          obtain rfl : ad303 = ad307 := (by injection e307)
          replace p307 := eq_true p307
          replace q307 := eq_true q307
          refine start_ (n := 35) (S := fun w' => w'.cell? ⟨gb290, 0, none⟩ = some (.int .i64 x291000_1) ∧ w'.cell? ⟨gb290, 1, none⟩ = some (.int .i64 x291001_1) ∧ w'.cell? (ad303.add (((ji17)).toNat * 2)) = some (.int .i64 ((rd_T38 x5_1 (ji17)).f0)) ∧ w'.cell? ⟨(ad303.add (((ji17)).toNat * 2)).block, (ad303.add (((ji17)).toNat * 2)).off + 1, none⟩ = some (.int .i64 ((rd_T38 x5_1 (ji17)).f1)) ∧ w'.cell? (ad303.add (((ji17)).toNat * 2)) = some (.int .i64 ((rd_T38 x5_1 (ji17)).f0)) ∧ w'.cell? ⟨(ad303.add (((ji17)).toNat * 2)).block, (ad303.add (((ji17)).toNat * 2)).off + 1, none⟩ = some (.int .i64 ((rd_T38 x5_1 (ji17)).f1))) (ds := []) #[ff,ff,ff,ff,ff,ff,ff,ff,ff,ff,ff,ff,ff,ff,ff,ff,ff,ff,ff,ff,ff,ff,ff,ff,ff,ff,ff,ff,ff,ff,ff,ff,ff,ff,ff] (by kernel_rfl) rfl rfl ⟨(blk_cell BK290.out 0).trans rfl, (blk_cell BK290.out 1).trans rfl, hx303_0, hx303_1, hx307_0, hx307_1⟩ (fun hHeld => ?_); refine with_tabW spec_l15Insert.tab3 spec_l15Insert.bits3 (fun HT_ HW_ => ?_)
          generalize wr.drew = w44 at HO_5 BK290 HB hx303_0 hx303_1 hx307_0 hx307_1 hHeld ⊢
          refine pX 0 16 (fl 35 1) rfl rfl HT_.out ?_
          refine pX 1 17 (fl 35 3) rfl rfl HT_.out ?_
          refine pX 2 18 (fl 35 7) rfl rfl HT_.out ?_
          refine pX 3 19 (fl 35 15) rfl rfl HT_.out ?_
          refine pX 4 20 (fl 35 31) rfl rfl HT_.out ?_
          refine pX 5 21 (fl 35 63) rfl rfl HT_.out ?_
          refine pX 6 22 (fl 35 127) rfl rfl HT_.out ?_
          refine pX 7 23 (fl 35 255) rfl rfl HT_.out ?_
          refine pX 9 25 (fl 35 767) rfl rfl HT_.out ?_
          refine tX6 8 24 (fl 35 1023) rfl rfl HT_.out HW_.out hHeld ?_
          refine tX6 10 26 (fl 35 2047) rfl rfl HT_.out HW_.out hHeld ?_
          refine pX 11 27 (fl 35 4095) rfl rfl HT_.out ?_
          refine pX 12 28 (fl 35 8191) rfl rfl HT_.out ?_
          refine pX 13 29 (fl 35 16383) rfl rfl HT_.out ?_
          refine pX 14 30 (fl 35 32767) rfl rfl HT_.out ?_
          refine pX 15 31 (fl 35 65535) rfl rfl HT_.out ?_
          refine pX 16 32 (fl 35 131071) rfl rfl HT_.out ?_
          refine pX 17 33 (fl 35 262143) rfl rfl HT_.out ?_
          refine pX 19 35 (fl 35 786431) rfl rfl HT_.out ?_
          refine tX6 18 34 (fl 35 1048575) rfl rfl HT_.out HW_.out hHeld ?_
          refine tX6 20 36 (fl 35 2097151) rfl rfl HT_.out HW_.out hHeld ?_
          refine pX 21 37 (fl 35 4194303) rfl rfl HT_.out ?_
          refine pX 22 38 (fl 35 8388607) rfl rfl HT_.out ?_
          refine uX 23 39 (fl 35 16777215) rfl rfl HT_.out ?_
          refine uX 24 40 (fl 35 33554431) rfl rfl HT_.out ?_
          refine uX 25 41 (fl 35 67108863) rfl rfl HT_.out ?_
          refine uX 26 42 (fl 35 134217727) rfl rfl HT_.out ?_
          refine uX 27 43 (fl 35 268435455) rfl rfl HT_.out ?_
          refine uX 28 44 (fl 35 536870911) rfl rfl HT_.out ?_
          refine uX 29 45 (fl 35 1073741823) rfl rfl HT_.out ?_
          refine uX 30 46 (fl 35 2147483647) rfl rfl HT_.out ?_
          refine uX 31 47 (fl 35 4294967295) rfl rfl HT_.out ?_
          refine pX 32 48 (fl 35 8589934591) rfl rfl HT_.out ?_
          refine pX 33 49 (fl 35 17179869183) rfl rfl HT_.out ?_
          refine pX 34 50 (fl 35 34359738367) rfl rfl HT_.out ?_
          refine done_ (done_of HT_.out (by kernel_rfl)) ?_
          try go_wp2
          go_ret
          exact ⟨_, by first | rfl | (simp [errW_none, errW_some] <;> rfl) | (simp only [← hji17]; first | rfl | (simp [errW_none, errW_some] <;> rfl)) | (simp [*, errW_none, errW_some] <;> rfl), by (with_reducible repeat (first|apply rA|apply rN|apply rD)); exact Kd.R_mono HO_5.out (fun _ hk => trivial), bX1 HB.out GE290.out⟩
       ·rw [if_neg c19] at H
        exact absurd H (by simp)
      ·rw [if_neg c18] at H
       exact absurd H (by simp)
     ·rw [if_neg c16] at H
      have c16b0 : decide (0 < x6_1) = false := decide_eq_false c16
      clear c16
      obtain rfl := Option.some.inj H
      try go_wp2
      have n0_ := Aside0.mk (Kd.R_drew HO_5.out)
      have n1_ := Aside0.mk (blk_drew BK290.out)
      have n2_ := Aside0.mk (below_drew1 HB.out)
      clear HO_5
      clear BK290
      clear HB
      have HO_5 := n0_
      have BK290 := n1_
      have HB := n2_
      clear n0_ n1_ n2_
      refine start_ (n := 35) (S := fun w' => True) (ds := []) #[ff,ff,ff,ff,ff,ff,ff,ff,ff,ff,ff,ff,ff,ff,ff,ff,ff,ff,ff,ff,ff,ff,ff,ff,ff,ff,ff,ff,ff,ff,ff,ff,ff,ff,ff] (by kernel_rfl) rfl rfl trivial (fun hHeld => ?_); refine with_tabW spec_l15Insert.tab3 spec_l15Insert.bits3 (fun HT_ HW_ => ?_)
      generalize wr.drew = w45 at HO_5 BK290 HB hHeld ⊢
      refine pX 0 16 (fl 35 1) rfl rfl HT_.out ?_
      refine pX 1 17 (fl 35 3) rfl rfl HT_.out ?_
      refine pX 2 18 (fl 35 7) rfl rfl HT_.out ?_
      refine uX 3 19 (fl 35 15) rfl rfl HT_.out ?_
      refine uX 4 20 (fl 35 31) rfl rfl HT_.out ?_
      refine uX 5 21 (fl 35 63) rfl rfl HT_.out ?_
      refine uX 6 22 (fl 35 127) rfl rfl HT_.out ?_
      refine uX 7 23 (fl 35 255) rfl rfl HT_.out ?_
      refine uX 8 24 (fl 35 511) rfl rfl HT_.out ?_
      refine uX 9 25 (fl 35 1023) rfl rfl HT_.out ?_
      refine uX 10 26 (fl 35 2047) rfl rfl HT_.out ?_
      refine uX 11 27 (fl 35 4095) rfl rfl HT_.out ?_
      refine uX 12 28 (fl 35 8191) rfl rfl HT_.out ?_
      refine uX 13 29 (fl 35 16383) rfl rfl HT_.out ?_
      refine uX 14 30 (fl 35 32767) rfl rfl HT_.out ?_
      refine uX 15 31 (fl 35 65535) rfl rfl HT_.out ?_
      refine uX 16 32 (fl 35 131071) rfl rfl HT_.out ?_
      refine uX 17 33 (fl 35 262143) rfl rfl HT_.out ?_
      refine uX 18 34 (fl 35 524287) rfl rfl HT_.out ?_
      refine uX 19 35 (fl 35 1048575) rfl rfl HT_.out ?_
      refine uX 20 36 (fl 35 2097151) rfl rfl HT_.out ?_
      refine uX 21 37 (fl 35 4194303) rfl rfl HT_.out ?_
      refine uX 22 38 (fl 35 8388607) rfl rfl HT_.out ?_
      refine uX 23 39 (fl 35 16777215) rfl rfl HT_.out ?_
      refine uX 24 40 (fl 35 33554431) rfl rfl HT_.out ?_
      refine uX 25 41 (fl 35 67108863) rfl rfl HT_.out ?_
      refine uX 26 42 (fl 35 134217727) rfl rfl HT_.out ?_
      refine uX 27 43 (fl 35 268435455) rfl rfl HT_.out ?_
      refine uX 28 44 (fl 35 536870911) rfl rfl HT_.out ?_
      refine uX 29 45 (fl 35 1073741823) rfl rfl HT_.out ?_
      refine uX 30 46 (fl 35 2147483647) rfl rfl HT_.out ?_
      refine uX 31 47 (fl 35 4294967295) rfl rfl HT_.out ?_
      refine uX 32 48 (fl 35 8589934591) rfl rfl HT_.out ?_
      refine uX 33 49 (fl 35 17179869183) rfl rfl HT_.out ?_
      refine pX 34 50 (fl 35 34359738367) rfl rfl HT_.out ?_
      refine done_ (done_of HT_.out (by kernel_rfl)) ?_
      try go_wp2
      go_ret
      exact ⟨_, eX, by (with_reducible repeat (first|apply rA|apply rN|apply rD)); exact Kd.R_mono HO_5.out (fun _ hk => trivial), bX1 HB.out GE290.out⟩
  ·rw [if_neg c4] at H
   exact absurd H (by simp)
 ·rw [if_neg c3] at H
  exact absurd H (by simp)

end Go.Proofs.YtfomhkfgdggngaaGreatDoor.S
