-- PRINTED by print.py (a twelfth state) out of the translation. Not trusted: Lean checks it.
import Derived.Test.YthhdgeafdnikcaaGreatDoorS0
import Derived.Test.YthhdgeafdnikcaaGreatDoorS6
import Derived.Test.YthhdgeafdnikcaaGreatDoorS7
namespace Go.Proofs.YthhdgeafdnikcaaGreatDoor.S
open Go.RowKit Go.Proofs.YthhdgeafdnikcaaGreatDoorW.PrintWords Go.Proofs.YthhdgeafdnikcaaGreatDoorW.PrintLast Go.Proofs.YthhdgeafdnikcaaGreatDoorW.PrintMore
attribute [local go_sem] max2_int min2_int max_two min_two max_three min_three max_four min_four   -- for this text's walks alone
set_option linter.unusedVariables false
set_option linter.unusedSimpArgs false

/-! ### spec_l03Canon: function 96 -/
def spec_l03Canon.l0 : Nat → Int → List Int → List Int → List Int → List Int → Option (List Int × List Int)
 | 0, _, _, _, _, _ => none
 | k + 1, x4, x538000, x538001, x549000, x549001 => if x4 < (x538000.length : Int) then ((spec_l03Names.f k x538000 x538001 x4).bind fun t549 => ((spec_l03Rename.f k x538000 x538001 t549).bind fun bt552 => ((spec_l03Before.f k bt552.1 bt552.2 x549000 x549001).bind fun t559 => (if t559 = true then (spec_l03Canon.l0 k (wrap64 (x4 + 1)) x538000 x538001 bt552.1 bt552.2) else (spec_l03Canon.l0 k (wrap64 (x4 + 1)) x538000 x538001 x549000 x549001))))) else (some (x549000, x549001))
def spec_l03Canon.f (k : Nat) (l0_0 : List Int) (l0_1 : List Int) : Option (List Int × List Int) := (spec_l03Names.f k l0_0 l0_1 0).bind fun t539 => ((spec_l03Rename.f k l0_0 l0_1 t539).bind fun bt542 => (spec_l03Canon.l0 k 1 l0_0 l0_1 bt542.1 bt542.2))
set_option maxHeartbeats 8000000 in
set_option maxRecDepth 100000 in
theorem spec_l03Canon.calls (k : Nat) (A0_0 : Option Addr) (c0_0 : Nat) (l0_0 : List Int) (A0_1 : Option Addr) (c0_1 : Nat) (l0_1 : List Int) (r1 : List Int) (r2 : List Int) (w : World) (hr0_0 : Kd.C (Kd.int .i64) w A0_0 l0_0.length l0_0) (hc0_0 : l0_0.length ≤ c0_0) (hr0_1 : Kd.C (Kd.int .i64) w A0_1 l0_1.length l0_1) (hc0_1 : l0_1.length ≤ c0_1) (h : spec_l03Canon.f k l0_0 l0_1 = some (r1, r2)) :
  Calls Tryz.prog 96 #[.agg #[.slice A0_0 l0_0.length c0_0, .slice A0_1 l0_1.length c0_1]] w fun e w' => ∃ v0_ v1_ : Value, e = .returned (.agg #[v0_, v1_]) ∧ Kd.R (Kd.int .i64) 3 w' w.heap.size (fun k_ => some k_ ≠ (v1_ : Value).ownBlock) v0_ r1 ∧ Kd.R (Kd.int .i64) 3 w' w.heap.size (fun k_ => some k_ ≠ (v0_ : Value).ownBlock) v1_ r2 ∧ Below w.heap.size w w' := by
 have hu25 := Tryz.underlying25
 have HR0_0 := Aside0.mk hr0_0
 have HC0_0 := Aside0.mk hc0_0
 clear hr0_0 hc0_0
 have HR0_1 := Aside0.mk hr0_1
 have HC0_1 := Aside0.mk hc0_1
 clear hr0_1 hc0_1
 have HB := Aside0.mk (Below.refl w.heap.size w)
 have H : ((spec_l03Names.f k l0_0 l0_1 0).bind fun t539 => ((spec_l03Rename.f k l0_0 l0_1 t539).bind fun bt542 => (spec_l03Canon.l0 k 1 l0_0 l0_1 bt542.1 bt542.2))) = some (r1, r2) := h
 clear h
 replace H := Option.bind_eq_some_iff.mp H
 obtain ⟨t539, A20, H⟩ := H
 replace H : ((spec_l03Rename.f k l0_0 l0_1 t539).bind fun bt542 => (spec_l03Canon.l0 k 1 l0_0 l0_1 bt542.1 bt542.2)) = some (r1, r2) := H
 have A2 := Aside0.mk A20
 clear A20
 replace H := Option.bind_eq_some_iff.mp H
 obtain ⟨⟨t542, t545⟩, A30, H⟩ := H
 replace H : (spec_l03Canon.l0 k 1 l0_0 l0_1 t542 t545) = some (r1, r2) := H
 have A3 := Aside0.mk A30
 clear A30
 have H' := Aside0.mk H
 clear H
 go_enter Tryz.func96, Tryz.ntmps96
 try go_wp2_with (first | ((with_reducible refine gate_dst (N := 1) rfl ?_); refine box_event ?hg (N := 1) ?hd (cs := #[.slice A0_0 l0_0.length c0_0, .slice A0_1 l0_1.length c0_1]) (t := 25) ?hr ?_; (case hd => rfl); (case hg => rfl); (case hr => first | (go_simp; done) | (go_simp; rfl)); intro gb537 hg w4 hbox hb; have n0_ := Aside0.mk (below_step (bX HB.out) hb); have n1_ := Aside0.mk (hbox); have n2_ := Aside0.mk ((szX (below_size (bX HB.out)) hg : w.heap.size ≤ gb537)); have n3_ := Aside0.mk ((szX (below_size (bX HB.out)) hg : w.heap.size ≤ gb537)); clear HB; have HB := n0_; have BK537 := n1_; have GW537 := n2_; have GE537 := n3_; clear n0_ n1_ n2_ n3_ hb hbox hg) | ((with_reducible refine gate_dst (N := 2) rfl ?_); refine box_event ?hg (N := 2) ?hd (cs := #[.slice none 0 0, .slice none 0 0]) (t := 25) ?hr ?_; (case hd => rfl); (case hg => rfl); (case hr => first | (go_simp; done) | (go_simp; rfl)); intro gb538 hg w5 hbox hb; have n0_ := Aside0.mk (bbX BK537.out hb); have n1_ := Aside0.mk (below_step (bX1 HB.out GE537.out) hb); have n2_ := Aside0.mk (hbox); have n3_ := Aside0.mk ((szX (below_size (bX1 HB.out GE537.out)) hg : w.heap.size ≤ gb538)); have n4_ := Aside0.mk ((szX (below_size (bX1 HB.out GE537.out)) hg : w.heap.size ≤ gb538)); have n5_ := Aside0.mk (neX BK537.out hg); have n6_ := Aside0.mk (nfX BK537.out hg); clear BK537 HB; have BK537 := n0_; have HB := n1_; have BK538 := n2_; have GW538 := n3_; have GE538 := n4_; have NB537_538 := n5_; have NB538_537 := n6_; clear n0_ n1_ n2_ n3_ n4_ n5_ n6_ hb hbox hg))
 have n0_ := Aside0.mk (blk_drew BK537.out)
 have n1_ := Aside0.mk (blk_drew BK538.out)
 have n2_ := Aside0.mk (below_drew1 HB.out)
 clear BK537 BK538 HB
 have BK537 := n0_
 have BK538 := n1_
 have HB := n2_
 clear n0_ n1_ n2_
 refine start_ (n := 6) (S := fun w' => w'.cell? ⟨gb537, 0, none⟩ = some (.slice A0_0 l0_0.length c0_0) ∧ w'.cell? ⟨gb537, 1, none⟩ = some (.slice A0_1 l0_1.length c0_1)) (ds := []) #[false, false, false, false, false, false] (by kernel_rfl) rfl rfl ⟨cz20 BK537.out, cz21 BK537.out⟩ (fun hHeld => ?_)
 generalize w5.drew = w6 at BK537 BK538 HB hHeld ⊢
 refine take_ (i := 0) (N := some 6) (v := ?_) (a' := ?_) #[true, false, false, false, false, false] rfl rfl (by kernel_rfl) (fun _ _ _ h => h) (Or.inl ⟨by rfl, ?_⟩) hHeld ?_ ?_
 rotate_left
 {
 rintro w' ⟨s0, s1⟩
 go_simp
 with_reducible rfl
 }
 rotate_left
 {
 simp only [Act.put, zA, zB, zC, i64_w, i32_w]
 rfl
 }
 refine take_ (i := 1) (N := some 7) (v := ?_) (a' := ?_) #[true, true, false, false, false, false] rfl rfl (by kernel_rfl) (fun _ _ _ h => h) (Or.inl ⟨by rfl, ?_⟩) hHeld ?_ ?_
 rotate_left
 {
 rintro w' ⟨s0, s1⟩
 go_simp
 with_reducible rfl
 }
 rotate_left
 {
 simp only [Act.put, zA, zB, zC, i64_w, i32_w]
 rfl
 }
 refine join_ (σ := Value × Value × Value × Nat) 1 #[true, true, true, true, true, false] (fun s_ => [(8, s_.1), (9, .agg #[s_.2.1, s_.2.2.1]), (3, .pointer (some ⟨s_.2.2.2, 0, none⟩))]) (fun s_ w' => (w'.cell? ⟨gb537, 0, none⟩ = some (.slice A0_0 l0_0.length c0_0) ∧ w'.cell? ⟨gb537, 1, none⟩ = some (.slice A0_1 l0_1.length c0_1)) ∧ (Kd.R (Kd.int .i64) 3 w' w.heap.size (fun k_ => some k_ ≠ (s_.2.1 : Value).ownBlock ∧ some k_ ≠ (s_.2.2.1 : Value).ownBlock) s_.1 t539) ∧ (Kd.R (Kd.int .i64) 3 w' w.heap.size (fun k_ => some k_ ≠ (s_.1 : Value).ownBlock ∧ some k_ ≠ (s_.2.2.1 : Value).ownBlock) s_.2.1 t542) ∧ (Kd.R (Kd.int .i64) 3 w' w.heap.size (fun k_ => some k_ ≠ (s_.1 : Value).ownBlock ∧ some k_ ≠ (s_.2.1 : Value).ownBlock) s_.2.2.1 t545) ∧ (w'.heap[gb537]? = some (.cells #[.slice A0_0 l0_0.length c0_0, .slice A0_1 l0_1.length c0_1] 25 (0, 0))) ∧ (w'.heap[gb538]? = some (.cells #[.slice none 0 0, .slice none 0 0] 25 (0, 0))) ∧ (w'.heap[s_.2.2.2]? = some (.cells #[.slice none 0 0, .slice none 0 0] 25 (0, 0))) ∧ (w.heap.size ≤ s_.2.2.2) ∧ (w.heap.size ≤ s_.2.2.2) ∧ (gb537 ≠ s_.2.2.2) ∧ (s_.2.2.2 ≠ gb537) ∧ (gb538 ≠ s_.2.2.2) ∧ (s_.2.2.2 ≠ gb538) ∧ (Below w.heap.size w w')) ?_ ?_
 rotate_left
 {
 intro hCont
 refine two_ (i := 2) (j := 4) (Ni := some 8) (Nj := some 3) #[true, true, true, false, false, false] #[true, true, false, false, true, false] rfl rfl rfl rfl (by kernel_rfl) (by decide) (by decide) (fun K hK => ?_) (fun K hK => ?_)
 {
 skip
 refine goes_ Tryz.func99 (by kernel_rfl) rfl #[.agg #[.slice A0_0 l0_0.length c0_0, .slice A0_1 l0_1.length c0_1], .int .i64 0] (by rfl) rfl rfl aX ?_
 with_reducible refine (spec_l03Names.calls k _ _ l0_0 _ _ l0_1 0 t539 _ ?side1 ?side2 ?side3 ?side4 A2.out).mono ?_
 (case side1 => exact cX (Kd.C_below HR0_0.out HB.out))
 (case side2 => exact HC0_0.out)
 (case side3 => exact cX (Kd.C_below HR0_1.out HB.out))
 (case side4 => exact HC0_1.out)
 rintro e w7 ⟨v540, rfl, ho0, hb⟩
 refine ⟨_, rfl, ?_⟩
 have n0_ := Aside0.mk (Kd.R_lower ho0 (below_size (bX2 HB.out GE537.out GE538.out)))
 have n1_ := Aside0.mk (bbX BK537.out hb)
 have n2_ := Aside0.mk (bbX BK538.out hb)
 have n3_ := Aside0.mk (below_step (bX2 HB.out GE537.out GE538.out) hb)
 clear BK537 BK538 HB
 have HO541 := n0_
 have BK537 := n1_
 have BK538 := n2_
 have HB := n3_
 clear n0_ n1_ n2_ n3_
 (try clear hb)
 (try clear hb2)
 (try clear hk)
 (try clear hi)
 (try clear ho0)
 obtain ⟨Ao8, co8, eo8⟩ := Kd.R_slice HO541.out
 (first | subst eo8 | (injection eo8 with f1_ f2_ f3_; have f4_ := f1_.symm; have f5_ := f3_.symm; clear f1_ f2_ f3_; subst f4_; subst f5_))
 refine hK.out _ _ ⟨cz20 BK537.out, cz21 BK537.out⟩ (fun hHeld => ?_)
 clear hK K
 refine norm_ (a' := ?_) ?_ ?_
 rotate_left
 {
 show Act.put _ (some 8) _ = _
 simp only [Act.put, zA, zB, zC, i64_w, i32_w]
 rfl
 }
 refine two_ (i := 3) (j := 4) (Ni := some 9) (Nj := some 3) #[true, true, true, true, false, false] #[true, true, true, false, true, false] rfl rfl rfl rfl (by kernel_rfl) (by decide) (by decide) (fun K hK => ?_) (fun K hK => ?_)
 {
 skip
 refine goes_ Tryz.func98 (by kernel_rfl) rfl #[.agg #[.slice A0_0 l0_0.length c0_0, .slice A0_1 l0_1.length c0_1], .slice Ao8 t539.length co8] (by rfl) rfl rfl aX ?_
 with_reducible refine (spec_l03Rename.calls k _ _ l0_0 _ _ l0_1 _ _ t539 t542 t545 _ ?side1 ?side2 ?side3 ?side4 ?side5 ?side6 A3.out).mono ?_
 (case side1 => exact cX (Kd.C_below HR0_0.out HB.out))
 (case side2 => exact HC0_0.out)
 (case side3 => exact cX (Kd.C_below HR0_1.out HB.out))
 (case side4 => exact HC0_1.out)
 (case side5 => exact cX (Kd.R_reads' HO541.out).2.2)
 (case side6 => exact (Kd.R_reads' HO541.out).2.1)
 rintro e w9 ⟨v543, v546, rfl, ho0, ho1, hb⟩
 refine ⟨_, rfl, ?_⟩
 have n0_ := Aside0.mk (Kd.R_mono (Kd.R_told (Kd.R_told (Kd.R_old (rX HO541.out) hb) (Kd.R_base ho0)) (Kd.R_base ho1)) (fun _ h_ => h_.1))
 have n1_ := Aside0.mk (Kd.R_lower (Kd.R_new' ho0 (Kd.R_lt (rX HO541.out))) (below_size (bX2 HB.out GE537.out GE538.out)))
 have n2_ := Aside0.mk (Kd.R_lower (Kd.R_new' ho1 (Kd.R_lt (rX HO541.out))) (below_size (bX2 HB.out GE537.out GE538.out)))
 have n3_ := Aside0.mk (bbX BK537.out hb)
 have n4_ := Aside0.mk (bbX BK538.out hb)
 have n5_ := Aside0.mk (below_step (bX2 HB.out GE537.out GE538.out) hb)
 clear HO541 BK537 BK538 HB
 have HO541 := n0_
 have HO544 := n1_
 have HO547 := n2_
 have BK537 := n3_
 have BK538 := n4_
 have HB := n5_
 clear n0_ n1_ n2_ n3_ n4_ n5_
 (try clear hb)
 (try clear hb2)
 (try clear hk)
 (try clear hi)
 (try clear ho0)
 (try clear ho1)
 refine hK.out _ _ ⟨cz20 BK537.out, cz21 BK537.out⟩ (fun hHeld => ?_)
 clear hK K
 refine norm_ (a' := ?_) ?_ ?_
 rotate_left
 {
 show Act.put _ (some 9) _ = _
 simp only [Act.put, zA, zB, zC, i64_w, i32_w]
 rfl
 }
 refine one_ (i := 4) (N := some 3) #[true, true, true, true, true, false] rfl rfl (by kernel_rfl) (by decide) (fun K hK => ?_)
 refine box_step ?hg (N := 3) ?hd (cs := #[.slice none 0 0, .slice none 0 0]) (t := 25) ?hr ?_; (case hd => rfl); (case hg => rfl); (case hr => first | (go_simp; done) | (go_simp; rfl))
 intro gb548 hg w10 hbox hb
 have n0_ := Aside0.mk (Kd.R_below (rX HO541.out) hb)
 have n1_ := Aside0.mk (Kd.R_below (rX HO544.out) hb)
 have n2_ := Aside0.mk (Kd.R_below (rX HO547.out) hb)
 have n3_ := Aside0.mk (bbX BK537.out hb)
 have n4_ := Aside0.mk (bbX BK538.out hb)
 have n5_ := Aside0.mk (below_step (bX2 HB.out GE537.out GE538.out) hb)
 have n6_ := Aside0.mk (hbox)
 have n7_ := Aside0.mk ((szX (below_size (bX2 HB.out GE537.out GE538.out)) hg : w.heap.size ≤ gb548))
 have n8_ := Aside0.mk ((szX (below_size (bX2 HB.out GE537.out GE538.out)) hg : w.heap.size ≤ gb548))
 have n9_ := Aside0.mk (neX BK537.out hg)
 have n10_ := Aside0.mk (nfX BK537.out hg)
 have n11_ := Aside0.mk (neX BK538.out hg)
 have n12_ := Aside0.mk (nfX BK538.out hg)
 clear HO541 HO544 HO547 BK537 BK538 HB
 have HO541 := n0_
 have HO544 := n1_
 have HO547 := n2_
 have BK537 := n3_
 have BK538 := n4_
 have HB := n5_
 have BK548 := n6_
 have GW548 := n7_
 have GE548 := n8_
 have NB537_548 := n9_
 have NB548_537 := n10_
 have NB538_548 := n11_
 have NB548_538 := n12_
 clear n0_ n1_ n2_ n3_ n4_ n5_ n6_ n7_ n8_ n9_ n10_ n11_ n12_ hb hbox hg
 refine hK.out _ _ ⟨cz20 BK537.out, cz21 BK537.out⟩ (fun hHeld => ?_)
 clear hK K
 refine norm_ (a' := ?_) ?_ ?_
 rotate_left
 {
 show Act.put _ (some 3) _ = _
 simp only [Act.put, zA, zB, zC, i64_w, i32_w]
 rfl
 }
 exact norm_ (by simp only [putAll, Act.put, List.setIfInBounds_toArray, List.set_cons_zero, List.set_cons_succ]) (hCont (.slice Ao8 t539.length co8, v543, v546, gb548) _ ⟨hHeld, (rM HO541.out (fun _ hk => ⟨hk.1.2, hk.2⟩)), (rM HO544.out (fun _ hk => ⟨hk.2, hk.1⟩)), (rM HO547.out (fun _ hk => ⟨hk.2, hk.1⟩)), (kX BK537.out), (kX BK538.out), (kX BK548.out), GW548.out, GE548.out, NB537_548.out, NB548_537.out, NB538_548.out, NB548_538.out, (bX3 HB.out GE537.out GE538.out GE548.out)⟩)
 }
 {
 skip
 refine box_step ?hg (N := 3) ?hd (cs := #[.slice none 0 0, .slice none 0 0]) (t := 25) ?hr ?_; (case hd => rfl); (case hg => rfl); (case hr => first | (go_simp; done) | (go_simp; rfl))
 intro gb548 hg w8 hbox hb
 have n0_ := Aside0.mk (Kd.R_below (rX HO541.out) hb)
 have n1_ := Aside0.mk (bbX BK537.out hb)
 have n2_ := Aside0.mk (bbX BK538.out hb)
 have n3_ := Aside0.mk (below_step (bX2 HB.out GE537.out GE538.out) hb)
 have n4_ := Aside0.mk (hbox)
 have n5_ := Aside0.mk ((szX (below_size (bX2 HB.out GE537.out GE538.out)) hg : w.heap.size ≤ gb548))
 have n6_ := Aside0.mk ((szX (below_size (bX2 HB.out GE537.out GE538.out)) hg : w.heap.size ≤ gb548))
 have n7_ := Aside0.mk (neX BK537.out hg)
 have n8_ := Aside0.mk (nfX BK537.out hg)
 have n9_ := Aside0.mk (neX BK538.out hg)
 have n10_ := Aside0.mk (nfX BK538.out hg)
 clear HO541 BK537 BK538 HB
 have HO541 := n0_
 have BK537 := n1_
 have BK538 := n2_
 have HB := n3_
 have BK548 := n4_
 have GW548 := n5_
 have GE548 := n6_
 have NB537_548 := n7_
 have NB548_537 := n8_
 have NB538_548 := n9_
 have NB548_538 := n10_
 clear n0_ n1_ n2_ n3_ n4_ n5_ n6_ n7_ n8_ n9_ n10_ hb hbox hg
 obtain ⟨Ao9, co9, eo9⟩ := Kd.R_slice HO541.out
 (first | subst eo9 | (injection eo9 with f1_ f2_ f3_; have f4_ := f1_.symm; have f5_ := f3_.symm; clear f1_ f2_ f3_; subst f4_; subst f5_))
 refine hK.out _ _ ⟨cz20 BK537.out, cz21 BK537.out⟩ (fun hHeld => ?_)
 clear hK K
 refine norm_ (a' := ?_) ?_ ?_
 rotate_left
 {
 show Act.put _ (some 3) _ = _
 simp only [Act.put, zA, zB, zC, i64_w, i32_w]
 rfl
 }
 refine one_ (i := 3) (N := some 9) #[true, true, true, true, true, false] rfl rfl (by kernel_rfl) (by decide) (fun K hK => ?_)
 refine goes_ Tryz.func98 (by kernel_rfl) rfl #[.agg #[.slice A0_0 l0_0.length c0_0, .slice A0_1 l0_1.length c0_1], .slice Ao9 t539.length co9] (by rfl) rfl rfl aX ?_
 with_reducible refine (spec_l03Rename.calls k _ _ l0_0 _ _ l0_1 _ _ t539 t542 t545 _ ?side1 ?side2 ?side3 ?side4 ?side5 ?side6 A3.out).mono ?_
 (case side1 => exact cX (Kd.C_below HR0_0.out HB.out))
 (case side2 => exact HC0_0.out)
 (case side3 => exact cX (Kd.C_below HR0_1.out HB.out))
 (case side4 => exact HC0_1.out)
 (case side5 => exact cX (Kd.R_reads' HO541.out).2.2)
 (case side6 => exact (Kd.R_reads' HO541.out).2.1)
 rintro e w10 ⟨v543, v546, rfl, ho0, ho1, hb⟩
 refine ⟨_, rfl, ?_⟩
 have n0_ := Aside0.mk (Kd.R_mono (Kd.R_told (Kd.R_told (Kd.R_old (rX HO541.out) hb) (Kd.R_base ho0)) (Kd.R_base ho1)) (fun _ h_ => h_.1))
 have n1_ := Aside0.mk (Kd.R_lower (Kd.R_new' ho0 (Kd.R_lt (rX HO541.out))) (below_size (bX3 HB.out GE537.out GE538.out GE548.out)))
 have n2_ := Aside0.mk (Kd.R_lower (Kd.R_new' ho1 (Kd.R_lt (rX HO541.out))) (below_size (bX3 HB.out GE537.out GE538.out GE548.out)))
 have n3_ := Aside0.mk (bbX BK537.out hb)
 have n4_ := Aside0.mk (bbX BK538.out hb)
 have n5_ := Aside0.mk (bbX BK548.out hb)
 have n6_ := Aside0.mk (below_step (bX3 HB.out GE537.out GE538.out GE548.out) hb)
 clear HO541 BK537 BK538 BK548 HB
 have HO541 := n0_
 have HO544 := n1_
 have HO547 := n2_
 have BK537 := n3_
 have BK538 := n4_
 have BK548 := n5_
 have HB := n6_
 clear n0_ n1_ n2_ n3_ n4_ n5_ n6_
 (try clear hb)
 (try clear hb2)
 (try clear hk)
 (try clear hi)
 (try clear ho0)
 (try clear ho1)
 refine hK.out _ _ ⟨cz20 BK537.out, cz21 BK537.out⟩ (fun hHeld => ?_)
 clear hK K
 refine norm_ (a' := ?_) ?_ ?_
 rotate_left
 {
 show Act.put _ (some 9) _ = _
 simp only [Act.put, zA, zB, zC, i64_w, i32_w]
 rfl
 }
 exact norm_ (by simp only [putAll, Act.put, List.setIfInBounds_toArray, List.set_cons_zero, List.set_cons_succ]) (hCont (.slice Ao9 t539.length co9, v543, v546, gb548) _ ⟨hHeld, (rM HO541.out (fun _ hk => ⟨hk.1.2, hk.2⟩)), (rM HO544.out (fun _ hk => ⟨hk.2, hk.1⟩)), (rM HO547.out (fun _ hk => ⟨hk.2, hk.1⟩)), (kX BK537.out), (kX BK538.out), (kX BK548.out), GW548.out, GE548.out, NB537_548.out, NB548_537.out, NB538_548.out, NB548_538.out, (bX3 HB.out GE537.out GE538.out GE548.out)⟩)
 }
 }
 {
 skip
 refine box_step ?hg (N := 3) ?hd (cs := #[.slice none 0 0, .slice none 0 0]) (t := 25) ?hr ?_; (case hd => rfl); (case hg => rfl); (case hr => first | (go_simp; done) | (go_simp; rfl))
 intro gb548 hg w7 hbox hb
 have n0_ := Aside0.mk (bbX BK537.out hb)
 have n1_ := Aside0.mk (bbX BK538.out hb)
 have n2_ := Aside0.mk (below_step (bX2 HB.out GE537.out GE538.out) hb)
 have n3_ := Aside0.mk (hbox)
 have n4_ := Aside0.mk ((szX (below_size (bX2 HB.out GE537.out GE538.out)) hg : w.heap.size ≤ gb548))
 have n5_ := Aside0.mk ((szX (below_size (bX2 HB.out GE537.out GE538.out)) hg : w.heap.size ≤ gb548))
 have n6_ := Aside0.mk (neX BK537.out hg)
 have n7_ := Aside0.mk (nfX BK537.out hg)
 have n8_ := Aside0.mk (neX BK538.out hg)
 have n9_ := Aside0.mk (nfX BK538.out hg)
 clear BK537 BK538 HB
 have BK537 := n0_
 have BK538 := n1_
 have HB := n2_
 have BK548 := n3_
 have GW548 := n4_
 have GE548 := n5_
 have NB537_548 := n6_
 have NB548_537 := n7_
 have NB538_548 := n8_
 have NB548_538 := n9_
 clear n0_ n1_ n2_ n3_ n4_ n5_ n6_ n7_ n8_ n9_ hb hbox hg
 refine hK.out _ _ ⟨cz20 BK537.out, cz21 BK537.out⟩ (fun hHeld => ?_)
 clear hK K
 refine norm_ (a' := ?_) ?_ ?_
 rotate_left
 {
 show Act.put _ (some 3) _ = _
 simp only [Act.put, zA, zB, zC, i64_w, i32_w]
 rfl
 }
 refine one_ (i := 2) (N := some 8) #[true, true, true, false, true, false] rfl rfl (by kernel_rfl) (by decide) (fun K hK => ?_)
 refine goes_ Tryz.func99 (by kernel_rfl) rfl #[.agg #[.slice A0_0 l0_0.length c0_0, .slice A0_1 l0_1.length c0_1], .int .i64 0] (by rfl) rfl rfl aX ?_
 with_reducible refine (spec_l03Names.calls k _ _ l0_0 _ _ l0_1 0 t539 _ ?side1 ?side2 ?side3 ?side4 A2.out).mono ?_
 (case side1 => exact cX (Kd.C_below HR0_0.out HB.out))
 (case side2 => exact HC0_0.out)
 (case side3 => exact cX (Kd.C_below HR0_1.out HB.out))
 (case side4 => exact HC0_1.out)
 rintro e w8 ⟨v540, rfl, ho0, hb⟩
 refine ⟨_, rfl, ?_⟩
 have n0_ := Aside0.mk (Kd.R_lower ho0 (below_size (bX3 HB.out GE537.out GE538.out GE548.out)))
 have n1_ := Aside0.mk (bbX BK537.out hb)
 have n2_ := Aside0.mk (bbX BK538.out hb)
 have n3_ := Aside0.mk (bbX BK548.out hb)
 have n4_ := Aside0.mk (below_step (bX3 HB.out GE537.out GE538.out GE548.out) hb)
 clear BK537 BK538 BK548 HB
 have HO541 := n0_
 have BK537 := n1_
 have BK538 := n2_
 have BK548 := n3_
 have HB := n4_
 clear n0_ n1_ n2_ n3_ n4_
 (try clear hb)
 (try clear hb2)
 (try clear hk)
 (try clear hi)
 (try clear ho0)
 obtain ⟨Ao9, co9, eo9⟩ := Kd.R_slice HO541.out
 (first | subst eo9 | (injection eo9 with f1_ f2_ f3_; have f4_ := f1_.symm; have f5_ := f3_.symm; clear f1_ f2_ f3_; subst f4_; subst f5_))
 refine hK.out _ _ ⟨cz20 BK537.out, cz21 BK537.out⟩ (fun hHeld => ?_)
 clear hK K
 refine norm_ (a' := ?_) ?_ ?_
 rotate_left
 {
 show Act.put _ (some 8) _ = _
 simp only [Act.put, zA, zB, zC, i64_w, i32_w]
 rfl
 }
 refine one_ (i := 3) (N := some 9) #[true, true, true, true, true, false] rfl rfl (by kernel_rfl) (by decide) (fun K hK => ?_)
 refine goes_ Tryz.func98 (by kernel_rfl) rfl #[.agg #[.slice A0_0 l0_0.length c0_0, .slice A0_1 l0_1.length c0_1], .slice Ao9 t539.length co9] (by rfl) rfl rfl aX ?_
 with_reducible refine (spec_l03Rename.calls k _ _ l0_0 _ _ l0_1 _ _ t539 t542 t545 _ ?side1 ?side2 ?side3 ?side4 ?side5 ?side6 A3.out).mono ?_
 (case side1 => exact cX (Kd.C_below HR0_0.out HB.out))
 (case side2 => exact HC0_0.out)
 (case side3 => exact cX (Kd.C_below HR0_1.out HB.out))
 (case side4 => exact HC0_1.out)
 (case side5 => exact cX (Kd.R_reads' HO541.out).2.2)
 (case side6 => exact (Kd.R_reads' HO541.out).2.1)
 rintro e w10 ⟨v543, v546, rfl, ho0, ho1, hb⟩
 refine ⟨_, rfl, ?_⟩
 have n0_ := Aside0.mk (Kd.R_mono (Kd.R_told (Kd.R_told (Kd.R_old (rX HO541.out) hb) (Kd.R_base ho0)) (Kd.R_base ho1)) (fun _ h_ => h_.1))
 have n1_ := Aside0.mk (Kd.R_lower (Kd.R_new' ho0 (Kd.R_lt (rX HO541.out))) (below_size (bX3 HB.out GE537.out GE538.out GE548.out)))
 have n2_ := Aside0.mk (Kd.R_lower (Kd.R_new' ho1 (Kd.R_lt (rX HO541.out))) (below_size (bX3 HB.out GE537.out GE538.out GE548.out)))
 have n3_ := Aside0.mk (bbX BK537.out hb)
 have n4_ := Aside0.mk (bbX BK538.out hb)
 have n5_ := Aside0.mk (bbX BK548.out hb)
 have n6_ := Aside0.mk (below_step (bX3 HB.out GE537.out GE538.out GE548.out) hb)
 clear HO541 BK537 BK538 BK548 HB
 have HO541 := n0_
 have HO544 := n1_
 have HO547 := n2_
 have BK537 := n3_
 have BK538 := n4_
 have BK548 := n5_
 have HB := n6_
 clear n0_ n1_ n2_ n3_ n4_ n5_ n6_
 (try clear hb)
 (try clear hb2)
 (try clear hk)
 (try clear hi)
 (try clear ho0)
 (try clear ho1)
 refine hK.out _ _ ⟨cz20 BK537.out, cz21 BK537.out⟩ (fun hHeld => ?_)
 clear hK K
 refine norm_ (a' := ?_) ?_ ?_
 rotate_left
 {
 show Act.put _ (some 9) _ = _
 simp only [Act.put, zA, zB, zC, i64_w, i32_w]
 rfl
 }
 exact norm_ (by simp only [putAll, Act.put, List.setIfInBounds_toArray, List.set_cons_zero, List.set_cons_succ]) (hCont (.slice Ao9 t539.length co9, v543, v546, gb548) _ ⟨hHeld, (rM HO541.out (fun _ hk => ⟨hk.1.2, hk.2⟩)), (rM HO544.out (fun _ hk => ⟨hk.2, hk.1⟩)), (rM HO547.out (fun _ hk => ⟨hk.2, hk.1⟩)), (kX BK537.out), (kX BK538.out), (kX BK548.out), GW548.out, GE548.out, NB537_548.out, NB548_537.out, NB538_548.out, NB548_538.out, (bX3 HB.out GE537.out GE538.out GE548.out)⟩)
 }
 }
 rintro ⟨v540, v543, v546, gb548⟩ w11 ⟨hS_, h0_, h1_, h2_, h3_, h4_, h5_, h6_, h7_, h8_, h9_, h10_, h11_, h12_⟩
 have n0_ : Aside0 (Kd.R (Kd.int .i64) 3 w11 w.heap.size (fun k_ => some k_ ≠ (v543 : Value).ownBlock ∧ some k_ ≠ (v546 : Value).ownBlock) v540 t539) := ⟨h0_⟩
 have n1_ : Aside0 (Kd.R (Kd.int .i64) 3 w11 w.heap.size (fun k_ => some k_ ≠ (v540 : Value).ownBlock ∧ some k_ ≠ (v546 : Value).ownBlock) v543 t542) := ⟨h1_⟩
 have n2_ : Aside0 (Kd.R (Kd.int .i64) 3 w11 w.heap.size (fun k_ => some k_ ≠ (v540 : Value).ownBlock ∧ some k_ ≠ (v543 : Value).ownBlock) v546 t545) := ⟨h2_⟩
 have n3_ : Aside0 (w11.heap[gb537]? = some (.cells #[.slice A0_0 l0_0.length c0_0, .slice A0_1 l0_1.length c0_1] 25 (0, 0))) := ⟨h3_⟩
 have n4_ : Aside0 (w11.heap[gb538]? = some (.cells #[.slice none 0 0, .slice none 0 0] 25 (0, 0))) := ⟨h4_⟩
 have n5_ : Aside0 (w11.heap[gb548]? = some (.cells #[.slice none 0 0, .slice none 0 0] 25 (0, 0))) := ⟨h5_⟩
 have n6_ : Aside0 (w.heap.size ≤ gb548) := ⟨h6_⟩
 have n7_ : Aside0 (w.heap.size ≤ gb548) := ⟨h7_⟩
 have n8_ : Aside0 (gb537 ≠ gb548) := ⟨h8_⟩
 have n9_ : Aside0 (gb548 ≠ gb537) := ⟨h9_⟩
 have n10_ : Aside0 (gb538 ≠ gb548) := ⟨h10_⟩
 have n11_ : Aside0 (gb548 ≠ gb538) := ⟨h11_⟩
 have n12_ : Aside0 (Below w.heap.size w w11) := ⟨h12_⟩
 clear BK537 BK538 HB h0_ h1_ h2_ h3_ h4_ h5_ h6_ h7_ h8_ h9_ h10_ h11_ h12_
 have HO541 := n0_
 have HO544 := n1_
 have HO547 := n2_
 have BK537 := n3_
 have BK538 := n4_
 have BK548 := n5_
 have GW548 := n6_
 have GE548 := n7_
 have NB537_548 := n8_
 have NB548_537 := n9_
 have NB538_548 := n10_
 have NB548_538 := n11_
 have HB := n12_
 clear n0_ n1_ n2_ n3_ n4_ n5_ n6_ n7_ n8_ n9_ n10_ n11_ n12_
 have hHeld : w11.cell? ⟨gb537, 0, none⟩ = some (.slice A0_0 l0_0.length c0_0) ∧ w11.cell? ⟨gb537, 1, none⟩ = some (.slice A0_1 l0_1.length c0_1) := hS_
 obtain ⟨Ao12, co12, eo12⟩ := Kd.R_slice HO544.out
 (first | subst eo12 | (injection eo12 with f1_ f2_ f3_; have f4_ := f1_.symm; have f5_ := f3_.symm; clear f1_ f2_ f3_; subst f4_; subst f5_))
 obtain ⟨Ao14, co14, eo14⟩ := Kd.R_slice HO547.out
 (first | subst eo14 | (injection eo14 with f1_ f2_ f3_; have f4_ := f1_.symm; have f5_ := f3_.symm; clear f1_ f2_ f3_; subst f4_; subst f5_))
 refine norm_ (a' := ?_) ?_ ?_
 rotate_left
 {
 simp only [putAll, Act.put, List.setIfInBounds_toArray, List.set_cons_zero, List.set_cons_succ]
 rfl
 }
 refine one_ (i := 5) (N := none) #[true, true, true, true, true, true] rfl rfl (by kernel_rfl) (by decide) (fun K hK => ?_)
 have hs13 : w11.cell? ⟨gb548, 0, none⟩ = some (.slice none 0 0) := cz20 BK548.out
 have hfs13 := blk_frozen BK548.out 0
 have hns13_0 := NB537_548.out
 have hns13_1 := NB538_548.out
 have hms13_0 := NB548_537.out
 have hms13_1 := NB548_538.out
 have hs15 : w11.cell? ⟨gb548, 1, none⟩ = some (.slice none 0 0) := cz21 BK548.out
 have hfs15 := blk_frozen BK548.out 1
 have hns15_0 := NB537_548.out
 have hns15_1 := NB538_548.out
 have hms15_0 := NB548_537.out
 have hms15_1 := NB548_538.out
 refine skip_ (w1 := ?_) (by rfl) rfl ?_ ?_
 rotate_left
 {
 go_simp
 rfl
 }
 refine hK.out _ _ ⟨((cell_far (p := ⟨gb548, _, none⟩) NB537_548.out _).trans (((cell_far (p := ⟨gb548, _, none⟩) NB537_548.out _).trans (hHeld.1)))), ((cell_far (p := ⟨gb548, _, none⟩) NB537_548.out _).trans (((cell_far (p := ⟨gb548, _, none⟩) NB537_548.out _).trans (hHeld.2))))⟩ (fun hHeld => ?_)
 clear hK K
 refine done_ (by kernel_rfl) ?_
 try go_wp2
 go_loopg [4] k (fun kq v4 w' => ∃ (x4_1 : Int) (x549000_1 : List Int) (x549001_1 : List Int) (u549000 : Value) (u549001 : Value), v4 = .int .i64 x4_1 ∧ Aside0 (spec_l03Canon.l0 kq x4_1 l0_0 l0_1 x549000_1 x549001_1 = some (r1, r2)) ∧ Aside0 (kq ≤ k) ∧ Aside0 (Kd.R (Kd.int .i64) 3 w' w.heap.size (fun k_ => some k_ ≠ (u549001 : Value).ownBlock) u549000 x549000_1) ∧ Aside0 (Kd.R (Kd.int .i64) 3 w' w.heap.size (fun k_ => some k_ ≠ (u549000 : Value).ownBlock) u549001 x549001_1) ∧ Aside0 (w'.heap[gb537]? = some (.cells #[(.slice A0_0 l0_0.length c0_0), (.slice A0_1 l0_1.length c0_1)] 25 (0, 0))) ∧ Aside0 (w'.heap[gb538]? = some (.cells #[(.slice none 0 0), (.slice none 0 0)] 25 (0, 0))) ∧ Aside0 (w'.heap[gb548]? = some (.cells #[u549000, u549001] 25 (0, 0))) ∧ Aside0 (Below w.heap.size w w'))
 case atStart => exact ⟨(1), (t542), (t545), (.slice Ao12 t542.length co12), (.slice Ao14 t545.length co14), vX, H', ⟨Nat.le_refl _⟩, ⟨by (with_reducible repeat (first|apply rA|apply rN|apply rD)); exact Kd.R_mono (Kd.R_far (p := ⟨gb548, 1, none⟩) (Kd.R_far (p := ⟨gb548, 0, none⟩) (Kd.R_types HO544.out BK548.out (by decide)) (fun _ hk => hk.2) (.slice Ao12 t542.length co12)) (fun _ hk => hk.2) (.slice Ao14 t545.length co14)) (fun _ hk => hk.1.2)⟩, ⟨by (with_reducible repeat (first|apply rA|apply rN|apply rD)); exact Kd.R_mono (Kd.R_far (p := ⟨gb548, 1, none⟩) (Kd.R_far (p := ⟨gb548, 0, none⟩) (Kd.R_types HO547.out BK548.out (by decide)) (fun _ hk => hk.2) (.slice Ao12 t542.length co12)) (fun _ hk => hk.2) (.slice Ao14 t545.length co14)) (fun _ hk => hk.1.2)⟩, ⟨by (with_reducible repeat (first|refine kN ?_ _|refine kD ?_|refine kA ?_ _)); refine blk_far ?_ NB537_548.out _; (with_reducible repeat (first|refine kN ?_ _|refine kD ?_|refine kA ?_ _)); refine blk_far ?_ NB537_548.out _; (with_reducible repeat (first|refine kN ?_ _|refine kD ?_|refine kA ?_ _)); exact BK537.out⟩, ⟨by (with_reducible repeat (first|refine kN ?_ _|refine kD ?_|refine kA ?_ _)); refine blk_far ?_ NB538_548.out _; (with_reducible repeat (first|refine kN ?_ _|refine kD ?_|refine kA ?_ _)); refine blk_far ?_ NB538_548.out _; (with_reducible repeat (first|refine kN ?_ _|refine kD ?_|refine kA ?_ _)); exact BK538.out⟩, ⟨by (with_reducible repeat (first|refine kN ?_ _|refine kD ?_|refine kA ?_ _)); refine blk_put (cs := #[.slice Ao12 t542.length co12, .slice none 0 0]) ?_ 1 _ rfl; (with_reducible repeat (first|refine kN ?_ _|refine kD ?_|refine kA ?_ _)); refine blk_put (cs := #[.slice none 0 0, .slice none 0 0]) ?_ 0 _ rfl; (with_reducible repeat (first|refine kN ?_ _|refine kD ?_|refine kA ?_ _)); exact BK548.out⟩, ⟨bX3 HB.out GE537.out GE538.out GE548.out⟩⟩
 case round =>
 clear H'
 try clear p2
 try clear c9
 obtain ⟨x4_1, x549000_1, x549001_1, u549000, u549001, rfl, HA, HK1, HO_549000, HO_549001, BK537, BK538, BK548, HB⟩ := hrel
 cases gk with
 | zero => exact absurd HA.out (by simp [spec_l03Canon.l0])
 | succ k1 =>
 have H := HA.out
 clear HA
 simp only [spec_l03Canon.l0] at H
 by_cases c16 : x4_1 < (l0_0.length : Int)
 {
 rw [if_pos c16] at H
 have c16b0 : decide (x4_1 < (l0_0.length : Int)) = true := decide_eq_true c16
 clear c16
 replace H := Option.bind_eq_some_iff.mp H
 obtain ⟨t549, A170, H⟩ := H
 replace H : ((spec_l03Rename.f k1 l0_0 l0_1 t549).bind fun bt552 => ((spec_l03Before.f k1 bt552.1 bt552.2 x549000_1 x549001_1).bind fun t559 => (if t559 = true then (spec_l03Canon.l0 k1 (wrap64 (x4_1 + 1)) l0_0 l0_1 bt552.1 bt552.2) else (spec_l03Canon.l0 k1 (wrap64 (x4_1 + 1)) l0_0 l0_1 x549000_1 x549001_1)))) = some (r1, r2) := H
 have A17 := Aside0.mk A170
 clear A170
 replace H := Option.bind_eq_some_iff.mp H
 obtain ⟨⟨t552, t555⟩, A180, H⟩ := H
 replace H : ((spec_l03Before.f k1 t552 t555 x549000_1 x549001_1).bind fun t559 => (if t559 = true then (spec_l03Canon.l0 k1 (wrap64 (x4_1 + 1)) l0_0 l0_1 t552 t555) else (spec_l03Canon.l0 k1 (wrap64 (x4_1 + 1)) l0_0 l0_1 x549000_1 x549001_1))) = some (r1, r2) := H
 have A18 := Aside0.mk A180
 clear A180
 replace H := Option.bind_eq_some_iff.mp H
 obtain ⟨t559, A190, H⟩ := H
 replace H : (if t559 = true then (spec_l03Canon.l0 k1 (wrap64 (x4_1 + 1)) l0_0 l0_1 t552 t555) else (spec_l03Canon.l0 k1 (wrap64 (x4_1 + 1)) l0_0 l0_1 x549000_1 x549001_1)) = some (r1, r2) := H
 have A19 := Aside0.mk A190
 clear A190
 by_cases c20 : t559 = true
 {
 subst c20
 have H1 : (spec_l03Canon.l0 k1 (wrap64 (x4_1 + 1)) l0_0 l0_1 t552 t555) = some (r1, r2) := by rw [if_pos rfl] at H; exact H
 clear H
 have H := H1
 clear H1
 have H' := Aside0.mk H
 clear H
 have hnb21 := NB537_538.out
 have hnc21 := NB538_537.out
 have hnb22 := NB537_548.out
 have hnc22 := NB548_537.out
 have hcz23_0 := cz20 BK537.out
 have hcz23_1 := cz21 BK537.out
 have hfz23_0 := blk_frozen BK537.out 0
 have hfz23_1 := blk_frozen BK537.out 1
 try go_wp2
 have n0_ := Aside0.mk (Kd.R_drew HO_549000.out)
 have n1_ := Aside0.mk (Kd.R_drew HO_549001.out)
 have n2_ := Aside0.mk (blk_drew BK537.out)
 have n3_ := Aside0.mk (blk_drew BK538.out)
 have n4_ := Aside0.mk (blk_drew BK548.out)
 have n5_ := Aside0.mk (below_drew1 HB.out)
 clear HO_549000 HO_549001 BK537 BK538 BK548 HB
 have HO_549000 := n0_
 have HO_549001 := n1_
 have BK537 := n2_
 have BK538 := n3_
 have BK548 := n4_
 have HB := n5_
 clear n0_ n1_ n2_ n3_ n4_ n5_
 refine start_ (n := 7) (S := fun w' => w'.cell? ⟨gb537, 0, none⟩ = some (.slice A0_0 l0_0.length c0_0) ∧ w'.cell? ⟨gb537, 1, none⟩ = some (.slice A0_1 l0_1.length c0_1)) (ds := []) #[false, false, false, false, false, false, false] (by kernel_rfl) rfl rfl ⟨cz20 BK537.out, cz21 BK537.out⟩ (fun hHeld => ?_)
 generalize wr.drew = w24 at HO_549000 HO_549001 BK537 BK538 BK548 HB hHeld ⊢
 refine pure_ (i := 2) (N := some 19) (v := ?_) (a' := ?_) #[false, false, true, false, false, false, false] rfl rfl (by kernel_rfl) (fun _ _ _ h => h) (Or.inl ⟨by rfl, ?_⟩) ?_ ?_
 rotate_left
 {
 intro w'
 go_simp
 with_reducible rfl
 }
 rotate_left
 {
 simp only [Act.put, zA, zB, zC, i64_w, i32_w]
 rfl
 }
 refine take_ (i := 0) (N := some 17) (v := ?_) (a' := ?_) #[true, false, true, false, false, false, false] rfl rfl (by kernel_rfl) (fun _ _ _ h => h) (Or.inl ⟨by rfl, ?_⟩) hHeld ?_ ?_
 rotate_left
 {
 rintro w' ⟨s0, s1⟩
 go_simp
 with_reducible rfl
 }
 rotate_left
 {
 simp only [Act.put, zA, zB, zC, i64_w, i32_w]
 rfl
 }
 refine take_ (i := 1) (N := some 18) (v := ?_) (a' := ?_) #[true, true, true, false, false, false, false] rfl rfl (by kernel_rfl) (fun _ _ _ h => h) (Or.inl ⟨by rfl, ?_⟩) hHeld ?_ ?_
 rotate_left
 {
 rintro w' ⟨s0, s1⟩
 go_simp
 with_reducible rfl
 }
 rotate_left
 {
 simp only [Act.put, zA, zB, zC, i64_w, i32_w]
 rfl
 }
 refine join_ (σ := Value × Value × Value × Nat) 1 #[true, true, true, true, true, true, false] (fun s_ => [(20, s_.1), (21, .agg #[s_.2.1, s_.2.2.1]), (5, .pointer (some ⟨s_.2.2.2, 0, none⟩))]) (fun s_ w' => (w'.cell? ⟨gb537, 0, none⟩ = some (.slice A0_0 l0_0.length c0_0) ∧ w'.cell? ⟨gb537, 1, none⟩ = some (.slice A0_1 l0_1.length c0_1)) ∧ (Kd.R (Kd.int .i64) 3 w' w.heap.size (fun k_ => some k_ ≠ (s_.2.1 : Value).ownBlock ∧ some k_ ≠ (s_.2.2.1 : Value).ownBlock ∧ some k_ ≠ (u549000 : Value).ownBlock ∧ some k_ ≠ (u549001 : Value).ownBlock) s_.1 t549) ∧ (Kd.R (Kd.int .i64) 3 w' w.heap.size (fun k_ => some k_ ≠ (s_.1 : Value).ownBlock ∧ some k_ ≠ (s_.2.2.1 : Value).ownBlock ∧ some k_ ≠ (u549000 : Value).ownBlock ∧ some k_ ≠ (u549001 : Value).ownBlock) s_.2.1 t552) ∧ (Kd.R (Kd.int .i64) 3 w' w.heap.size (fun k_ => some k_ ≠ (s_.1 : Value).ownBlock ∧ some k_ ≠ (s_.2.1 : Value).ownBlock ∧ some k_ ≠ (u549000 : Value).ownBlock ∧ some k_ ≠ (u549001 : Value).ownBlock) s_.2.2.1 t555) ∧ (Kd.R (Kd.int .i64) 3 w' w.heap.size (fun k_ => some k_ ≠ (s_.1 : Value).ownBlock ∧ some k_ ≠ (s_.2.1 : Value).ownBlock ∧ some k_ ≠ (s_.2.2.1 : Value).ownBlock ∧ some k_ ≠ (u549001 : Value).ownBlock) u549000 x549000_1) ∧ (Kd.R (Kd.int .i64) 3 w' w.heap.size (fun k_ => some k_ ≠ (s_.1 : Value).ownBlock ∧ some k_ ≠ (s_.2.1 : Value).ownBlock ∧ some k_ ≠ (s_.2.2.1 : Value).ownBlock ∧ some k_ ≠ (u549000 : Value).ownBlock) u549001 x549001_1) ∧ (w'.heap[gb537]? = some (.cells #[.slice A0_0 l0_0.length c0_0, .slice A0_1 l0_1.length c0_1] 25 (0, 0))) ∧ (w'.heap[gb538]? = some (.cells #[.slice none 0 0, .slice none 0 0] 25 (0, 0))) ∧ (w'.heap[gb548]? = some (.cells #[u549000, u549001] 25 (0, 0))) ∧ (w'.heap[s_.2.2.2]? = some (.cells #[.slice none 0 0, .slice none 0 0] 25 (0, 0))) ∧ (w.heap.size ≤ s_.2.2.2) ∧ (w.heap.size ≤ s_.2.2.2) ∧ (gb537 ≠ s_.2.2.2) ∧ (s_.2.2.2 ≠ gb537) ∧ (gb538 ≠ s_.2.2.2) ∧ (s_.2.2.2 ≠ gb538) ∧ (gb548 ≠ s_.2.2.2) ∧ (s_.2.2.2 ≠ gb548) ∧ (Below w.heap.size w w')) ?_ ?_
 rotate_left
 {
 intro hCont
 refine two_ (i := 3) (j := 5) (Ni := some 20) (Nj := some 5) #[true, true, true, true, false, false, false] #[true, true, true, false, false, true, false] rfl rfl rfl rfl (by kernel_rfl) (by decide) (by decide) (fun K hK => ?_) (fun K hK => ?_)
 {
 skip
 refine goes_ Tryz.func99 (by kernel_rfl) rfl #[.agg #[.slice A0_0 l0_0.length c0_0, .slice A0_1 l0_1.length c0_1], .int .i64 x4_1] (by rfl) rfl rfl aX ?_
 with_reducible refine (spec_l03Names.calls k1 _ _ l0_0 _ _ l0_1 x4_1 t549 _ ?side1 ?side2 ?side3 ?side4 A17.out).mono ?_
 (case side1 => exact cX (Kd.C_below HR0_0.out HB.out))
 (case side2 => exact HC0_0.out)
 (case side3 => exact cX (Kd.C_below HR0_1.out HB.out))
 (case side4 => exact HC0_1.out)
 rintro e w25 ⟨v550, rfl, ho0, hb⟩
 refine ⟨_, rfl, ?_⟩
 have n0_ := Aside0.mk (Kd.R_elder' (rX HO_549000.out) (Kd.R_base ho0) hb)
 have n1_ := Aside0.mk (Kd.R_elder' (rX HO_549001.out) (Kd.R_base ho0) hb)
 have n2_ := Aside0.mk (Kd.R_lower (Kd.R_new' (Kd.R_new' ho0 (Kd.R_lt (rX HO_549000.out))) (Kd.R_lt (rX HO_549001.out))) (below_size (bX3 HB.out GE537.out GE538.out GE548.out)))
 have n3_ := Aside0.mk (bbX BK537.out hb)
 have n4_ := Aside0.mk (bbX BK538.out hb)
 have n5_ := Aside0.mk (bbX BK548.out hb)
 have n6_ := Aside0.mk (below_step (bX3 HB.out GE537.out GE538.out GE548.out) hb)
 clear HO_549000 HO_549001 BK537 BK538 BK548 HB
 have HO_549000 := n0_
 have HO_549001 := n1_
 have HO551 := n2_
 have BK537 := n3_
 have BK538 := n4_
 have BK548 := n5_
 have HB := n6_
 clear n0_ n1_ n2_ n3_ n4_ n5_ n6_
 (try clear hb)
 (try clear hb2)
 (try clear hk)
 (try clear hi)
 (try clear ho0)
 obtain ⟨Ao26, co26, eo26⟩ := Kd.R_slice HO551.out
 (first | subst eo26 | (injection eo26 with f1_ f2_ f3_; have f4_ := f1_.symm; have f5_ := f3_.symm; clear f1_ f2_ f3_; subst f4_; subst f5_))
 refine hK.out _ _ ⟨cz20 BK537.out, cz21 BK537.out⟩ (fun hHeld => ?_)
 clear hK K
 refine norm_ (a' := ?_) ?_ ?_
 rotate_left
 {
 show Act.put _ (some 20) _ = _
 simp only [Act.put, zA, zB, zC, i64_w, i32_w]
 rfl
 }
 refine two_ (i := 4) (j := 5) (Ni := some 21) (Nj := some 5) #[true, true, true, true, true, false, false] #[true, true, true, true, false, true, false] rfl rfl rfl rfl (by kernel_rfl) (by decide) (by decide) (fun K hK => ?_) (fun K hK => ?_)
 {
 skip
 refine goes_ Tryz.func98 (by kernel_rfl) rfl #[.agg #[.slice A0_0 l0_0.length c0_0, .slice A0_1 l0_1.length c0_1], .slice Ao26 t549.length co26] (by rfl) rfl rfl aX ?_
 with_reducible refine (spec_l03Rename.calls k1 _ _ l0_0 _ _ l0_1 _ _ t549 t552 t555 _ ?side1 ?side2 ?side3 ?side4 ?side5 ?side6 A18.out).mono ?_
 (case side1 => exact cX (Kd.C_below HR0_0.out HB.out))
 (case side2 => exact HC0_0.out)
 (case side3 => exact cX (Kd.C_below HR0_1.out HB.out))
 (case side4 => exact HC0_1.out)
 (case side5 => exact cX (Kd.R_reads' HO551.out).2.2)
 (case side6 => exact (Kd.R_reads' HO551.out).2.1)
 rintro e w27 ⟨v553, v556, rfl, ho0, ho1, hb⟩
 refine ⟨_, rfl, ?_⟩
 have n0_ := Aside0.mk (Kd.R_mono (Kd.R_told (Kd.R_told (Kd.R_old (rX HO_549000.out) hb) (Kd.R_base ho0)) (Kd.R_base ho1)) (fun _ h_ => h_.1))
 have n1_ := Aside0.mk (Kd.R_mono (Kd.R_told (Kd.R_told (Kd.R_old (rX HO_549001.out) hb) (Kd.R_base ho0)) (Kd.R_base ho1)) (fun _ h_ => h_.1))
 have n2_ := Aside0.mk (Kd.R_mono (Kd.R_told (Kd.R_told (Kd.R_old (rX HO551.out) hb) (Kd.R_base ho0)) (Kd.R_base ho1)) (fun _ h_ => h_.1))
 have n3_ := Aside0.mk (Kd.R_lower (Kd.R_new' (Kd.R_new' (Kd.R_new' ho0 (Kd.R_lt (rX HO_549000.out))) (Kd.R_lt (rX HO_549001.out))) (Kd.R_lt (rX HO551.out))) (below_size (bX3 HB.out GE537.out GE538.out GE548.out)))
 have n4_ := Aside0.mk (Kd.R_lower (Kd.R_new' (Kd.R_new' (Kd.R_new' ho1 (Kd.R_lt (rX HO_549000.out))) (Kd.R_lt (rX HO_549001.out))) (Kd.R_lt (rX HO551.out))) (below_size (bX3 HB.out GE537.out GE538.out GE548.out)))
 have n5_ := Aside0.mk (bbX BK537.out hb)
 have n6_ := Aside0.mk (bbX BK538.out hb)
 have n7_ := Aside0.mk (bbX BK548.out hb)
 have n8_ := Aside0.mk (below_step (bX3 HB.out GE537.out GE538.out GE548.out) hb)
 clear HO_549000 HO_549001 HO551 BK537 BK538 BK548 HB
 have HO_549000 := n0_
 have HO_549001 := n1_
 have HO551 := n2_
 have HO554 := n3_
 have HO557 := n4_
 have BK537 := n5_
 have BK538 := n6_
 have BK548 := n7_
 have HB := n8_
 clear n0_ n1_ n2_ n3_ n4_ n5_ n6_ n7_ n8_
 (try clear hb)
 (try clear hb2)
 (try clear hk)
 (try clear hi)
 (try clear ho0)
 (try clear ho1)
 refine hK.out _ _ ⟨cz20 BK537.out, cz21 BK537.out⟩ (fun hHeld => ?_)
 clear hK K
 refine norm_ (a' := ?_) ?_ ?_
 rotate_left
 {
 show Act.put _ (some 21) _ = _
 simp only [Act.put, zA, zB, zC, i64_w, i32_w]
 rfl
 }
 refine one_ (i := 5) (N := some 5) #[true, true, true, true, true, true, false] rfl rfl (by kernel_rfl) (by decide) (fun K hK => ?_)
 refine box_step ?hg (N := 5) ?hd (cs := #[.slice none 0 0, .slice none 0 0]) (t := 25) ?hr ?_; (case hd => rfl); (case hg => rfl); (case hr => first | (go_simp; done) | (go_simp; rfl))
 intro gb558 hg w28 hbox hb
 have n0_ := Aside0.mk (Kd.R_below (rX HO_549000.out) hb)
 have n1_ := Aside0.mk (Kd.R_below (rX HO_549001.out) hb)
 have n2_ := Aside0.mk (Kd.R_below (rX HO551.out) hb)
 have n3_ := Aside0.mk (Kd.R_below (rX HO554.out) hb)
 have n4_ := Aside0.mk (Kd.R_below (rX HO557.out) hb)
 have n5_ := Aside0.mk (bbX BK537.out hb)
 have n6_ := Aside0.mk (bbX BK538.out hb)
 have n7_ := Aside0.mk (bbX BK548.out hb)
 have n8_ := Aside0.mk (below_step (bX3 HB.out GE537.out GE538.out GE548.out) hb)
 have n9_ := Aside0.mk (hbox)
 have n10_ := Aside0.mk ((szX (below_size (bX3 HB.out GE537.out GE538.out GE548.out)) hg : w.heap.size ≤ gb558))
 have n11_ := Aside0.mk ((szX (below_size (bX3 HB.out GE537.out GE538.out GE548.out)) hg : w.heap.size ≤ gb558))
 have n12_ := Aside0.mk (neX BK537.out hg)
 have n13_ := Aside0.mk (nfX BK537.out hg)
 have n14_ := Aside0.mk (neX BK538.out hg)
 have n15_ := Aside0.mk (nfX BK538.out hg)
 have n16_ := Aside0.mk (neX BK548.out hg)
 have n17_ := Aside0.mk (nfX BK548.out hg)
 clear HO_549000 HO_549001 HO551 HO554 HO557 BK537 BK538 BK548 HB
 have HO_549000 := n0_
 have HO_549001 := n1_
 have HO551 := n2_
 have HO554 := n3_
 have HO557 := n4_
 have BK537 := n5_
 have BK538 := n6_
 have BK548 := n7_
 have HB := n8_
 have BK558 := n9_
 have GW558 := n10_
 have GE558 := n11_
 have NB537_558 := n12_
 have NB558_537 := n13_
 have NB538_558 := n14_
 have NB558_538 := n15_
 have NB548_558 := n16_
 have NB558_548 := n17_
 clear n0_ n1_ n2_ n3_ n4_ n5_ n6_ n7_ n8_ n9_ n10_ n11_ n12_ n13_ n14_ n15_ n16_ n17_ hb hbox hg
 refine hK.out _ _ ⟨cz20 BK537.out, cz21 BK537.out⟩ (fun hHeld => ?_)
 clear hK K
 refine norm_ (a' := ?_) ?_ ?_
 rotate_left
 {
 show Act.put _ (some 5) _ = _
 simp only [Act.put, zA, zB, zC, i64_w, i32_w]
 rfl
 }
 exact norm_ (by simp only [putAll, Act.put, List.setIfInBounds_toArray, List.set_cons_zero, List.set_cons_succ]) (hCont (.slice Ao26 t549.length co26, v553, v556, gb558) _ ⟨hHeld, (rM HO551.out (fun _ hk => ⟨hk.1.2, ⟨hk.2, ⟨hk.1.1.1.2, hk.1.1.2⟩⟩⟩)), (rM HO554.out (fun _ hk => ⟨hk.2, ⟨hk.1.1.1, ⟨hk.1.1.2, hk.1.2⟩⟩⟩)), (rM HO557.out (fun _ hk => ⟨hk.2, ⟨hk.1.1.1, ⟨hk.1.1.2, hk.1.2⟩⟩⟩)), (rM HO_549000.out (fun _ hk => ⟨hk.1.1.2, ⟨hk.1.2, ⟨hk.2, hk.1.1.1⟩⟩⟩)), (rM HO_549001.out (fun _ hk => ⟨hk.1.1.2, ⟨hk.1.2, ⟨hk.2, hk.1.1.1⟩⟩⟩)), (kX BK537.out), (kX BK538.out), (kX BK548.out), (kX BK558.out), GW558.out, GE558.out, NB537_558.out, NB558_537.out, NB538_558.out, NB558_538.out, NB548_558.out, NB558_548.out, (by repeat (first | (with_reducible first | exact HB.out|apply bA|apply bN|apply bD | refine below_set ?_ GE537.out | refine below_set ?_ GE538.out | refine below_set ?_ GE548.out | refine below_set ?_ GE558.out) | exact HB.out))⟩)
 }
 {
 skip
 refine box_step ?hg (N := 5) ?hd (cs := #[.slice none 0 0, .slice none 0 0]) (t := 25) ?hr ?_; (case hd => rfl); (case hg => rfl); (case hr => first | (go_simp; done) | (go_simp; rfl))
 intro gb558 hg w26 hbox hb
 have n0_ := Aside0.mk (Kd.R_below (rX HO_549000.out) hb)
 have n1_ := Aside0.mk (Kd.R_below (rX HO_549001.out) hb)
 have n2_ := Aside0.mk (Kd.R_below (rX HO551.out) hb)
 have n3_ := Aside0.mk (bbX BK537.out hb)
 have n4_ := Aside0.mk (bbX BK538.out hb)
 have n5_ := Aside0.mk (bbX BK548.out hb)
 have n6_ := Aside0.mk (below_step (bX3 HB.out GE537.out GE538.out GE548.out) hb)
 have n7_ := Aside0.mk (hbox)
 have n8_ := Aside0.mk ((szX (below_size (bX3 HB.out GE537.out GE538.out GE548.out)) hg : w.heap.size ≤ gb558))
 have n9_ := Aside0.mk ((szX (below_size (bX3 HB.out GE537.out GE538.out GE548.out)) hg : w.heap.size ≤ gb558))
 have n10_ := Aside0.mk (neX BK537.out hg)
 have n11_ := Aside0.mk (nfX BK537.out hg)
 have n12_ := Aside0.mk (neX BK538.out hg)
 have n13_ := Aside0.mk (nfX BK538.out hg)
 have n14_ := Aside0.mk (neX BK548.out hg)
 have n15_ := Aside0.mk (nfX BK548.out hg)
 clear HO_549000 HO_549001 HO551 BK537 BK538 BK548 HB
 have HO_549000 := n0_
 have HO_549001 := n1_
 have HO551 := n2_
 have BK537 := n3_
 have BK538 := n4_
 have BK548 := n5_
 have HB := n6_
 have BK558 := n7_
 have GW558 := n8_
 have GE558 := n9_
 have NB537_558 := n10_
 have NB558_537 := n11_
 have NB538_558 := n12_
 have NB558_538 := n13_
 have NB548_558 := n14_
 have NB558_548 := n15_
 clear n0_ n1_ n2_ n3_ n4_ n5_ n6_ n7_ n8_ n9_ n10_ n11_ n12_ n13_ n14_ n15_ hb hbox hg
 obtain ⟨Ao27, co27, eo27⟩ := Kd.R_slice HO551.out
 (first | subst eo27 | (injection eo27 with f1_ f2_ f3_; have f4_ := f1_.symm; have f5_ := f3_.symm; clear f1_ f2_ f3_; subst f4_; subst f5_))
 refine hK.out _ _ ⟨cz20 BK537.out, cz21 BK537.out⟩ (fun hHeld => ?_)
 clear hK K
 refine norm_ (a' := ?_) ?_ ?_
 rotate_left
 {
 show Act.put _ (some 5) _ = _
 simp only [Act.put, zA, zB, zC, i64_w, i32_w]
 rfl
 }
 refine one_ (i := 4) (N := some 21) #[true, true, true, true, true, true, false] rfl rfl (by kernel_rfl) (by decide) (fun K hK => ?_)
 refine goes_ Tryz.func98 (by kernel_rfl) rfl #[.agg #[.slice A0_0 l0_0.length c0_0, .slice A0_1 l0_1.length c0_1], .slice Ao27 t549.length co27] (by rfl) rfl rfl aX ?_
 with_reducible refine (spec_l03Rename.calls k1 _ _ l0_0 _ _ l0_1 _ _ t549 t552 t555 _ ?side1 ?side2 ?side3 ?side4 ?side5 ?side6 A18.out).mono ?_
 (case side1 => exact cX (Kd.C_below HR0_0.out HB.out))
 (case side2 => exact HC0_0.out)
 (case side3 => exact cX (Kd.C_below HR0_1.out HB.out))
 (case side4 => exact HC0_1.out)
 (case side5 => exact cX (Kd.R_reads' HO551.out).2.2)
 (case side6 => exact (Kd.R_reads' HO551.out).2.1)
 rintro e w28 ⟨v553, v556, rfl, ho0, ho1, hb⟩
 refine ⟨_, rfl, ?_⟩
 have n0_ := Aside0.mk (Kd.R_mono (Kd.R_told (Kd.R_told (Kd.R_old (rX HO_549000.out) hb) (Kd.R_base ho0)) (Kd.R_base ho1)) (fun _ h_ => h_.1))
 have n1_ := Aside0.mk (Kd.R_mono (Kd.R_told (Kd.R_told (Kd.R_old (rX HO_549001.out) hb) (Kd.R_base ho0)) (Kd.R_base ho1)) (fun _ h_ => h_.1))
 have n2_ := Aside0.mk (Kd.R_mono (Kd.R_told (Kd.R_told (Kd.R_old (rX HO551.out) hb) (Kd.R_base ho0)) (Kd.R_base ho1)) (fun _ h_ => h_.1))
 have n3_ := Aside0.mk (Kd.R_lower (Kd.R_new' (Kd.R_new' (Kd.R_new' ho0 (Kd.R_lt (rX HO_549000.out))) (Kd.R_lt (rX HO_549001.out))) (Kd.R_lt (rX HO551.out))) (below_size (by repeat (first | (with_reducible first | exact HB.out|apply bA|apply bN|apply bD | refine below_set ?_ GE537.out | refine below_set ?_ GE538.out | refine below_set ?_ GE548.out | refine below_set ?_ GE558.out) | exact HB.out))))
 have n4_ := Aside0.mk (Kd.R_lower (Kd.R_new' (Kd.R_new' (Kd.R_new' ho1 (Kd.R_lt (rX HO_549000.out))) (Kd.R_lt (rX HO_549001.out))) (Kd.R_lt (rX HO551.out))) (below_size (by repeat (first | (with_reducible first | exact HB.out|apply bA|apply bN|apply bD | refine below_set ?_ GE537.out | refine below_set ?_ GE538.out | refine below_set ?_ GE548.out | refine below_set ?_ GE558.out) | exact HB.out))))
 have n5_ := Aside0.mk (bbX BK537.out hb)
 have n6_ := Aside0.mk (bbX BK538.out hb)
 have n7_ := Aside0.mk (bbX BK548.out hb)
 have n8_ := Aside0.mk (bbX BK558.out hb)
 have n9_ := Aside0.mk (below_step (by repeat (first | (with_reducible first | exact HB.out|apply bA|apply bN|apply bD | refine below_set ?_ GE537.out | refine below_set ?_ GE538.out | refine below_set ?_ GE548.out | refine below_set ?_ GE558.out) | exact HB.out)) hb)
 clear HO_549000 HO_549001 HO551 BK537 BK538 BK548 BK558 HB
 have HO_549000 := n0_
 have HO_549001 := n1_
 have HO551 := n2_
 have HO554 := n3_
 have HO557 := n4_
 have BK537 := n5_
 have BK538 := n6_
 have BK548 := n7_
 have BK558 := n8_
 have HB := n9_
 clear n0_ n1_ n2_ n3_ n4_ n5_ n6_ n7_ n8_ n9_
 (try clear hb)
 (try clear hb2)
 (try clear hk)
 (try clear hi)
 (try clear ho0)
 (try clear ho1)
 refine hK.out _ _ ⟨cz20 BK537.out, cz21 BK537.out⟩ (fun hHeld => ?_)
 clear hK K
 refine norm_ (a' := ?_) ?_ ?_
 rotate_left
 {
 show Act.put _ (some 21) _ = _
 simp only [Act.put, zA, zB, zC, i64_w, i32_w]
 rfl
 }
 exact norm_ (by simp only [putAll, Act.put, List.setIfInBounds_toArray, List.set_cons_zero, List.set_cons_succ]) (hCont (.slice Ao27 t549.length co27, v553, v556, gb558) _ ⟨hHeld, (rM HO551.out (fun _ hk => ⟨hk.1.2, ⟨hk.2, ⟨hk.1.1.1.2, hk.1.1.2⟩⟩⟩)), (rM HO554.out (fun _ hk => ⟨hk.2, ⟨hk.1.1.1, ⟨hk.1.1.2, hk.1.2⟩⟩⟩)), (rM HO557.out (fun _ hk => ⟨hk.2, ⟨hk.1.1.1, ⟨hk.1.1.2, hk.1.2⟩⟩⟩)), (rM HO_549000.out (fun _ hk => ⟨hk.1.1.2, ⟨hk.1.2, ⟨hk.2, hk.1.1.1⟩⟩⟩)), (rM HO_549001.out (fun _ hk => ⟨hk.1.1.2, ⟨hk.1.2, ⟨hk.2, hk.1.1.1⟩⟩⟩)), (kX BK537.out), (kX BK538.out), (kX BK548.out), (kX BK558.out), GW558.out, GE558.out, NB537_558.out, NB558_537.out, NB538_558.out, NB558_538.out, NB548_558.out, NB558_548.out, (by repeat (first | (with_reducible first | exact HB.out|apply bA|apply bN|apply bD | refine below_set ?_ GE537.out | refine below_set ?_ GE538.out | refine below_set ?_ GE548.out | refine below_set ?_ GE558.out) | exact HB.out))⟩)
 }
 }
 {
 skip
 refine box_step ?hg (N := 5) ?hd (cs := #[.slice none 0 0, .slice none 0 0]) (t := 25) ?hr ?_; (case hd => rfl); (case hg => rfl); (case hr => first | (go_simp; done) | (go_simp; rfl))
 intro gb558 hg w25 hbox hb
 have n0_ := Aside0.mk (Kd.R_below (rX HO_549000.out) hb)
 have n1_ := Aside0.mk (Kd.R_below (rX HO_549001.out) hb)
 have n2_ := Aside0.mk (bbX BK537.out hb)
 have n3_ := Aside0.mk (bbX BK538.out hb)
 have n4_ := Aside0.mk (bbX BK548.out hb)
 have n5_ := Aside0.mk (below_step (bX3 HB.out GE537.out GE538.out GE548.out) hb)
 have n6_ := Aside0.mk (hbox)
 have n7_ := Aside0.mk ((szX (below_size (bX3 HB.out GE537.out GE538.out GE548.out)) hg : w.heap.size ≤ gb558))
 have n8_ := Aside0.mk ((szX (below_size (bX3 HB.out GE537.out GE538.out GE548.out)) hg : w.heap.size ≤ gb558))
 have n9_ := Aside0.mk (neX BK537.out hg)
 have n10_ := Aside0.mk (nfX BK537.out hg)
 have n11_ := Aside0.mk (neX BK538.out hg)
 have n12_ := Aside0.mk (nfX BK538.out hg)
 have n13_ := Aside0.mk (neX BK548.out hg)
 have n14_ := Aside0.mk (nfX BK548.out hg)
 clear HO_549000 HO_549001 BK537 BK538 BK548 HB
 have HO_549000 := n0_
 have HO_549001 := n1_
 have BK537 := n2_
 have BK538 := n3_
 have BK548 := n4_
 have HB := n5_
 have BK558 := n6_
 have GW558 := n7_
 have GE558 := n8_
 have NB537_558 := n9_
 have NB558_537 := n10_
 have NB538_558 := n11_
 have NB558_538 := n12_
 have NB548_558 := n13_
 have NB558_548 := n14_
 clear n0_ n1_ n2_ n3_ n4_ n5_ n6_ n7_ n8_ n9_ n10_ n11_ n12_ n13_ n14_ hb hbox hg
 refine hK.out _ _ ⟨cz20 BK537.out, cz21 BK537.out⟩ (fun hHeld => ?_)
 clear hK K
 refine norm_ (a' := ?_) ?_ ?_
 rotate_left
 {
 show Act.put _ (some 5) _ = _
 simp only [Act.put, zA, zB, zC, i64_w, i32_w]
 rfl
 }
 refine one_ (i := 3) (N := some 20) #[true, true, true, true, false, true, false] rfl rfl (by kernel_rfl) (by decide) (fun K hK => ?_)
 refine goes_ Tryz.func99 (by kernel_rfl) rfl #[.agg #[.slice A0_0 l0_0.length c0_0, .slice A0_1 l0_1.length c0_1], .int .i64 x4_1] (by rfl) rfl rfl aX ?_
 with_reducible refine (spec_l03Names.calls k1 _ _ l0_0 _ _ l0_1 x4_1 t549 _ ?side1 ?side2 ?side3 ?side4 A17.out).mono ?_
 (case side1 => exact cX (Kd.C_below HR0_0.out HB.out))
 (case side2 => exact HC0_0.out)
 (case side3 => exact cX (Kd.C_below HR0_1.out HB.out))
 (case side4 => exact HC0_1.out)
 rintro e w26 ⟨v550, rfl, ho0, hb⟩
 refine ⟨_, rfl, ?_⟩
 have n0_ := Aside0.mk (Kd.R_elder' (rX HO_549000.out) (Kd.R_base ho0) hb)
 have n1_ := Aside0.mk (Kd.R_elder' (rX HO_549001.out) (Kd.R_base ho0) hb)
 have n2_ := Aside0.mk (Kd.R_lower (Kd.R_new' (Kd.R_new' ho0 (Kd.R_lt (rX HO_549000.out))) (Kd.R_lt (rX HO_549001.out))) (below_size (by repeat (first | (with_reducible first | exact HB.out|apply bA|apply bN|apply bD | refine below_set ?_ GE537.out | refine below_set ?_ GE538.out | refine below_set ?_ GE548.out | refine below_set ?_ GE558.out) | exact HB.out))))
 have n3_ := Aside0.mk (bbX BK537.out hb)
 have n4_ := Aside0.mk (bbX BK538.out hb)
 have n5_ := Aside0.mk (bbX BK548.out hb)
 have n6_ := Aside0.mk (bbX BK558.out hb)
 have n7_ := Aside0.mk (below_step (by repeat (first | (with_reducible first | exact HB.out|apply bA|apply bN|apply bD | refine below_set ?_ GE537.out | refine below_set ?_ GE538.out | refine below_set ?_ GE548.out | refine below_set ?_ GE558.out) | exact HB.out)) hb)
 clear HO_549000 HO_549001 BK537 BK538 BK548 BK558 HB
 have HO_549000 := n0_
 have HO_549001 := n1_
 have HO551 := n2_
 have BK537 := n3_
 have BK538 := n4_
 have BK548 := n5_
 have BK558 := n6_
 have HB := n7_
 clear n0_ n1_ n2_ n3_ n4_ n5_ n6_ n7_
 (try clear hb)
 (try clear hb2)
 (try clear hk)
 (try clear hi)
 (try clear ho0)
 obtain ⟨Ao27, co27, eo27⟩ := Kd.R_slice HO551.out
 (first | subst eo27 | (injection eo27 with f1_ f2_ f3_; have f4_ := f1_.symm; have f5_ := f3_.symm; clear f1_ f2_ f3_; subst f4_; subst f5_))
 refine hK.out _ _ ⟨cz20 BK537.out, cz21 BK537.out⟩ (fun hHeld => ?_)
 clear hK K
 refine norm_ (a' := ?_) ?_ ?_
 rotate_left
 {
 show Act.put _ (some 20) _ = _
 simp only [Act.put, zA, zB, zC, i64_w, i32_w]
 rfl
 }
 refine one_ (i := 4) (N := some 21) #[true, true, true, true, true, true, false] rfl rfl (by kernel_rfl) (by decide) (fun K hK => ?_)
 refine goes_ Tryz.func98 (by kernel_rfl) rfl #[.agg #[.slice A0_0 l0_0.length c0_0, .slice A0_1 l0_1.length c0_1], .slice Ao27 t549.length co27] (by rfl) rfl rfl aX ?_
 with_reducible refine (spec_l03Rename.calls k1 _ _ l0_0 _ _ l0_1 _ _ t549 t552 t555 _ ?side1 ?side2 ?side3 ?side4 ?side5 ?side6 A18.out).mono ?_
 (case side1 => exact cX (Kd.C_below HR0_0.out HB.out))
 (case side2 => exact HC0_0.out)
 (case side3 => exact cX (Kd.C_below HR0_1.out HB.out))
 (case side4 => exact HC0_1.out)
 (case side5 => exact cX (Kd.R_reads' HO551.out).2.2)
 (case side6 => exact (Kd.R_reads' HO551.out).2.1)
 rintro e w28 ⟨v553, v556, rfl, ho0, ho1, hb⟩
 refine ⟨_, rfl, ?_⟩
 have n0_ := Aside0.mk (Kd.R_mono (Kd.R_told (Kd.R_told (Kd.R_old (rX HO_549000.out) hb) (Kd.R_base ho0)) (Kd.R_base ho1)) (fun _ h_ => h_.1))
 have n1_ := Aside0.mk (Kd.R_mono (Kd.R_told (Kd.R_told (Kd.R_old (rX HO_549001.out) hb) (Kd.R_base ho0)) (Kd.R_base ho1)) (fun _ h_ => h_.1))
 have n2_ := Aside0.mk (Kd.R_mono (Kd.R_told (Kd.R_told (Kd.R_old (rX HO551.out) hb) (Kd.R_base ho0)) (Kd.R_base ho1)) (fun _ h_ => h_.1))
 have n3_ := Aside0.mk (Kd.R_lower (Kd.R_new' (Kd.R_new' (Kd.R_new' ho0 (Kd.R_lt (rX HO_549000.out))) (Kd.R_lt (rX HO_549001.out))) (Kd.R_lt (rX HO551.out))) (below_size (by repeat (first | (with_reducible first | exact HB.out|apply bA|apply bN|apply bD | refine below_set ?_ GE537.out | refine below_set ?_ GE538.out | refine below_set ?_ GE548.out | refine below_set ?_ GE558.out) | exact HB.out))))
 have n4_ := Aside0.mk (Kd.R_lower (Kd.R_new' (Kd.R_new' (Kd.R_new' ho1 (Kd.R_lt (rX HO_549000.out))) (Kd.R_lt (rX HO_549001.out))) (Kd.R_lt (rX HO551.out))) (below_size (by repeat (first | (with_reducible first | exact HB.out|apply bA|apply bN|apply bD | refine below_set ?_ GE537.out | refine below_set ?_ GE538.out | refine below_set ?_ GE548.out | refine below_set ?_ GE558.out) | exact HB.out))))
 have n5_ := Aside0.mk (bbX BK537.out hb)
 have n6_ := Aside0.mk (bbX BK538.out hb)
 have n7_ := Aside0.mk (bbX BK548.out hb)
 have n8_ := Aside0.mk (bbX BK558.out hb)
 have n9_ := Aside0.mk (below_step (by repeat (first | (with_reducible first | exact HB.out|apply bA|apply bN|apply bD | refine below_set ?_ GE537.out | refine below_set ?_ GE538.out | refine below_set ?_ GE548.out | refine below_set ?_ GE558.out) | exact HB.out)) hb)
 clear HO_549000 HO_549001 HO551 BK537 BK538 BK548 BK558 HB
 have HO_549000 := n0_
 have HO_549001 := n1_
 have HO551 := n2_
 have HO554 := n3_
 have HO557 := n4_
 have BK537 := n5_
 have BK538 := n6_
 have BK548 := n7_
 have BK558 := n8_
 have HB := n9_
 clear n0_ n1_ n2_ n3_ n4_ n5_ n6_ n7_ n8_ n9_
 (try clear hb)
 (try clear hb2)
 (try clear hk)
 (try clear hi)
 (try clear ho0)
 (try clear ho1)
 refine hK.out _ _ ⟨cz20 BK537.out, cz21 BK537.out⟩ (fun hHeld => ?_)
 clear hK K
 refine norm_ (a' := ?_) ?_ ?_
 rotate_left
 {
 show Act.put _ (some 21) _ = _
 simp only [Act.put, zA, zB, zC, i64_w, i32_w]
 rfl
 }
 exact norm_ (by simp only [putAll, Act.put, List.setIfInBounds_toArray, List.set_cons_zero, List.set_cons_succ]) (hCont (.slice Ao27 t549.length co27, v553, v556, gb558) _ ⟨hHeld, (rM HO551.out (fun _ hk => ⟨hk.1.2, ⟨hk.2, ⟨hk.1.1.1.2, hk.1.1.2⟩⟩⟩)), (rM HO554.out (fun _ hk => ⟨hk.2, ⟨hk.1.1.1, ⟨hk.1.1.2, hk.1.2⟩⟩⟩)), (rM HO557.out (fun _ hk => ⟨hk.2, ⟨hk.1.1.1, ⟨hk.1.1.2, hk.1.2⟩⟩⟩)), (rM HO_549000.out (fun _ hk => ⟨hk.1.1.2, ⟨hk.1.2, ⟨hk.2, hk.1.1.1⟩⟩⟩)), (rM HO_549001.out (fun _ hk => ⟨hk.1.1.2, ⟨hk.1.2, ⟨hk.2, hk.1.1.1⟩⟩⟩)), (kX BK537.out), (kX BK538.out), (kX BK548.out), (kX BK558.out), GW558.out, GE558.out, NB537_558.out, NB558_537.out, NB538_558.out, NB558_538.out, NB548_558.out, NB558_548.out, (by repeat (first | (with_reducible first | exact HB.out|apply bA|apply bN|apply bD | refine below_set ?_ GE537.out | refine below_set ?_ GE538.out | refine below_set ?_ GE548.out | refine below_set ?_ GE558.out) | exact HB.out))⟩)
 }
 }
 rintro ⟨v550, v553, v556, gb558⟩ w29 ⟨hS_, h0_, h1_, h2_, h3_, h4_, h5_, h6_, h7_, h8_, h9_, h10_, h11_, h12_, h13_, h14_, h15_, h16_, h17_⟩
 have n0_ : Aside0 (Kd.R (Kd.int .i64) 3 w29 w.heap.size (fun k_ => some k_ ≠ (v553 : Value).ownBlock ∧ some k_ ≠ (v556 : Value).ownBlock ∧ some k_ ≠ (u549000 : Value).ownBlock ∧ some k_ ≠ (u549001 : Value).ownBlock) v550 t549) := ⟨h0_⟩
 have n1_ : Aside0 (Kd.R (Kd.int .i64) 3 w29 w.heap.size (fun k_ => some k_ ≠ (v550 : Value).ownBlock ∧ some k_ ≠ (v556 : Value).ownBlock ∧ some k_ ≠ (u549000 : Value).ownBlock ∧ some k_ ≠ (u549001 : Value).ownBlock) v553 t552) := ⟨h1_⟩
 have n2_ : Aside0 (Kd.R (Kd.int .i64) 3 w29 w.heap.size (fun k_ => some k_ ≠ (v550 : Value).ownBlock ∧ some k_ ≠ (v553 : Value).ownBlock ∧ some k_ ≠ (u549000 : Value).ownBlock ∧ some k_ ≠ (u549001 : Value).ownBlock) v556 t555) := ⟨h2_⟩
 have n3_ : Aside0 (Kd.R (Kd.int .i64) 3 w29 w.heap.size (fun k_ => some k_ ≠ (v550 : Value).ownBlock ∧ some k_ ≠ (v553 : Value).ownBlock ∧ some k_ ≠ (v556 : Value).ownBlock ∧ some k_ ≠ (u549001 : Value).ownBlock) u549000 x549000_1) := ⟨h3_⟩
 have n4_ : Aside0 (Kd.R (Kd.int .i64) 3 w29 w.heap.size (fun k_ => some k_ ≠ (v550 : Value).ownBlock ∧ some k_ ≠ (v553 : Value).ownBlock ∧ some k_ ≠ (v556 : Value).ownBlock ∧ some k_ ≠ (u549000 : Value).ownBlock) u549001 x549001_1) := ⟨h4_⟩
 have n5_ : Aside0 (w29.heap[gb537]? = some (.cells #[.slice A0_0 l0_0.length c0_0, .slice A0_1 l0_1.length c0_1] 25 (0, 0))) := ⟨h5_⟩
 have n6_ : Aside0 (w29.heap[gb538]? = some (.cells #[.slice none 0 0, .slice none 0 0] 25 (0, 0))) := ⟨h6_⟩
 have n7_ : Aside0 (w29.heap[gb548]? = some (.cells #[u549000, u549001] 25 (0, 0))) := ⟨h7_⟩
 have n8_ : Aside0 (w29.heap[gb558]? = some (.cells #[.slice none 0 0, .slice none 0 0] 25 (0, 0))) := ⟨h8_⟩
 have n9_ : Aside0 (w.heap.size ≤ gb558) := ⟨h9_⟩
 have n10_ : Aside0 (w.heap.size ≤ gb558) := ⟨h10_⟩
 have n11_ : Aside0 (gb537 ≠ gb558) := ⟨h11_⟩
 have n12_ : Aside0 (gb558 ≠ gb537) := ⟨h12_⟩
 have n13_ : Aside0 (gb538 ≠ gb558) := ⟨h13_⟩
 have n14_ : Aside0 (gb558 ≠ gb538) := ⟨h14_⟩
 have n15_ : Aside0 (gb548 ≠ gb558) := ⟨h15_⟩
 have n16_ : Aside0 (gb558 ≠ gb548) := ⟨h16_⟩
 have n17_ : Aside0 (Below w.heap.size w w29) := ⟨h17_⟩
 clear HO_549000 HO_549001 BK537 BK538 BK548 HB h0_ h1_ h2_ h3_ h4_ h5_ h6_ h7_ h8_ h9_ h10_ h11_ h12_ h13_ h14_ h15_ h16_ h17_
 have HO551 := n0_
 have HO554 := n1_
 have HO557 := n2_
 have HO_549000 := n3_
 have HO_549001 := n4_
 have BK537 := n5_
 have BK538 := n6_
 have BK548 := n7_
 have BK558 := n8_
 have GW558 := n9_
 have GE558 := n10_
 have NB537_558 := n11_
 have NB558_537 := n12_
 have NB538_558 := n13_
 have NB558_538 := n14_
 have NB548_558 := n15_
 have NB558_548 := n16_
 have HB := n17_
 clear n0_ n1_ n2_ n3_ n4_ n5_ n6_ n7_ n8_ n9_ n10_ n11_ n12_ n13_ n14_ n15_ n16_ n17_
 have hHeld : w29.cell? ⟨gb537, 0, none⟩ = some (.slice A0_0 l0_0.length c0_0) ∧ w29.cell? ⟨gb537, 1, none⟩ = some (.slice A0_1 l0_1.length c0_1) := hS_
 obtain ⟨Ao30, co30, eo30⟩ := Kd.R_slice HO554.out
 (first | subst eo30 | (injection eo30 with f1_ f2_ f3_; have f4_ := f1_.symm; have f5_ := f3_.symm; clear f1_ f2_ f3_; subst f4_; subst f5_))
 obtain ⟨Ao32, co32, eo32⟩ := Kd.R_slice HO557.out
 (first | subst eo32 | (injection eo32 with f1_ f2_ f3_; have f4_ := f1_.symm; have f5_ := f3_.symm; clear f1_ f2_ f3_; subst f4_; subst f5_))
 refine norm_ (a' := ?_) ?_ ?_
 rotate_left
 {
 simp only [putAll, Act.put, List.setIfInBounds_toArray, List.set_cons_zero, List.set_cons_succ]
 rfl
 }
 refine one_ (i := 6) (N := none) #[true, true, true, true, true, true, true] rfl rfl (by kernel_rfl) (by decide) (fun K hK => ?_)
 have hs31 : w29.cell? ⟨gb558, 0, none⟩ = some (.slice none 0 0) := cz20 BK558.out
 have hfs31 := blk_frozen BK558.out 0
 have hns31_0 := NB537_558.out
 have hns31_1 := NB538_558.out
 have hns31_2 := NB548_558.out
 have hms31_0 := NB558_537.out
 have hms31_1 := NB558_538.out
 have hms31_2 := NB558_548.out
 have hs33 : w29.cell? ⟨gb558, 1, none⟩ = some (.slice none 0 0) := cz21 BK558.out
 have hfs33 := blk_frozen BK558.out 1
 have hns33_0 := NB537_558.out
 have hns33_1 := NB538_558.out
 have hns33_2 := NB548_558.out
 have hms33_0 := NB558_537.out
 have hms33_1 := NB558_538.out
 have hms33_2 := NB558_548.out
 refine skip_ (w1 := ?_) (by rfl) rfl ?_ ?_
 rotate_left
 {
 go_simp
 rfl
 }
 refine hK.out _ _ ⟨((cell_far (p := ⟨gb558, _, none⟩) NB537_558.out _).trans (((cell_far (p := ⟨gb558, _, none⟩) NB537_558.out _).trans (hHeld.1)))), ((cell_far (p := ⟨gb558, _, none⟩) NB537_558.out _).trans (((cell_far (p := ⟨gb558, _, none⟩) NB537_558.out _).trans (hHeld.2))))⟩ (fun hHeld => ?_)
 clear hK K
 refine done_ (by kernel_rfl) ?_
 have hnb34 := NB558_537.out
 have hnc34 := NB537_558.out
 have hnb35 := NB558_538.out
 have hnc35 := NB538_558.out
 have hnb36 := NB558_548.out
 have hnc36 := NB548_558.out
 have hcz37_0 := cz20 BK558.out
 have hcz37_1 := cz21 BK558.out
 have hfz37_0 := blk_frozen BK558.out 0
 have hfz37_1 := blk_frozen BK558.out 1
 have hnb38 := NB548_538.out
 have hnc38 := NB538_548.out
 have hcz39_0 := cz20 BK548.out
 have hcz39_1 := cz21 BK548.out
 have hfz39_0 := blk_frozen BK548.out 0
 have hfz39_1 := blk_frozen BK548.out 1
 obtain ⟨Ao40, co40, eo40⟩ := Kd.R_slice HO_549000.out
 subst eo40
 obtain ⟨Ao41, co41, eo41⟩ := Kd.R_slice HO_549001.out
 subst eo41
 try go_wp2_with (first | ((with_reducible refine gate_callee (f := 129) rfl ?_); refine goesL_ (some 24) rfl rfl Tryz.func129 (by kernel_rfl) rfl #[.agg #[.slice Ao30 t552.length co30, .slice Ao32 t555.length co32], .agg #[.slice Ao40 x549000_1.length co40, .slice Ao41 x549001_1.length co41]] rfl aX ?_; (with_reducible refine (spec_l03Before.calls k1 _ _ t552 _ _ t555 _ _ x549000_1 _ _ x549001_1 true _ ?side1 ?side2 ?side3 ?side4 ?side5 ?side6 ?side7 ?side8 A19.out).mono ?_); (case side1 => exact rcX (fr2 HO554.out BK558.out (.slice Ao30 t552.length co30) (.slice Ao32 t555.length co32))); (case side2 => exact (Kd.R_reads' HO554.out).2.1); (case side3 => exact rcX (fr2 HO557.out BK558.out (.slice Ao30 t552.length co30) (.slice Ao32 t555.length co32))); (case side4 => exact (Kd.R_reads' HO557.out).2.1); (case side5 => exact rcX (fr2 HO_549000.out BK558.out (.slice Ao30 t552.length co30) (.slice Ao32 t555.length co32))); (case side6 => exact (Kd.R_reads' HO_549000.out).2.1); (case side7 => exact rcX (fr2 HO_549001.out BK558.out (.slice Ao30 t552.length co30) (.slice Ao32 t555.length co32))); (case side8 => exact (Kd.R_reads' HO_549001.out).2.1); rintro e w42 ⟨rfl, hb⟩; refine ⟨_, rfl, ?_⟩; have n0_ := Aside0.mk (Kd.R_below (rX (fr2 HO_549000.out BK558.out (.slice Ao30 t552.length co30) (.slice Ao32 t555.length co32))) hb); have n1_ := Aside0.mk (Kd.R_below (rX (fr2 HO_549001.out BK558.out (.slice Ao30 t552.length co30) (.slice Ao32 t555.length co32))) hb); have n2_ := Aside0.mk (Kd.R_below (rX (fr2 HO551.out BK558.out (.slice Ao30 t552.length co30) (.slice Ao32 t555.length co32))) hb); have n3_ := Aside0.mk (Kd.R_below (rX (fr2 HO554.out BK558.out (.slice Ao30 t552.length co30) (.slice Ao32 t555.length co32))) hb); have n4_ := Aside0.mk (Kd.R_below (rX (fr2 HO557.out BK558.out (.slice Ao30 t552.length co30) (.slice Ao32 t555.length co32))) hb); have n5_ := Aside0.mk (blk_below (g := gb537) (o := .cells #[.slice A0_0 l0_0.length c0_0, .slice A0_1 l0_1.length c0_1] 25 (0, 0)) (by (with_reducible repeat (first|refine kN ?_ _|refine kD ?_|refine kA ?_ _)); refine blk_far ?_ NB537_558.out _; (with_reducible repeat (first|refine kN ?_ _|refine kD ?_|refine kA ?_ _)); refine blk_far ?_ NB537_558.out _; (with_reducible repeat (first|refine kN ?_ _|refine kD ?_|refine kA ?_ _)); exact BK537.out) hb); have n6_ := Aside0.mk (blk_below (g := gb538) (o := .cells #[.slice none 0 0, .slice none 0 0] 25 (0, 0)) (by (with_reducible repeat (first|refine kN ?_ _|refine kD ?_|refine kA ?_ _)); refine blk_far ?_ NB538_558.out _; (with_reducible repeat (first|refine kN ?_ _|refine kD ?_|refine kA ?_ _)); refine blk_far ?_ NB538_558.out _; (with_reducible repeat (first|refine kN ?_ _|refine kD ?_|refine kA ?_ _)); exact BK538.out) hb); have n7_ := Aside0.mk (blk_below (g := gb548) (o := .cells #[.slice Ao40 x549000_1.length co40, .slice Ao41 x549001_1.length co41] 25 (0, 0)) (by (with_reducible repeat (first|refine kN ?_ _|refine kD ?_|refine kA ?_ _)); refine blk_far ?_ NB548_558.out _; (with_reducible repeat (first|refine kN ?_ _|refine kD ?_|refine kA ?_ _)); refine blk_far ?_ NB548_558.out _; (with_reducible repeat (first|refine kN ?_ _|refine kD ?_|refine kA ?_ _)); exact BK548.out) hb); have n8_ := Aside0.mk (blk_below (g := gb558) (o := .cells #[.slice Ao30 t552.length co30, .slice Ao32 t555.length co32] 25 (0, 0)) (by (with_reducible repeat (first|refine kN ?_ _|refine kD ?_|refine kA ?_ _)); refine blk_put (cs := #[.slice Ao30 t552.length co30, .slice none 0 0]) ?_ 1 _ rfl; (with_reducible repeat (first|refine kN ?_ _|refine kD ?_|refine kA ?_ _)); refine blk_put (cs := #[.slice none 0 0, .slice none 0 0]) ?_ 0 _ rfl; (with_reducible repeat (first|refine kN ?_ _|refine kD ?_|refine kA ?_ _)); exact BK558.out) hb); have n9_ := Aside0.mk (below_step (by repeat (first | (with_reducible first | exact HB.out|apply bA|apply bN|apply bD | refine below_set ?_ GE537.out | refine below_set ?_ GE538.out | refine below_set ?_ GE548.out | refine below_set ?_ GE558.out) | exact HB.out)) hb); clear HO_549000 HO_549001 HO551 HO554 HO557 BK537 BK538 BK548 BK558 HB; have HO_549000 := n0_; have HO_549001 := n1_; have HO551 := n2_; have HO554 := n3_; have HO557 := n4_; have BK537 := n5_; have BK538 := n6_; have BK548 := n7_; have BK558 := n8_; have HB := n9_; clear n0_ n1_ n2_ n3_ n4_ n5_ n6_ n7_ n8_ n9_; (try clear hb); (try clear hb2); (try clear hk); (try clear hi); have hcz43_0 := cz20 BK558.out; have hcz43_1 := cz21 BK558.out; have hfz43_0 := blk_frozen BK558.out 0; have hfz43_1 := blk_frozen BK558.out 1; have hcz44_0 := cz20 BK548.out; have hcz44_1 := cz21 BK548.out; have hfz44_0 := blk_frozen BK548.out 0; have hfz44_1 := blk_frozen BK548.out 1))
 go_roundg k1
 case measure => have := HK1.out; omega
 case rel => exact ⟨(wrap64 (x4_1 + 1)), (t552), (t555), (.slice Ao30 t552.length co30), (.slice Ao32 t555.length co32), vX, H', ⟨by have := HK1.out; omega⟩, ⟨by (with_reducible repeat (first|apply rA|apply rN|apply rD)); exact Kd.R_mono (Kd.R_far (p := ⟨gb548, 1, none⟩) (Kd.R_far (p := ⟨gb548, 0, none⟩) (Kd.R_types HO554.out BK548.out (by decide)) (fun _ hk => hk.2) (.slice Ao30 t552.length co30)) (fun _ hk => hk.2) (.slice Ao32 t555.length co32)) (fun _ hk => hk.1.2.1)⟩, ⟨by (with_reducible repeat (first|apply rA|apply rN|apply rD)); exact Kd.R_mono (Kd.R_far (p := ⟨gb548, 1, none⟩) (Kd.R_far (p := ⟨gb548, 0, none⟩) (Kd.R_types HO557.out BK548.out (by decide)) (fun _ hk => hk.2) (.slice Ao30 t552.length co30)) (fun _ hk => hk.2) (.slice Ao32 t555.length co32)) (fun _ hk => hk.1.2.1)⟩, ⟨by (with_reducible repeat (first|refine kN ?_ _|refine kD ?_|refine kA ?_ _)); refine blk_far ?_ NB537_548.out _; (with_reducible repeat (first|refine kN ?_ _|refine kD ?_|refine kA ?_ _)); refine blk_far ?_ NB537_548.out _; (with_reducible repeat (first|refine kN ?_ _|refine kD ?_|refine kA ?_ _)); exact BK537.out⟩, ⟨by (with_reducible repeat (first|refine kN ?_ _|refine kD ?_|refine kA ?_ _)); refine blk_far ?_ NB538_548.out _; (with_reducible repeat (first|refine kN ?_ _|refine kD ?_|refine kA ?_ _)); refine blk_far ?_ NB538_548.out _; (with_reducible repeat (first|refine kN ?_ _|refine kD ?_|refine kA ?_ _)); exact BK538.out⟩, ⟨by (with_reducible repeat (first|refine kN ?_ _|refine kD ?_|refine kA ?_ _)); refine blk_put (cs := #[.slice Ao30 t552.length co30, .slice Ao41 x549001_1.length co41]) ?_ 1 _ rfl; (with_reducible repeat (first|refine kN ?_ _|refine kD ?_|refine kA ?_ _)); refine blk_put (cs := #[.slice Ao40 x549000_1.length co40, .slice Ao41 x549001_1.length co41]) ?_ 0 _ rfl; (with_reducible repeat (first|refine kN ?_ _|refine kD ?_|refine kA ?_ _)); exact BK548.out⟩, ⟨by repeat (first | (with_reducible first | exact HB.out|apply bA|apply bN|apply bD | refine below_set ?_ GE537.out | refine below_set ?_ GE538.out | refine below_set ?_ GE548.out | refine below_set ?_ GE558.out) | exact HB.out)⟩⟩
 }
 {
 replace c20 := Bool.eq_false_iff.mpr c20
 subst c20
 have H1 : (spec_l03Canon.l0 k1 (wrap64 (x4_1 + 1)) l0_0 l0_1 x549000_1 x549001_1) = some (r1, r2) := by rw [if_neg (show ¬ (false = true) by decide)] at H; exact H
 clear H
 have H := H1
 clear H1
 have H' := Aside0.mk H
 clear H
 have hnb45 := NB537_538.out
 have hnc45 := NB538_537.out
 have hnb46 := NB537_548.out
 have hnc46 := NB548_537.out
 have hcz47_0 := cz20 BK537.out
 have hcz47_1 := cz21 BK537.out
 have hfz47_0 := blk_frozen BK537.out 0
 have hfz47_1 := blk_frozen BK537.out 1
 try go_wp2
 have n0_ := Aside0.mk (Kd.R_drew HO_549000.out)
 have n1_ := Aside0.mk (Kd.R_drew HO_549001.out)
 have n2_ := Aside0.mk (blk_drew BK537.out)
 have n3_ := Aside0.mk (blk_drew BK538.out)
 have n4_ := Aside0.mk (blk_drew BK548.out)
 have n5_ := Aside0.mk (below_drew1 HB.out)
 clear HO_549000 HO_549001 BK537 BK538 BK548 HB
 have HO_549000 := n0_
 have HO_549001 := n1_
 have BK537 := n2_
 have BK538 := n3_
 have BK548 := n4_
 have HB := n5_
 clear n0_ n1_ n2_ n3_ n4_ n5_
 refine start_ (n := 7) (S := fun w' => w'.cell? ⟨gb537, 0, none⟩ = some (.slice A0_0 l0_0.length c0_0) ∧ w'.cell? ⟨gb537, 1, none⟩ = some (.slice A0_1 l0_1.length c0_1)) (ds := []) #[false, false, false, false, false, false, false] (by kernel_rfl) rfl rfl ⟨cz20 BK537.out, cz21 BK537.out⟩ (fun hHeld => ?_)
 generalize wr.drew = w48 at HO_549000 HO_549001 BK537 BK538 BK548 HB hHeld ⊢
 refine pure_ (i := 2) (N := some 19) (v := ?_) (a' := ?_) #[false, false, true, false, false, false, false] rfl rfl (by kernel_rfl) (fun _ _ _ h => h) (Or.inl ⟨by rfl, ?_⟩) ?_ ?_
 rotate_left
 {
 intro w'
 go_simp
 with_reducible rfl
 }
 rotate_left
 {
 simp only [Act.put, zA, zB, zC, i64_w, i32_w]
 rfl
 }
 refine take_ (i := 0) (N := some 17) (v := ?_) (a' := ?_) #[true, false, true, false, false, false, false] rfl rfl (by kernel_rfl) (fun _ _ _ h => h) (Or.inl ⟨by rfl, ?_⟩) hHeld ?_ ?_
 rotate_left
 {
 rintro w' ⟨s0, s1⟩
 go_simp
 with_reducible rfl
 }
 rotate_left
 {
 simp only [Act.put, zA, zB, zC, i64_w, i32_w]
 rfl
 }
 refine take_ (i := 1) (N := some 18) (v := ?_) (a' := ?_) #[true, true, true, false, false, false, false] rfl rfl (by kernel_rfl) (fun _ _ _ h => h) (Or.inl ⟨by rfl, ?_⟩) hHeld ?_ ?_
 rotate_left
 {
 rintro w' ⟨s0, s1⟩
 go_simp
 with_reducible rfl
 }
 rotate_left
 {
 simp only [Act.put, zA, zB, zC, i64_w, i32_w]
 rfl
 }
 refine join_ (σ := Value × Value × Value × Nat) 1 #[true, true, true, true, true, true, false] (fun s_ => [(20, s_.1), (21, .agg #[s_.2.1, s_.2.2.1]), (5, .pointer (some ⟨s_.2.2.2, 0, none⟩))]) (fun s_ w' => (w'.cell? ⟨gb537, 0, none⟩ = some (.slice A0_0 l0_0.length c0_0) ∧ w'.cell? ⟨gb537, 1, none⟩ = some (.slice A0_1 l0_1.length c0_1)) ∧ (Kd.R (Kd.int .i64) 3 w' w.heap.size (fun k_ => some k_ ≠ (s_.2.1 : Value).ownBlock ∧ some k_ ≠ (s_.2.2.1 : Value).ownBlock ∧ some k_ ≠ (u549000 : Value).ownBlock ∧ some k_ ≠ (u549001 : Value).ownBlock) s_.1 t549) ∧ (Kd.R (Kd.int .i64) 3 w' w.heap.size (fun k_ => some k_ ≠ (s_.1 : Value).ownBlock ∧ some k_ ≠ (s_.2.2.1 : Value).ownBlock ∧ some k_ ≠ (u549000 : Value).ownBlock ∧ some k_ ≠ (u549001 : Value).ownBlock) s_.2.1 t552) ∧ (Kd.R (Kd.int .i64) 3 w' w.heap.size (fun k_ => some k_ ≠ (s_.1 : Value).ownBlock ∧ some k_ ≠ (s_.2.1 : Value).ownBlock ∧ some k_ ≠ (u549000 : Value).ownBlock ∧ some k_ ≠ (u549001 : Value).ownBlock) s_.2.2.1 t555) ∧ (Kd.R (Kd.int .i64) 3 w' w.heap.size (fun k_ => some k_ ≠ (s_.1 : Value).ownBlock ∧ some k_ ≠ (s_.2.1 : Value).ownBlock ∧ some k_ ≠ (s_.2.2.1 : Value).ownBlock ∧ some k_ ≠ (u549001 : Value).ownBlock) u549000 x549000_1) ∧ (Kd.R (Kd.int .i64) 3 w' w.heap.size (fun k_ => some k_ ≠ (s_.1 : Value).ownBlock ∧ some k_ ≠ (s_.2.1 : Value).ownBlock ∧ some k_ ≠ (s_.2.2.1 : Value).ownBlock ∧ some k_ ≠ (u549000 : Value).ownBlock) u549001 x549001_1) ∧ (w'.heap[gb537]? = some (.cells #[.slice A0_0 l0_0.length c0_0, .slice A0_1 l0_1.length c0_1] 25 (0, 0))) ∧ (w'.heap[gb538]? = some (.cells #[.slice none 0 0, .slice none 0 0] 25 (0, 0))) ∧ (w'.heap[gb548]? = some (.cells #[u549000, u549001] 25 (0, 0))) ∧ (w'.heap[s_.2.2.2]? = some (.cells #[.slice none 0 0, .slice none 0 0] 25 (0, 0))) ∧ (w.heap.size ≤ s_.2.2.2) ∧ (w.heap.size ≤ s_.2.2.2) ∧ (gb537 ≠ s_.2.2.2) ∧ (s_.2.2.2 ≠ gb537) ∧ (gb538 ≠ s_.2.2.2) ∧ (s_.2.2.2 ≠ gb538) ∧ (gb548 ≠ s_.2.2.2) ∧ (s_.2.2.2 ≠ gb548) ∧ (Below w.heap.size w w')) ?_ ?_
 rotate_left
 {
 intro hCont
 refine two_ (i := 3) (j := 5) (Ni := some 20) (Nj := some 5) #[true, true, true, true, false, false, false] #[true, true, true, false, false, true, false] rfl rfl rfl rfl (by kernel_rfl) (by decide) (by decide) (fun K hK => ?_) (fun K hK => ?_)
 {
 skip
 refine goes_ Tryz.func99 (by kernel_rfl) rfl #[.agg #[.slice A0_0 l0_0.length c0_0, .slice A0_1 l0_1.length c0_1], .int .i64 x4_1] (by rfl) rfl rfl aX ?_
 with_reducible refine (spec_l03Names.calls k1 _ _ l0_0 _ _ l0_1 x4_1 t549 _ ?side1 ?side2 ?side3 ?side4 A17.out).mono ?_
 (case side1 => exact cX (Kd.C_below HR0_0.out HB.out))
 (case side2 => exact HC0_0.out)
 (case side3 => exact cX (Kd.C_below HR0_1.out HB.out))
 (case side4 => exact HC0_1.out)
 rintro e w49 ⟨v550, rfl, ho0, hb⟩
 refine ⟨_, rfl, ?_⟩
 have n0_ := Aside0.mk (Kd.R_elder' (rX HO_549000.out) (Kd.R_base ho0) hb)
 have n1_ := Aside0.mk (Kd.R_elder' (rX HO_549001.out) (Kd.R_base ho0) hb)
 have n2_ := Aside0.mk (Kd.R_lower (Kd.R_new' (Kd.R_new' ho0 (Kd.R_lt (rX HO_549000.out))) (Kd.R_lt (rX HO_549001.out))) (below_size (bX3 HB.out GE537.out GE538.out GE548.out)))
 have n3_ := Aside0.mk (bbX BK537.out hb)
 have n4_ := Aside0.mk (bbX BK538.out hb)
 have n5_ := Aside0.mk (bbX BK548.out hb)
 have n6_ := Aside0.mk (below_step (bX3 HB.out GE537.out GE538.out GE548.out) hb)
 clear HO_549000 HO_549001 BK537 BK538 BK548 HB
 have HO_549000 := n0_
 have HO_549001 := n1_
 have HO551 := n2_
 have BK537 := n3_
 have BK538 := n4_
 have BK548 := n5_
 have HB := n6_
 clear n0_ n1_ n2_ n3_ n4_ n5_ n6_
 (try clear hb)
 (try clear hb2)
 (try clear hk)
 (try clear hi)
 (try clear ho0)
 obtain ⟨Ao50, co50, eo50⟩ := Kd.R_slice HO551.out
 (first | subst eo50 | (injection eo50 with f1_ f2_ f3_; have f4_ := f1_.symm; have f5_ := f3_.symm; clear f1_ f2_ f3_; subst f4_; subst f5_))
 refine hK.out _ _ ⟨cz20 BK537.out, cz21 BK537.out⟩ (fun hHeld => ?_)
 clear hK K
 refine norm_ (a' := ?_) ?_ ?_
 rotate_left
 {
 show Act.put _ (some 20) _ = _
 simp only [Act.put, zA, zB, zC, i64_w, i32_w]
 rfl
 }
 refine two_ (i := 4) (j := 5) (Ni := some 21) (Nj := some 5) #[true, true, true, true, true, false, false] #[true, true, true, true, false, true, false] rfl rfl rfl rfl (by kernel_rfl) (by decide) (by decide) (fun K hK => ?_) (fun K hK => ?_)
 {
 skip
 refine goes_ Tryz.func98 (by kernel_rfl) rfl #[.agg #[.slice A0_0 l0_0.length c0_0, .slice A0_1 l0_1.length c0_1], .slice Ao50 t549.length co50] (by rfl) rfl rfl aX ?_
 with_reducible refine (spec_l03Rename.calls k1 _ _ l0_0 _ _ l0_1 _ _ t549 t552 t555 _ ?side1 ?side2 ?side3 ?side4 ?side5 ?side6 A18.out).mono ?_
 (case side1 => exact cX (Kd.C_below HR0_0.out HB.out))
 (case side2 => exact HC0_0.out)
 (case side3 => exact cX (Kd.C_below HR0_1.out HB.out))
 (case side4 => exact HC0_1.out)
 (case side5 => exact cX (Kd.R_reads' HO551.out).2.2)
 (case side6 => exact (Kd.R_reads' HO551.out).2.1)
 rintro e w51 ⟨v553, v556, rfl, ho0, ho1, hb⟩
 refine ⟨_, rfl, ?_⟩
 have n0_ := Aside0.mk (Kd.R_mono (Kd.R_told (Kd.R_told (Kd.R_old (rX HO_549000.out) hb) (Kd.R_base ho0)) (Kd.R_base ho1)) (fun _ h_ => h_.1))
 have n1_ := Aside0.mk (Kd.R_mono (Kd.R_told (Kd.R_told (Kd.R_old (rX HO_549001.out) hb) (Kd.R_base ho0)) (Kd.R_base ho1)) (fun _ h_ => h_.1))
 have n2_ := Aside0.mk (Kd.R_mono (Kd.R_told (Kd.R_told (Kd.R_old (rX HO551.out) hb) (Kd.R_base ho0)) (Kd.R_base ho1)) (fun _ h_ => h_.1))
 have n3_ := Aside0.mk (Kd.R_lower (Kd.R_new' (Kd.R_new' (Kd.R_new' ho0 (Kd.R_lt (rX HO_549000.out))) (Kd.R_lt (rX HO_549001.out))) (Kd.R_lt (rX HO551.out))) (below_size (bX3 HB.out GE537.out GE538.out GE548.out)))
 have n4_ := Aside0.mk (Kd.R_lower (Kd.R_new' (Kd.R_new' (Kd.R_new' ho1 (Kd.R_lt (rX HO_549000.out))) (Kd.R_lt (rX HO_549001.out))) (Kd.R_lt (rX HO551.out))) (below_size (bX3 HB.out GE537.out GE538.out GE548.out)))
 have n5_ := Aside0.mk (bbX BK537.out hb)
 have n6_ := Aside0.mk (bbX BK538.out hb)
 have n7_ := Aside0.mk (bbX BK548.out hb)
 have n8_ := Aside0.mk (below_step (bX3 HB.out GE537.out GE538.out GE548.out) hb)
 clear HO_549000 HO_549001 HO551 BK537 BK538 BK548 HB
 have HO_549000 := n0_
 have HO_549001 := n1_
 have HO551 := n2_
 have HO554 := n3_
 have HO557 := n4_
 have BK537 := n5_
 have BK538 := n6_
 have BK548 := n7_
 have HB := n8_
 clear n0_ n1_ n2_ n3_ n4_ n5_ n6_ n7_ n8_
 (try clear hb)
 (try clear hb2)
 (try clear hk)
 (try clear hi)
 (try clear ho0)
 (try clear ho1)
 refine hK.out _ _ ⟨cz20 BK537.out, cz21 BK537.out⟩ (fun hHeld => ?_)
 clear hK K
 refine norm_ (a' := ?_) ?_ ?_
 rotate_left
 {
 show Act.put _ (some 21) _ = _
 simp only [Act.put, zA, zB, zC, i64_w, i32_w]
 rfl
 }
 refine one_ (i := 5) (N := some 5) #[true, true, true, true, true, true, false] rfl rfl (by kernel_rfl) (by decide) (fun K hK => ?_)
 refine box_step ?hg (N := 5) ?hd (cs := #[.slice none 0 0, .slice none 0 0]) (t := 25) ?hr ?_; (case hd => rfl); (case hg => rfl); (case hr => first | (go_simp; done) | (go_simp; rfl))
 intro gb558 hg w52 hbox hb
 have n0_ := Aside0.mk (Kd.R_below (rX HO_549000.out) hb)
 have n1_ := Aside0.mk (Kd.R_below (rX HO_549001.out) hb)
 have n2_ := Aside0.mk (Kd.R_below (rX HO551.out) hb)
 have n3_ := Aside0.mk (Kd.R_below (rX HO554.out) hb)
 have n4_ := Aside0.mk (Kd.R_below (rX HO557.out) hb)
 have n5_ := Aside0.mk (bbX BK537.out hb)
 have n6_ := Aside0.mk (bbX BK538.out hb)
 have n7_ := Aside0.mk (bbX BK548.out hb)
 have n8_ := Aside0.mk (below_step (bX3 HB.out GE537.out GE538.out GE548.out) hb)
 have n9_ := Aside0.mk (hbox)
 have n10_ := Aside0.mk ((szX (below_size (bX3 HB.out GE537.out GE538.out GE548.out)) hg : w.heap.size ≤ gb558))
 have n11_ := Aside0.mk ((szX (below_size (bX3 HB.out GE537.out GE538.out GE548.out)) hg : w.heap.size ≤ gb558))
 have n12_ := Aside0.mk (neX BK537.out hg)
 have n13_ := Aside0.mk (nfX BK537.out hg)
 have n14_ := Aside0.mk (neX BK538.out hg)
 have n15_ := Aside0.mk (nfX BK538.out hg)
 have n16_ := Aside0.mk (neX BK548.out hg)
 have n17_ := Aside0.mk (nfX BK548.out hg)
 clear HO_549000 HO_549001 HO551 HO554 HO557 BK537 BK538 BK548 HB
 have HO_549000 := n0_
 have HO_549001 := n1_
 have HO551 := n2_
 have HO554 := n3_
 have HO557 := n4_
 have BK537 := n5_
 have BK538 := n6_
 have BK548 := n7_
 have HB := n8_
 have BK558 := n9_
 have GW558 := n10_
 have GE558 := n11_
 have NB537_558 := n12_
 have NB558_537 := n13_
 have NB538_558 := n14_
 have NB558_538 := n15_
 have NB548_558 := n16_
 have NB558_548 := n17_
 clear n0_ n1_ n2_ n3_ n4_ n5_ n6_ n7_ n8_ n9_ n10_ n11_ n12_ n13_ n14_ n15_ n16_ n17_ hb hbox hg
 refine hK.out _ _ ⟨cz20 BK537.out, cz21 BK537.out⟩ (fun hHeld => ?_)
 clear hK K
 refine norm_ (a' := ?_) ?_ ?_
 rotate_left
 {
 show Act.put _ (some 5) _ = _
 simp only [Act.put, zA, zB, zC, i64_w, i32_w]
 rfl
 }
 exact norm_ (by simp only [putAll, Act.put, List.setIfInBounds_toArray, List.set_cons_zero, List.set_cons_succ]) (hCont (.slice Ao50 t549.length co50, v553, v556, gb558) _ ⟨hHeld, (rM HO551.out (fun _ hk => ⟨hk.1.2, ⟨hk.2, ⟨hk.1.1.1.2, hk.1.1.2⟩⟩⟩)), (rM HO554.out (fun _ hk => ⟨hk.2, ⟨hk.1.1.1, ⟨hk.1.1.2, hk.1.2⟩⟩⟩)), (rM HO557.out (fun _ hk => ⟨hk.2, ⟨hk.1.1.1, ⟨hk.1.1.2, hk.1.2⟩⟩⟩)), (rM HO_549000.out (fun _ hk => ⟨hk.1.1.2, ⟨hk.1.2, ⟨hk.2, hk.1.1.1⟩⟩⟩)), (rM HO_549001.out (fun _ hk => ⟨hk.1.1.2, ⟨hk.1.2, ⟨hk.2, hk.1.1.1⟩⟩⟩)), (kX BK537.out), (kX BK538.out), (kX BK548.out), (kX BK558.out), GW558.out, GE558.out, NB537_558.out, NB558_537.out, NB538_558.out, NB558_538.out, NB548_558.out, NB558_548.out, (by repeat (first | (with_reducible first | exact HB.out|apply bA|apply bN|apply bD | refine below_set ?_ GE537.out | refine below_set ?_ GE538.out | refine below_set ?_ GE548.out | refine below_set ?_ GE558.out) | exact HB.out))⟩)
 }
 {
 skip
 refine box_step ?hg (N := 5) ?hd (cs := #[.slice none 0 0, .slice none 0 0]) (t := 25) ?hr ?_; (case hd => rfl); (case hg => rfl); (case hr => first | (go_simp; done) | (go_simp; rfl))
 intro gb558 hg w50 hbox hb
 have n0_ := Aside0.mk (Kd.R_below (rX HO_549000.out) hb)
 have n1_ := Aside0.mk (Kd.R_below (rX HO_549001.out) hb)
 have n2_ := Aside0.mk (Kd.R_below (rX HO551.out) hb)
 have n3_ := Aside0.mk (bbX BK537.out hb)
 have n4_ := Aside0.mk (bbX BK538.out hb)
 have n5_ := Aside0.mk (bbX BK548.out hb)
 have n6_ := Aside0.mk (below_step (bX3 HB.out GE537.out GE538.out GE548.out) hb)
 have n7_ := Aside0.mk (hbox)
 have n8_ := Aside0.mk ((szX (below_size (bX3 HB.out GE537.out GE538.out GE548.out)) hg : w.heap.size ≤ gb558))
 have n9_ := Aside0.mk ((szX (below_size (bX3 HB.out GE537.out GE538.out GE548.out)) hg : w.heap.size ≤ gb558))
 have n10_ := Aside0.mk (neX BK537.out hg)
 have n11_ := Aside0.mk (nfX BK537.out hg)
 have n12_ := Aside0.mk (neX BK538.out hg)
 have n13_ := Aside0.mk (nfX BK538.out hg)
 have n14_ := Aside0.mk (neX BK548.out hg)
 have n15_ := Aside0.mk (nfX BK548.out hg)
 clear HO_549000 HO_549001 HO551 BK537 BK538 BK548 HB
 have HO_549000 := n0_
 have HO_549001 := n1_
 have HO551 := n2_
 have BK537 := n3_
 have BK538 := n4_
 have BK548 := n5_
 have HB := n6_
 have BK558 := n7_
 have GW558 := n8_
 have GE558 := n9_
 have NB537_558 := n10_
 have NB558_537 := n11_
 have NB538_558 := n12_
 have NB558_538 := n13_
 have NB548_558 := n14_
 have NB558_548 := n15_
 clear n0_ n1_ n2_ n3_ n4_ n5_ n6_ n7_ n8_ n9_ n10_ n11_ n12_ n13_ n14_ n15_ hb hbox hg
 obtain ⟨Ao51, co51, eo51⟩ := Kd.R_slice HO551.out
 (first | subst eo51 | (injection eo51 with f1_ f2_ f3_; have f4_ := f1_.symm; have f5_ := f3_.symm; clear f1_ f2_ f3_; subst f4_; subst f5_))
 refine hK.out _ _ ⟨cz20 BK537.out, cz21 BK537.out⟩ (fun hHeld => ?_)
 clear hK K
 refine norm_ (a' := ?_) ?_ ?_
 rotate_left
 {
 show Act.put _ (some 5) _ = _
 simp only [Act.put, zA, zB, zC, i64_w, i32_w]
 rfl
 }
 refine one_ (i := 4) (N := some 21) #[true, true, true, true, true, true, false] rfl rfl (by kernel_rfl) (by decide) (fun K hK => ?_)
 refine goes_ Tryz.func98 (by kernel_rfl) rfl #[.agg #[.slice A0_0 l0_0.length c0_0, .slice A0_1 l0_1.length c0_1], .slice Ao51 t549.length co51] (by rfl) rfl rfl aX ?_
 with_reducible refine (spec_l03Rename.calls k1 _ _ l0_0 _ _ l0_1 _ _ t549 t552 t555 _ ?side1 ?side2 ?side3 ?side4 ?side5 ?side6 A18.out).mono ?_
 (case side1 => exact cX (Kd.C_below HR0_0.out HB.out))
 (case side2 => exact HC0_0.out)
 (case side3 => exact cX (Kd.C_below HR0_1.out HB.out))
 (case side4 => exact HC0_1.out)
 (case side5 => exact cX (Kd.R_reads' HO551.out).2.2)
 (case side6 => exact (Kd.R_reads' HO551.out).2.1)
 rintro e w52 ⟨v553, v556, rfl, ho0, ho1, hb⟩
 refine ⟨_, rfl, ?_⟩
 have n0_ := Aside0.mk (Kd.R_mono (Kd.R_told (Kd.R_told (Kd.R_old (rX HO_549000.out) hb) (Kd.R_base ho0)) (Kd.R_base ho1)) (fun _ h_ => h_.1))
 have n1_ := Aside0.mk (Kd.R_mono (Kd.R_told (Kd.R_told (Kd.R_old (rX HO_549001.out) hb) (Kd.R_base ho0)) (Kd.R_base ho1)) (fun _ h_ => h_.1))
 have n2_ := Aside0.mk (Kd.R_mono (Kd.R_told (Kd.R_told (Kd.R_old (rX HO551.out) hb) (Kd.R_base ho0)) (Kd.R_base ho1)) (fun _ h_ => h_.1))
 have n3_ := Aside0.mk (Kd.R_lower (Kd.R_new' (Kd.R_new' (Kd.R_new' ho0 (Kd.R_lt (rX HO_549000.out))) (Kd.R_lt (rX HO_549001.out))) (Kd.R_lt (rX HO551.out))) (below_size (by repeat (first | (with_reducible first | exact HB.out|apply bA|apply bN|apply bD | refine below_set ?_ GE537.out | refine below_set ?_ GE538.out | refine below_set ?_ GE548.out | refine below_set ?_ GE558.out) | exact HB.out))))
 have n4_ := Aside0.mk (Kd.R_lower (Kd.R_new' (Kd.R_new' (Kd.R_new' ho1 (Kd.R_lt (rX HO_549000.out))) (Kd.R_lt (rX HO_549001.out))) (Kd.R_lt (rX HO551.out))) (below_size (by repeat (first | (with_reducible first | exact HB.out|apply bA|apply bN|apply bD | refine below_set ?_ GE537.out | refine below_set ?_ GE538.out | refine below_set ?_ GE548.out | refine below_set ?_ GE558.out) | exact HB.out))))
 have n5_ := Aside0.mk (bbX BK537.out hb)
 have n6_ := Aside0.mk (bbX BK538.out hb)
 have n7_ := Aside0.mk (bbX BK548.out hb)
 have n8_ := Aside0.mk (bbX BK558.out hb)
 have n9_ := Aside0.mk (below_step (by repeat (first | (with_reducible first | exact HB.out|apply bA|apply bN|apply bD | refine below_set ?_ GE537.out | refine below_set ?_ GE538.out | refine below_set ?_ GE548.out | refine below_set ?_ GE558.out) | exact HB.out)) hb)
 clear HO_549000 HO_549001 HO551 BK537 BK538 BK548 BK558 HB
 have HO_549000 := n0_
 have HO_549001 := n1_
 have HO551 := n2_
 have HO554 := n3_
 have HO557 := n4_
 have BK537 := n5_
 have BK538 := n6_
 have BK548 := n7_
 have BK558 := n8_
 have HB := n9_
 clear n0_ n1_ n2_ n3_ n4_ n5_ n6_ n7_ n8_ n9_
 (try clear hb)
 (try clear hb2)
 (try clear hk)
 (try clear hi)
 (try clear ho0)
 (try clear ho1)
 refine hK.out _ _ ⟨cz20 BK537.out, cz21 BK537.out⟩ (fun hHeld => ?_)
 clear hK K
 refine norm_ (a' := ?_) ?_ ?_
 rotate_left
 {
 show Act.put _ (some 21) _ = _
 simp only [Act.put, zA, zB, zC, i64_w, i32_w]
 rfl
 }
 exact norm_ (by simp only [putAll, Act.put, List.setIfInBounds_toArray, List.set_cons_zero, List.set_cons_succ]) (hCont (.slice Ao51 t549.length co51, v553, v556, gb558) _ ⟨hHeld, (rM HO551.out (fun _ hk => ⟨hk.1.2, ⟨hk.2, ⟨hk.1.1.1.2, hk.1.1.2⟩⟩⟩)), (rM HO554.out (fun _ hk => ⟨hk.2, ⟨hk.1.1.1, ⟨hk.1.1.2, hk.1.2⟩⟩⟩)), (rM HO557.out (fun _ hk => ⟨hk.2, ⟨hk.1.1.1, ⟨hk.1.1.2, hk.1.2⟩⟩⟩)), (rM HO_549000.out (fun _ hk => ⟨hk.1.1.2, ⟨hk.1.2, ⟨hk.2, hk.1.1.1⟩⟩⟩)), (rM HO_549001.out (fun _ hk => ⟨hk.1.1.2, ⟨hk.1.2, ⟨hk.2, hk.1.1.1⟩⟩⟩)), (kX BK537.out), (kX BK538.out), (kX BK548.out), (kX BK558.out), GW558.out, GE558.out, NB537_558.out, NB558_537.out, NB538_558.out, NB558_538.out, NB548_558.out, NB558_548.out, (by repeat (first | (with_reducible first | exact HB.out|apply bA|apply bN|apply bD | refine below_set ?_ GE537.out | refine below_set ?_ GE538.out | refine below_set ?_ GE548.out | refine below_set ?_ GE558.out) | exact HB.out))⟩)
 }
 }
 {
 skip
 refine box_step ?hg (N := 5) ?hd (cs := #[.slice none 0 0, .slice none 0 0]) (t := 25) ?hr ?_; (case hd => rfl); (case hg => rfl); (case hr => first | (go_simp; done) | (go_simp; rfl))
 intro gb558 hg w49 hbox hb
 have n0_ := Aside0.mk (Kd.R_below (rX HO_549000.out) hb)
 have n1_ := Aside0.mk (Kd.R_below (rX HO_549001.out) hb)
 have n2_ := Aside0.mk (bbX BK537.out hb)
 have n3_ := Aside0.mk (bbX BK538.out hb)
 have n4_ := Aside0.mk (bbX BK548.out hb)
 have n5_ := Aside0.mk (below_step (bX3 HB.out GE537.out GE538.out GE548.out) hb)
 have n6_ := Aside0.mk (hbox)
 have n7_ := Aside0.mk ((szX (below_size (bX3 HB.out GE537.out GE538.out GE548.out)) hg : w.heap.size ≤ gb558))
 have n8_ := Aside0.mk ((szX (below_size (bX3 HB.out GE537.out GE538.out GE548.out)) hg : w.heap.size ≤ gb558))
 have n9_ := Aside0.mk (neX BK537.out hg)
 have n10_ := Aside0.mk (nfX BK537.out hg)
 have n11_ := Aside0.mk (neX BK538.out hg)
 have n12_ := Aside0.mk (nfX BK538.out hg)
 have n13_ := Aside0.mk (neX BK548.out hg)
 have n14_ := Aside0.mk (nfX BK548.out hg)
 clear HO_549000 HO_549001 BK537 BK538 BK548 HB
 have HO_549000 := n0_
 have HO_549001 := n1_
 have BK537 := n2_
 have BK538 := n3_
 have BK548 := n4_
 have HB := n5_
 have BK558 := n6_
 have GW558 := n7_
 have GE558 := n8_
 have NB537_558 := n9_
 have NB558_537 := n10_
 have NB538_558 := n11_
 have NB558_538 := n12_
 have NB548_558 := n13_
 have NB558_548 := n14_
 clear n0_ n1_ n2_ n3_ n4_ n5_ n6_ n7_ n8_ n9_ n10_ n11_ n12_ n13_ n14_ hb hbox hg
 refine hK.out _ _ ⟨cz20 BK537.out, cz21 BK537.out⟩ (fun hHeld => ?_)
 clear hK K
 refine norm_ (a' := ?_) ?_ ?_
 rotate_left
 {
 show Act.put _ (some 5) _ = _
 simp only [Act.put, zA, zB, zC, i64_w, i32_w]
 rfl
 }
 refine one_ (i := 3) (N := some 20) #[true, true, true, true, false, true, false] rfl rfl (by kernel_rfl) (by decide) (fun K hK => ?_)
 refine goes_ Tryz.func99 (by kernel_rfl) rfl #[.agg #[.slice A0_0 l0_0.length c0_0, .slice A0_1 l0_1.length c0_1], .int .i64 x4_1] (by rfl) rfl rfl aX ?_
 with_reducible refine (spec_l03Names.calls k1 _ _ l0_0 _ _ l0_1 x4_1 t549 _ ?side1 ?side2 ?side3 ?side4 A17.out).mono ?_
 (case side1 => exact cX (Kd.C_below HR0_0.out HB.out))
 (case side2 => exact HC0_0.out)
 (case side3 => exact cX (Kd.C_below HR0_1.out HB.out))
 (case side4 => exact HC0_1.out)
 rintro e w50 ⟨v550, rfl, ho0, hb⟩
 refine ⟨_, rfl, ?_⟩
 have n0_ := Aside0.mk (Kd.R_elder' (rX HO_549000.out) (Kd.R_base ho0) hb)
 have n1_ := Aside0.mk (Kd.R_elder' (rX HO_549001.out) (Kd.R_base ho0) hb)
 have n2_ := Aside0.mk (Kd.R_lower (Kd.R_new' (Kd.R_new' ho0 (Kd.R_lt (rX HO_549000.out))) (Kd.R_lt (rX HO_549001.out))) (below_size (by repeat (first | (with_reducible first | exact HB.out|apply bA|apply bN|apply bD | refine below_set ?_ GE537.out | refine below_set ?_ GE538.out | refine below_set ?_ GE548.out | refine below_set ?_ GE558.out) | exact HB.out))))
 have n3_ := Aside0.mk (bbX BK537.out hb)
 have n4_ := Aside0.mk (bbX BK538.out hb)
 have n5_ := Aside0.mk (bbX BK548.out hb)
 have n6_ := Aside0.mk (bbX BK558.out hb)
 have n7_ := Aside0.mk (below_step (by repeat (first | (with_reducible first | exact HB.out|apply bA|apply bN|apply bD | refine below_set ?_ GE537.out | refine below_set ?_ GE538.out | refine below_set ?_ GE548.out | refine below_set ?_ GE558.out) | exact HB.out)) hb)
 clear HO_549000 HO_549001 BK537 BK538 BK548 BK558 HB
 have HO_549000 := n0_
 have HO_549001 := n1_
 have HO551 := n2_
 have BK537 := n3_
 have BK538 := n4_
 have BK548 := n5_
 have BK558 := n6_
 have HB := n7_
 clear n0_ n1_ n2_ n3_ n4_ n5_ n6_ n7_
 (try clear hb)
 (try clear hb2)
 (try clear hk)
 (try clear hi)
 (try clear ho0)
 obtain ⟨Ao51, co51, eo51⟩ := Kd.R_slice HO551.out
 (first | subst eo51 | (injection eo51 with f1_ f2_ f3_; have f4_ := f1_.symm; have f5_ := f3_.symm; clear f1_ f2_ f3_; subst f4_; subst f5_))
 refine hK.out _ _ ⟨cz20 BK537.out, cz21 BK537.out⟩ (fun hHeld => ?_)
 clear hK K
 refine norm_ (a' := ?_) ?_ ?_
 rotate_left
 {
 show Act.put _ (some 20) _ = _
 simp only [Act.put, zA, zB, zC, i64_w, i32_w]
 rfl
 }
 refine one_ (i := 4) (N := some 21) #[true, true, true, true, true, true, false] rfl rfl (by kernel_rfl) (by decide) (fun K hK => ?_)
 refine goes_ Tryz.func98 (by kernel_rfl) rfl #[.agg #[.slice A0_0 l0_0.length c0_0, .slice A0_1 l0_1.length c0_1], .slice Ao51 t549.length co51] (by rfl) rfl rfl aX ?_
 with_reducible refine (spec_l03Rename.calls k1 _ _ l0_0 _ _ l0_1 _ _ t549 t552 t555 _ ?side1 ?side2 ?side3 ?side4 ?side5 ?side6 A18.out).mono ?_
 (case side1 => exact cX (Kd.C_below HR0_0.out HB.out))
 (case side2 => exact HC0_0.out)
 (case side3 => exact cX (Kd.C_below HR0_1.out HB.out))
 (case side4 => exact HC0_1.out)
 (case side5 => exact cX (Kd.R_reads' HO551.out).2.2)
 (case side6 => exact (Kd.R_reads' HO551.out).2.1)
 rintro e w52 ⟨v553, v556, rfl, ho0, ho1, hb⟩
 refine ⟨_, rfl, ?_⟩
 have n0_ := Aside0.mk (Kd.R_mono (Kd.R_told (Kd.R_told (Kd.R_old (rX HO_549000.out) hb) (Kd.R_base ho0)) (Kd.R_base ho1)) (fun _ h_ => h_.1))
 have n1_ := Aside0.mk (Kd.R_mono (Kd.R_told (Kd.R_told (Kd.R_old (rX HO_549001.out) hb) (Kd.R_base ho0)) (Kd.R_base ho1)) (fun _ h_ => h_.1))
 have n2_ := Aside0.mk (Kd.R_mono (Kd.R_told (Kd.R_told (Kd.R_old (rX HO551.out) hb) (Kd.R_base ho0)) (Kd.R_base ho1)) (fun _ h_ => h_.1))
 have n3_ := Aside0.mk (Kd.R_lower (Kd.R_new' (Kd.R_new' (Kd.R_new' ho0 (Kd.R_lt (rX HO_549000.out))) (Kd.R_lt (rX HO_549001.out))) (Kd.R_lt (rX HO551.out))) (below_size (by repeat (first | (with_reducible first | exact HB.out|apply bA|apply bN|apply bD | refine below_set ?_ GE537.out | refine below_set ?_ GE538.out | refine below_set ?_ GE548.out | refine below_set ?_ GE558.out) | exact HB.out))))
 have n4_ := Aside0.mk (Kd.R_lower (Kd.R_new' (Kd.R_new' (Kd.R_new' ho1 (Kd.R_lt (rX HO_549000.out))) (Kd.R_lt (rX HO_549001.out))) (Kd.R_lt (rX HO551.out))) (below_size (by repeat (first | (with_reducible first | exact HB.out|apply bA|apply bN|apply bD | refine below_set ?_ GE537.out | refine below_set ?_ GE538.out | refine below_set ?_ GE548.out | refine below_set ?_ GE558.out) | exact HB.out))))
 have n5_ := Aside0.mk (bbX BK537.out hb)
 have n6_ := Aside0.mk (bbX BK538.out hb)
 have n7_ := Aside0.mk (bbX BK548.out hb)
 have n8_ := Aside0.mk (bbX BK558.out hb)
 have n9_ := Aside0.mk (below_step (by repeat (first | (with_reducible first | exact HB.out|apply bA|apply bN|apply bD | refine below_set ?_ GE537.out | refine below_set ?_ GE538.out | refine below_set ?_ GE548.out | refine below_set ?_ GE558.out) | exact HB.out)) hb)
 clear HO_549000 HO_549001 HO551 BK537 BK538 BK548 BK558 HB
 have HO_549000 := n0_
 have HO_549001 := n1_
 have HO551 := n2_
 have HO554 := n3_
 have HO557 := n4_
 have BK537 := n5_
 have BK538 := n6_
 have BK548 := n7_
 have BK558 := n8_
 have HB := n9_
 clear n0_ n1_ n2_ n3_ n4_ n5_ n6_ n7_ n8_ n9_
 (try clear hb)
 (try clear hb2)
 (try clear hk)
 (try clear hi)
 (try clear ho0)
 (try clear ho1)
 refine hK.out _ _ ⟨cz20 BK537.out, cz21 BK537.out⟩ (fun hHeld => ?_)
 clear hK K
 refine norm_ (a' := ?_) ?_ ?_
 rotate_left
 {
 show Act.put _ (some 21) _ = _
 simp only [Act.put, zA, zB, zC, i64_w, i32_w]
 rfl
 }
 exact norm_ (by simp only [putAll, Act.put, List.setIfInBounds_toArray, List.set_cons_zero, List.set_cons_succ]) (hCont (.slice Ao51 t549.length co51, v553, v556, gb558) _ ⟨hHeld, (rM HO551.out (fun _ hk => ⟨hk.1.2, ⟨hk.2, ⟨hk.1.1.1.2, hk.1.1.2⟩⟩⟩)), (rM HO554.out (fun _ hk => ⟨hk.2, ⟨hk.1.1.1, ⟨hk.1.1.2, hk.1.2⟩⟩⟩)), (rM HO557.out (fun _ hk => ⟨hk.2, ⟨hk.1.1.1, ⟨hk.1.1.2, hk.1.2⟩⟩⟩)), (rM HO_549000.out (fun _ hk => ⟨hk.1.1.2, ⟨hk.1.2, ⟨hk.2, hk.1.1.1⟩⟩⟩)), (rM HO_549001.out (fun _ hk => ⟨hk.1.1.2, ⟨hk.1.2, ⟨hk.2, hk.1.1.1⟩⟩⟩)), (kX BK537.out), (kX BK538.out), (kX BK548.out), (kX BK558.out), GW558.out, GE558.out, NB537_558.out, NB558_537.out, NB538_558.out, NB558_538.out, NB548_558.out, NB558_548.out, (by repeat (first | (with_reducible first | exact HB.out|apply bA|apply bN|apply bD | refine below_set ?_ GE537.out | refine below_set ?_ GE538.out | refine below_set ?_ GE548.out | refine below_set ?_ GE558.out) | exact HB.out))⟩)
 }
 }
 rintro ⟨v550, v553, v556, gb558⟩ w53 ⟨hS_, h0_, h1_, h2_, h3_, h4_, h5_, h6_, h7_, h8_, h9_, h10_, h11_, h12_, h13_, h14_, h15_, h16_, h17_⟩
 have n0_ : Aside0 (Kd.R (Kd.int .i64) 3 w53 w.heap.size (fun k_ => some k_ ≠ (v553 : Value).ownBlock ∧ some k_ ≠ (v556 : Value).ownBlock ∧ some k_ ≠ (u549000 : Value).ownBlock ∧ some k_ ≠ (u549001 : Value).ownBlock) v550 t549) := ⟨h0_⟩
 have n1_ : Aside0 (Kd.R (Kd.int .i64) 3 w53 w.heap.size (fun k_ => some k_ ≠ (v550 : Value).ownBlock ∧ some k_ ≠ (v556 : Value).ownBlock ∧ some k_ ≠ (u549000 : Value).ownBlock ∧ some k_ ≠ (u549001 : Value).ownBlock) v553 t552) := ⟨h1_⟩
 have n2_ : Aside0 (Kd.R (Kd.int .i64) 3 w53 w.heap.size (fun k_ => some k_ ≠ (v550 : Value).ownBlock ∧ some k_ ≠ (v553 : Value).ownBlock ∧ some k_ ≠ (u549000 : Value).ownBlock ∧ some k_ ≠ (u549001 : Value).ownBlock) v556 t555) := ⟨h2_⟩
 have n3_ : Aside0 (Kd.R (Kd.int .i64) 3 w53 w.heap.size (fun k_ => some k_ ≠ (v550 : Value).ownBlock ∧ some k_ ≠ (v553 : Value).ownBlock ∧ some k_ ≠ (v556 : Value).ownBlock ∧ some k_ ≠ (u549001 : Value).ownBlock) u549000 x549000_1) := ⟨h3_⟩
 have n4_ : Aside0 (Kd.R (Kd.int .i64) 3 w53 w.heap.size (fun k_ => some k_ ≠ (v550 : Value).ownBlock ∧ some k_ ≠ (v553 : Value).ownBlock ∧ some k_ ≠ (v556 : Value).ownBlock ∧ some k_ ≠ (u549000 : Value).ownBlock) u549001 x549001_1) := ⟨h4_⟩
 have n5_ : Aside0 (w53.heap[gb537]? = some (.cells #[.slice A0_0 l0_0.length c0_0, .slice A0_1 l0_1.length c0_1] 25 (0, 0))) := ⟨h5_⟩
 have n6_ : Aside0 (w53.heap[gb538]? = some (.cells #[.slice none 0 0, .slice none 0 0] 25 (0, 0))) := ⟨h6_⟩
 have n7_ : Aside0 (w53.heap[gb548]? = some (.cells #[u549000, u549001] 25 (0, 0))) := ⟨h7_⟩
 have n8_ : Aside0 (w53.heap[gb558]? = some (.cells #[.slice none 0 0, .slice none 0 0] 25 (0, 0))) := ⟨h8_⟩
 have n9_ : Aside0 (w.heap.size ≤ gb558) := ⟨h9_⟩
 have n10_ : Aside0 (w.heap.size ≤ gb558) := ⟨h10_⟩
 have n11_ : Aside0 (gb537 ≠ gb558) := ⟨h11_⟩
 have n12_ : Aside0 (gb558 ≠ gb537) := ⟨h12_⟩
 have n13_ : Aside0 (gb538 ≠ gb558) := ⟨h13_⟩
 have n14_ : Aside0 (gb558 ≠ gb538) := ⟨h14_⟩
 have n15_ : Aside0 (gb548 ≠ gb558) := ⟨h15_⟩
 have n16_ : Aside0 (gb558 ≠ gb548) := ⟨h16_⟩
 have n17_ : Aside0 (Below w.heap.size w w53) := ⟨h17_⟩
 clear HO_549000 HO_549001 BK537 BK538 BK548 HB h0_ h1_ h2_ h3_ h4_ h5_ h6_ h7_ h8_ h9_ h10_ h11_ h12_ h13_ h14_ h15_ h16_ h17_
 have HO551 := n0_
 have HO554 := n1_
 have HO557 := n2_
 have HO_549000 := n3_
 have HO_549001 := n4_
 have BK537 := n5_
 have BK538 := n6_
 have BK548 := n7_
 have BK558 := n8_
 have GW558 := n9_
 have GE558 := n10_
 have NB537_558 := n11_
 have NB558_537 := n12_
 have NB538_558 := n13_
 have NB558_538 := n14_
 have NB548_558 := n15_
 have NB558_548 := n16_
 have HB := n17_
 clear n0_ n1_ n2_ n3_ n4_ n5_ n6_ n7_ n8_ n9_ n10_ n11_ n12_ n13_ n14_ n15_ n16_ n17_
 have hHeld : w53.cell? ⟨gb537, 0, none⟩ = some (.slice A0_0 l0_0.length c0_0) ∧ w53.cell? ⟨gb537, 1, none⟩ = some (.slice A0_1 l0_1.length c0_1) := hS_
 obtain ⟨Ao54, co54, eo54⟩ := Kd.R_slice HO554.out
 (first | subst eo54 | (injection eo54 with f1_ f2_ f3_; have f4_ := f1_.symm; have f5_ := f3_.symm; clear f1_ f2_ f3_; subst f4_; subst f5_))
 obtain ⟨Ao56, co56, eo56⟩ := Kd.R_slice HO557.out
 (first | subst eo56 | (injection eo56 with f1_ f2_ f3_; have f4_ := f1_.symm; have f5_ := f3_.symm; clear f1_ f2_ f3_; subst f4_; subst f5_))
 refine norm_ (a' := ?_) ?_ ?_
 rotate_left
 {
 simp only [putAll, Act.put, List.setIfInBounds_toArray, List.set_cons_zero, List.set_cons_succ]
 rfl
 }
 refine one_ (i := 6) (N := none) #[true, true, true, true, true, true, true] rfl rfl (by kernel_rfl) (by decide) (fun K hK => ?_)
 have hs55 : w53.cell? ⟨gb558, 0, none⟩ = some (.slice none 0 0) := cz20 BK558.out
 have hfs55 := blk_frozen BK558.out 0
 have hns55_0 := NB537_558.out
 have hns55_1 := NB538_558.out
 have hns55_2 := NB548_558.out
 have hms55_0 := NB558_537.out
 have hms55_1 := NB558_538.out
 have hms55_2 := NB558_548.out
 have hs57 : w53.cell? ⟨gb558, 1, none⟩ = some (.slice none 0 0) := cz21 BK558.out
 have hfs57 := blk_frozen BK558.out 1
 have hns57_0 := NB537_558.out
 have hns57_1 := NB538_558.out
 have hns57_2 := NB548_558.out
 have hms57_0 := NB558_537.out
 have hms57_1 := NB558_538.out
 have hms57_2 := NB558_548.out
 refine skip_ (w1 := ?_) (by rfl) rfl ?_ ?_
 rotate_left
 {
 go_simp
 rfl
 }
 refine hK.out _ _ ⟨((cell_far (p := ⟨gb558, _, none⟩) NB537_558.out _).trans (((cell_far (p := ⟨gb558, _, none⟩) NB537_558.out _).trans (hHeld.1)))), ((cell_far (p := ⟨gb558, _, none⟩) NB537_558.out _).trans (((cell_far (p := ⟨gb558, _, none⟩) NB537_558.out _).trans (hHeld.2))))⟩ (fun hHeld => ?_)
 clear hK K
 refine done_ (by kernel_rfl) ?_
 have hnb58 := NB558_537.out
 have hnc58 := NB537_558.out
 have hnb59 := NB558_538.out
 have hnc59 := NB538_558.out
 have hnb60 := NB558_548.out
 have hnc60 := NB548_558.out
 have hcz61_0 := cz20 BK558.out
 have hcz61_1 := cz21 BK558.out
 have hfz61_0 := blk_frozen BK558.out 0
 have hfz61_1 := blk_frozen BK558.out 1
 have hnb62 := NB548_538.out
 have hnc62 := NB538_548.out
 have hcz63_0 := cz20 BK548.out
 have hcz63_1 := cz21 BK548.out
 have hfz63_0 := blk_frozen BK548.out 0
 have hfz63_1 := blk_frozen BK548.out 1
 obtain ⟨Ao64, co64, eo64⟩ := Kd.R_slice HO_549000.out
 subst eo64
 obtain ⟨Ao65, co65, eo65⟩ := Kd.R_slice HO_549001.out
 subst eo65
 try go_wp2_with (first | ((with_reducible refine gate_callee (f := 129) rfl ?_); refine goesL_ (some 24) rfl rfl Tryz.func129 (by kernel_rfl) rfl #[.agg #[.slice Ao54 t552.length co54, .slice Ao56 t555.length co56], .agg #[.slice Ao64 x549000_1.length co64, .slice Ao65 x549001_1.length co65]] rfl aX ?_; (with_reducible refine (spec_l03Before.calls k1 _ _ t552 _ _ t555 _ _ x549000_1 _ _ x549001_1 false _ ?side1 ?side2 ?side3 ?side4 ?side5 ?side6 ?side7 ?side8 A19.out).mono ?_); (case side1 => exact rcX (fr2 HO554.out BK558.out (.slice Ao54 t552.length co54) (.slice Ao56 t555.length co56))); (case side2 => exact (Kd.R_reads' HO554.out).2.1); (case side3 => exact rcX (fr2 HO557.out BK558.out (.slice Ao54 t552.length co54) (.slice Ao56 t555.length co56))); (case side4 => exact (Kd.R_reads' HO557.out).2.1); (case side5 => exact rcX (fr2 HO_549000.out BK558.out (.slice Ao54 t552.length co54) (.slice Ao56 t555.length co56))); (case side6 => exact (Kd.R_reads' HO_549000.out).2.1); (case side7 => exact rcX (fr2 HO_549001.out BK558.out (.slice Ao54 t552.length co54) (.slice Ao56 t555.length co56))); (case side8 => exact (Kd.R_reads' HO_549001.out).2.1); rintro e w66 ⟨rfl, hb⟩; refine ⟨_, rfl, ?_⟩; have n0_ := Aside0.mk (Kd.R_below (rX (fr2 HO_549000.out BK558.out (.slice Ao54 t552.length co54) (.slice Ao56 t555.length co56))) hb); have n1_ := Aside0.mk (Kd.R_below (rX (fr2 HO_549001.out BK558.out (.slice Ao54 t552.length co54) (.slice Ao56 t555.length co56))) hb); have n2_ := Aside0.mk (Kd.R_below (rX (fr2 HO551.out BK558.out (.slice Ao54 t552.length co54) (.slice Ao56 t555.length co56))) hb); have n3_ := Aside0.mk (Kd.R_below (rX (fr2 HO554.out BK558.out (.slice Ao54 t552.length co54) (.slice Ao56 t555.length co56))) hb); have n4_ := Aside0.mk (Kd.R_below (rX (fr2 HO557.out BK558.out (.slice Ao54 t552.length co54) (.slice Ao56 t555.length co56))) hb); have n5_ := Aside0.mk (blk_below (g := gb537) (o := .cells #[.slice A0_0 l0_0.length c0_0, .slice A0_1 l0_1.length c0_1] 25 (0, 0)) (by (with_reducible repeat (first|refine kN ?_ _|refine kD ?_|refine kA ?_ _)); refine blk_far ?_ NB537_558.out _; (with_reducible repeat (first|refine kN ?_ _|refine kD ?_|refine kA ?_ _)); refine blk_far ?_ NB537_558.out _; (with_reducible repeat (first|refine kN ?_ _|refine kD ?_|refine kA ?_ _)); exact BK537.out) hb); have n6_ := Aside0.mk (blk_below (g := gb538) (o := .cells #[.slice none 0 0, .slice none 0 0] 25 (0, 0)) (by (with_reducible repeat (first|refine kN ?_ _|refine kD ?_|refine kA ?_ _)); refine blk_far ?_ NB538_558.out _; (with_reducible repeat (first|refine kN ?_ _|refine kD ?_|refine kA ?_ _)); refine blk_far ?_ NB538_558.out _; (with_reducible repeat (first|refine kN ?_ _|refine kD ?_|refine kA ?_ _)); exact BK538.out) hb); have n7_ := Aside0.mk (blk_below (g := gb548) (o := .cells #[.slice Ao64 x549000_1.length co64, .slice Ao65 x549001_1.length co65] 25 (0, 0)) (by (with_reducible repeat (first|refine kN ?_ _|refine kD ?_|refine kA ?_ _)); refine blk_far ?_ NB548_558.out _; (with_reducible repeat (first|refine kN ?_ _|refine kD ?_|refine kA ?_ _)); refine blk_far ?_ NB548_558.out _; (with_reducible repeat (first|refine kN ?_ _|refine kD ?_|refine kA ?_ _)); exact BK548.out) hb); have n8_ := Aside0.mk (blk_below (g := gb558) (o := .cells #[.slice Ao54 t552.length co54, .slice Ao56 t555.length co56] 25 (0, 0)) (by (with_reducible repeat (first|refine kN ?_ _|refine kD ?_|refine kA ?_ _)); refine blk_put (cs := #[.slice Ao54 t552.length co54, .slice none 0 0]) ?_ 1 _ rfl; (with_reducible repeat (first|refine kN ?_ _|refine kD ?_|refine kA ?_ _)); refine blk_put (cs := #[.slice none 0 0, .slice none 0 0]) ?_ 0 _ rfl; (with_reducible repeat (first|refine kN ?_ _|refine kD ?_|refine kA ?_ _)); exact BK558.out) hb); have n9_ := Aside0.mk (below_step (by repeat (first | (with_reducible first | exact HB.out|apply bA|apply bN|apply bD | refine below_set ?_ GE537.out | refine below_set ?_ GE538.out | refine below_set ?_ GE548.out | refine below_set ?_ GE558.out) | exact HB.out)) hb); clear HO_549000 HO_549001 HO551 HO554 HO557 BK537 BK538 BK548 BK558 HB; have HO_549000 := n0_; have HO_549001 := n1_; have HO551 := n2_; have HO554 := n3_; have HO557 := n4_; have BK537 := n5_; have BK538 := n6_; have BK548 := n7_; have BK558 := n8_; have HB := n9_; clear n0_ n1_ n2_ n3_ n4_ n5_ n6_ n7_ n8_ n9_; (try clear hb); (try clear hb2); (try clear hk); (try clear hi)))
 go_roundg k1
 case measure => have := HK1.out; omega
 case rel => exact ⟨(wrap64 (x4_1 + 1)), (x549000_1), (x549001_1), (.slice Ao64 x549000_1.length co64), (.slice Ao65 x549001_1.length co65), vX, H', ⟨by have := HK1.out; omega⟩, ⟨rM HO_549000.out (fun _ hk => hk.2.2.2)⟩, ⟨rM HO_549001.out (fun _ hk => hk.2.2.2)⟩, ⟨kX BK537.out⟩, ⟨kX BK538.out⟩, ⟨kX BK548.out⟩, ⟨by repeat (first | (with_reducible first | exact HB.out|apply bA|apply bN|apply bD | refine below_set ?_ GE537.out | refine below_set ?_ GE538.out | refine below_set ?_ GE548.out | refine below_set ?_ GE558.out) | exact HB.out)⟩⟩
 }
 }
 {
 rw [if_neg c16] at H
 have c16b0 : decide (x4_1 < (l0_0.length : Int)) = false := decide_eq_false c16
 clear c16
 simp only [Option.some.injEq, Prod.mk.injEq] at H
 obtain ⟨rfl, rfl⟩ := H
 have hnb67 := NB537_538.out
 have hnc67 := NB538_537.out
 have hnb68 := NB537_548.out
 have hnc68 := NB548_537.out
 have hcz69_0 := cz20 BK537.out
 have hcz69_1 := cz21 BK537.out
 have hfz69_0 := blk_frozen BK537.out 0
 have hfz69_1 := blk_frozen BK537.out 1
 have hnb70 := NB548_538.out
 have hnc70 := NB538_548.out
 have hcz71_0 := cz20 BK548.out
 have hcz71_1 := cz21 BK548.out
 have hfz71_0 := blk_frozen BK548.out 0
 have hfz71_1 := blk_frozen BK548.out 1
 obtain ⟨Ao72, co72, eo72⟩ := Kd.R_slice HO_549000.out
 subst eo72
 have hcz73_0 := cz20 BK538.out
 have hcz73_1 := cz21 BK538.out
 have hfz73_0 := blk_frozen BK538.out 0
 have hfz73_1 := blk_frozen BK538.out 1
 obtain ⟨Ao74, co74, eo74⟩ := Kd.R_slice HO_549001.out
 subst eo74
 go_wp2
 refine bodyPost_ret (results_cell_row rfl _ _ gb538 25 #[.slice Ao72 x549000_1.length co72, .slice Ao74 x549001_1.length co74] (0, 0) _ rfl (by (with_reducible repeat (first|refine kN ?_ _|refine kD ?_|refine kA ?_ _)); refine blk_put (cs := #[.slice Ao72 x549000_1.length co72, .slice none 0 0]) ?_ 1 _ rfl; (with_reducible repeat (first|refine kN ?_ _|refine kD ?_|refine kA ?_ _)); refine blk_put (cs := #[.slice none 0 0, .slice none 0 0]) ?_ 0 _ rfl; (with_reducible repeat (first|refine kN ?_ _|refine kD ?_|refine kA ?_ _)); exact BK538.out) Tryz.underlying25 rfl (by kernel_rfl)) rfl ?_
 exact ⟨_, _, eX, by (with_reducible repeat (first|apply rA|apply rN|apply rD)); exact Kd.R_mono (Kd.R_far (p := ⟨gb538, 1, none⟩) (Kd.R_far (p := ⟨gb538, 0, none⟩) (Kd.R_types HO_549000.out BK538.out (by decide)) (fun _ hk => hk.2) (.slice Ao72 x549000_1.length co72)) (fun _ hk => hk.2) (.slice Ao74 x549001_1.length co74)) (fun _ hk => hk.1), by (with_reducible repeat (first|apply rA|apply rN|apply rD)); exact Kd.R_mono (Kd.R_far (p := ⟨gb538, 1, none⟩) (Kd.R_far (p := ⟨gb538, 0, none⟩) (Kd.R_types HO_549001.out BK538.out (by decide)) (fun _ hk => hk.2) (.slice Ao72 x549000_1.length co72)) (fun _ hk => hk.2) (.slice Ao74 x549001_1.length co74)) (fun _ hk => hk.1), bX3 HB.out GE537.out GE538.out GE548.out⟩
 }

/-! ### spec_SameSurface: function 97 -/
def spec_SameSurface.f (k : Nat) (l0_0 : List Int) (l0_1 : List Int) (l1_0 : List Int) (l1_1 : List Int) : Option (Bool) := (spec_SameList.f k l0_0 l1_0).bind fun t562 => (if t562 = true then ((spec_SameList.f k l0_1 l1_1).bind fun t563 => (some t563)) else (some false))
set_option maxHeartbeats 8000000 in
set_option maxRecDepth 100000 in
theorem spec_SameSurface.calls (k : Nat) (A0_0 : Option Addr) (c0_0 : Nat) (l0_0 : List Int) (A0_1 : Option Addr) (c0_1 : Nat) (l0_1 : List Int) (A1_0 : Option Addr) (c1_0 : Nat) (l1_0 : List Int) (A1_1 : Option Addr) (c1_1 : Nat) (l1_1 : List Int) (r : Bool) (w : World) (hr0_0 : Kd.C (Kd.int .i64) w A0_0 l0_0.length l0_0) (hc0_0 : l0_0.length ≤ c0_0) (hr0_1 : Kd.C (Kd.int .i64) w A0_1 l0_1.length l0_1) (hc0_1 : l0_1.length ≤ c0_1) (hr1_0 : Kd.C (Kd.int .i64) w A1_0 l1_0.length l1_0) (hc1_0 : l1_0.length ≤ c1_0) (hr1_1 : Kd.C (Kd.int .i64) w A1_1 l1_1.length l1_1) (hc1_1 : l1_1.length ≤ c1_1) (h : spec_SameSurface.f k l0_0 l0_1 l1_0 l1_1 = some r) :
  Calls Tryz.prog 97 #[.agg #[.slice A0_0 l0_0.length c0_0, .slice A0_1 l0_1.length c0_1], .agg #[.slice A1_0 l1_0.length c1_0, .slice A1_1 l1_1.length c1_1]] w fun e w' => e = .returned (.bool r) ∧ Below w.heap.size w w' := by
 have hu25 := Tryz.underlying25
 have HR0_0 := Aside0.mk hr0_0
 have HC0_0 := Aside0.mk hc0_0
 clear hr0_0 hc0_0
 have HR0_1 := Aside0.mk hr0_1
 have HC0_1 := Aside0.mk hc0_1
 clear hr0_1 hc0_1
 have HR1_0 := Aside0.mk hr1_0
 have HC1_0 := Aside0.mk hc1_0
 clear hr1_0 hc1_0
 have HR1_1 := Aside0.mk hr1_1
 have HC1_1 := Aside0.mk hc1_1
 clear hr1_1 hc1_1
 have HB := Aside0.mk (Below.refl w.heap.size w)
 have H : ((spec_SameList.f k l0_0 l1_0).bind fun t562 => (if t562 = true then ((spec_SameList.f k l0_1 l1_1).bind fun t563 => (some t563)) else (some false))) = some r := h
 clear h
 replace H := Option.bind_eq_some_iff.mp H
 obtain ⟨t562, A30, H⟩ := H
 replace H : (if t562 = true then ((spec_SameList.f k l0_1 l1_1).bind fun t563 => (some t563)) else (some false)) = some r := H
 have A3 := Aside0.mk A30
 clear A30
 by_cases c4 : t562 = true
 {
 subst c4
 have H1 : ((spec_SameList.f k l0_1 l1_1).bind fun t563 => (some t563)) = some r := by rw [if_pos rfl] at H; exact H
 clear H
 have H := H1
 clear H1
 replace H := Option.bind_eq_some_iff.mp H
 obtain ⟨t563, A50, H⟩ := H
 replace H : (some t563) = some r := H
 have A5 := Aside0.mk A50
 clear A50
 obtain rfl := Option.some.inj H
 go_enter Tryz.func97, Tryz.ntmps97
 go_wp2_with (first | ((with_reducible refine gate_dst (N := 2) rfl ?_); refine box_event ?hg (N := 2) ?hd (cs := #[.slice A0_0 l0_0.length c0_0, .slice A0_1 l0_1.length c0_1]) (t := 25) ?hr ?_; (case hd => rfl); (case hg => rfl); (case hr => first | (go_simp; done) | (go_simp; rfl)); intro gb560 hg w6 hbox hb; have n0_ := Aside0.mk (below_step (bX HB.out) hb); have n1_ := Aside0.mk (hbox); have n2_ := Aside0.mk ((szX (below_size (bX HB.out)) hg : w.heap.size ≤ gb560)); have n3_ := Aside0.mk ((szX (below_size (bX HB.out)) hg : w.heap.size ≤ gb560)); clear HB; have HB := n0_; have BK560 := n1_; have GW560 := n2_; have GE560 := n3_; clear n0_ n1_ n2_ n3_ hb hbox hg) | ((with_reducible refine gate_dst (N := 3) rfl ?_); refine box_event ?hg (N := 3) ?hd (cs := #[.slice A1_0 l1_0.length c1_0, .slice A1_1 l1_1.length c1_1]) (t := 25) ?hr ?_; (case hd => rfl); (case hg => rfl); (case hr => first | (go_simp; done) | (go_simp; rfl)); intro gb561 hg w7 hbox hb; have n0_ := Aside0.mk (bbX BK560.out hb); have n1_ := Aside0.mk (below_step (bX1 HB.out GE560.out) hb); have n2_ := Aside0.mk (hbox); have n3_ := Aside0.mk ((szX (below_size (bX1 HB.out GE560.out)) hg : w.heap.size ≤ gb561)); have n4_ := Aside0.mk ((szX (below_size (bX1 HB.out GE560.out)) hg : w.heap.size ≤ gb561)); have n5_ := Aside0.mk (neX BK560.out hg); have n6_ := Aside0.mk (nfX BK560.out hg); clear BK560 HB; have BK560 := n0_; have HB := n1_; have BK561 := n2_; have GW561 := n3_; have GE561 := n4_; have NB560_561 := n5_; have NB561_560 := n6_; clear n0_ n1_ n2_ n3_ n4_ n5_ n6_ hb hbox hg; have hnb8 := NB560_561.out; have hnc8 := NB561_560.out; have hcz9_0 := cz20 BK560.out; have hcz9_1 := cz21 BK560.out; have hfz9_0 := blk_frozen BK560.out 0; have hfz9_1 := blk_frozen BK560.out 1; have hcz10_0 : w7.cell? ⟨gb561, 0, none⟩ = some (.slice A1_0 l1_0.length c1_0) := (blk_cell BK561.out 0).trans rfl; have hcz10_1 : w7.cell? ⟨gb561, 1, none⟩ = some (.slice A1_1 l1_1.length c1_1) := (blk_cell BK561.out 1).trans rfl; have hfz10_0 := blk_frozen BK561.out 0; have hfz10_1 := blk_frozen BK561.out 1) | ((with_reducible refine gate_callee (f := 130) rfl ?_); refine goesL_ (some 9) rfl rfl Tryz.func130 (by kernel_rfl) rfl #[.slice A0_0 l0_0.length c0_0, .slice A1_0 l1_0.length c1_0] rfl aX ?_; (with_reducible refine (spec_SameList.calls k _ _ l0_0 _ _ l1_0 true _ ?side1 ?side2 ?side3 ?side4 A3.out).mono ?_); (case side1 => exact cX (Kd.C_below HR0_0.out HB.out)); (case side2 => exact HC0_0.out); (case side3 => exact cX (Kd.C_below HR1_0.out HB.out)); (case side4 => exact HC1_0.out); rintro e w' ⟨rfl, ⟨nd, rfl⟩⟩; refine ⟨_, rfl, ?_⟩) | (go_at_call 130; (with_reducible refine (spec_SameList.calls k _ _ l0_1 _ _ l1_1 t563 _ ?side1 ?side2 ?side3 ?side4 A5.out).mono ?_); (case side1 => exact cX (Kd.C_below HR0_1.out (bX2 HB.out GE560.out GE561.out))); (case side2 => exact HC0_1.out); (case side3 => exact cX (Kd.C_below HR1_1.out (bX2 HB.out GE560.out GE561.out))); (case side4 => exact HC1_1.out); rintro e w' ⟨rfl, ⟨nd, rfl⟩⟩))
 go_ret
 exact ⟨eX, bX2 HB.out GE560.out GE561.out⟩
 }
 {
 replace c4 := Bool.eq_false_iff.mpr c4
 subst c4
 have H1 : (some false) = some r := by rw [if_neg (show ¬ (false = true) by decide)] at H; exact H
 clear H
 have H := H1
 clear H1
 obtain rfl := Option.some.inj H
 go_enter Tryz.func97, Tryz.ntmps97
 go_wp2_with (first | ((with_reducible refine gate_dst (N := 2) rfl ?_); refine box_event ?hg (N := 2) ?hd (cs := #[.slice A0_0 l0_0.length c0_0, .slice A0_1 l0_1.length c0_1]) (t := 25) ?hr ?_; (case hd => rfl); (case hg => rfl); (case hr => first | (go_simp; done) | (go_simp; rfl)); intro gb560 hg w11 hbox hb; have n0_ := Aside0.mk (below_step (bX HB.out) hb); have n1_ := Aside0.mk (hbox); have n2_ := Aside0.mk ((szX (below_size (bX HB.out)) hg : w.heap.size ≤ gb560)); have n3_ := Aside0.mk ((szX (below_size (bX HB.out)) hg : w.heap.size ≤ gb560)); clear HB; have HB := n0_; have BK560 := n1_; have GW560 := n2_; have GE560 := n3_; clear n0_ n1_ n2_ n3_ hb hbox hg) | ((with_reducible refine gate_dst (N := 3) rfl ?_); refine box_event ?hg (N := 3) ?hd (cs := #[.slice A1_0 l1_0.length c1_0, .slice A1_1 l1_1.length c1_1]) (t := 25) ?hr ?_; (case hd => rfl); (case hg => rfl); (case hr => first | (go_simp; done) | (go_simp; rfl)); intro gb561 hg w12 hbox hb; have n0_ := Aside0.mk (bbX BK560.out hb); have n1_ := Aside0.mk (below_step (bX1 HB.out GE560.out) hb); have n2_ := Aside0.mk (hbox); have n3_ := Aside0.mk ((szX (below_size (bX1 HB.out GE560.out)) hg : w.heap.size ≤ gb561)); have n4_ := Aside0.mk ((szX (below_size (bX1 HB.out GE560.out)) hg : w.heap.size ≤ gb561)); have n5_ := Aside0.mk (neX BK560.out hg); have n6_ := Aside0.mk (nfX BK560.out hg); clear BK560 HB; have BK560 := n0_; have HB := n1_; have BK561 := n2_; have GW561 := n3_; have GE561 := n4_; have NB560_561 := n5_; have NB561_560 := n6_; clear n0_ n1_ n2_ n3_ n4_ n5_ n6_ hb hbox hg; have hnb13 := NB560_561.out; have hnc13 := NB561_560.out; have hcz14_0 := cz20 BK560.out; have hcz14_1 := cz21 BK560.out; have hfz14_0 := blk_frozen BK560.out 0; have hfz14_1 := blk_frozen BK560.out 1; have hcz15_0 : w12.cell? ⟨gb561, 0, none⟩ = some (.slice A1_0 l1_0.length c1_0) := (blk_cell BK561.out 0).trans rfl; have hcz15_1 : w12.cell? ⟨gb561, 1, none⟩ = some (.slice A1_1 l1_1.length c1_1) := (blk_cell BK561.out 1).trans rfl; have hfz15_0 := blk_frozen BK561.out 0; have hfz15_1 := blk_frozen BK561.out 1) | ((with_reducible refine gate_callee (f := 130) rfl ?_); refine goesL_ (some 9) rfl rfl Tryz.func130 (by kernel_rfl) rfl #[.slice A0_0 l0_0.length c0_0, .slice A1_0 l1_0.length c1_0] rfl aX ?_; (with_reducible refine (spec_SameList.calls k _ _ l0_0 _ _ l1_0 false _ ?side1 ?side2 ?side3 ?side4 A3.out).mono ?_); (case side1 => exact cX (Kd.C_below HR0_0.out HB.out)); (case side2 => exact HC0_0.out); (case side3 => exact cX (Kd.C_below HR1_0.out HB.out)); (case side4 => exact HC1_0.out); rintro e w' ⟨rfl, ⟨nd, rfl⟩⟩; refine ⟨_, rfl, ?_⟩))
 go_ret
 exact ⟨eX, bX2 HB.out GE560.out GE561.out⟩
 }

end Go.Proofs.YthhdgeafdnikcaaGreatDoor.S
